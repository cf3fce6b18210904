/- Part 10 of the proof: 27 texts, one behind the other. -/
import Derived.MapKept
import Derived.WideMake
import Derived.Test.YtkoldibamfjghaaGreatDoorM9
open _root_.Go.Proofs.Tryz
set_option maxRecDepth 100000
set_option maxHeartbeats 8000000
set_option linter.all false
set_option linter.unusedVariables false
set_option linter.unusedSimpArgs false
namespace Go.Proofs.YtkoldibamfjghaaGreatDoor
theorem AG{p:Prop}(h:p:=by refine ret (⟨_,_⟩:Wa) trivial rfl):p:=h
theorem AL{p:Prop}(h:p:=by have hu:u.size<=20:=(by decide:∀y∈([⟨#[115,101,110,100]⟩,⟨#[116,105,99,107]⟩,⟨#[100,114,97,105,110]⟩,⟨#[108,101,97,100]⟩,⟨#[113,117,101,117,101,100]⟩,⟨#[115,101,116,116,108,101,100]⟩,⟨#[]⟩,⟨#[119,104,97,116]⟩,⟨#[100,111,119,110]⟩,⟨#[100,111,119,110,32,120]⟩,⟨#[115,101,110,100,32,97,32,98]⟩,⟨#[102,97,99,101,115,32,49]⟩,⟨#[102,97,99,101,115,32,49,32,50,32,51]⟩,⟨#[97,64,98]⟩,⟨#[115,101,110,100,32]⟩]:ai),y.size<=20) u hq;refine go ?_;refine ret (⟨u,s4⟩:au × Nl) ⟨by show u.size<=100;omega,h4.mono (by omega)⟩ rfl):p:=h
theorem AQ{p:Prop}(h:p:=by refine go ?_;apply wO;apply oc;rfl;exact Hi rfl rfl (by show 5+_<=9223372036854775807;omega);refine go ?_;refine ret (⟨_,s3⟩:au × Nl) ⟨?_,h3.mono (by omega)⟩ rfl;show (⟨#[100,111,119,110,32]⟩++t:au).size<=100;rw [aE];show 5+_<=100;omega):p:=h
theorem AS{p:Prop}(h:p:=by refine go ?_;rw [show ((zi:Nat):Int) - 1=((zi - 1:Nat):Int) by omega];refine Ca ⟨(Bi x t.t).1,_,_,zi - 1,t.s⟩ ⟨Vx eb,by show zi - 1<=23;omega,t3.mono (by show _<=B+400+200 * (23 - (zi - 1));omega)⟩ (by show zi - 1 < zi;omega)):p:=h
theorem AU{p:Prop}(h:p:=by have hu:u.size<=20:=(by decide:∀y∈([⟨#[97]⟩,⟨#[97,98,99]⟩,⟨#[120]⟩,⟨#[104,101,108,108,111]⟩,⟨#[90]⟩,⟨#[97,98,99,100,101,102,103,104,105]⟩]:ai),y.size<=20) u hq;refine go ?_;apply wO;apply oc;rfl;exact Hi rfl rfl (by show 5+_<=9223372036854775807;omega);refine go ?_;refine ret (⟨_,s4⟩:au × Nl) ⟨?_,h4.mono (by omega)⟩ rfl;show (⟨#[115,101,110,100,32]⟩++u:au).size<=100;rw [aE];show 5+_<=100;omega):p:=h
theorem AW{p:Prop}(h:p:=by refine go ?_;rw [show ((zi:Nat):Int) - 1=((zi - 1:Nat):Int) by omega];refine Ca ⟨x,_,_,zi - 1,t.s⟩ ⟨z1,by show zi - 1<=23;omega,t3.mono (by show _<=B+400+200 * (23 - (zi - 1));omega)⟩ (by show zi - 1 < zi;omega)):p:=h
theorem BB{p:Prop}(h:p:=by refine C0 R.1 s3 s4 (a1:=f1) (c1:=t1) (a2:=f2) (c2:=t2) (a3:=f3) (c3:=t3) (a4:=f4) (c4:=t4) (a5:=f5) (c5:=t5) (a6:=f6) (c6:=t6) (a7:=f7) (c7:=t7) ?_;exact AG):p:=h
theorem BK{p:Prop}(h:p:=by refine go ?_;refine C0 x s1 s2 (a1:=f1) (c1:=t1) (a2:=f2) (c2:=t2) (a3:=f3) (c3:=t3) (a4:=f4) (c4:=t4) (a5:=f5) (c5:=t5) (a6:=f6) (c6:=t6) (a7:=f7) (c7:=t7) ?_;exact AG):p:=h
theorem BV{p:Prop}(h:p:=by refine Io ?_;intros;refine Ar [1] [3,4] ?_;refine Dh 0 1 ?_;refine dN 2 ?_;refine oC ?_;refine Bf (Aco E ⟨#[44,32]⟩ _ _ F8 (by decide) hE.1 hE.2) fun _ _=>?_;refine dk ?_;refine dN 3 ?_;refine oS ?_;refine Nm ?_;refine Q0 4 ?_;refine dd ?_;refine go ?_;exact AG):p:=h
theorem CG{p:Prop}(h:p:=by refine go ?_;refine Bf (Ve (Uy (Bm n s)) _ _ F5 hf1 hf2) fun _ _=>?_;refine go ?_;refine ret (⟨⟨y.1.a1,y.1.c1,y.1.a2,y.1.c2,y.1.a3,y.1.c3,y.1.a4,y.1.c4,y.1.a5,y.1.c5,y.1.a6,y.1.c6,y.1.a7,y.1.c7⟩,_,_,_⟩:RuS) ?_ rfl;rfl):p:=h
theorem CL{p:Prop}(h:p:=by refine dk ?_;refine dN 13 ?_;refine Ni (E:=A8) (xs:=[]) Do Hv fun a9 c9 F9=>?_;rw [aZ];refine dk ?_;refine dt 14 ?_;refine dN 16 ?_;refine oS ?_;refine dk ?_;refine dd ?_;refine Bk (⟨_,a9,c9,F9⟩:L28) trivial):p:=h
theorem DK{p:Prop}(h:p:=by refine go ?_;exact AG):p:=h
theorem ED{p:Prop}(h:p:=by refine dd ?_;refine go ?_;refine ret () trivial ?_;unfold Gb;rw [g];rw [aJ rfl,Ahh hk3 hlf (by unfold Acd;rw [Gp h5,hst];rfl)];rfl):p:=h
theorem GR{p:Prop}(h:p:=by show x.1.Al.Ac.length - (j+1) < x.1.Al.Ac.length - j;omega):p:=h
theorem IC{p:Prop}(h:p:=by show _ < 1000000;omega):p:=h
theorem IH{p:Prop}(h:p:=by simp [MapKept.IsKey]):p:=h
theorem JA{p:Prop}(h:p:=by unfold D7 at hg;rw [aw] at hg;exact hg.1):p:=h
theorem JM{p:Prop}(h:p:=by show 6+_<=9223372036854775807;omega):p:=h
theorem JT{p:Prop}(h:p:=by unfold Xm at h0;omega):p:=h
theorem KQ{p:Prop}(h:p:=by simp only [aY];omega):p:=h
theorem KT{p:Prop}(h:p:=by show j+1<=_;omega):p:=h
end Go.Proofs.YtkoldibamfjghaaGreatDoor
namespace Go.Proofs.YtkoldibamfjghaaGreatDoor
open Go.RowKit
structure NtD where
 n:Du
 cs:am
 F:aq
 s:Nl
structure NtW where
 n:Du
 cs:am
 F:aq
 i:Nat
 s:Nl
structure Bhc (B:Nat) (z:NtW):Prop where
 g:At z.n=true
 i:z.i<=23
 s:Hw (B+400+200 * (23 - z.i)) z.s
theorem Azf {n:Du} {p:As} (h:∀q∈n.down++n.up,q.length<=6):∀q∈n.down++n.up.set 1 [p],q.length<=6:=fun q hq=>by
 rcases aK.1 hq with hq|hq
 ·exact h q (cK _ hq)
 ·rcases bE hq with hq|rfl
  ·exact h q (fS _ hq)
  ·exact (by decide:1<=6)
theorem Bel (B g:Nat) (F:CuF) (s:Nl) (FT:aq) (ok:Hw B s) (hB:B<=600000000000) :
  Fn prog 45 [Ga g 0 0] [.sl Jo (ab F.a F.By.length F.c) F.By F.bs,E4 FT] [.row g 60 0 [] [ab F.a F.By.length F.c,aa (s.k:Nat),.int .u64 s.Hm] []] (fun (z:NtD)=>(2<=z.n.Al.Ac.length/\z.n.Al.Ac.length<=8/\z.n.down.length<=8/\z.n.up.length=z.n.down.length/\(∀q∈z.n.down++z.n.up,q.length<=6)/\P5 z.n/\z.n.Ab.Aa.Ak.length<=1000)/\Hw (B+9000) z.s) (fun z=>.agg z.cs.toArray)
   (fun z=>[.isv Pb (.agg z.cs.toArray) z.n z.F,.row g 60 0 [] [ab F.a F.By.length F.c,aa (z.s.k:Nat),.int .u64 z.s.Hm] []]):=by
 refine enter func45 rfl ntmps45 fun w0=>?_;refine go ?_;intros;refine Bf (Aq4 B g F s ok EZ) fun t ht=>?_;obtain ⟨ht1,ht2⟩:=ht;refine go ?_;refine Bf (Ti _ g F t.s ht2 EZ) fun m hm=>?_;obtain ⟨hm1,hm2⟩:=hm;refine go ?_;refine Bf (Eb _ g F 6 m.2 hm2 EZ EZ) fun y hy=>?_;obtain ⟨k1,s1⟩:=y;obtain ⟨r1,h1⟩:=hy;dsimp only at r1 h1 ⊢;have r1:k1<=5:=EZ
 refine Io ?_;intros;refine Av (E:=Bc) (xs:=t.l) fun Ft=>?_;refine Ir ⟨t.l⟩ ?_;refine go ?_;refine Bf (Abj ⟨t.l⟩ m.1 (1+(k1:Nat)) _ _) fun z _=>?_;obtain ⟨en,gn⟩:=Agn (t:=⟨t.l⟩) (f:=m.1) (y:=1+(k1:Nat)) ht1 hm1.1 hm1.2 EZ EZ;rw [en];obtain ⟨cs,F0⟩:=z;dsimp only;generalize hN:Wp ⟨t.l⟩ m.1 (1+(k1:Nat))=N at *;refine Tx Xy fun F0=>?_;refine Fm (x:=N) ?_;rintro b01 d01 G01 b02 d02 G02 b03 d03 G03 b04 d04 G04 b05 d05 G05 b06 d06 G06 b07 d07 G07 ev - - - - - - -;obtain rfl:=Pw ev;clear ev;refine go ?_;intros;rename_i g3;refine Bf (Eb _ g F 24 s1 h1 EZ EZ) fun y hy=>?_
 obtain ⟨r0,s2⟩:=y;obtain ⟨hr0,h2⟩:=hy;dsimp only at hr0 h2 ⊢;have hr0:r0<=23:=EZ
 refine go ?_;refine Bx [0,2,3] (fun z:NtW=>[(5,aa (z.i:Nat))]) (fun z=>[.row g3 37 0 [] z.cs [],.isv Pb (.agg z.cs.toArray) z.n z.F,.row g 60 0 [] [ab F.a F.By.length F.c,aa (z.s.k:Nat),.int .u64 z.s.Hm] []]) (Bhc B) (fun z=>z.i) ⟨N,_,_,r0,s2⟩ ⟨gn,hr0,h2.mono (by show _<=B+400+200 * (23 - r0);omega)⟩ fun z hz=>?_;obtain ⟨x,cs,Fx,zi,zs⟩:=z;obtain ⟨z1,z2,z4⟩:=hz;obtain ⟨q2,q8,qd,qu,qe,qt⟩:=M4 z1;have qq:=Ai0 z1;have hsm:P5 x:=M6 z1;have hit:x.Ab.Aa.Ak.length<=1000:=by have h:x.Ab.Aa.Ak.length<=6:=(J3 (Ax.1 z1).s).l;omega
 dsimp only at z1 z2 z4 q2 q8 qd qu qe qt qq ⊢;refine Fm (x:=x) ?_;rintro b1 d1 G1 b2 d2 G2 b3 d3 G3 b4 d4 G4 b5 d5 G5 b6 d6 G6 b7 d7 G7 ev - - - - - - -;obtain rfl:=Pw ev;clear ev;refine go ?_;refine A4 rfl (fun h3=>?_) (fun h3=>?_)
 ·have hi0:0 < zi:=EZ
  refine Io ?_;intros;refine Ar [7] [5,6,7,8,10,11,12] ?_;refine dtl 0 ?_;refine dtl 1 ?_;refine dtl 2 ?_;refine dM 3 9 ?_ ?_
  ·refine oC ?_;refine Bf (Aln _ g F _ x _ _ EZ EZ EZ EZ qq z4 EZ) fun t ht=>?_;obtain ⟨t1,t2,t3⟩:=ht;refine dk ?_;refine dM 4 9 ?_ ?_
   ·refine oC ?_;refine Bf (Us x t.t _ _ FT t2 z1 t1) fun y _=>?_;obtain ⟨ys,yF,ya,yc,yG⟩:=y;dsimp only;refine Fm (x:=(Bi x t.t).1) ?_;rintro e1 f1 K1 e2 f2 K2 e3 f3 K3 e4 f4 K4 e5 f5 K5 e6 f6 K6 e7 f7 K7 ev - - - - - - -;obtain rfl:=Pw ev;clear ev;refine dk ?_;refine Q0 5 ?_;refine Q0 6 ?_;refine Q0 7 ?_;refine Q0 8 ?_;refine dN 9 ?_;apply Cm;rfl;intro _;refine dk ?_;refine dN 10 ?_;refine oS ?_;refine Nm ?_;refine Q0 11 ?_;refine Q0 12 ?_;refine dd ?_;rename_i g6;cases eb:(Bi x t.t).2.2
    ·exact AW
    ·exact AS
   ·apply Cm;rfl;intro _;refine dk ?_;refine dN 4 ?_;refine oC ?_;refine Bf (Us x t.t _ _ FT t2 z1 t1) fun y _=>?_;obtain ⟨ys,yF,ya,yc,yG⟩:=y;dsimp only;refine Fm (x:=(Bi x t.t).1) ?_;rintro e1 f1 K1 e2 f2 K2 e3 f3 K3 e4 f4 K4 e5 f5 K5 e6 f6 K6 e7 f7 K7 ev - - - - - - -;obtain rfl:=Pw ev;clear ev;refine dk ?_;refine Q0 5 ?_;refine Q0 6 ?_;refine Q0 7 ?_;refine Q0 8 ?_;refine dN 10 ?_;refine oS ?_;refine Nm ?_;refine Q0 11 ?_;refine Q0 12 ?_;refine dd ?_;rename_i g6;cases eb:(Bi x t.t).2.2
    ·exact AW
    ·exact AS
  ·apply Cm;rfl;intro _;refine dk ?_;refine dN 3 ?_;refine oC ?_;refine Bf (Aln _ g F _ x _ _ EZ EZ EZ EZ qq z4 EZ) fun t ht=>?_;obtain ⟨t1,t2,t3⟩:=ht;refine dk ?_;refine dN 4 ?_;refine oC ?_;refine Bf (Us x t.t _ _ FT t2 z1 t1) fun y _=>?_;obtain ⟨ys,yF,ya,yc,yG⟩:=y;dsimp only;refine Fm (x:=(Bi x t.t).1) ?_;rintro e1 f1 K1 e2 f2 K2 e3 f3 K3 e4 f4 K4 e5 f5 K5 e6 f6 K6 e7 f7 K7 ev - - - - - - -;obtain rfl:=Pw ev;clear ev;refine dk ?_;refine Q0 5 ?_;refine Q0 6 ?_;refine Q0 7 ?_;refine Q0 8 ?_;refine dN 10 ?_;refine oS ?_;refine Nm ?_;refine Q0 11 ?_
   refine Q0 12 ?_;refine dd ?_;rename_i g6;cases eb:(Bi x t.t).2.2
   ·exact AW
   ·exact AS
 refine go ?_;refine Bf (Eb _ g F 32 zs z4 EZ EZ) fun y hy=>?_;obtain ⟨r6,s6⟩:=y;obtain ⟨hr6,h6⟩:=hy;dsimp only at hr6 h6 ⊢;have hr6:r6<=31:=EZ
 refine go ?_;refine A4 rfl (fun e0=>?_) (fun e0=>?_)
 ·refine go ?_;refine Bf (Azh _ g F s6 h6 EZ) fun y hy=>?_;obtain ⟨hy1,hy2,hy3⟩:=hy;refine H9 (x:=y.y) ?_;rintro a2 c2 L2 a3 c3 L3 ev - -;simp only [Value.agg.injEq,Array.mk.injEq,List.cons.injEq,Value.slice.injEq,cQ,cR] at ev;obtain ⟨⟨rfl,rfl⟩,rfl,rfl⟩:=ev;refine go ?_;refine Es ⟨x.Al,y.y,x.Af,x.Ad,x.down,x.up⟩ (a1:=b1) (a2:=y.a) (a3:=y.a2) (a4:=b4) (a5:=b5) (a6:=b6) (a7:=b7) ?_
  refine ret ⟨⟨x.Al,y.y,x.Af,x.Ad,x.down,x.up⟩,_,_,y.s⟩ ⟨⟨q2,q8,qd,qu,qq,{ hsm with i:=by show y.y.Aa.Ak.length<=_;omega,h:=by show y.y.holds.length<=_;omega },by show y.y.Aa.Ak.length<=1000;omega⟩,hy3.mono EZ⟩ rfl
 refine go ?_;refine A4 rfl (fun e1=>?_) (fun e1=>?_)
 ·refine go ?_;refine Bf (Aq4 _ g F s6 h6 EZ) fun y hy=>?_;obtain ⟨hy1,hy2⟩:=hy;refine Av (E:=Bc) (xs:=y.l) fun Ft=>?_;refine go ?_;refine Es ⟨⟨y.l⟩,x.Ab,x.Af,x.Ad,x.down,x.up⟩ (a1:=y.a) (a2:=b2) (a3:=b3) (a4:=b4) (a5:=b5) (a6:=b6) (a7:=b7) ?_;refine ret ⟨⟨⟨y.l⟩,x.Ab,x.Af,x.Ad,x.down,x.up⟩,_,_,y.s⟩ ⟨⟨hy1.n0,hy1.n1,qd,qu,qq,{ hsm with t:=by have:=hy1.n1;show y.l.length<=_;omega },hit⟩,hy2.mono EZ⟩ rfl
 refine go ?_;refine A4 rfl (fun e2=>?_) (fun e2=>?_)
 ·refine Ae3 (Bb8 An FA) (xs:=x.up) (m:=1) rfl fun ys Fy Gy hyl hym=>?_;refine Io ?_;intros;refine Cy (EC 1) ?_;refine go ?_;apply wO;refine Ni (ys:=ys) (Pp 1) (H5 1) (fun a7 c7 F7=>?_) (hn:=hyl.symm) (h63:=KQ) (hby:=KQ);rw [aZ];refine go ?_;have h1u:1 < ys.length:=EZ
  obtain ⟨v9,e9⟩:∃v,ys[1]=[v]:=List.length_eq_one_iff.1 (hym _ (aB h1u));refine Rf (E:=EC 1) (xs:=ys) (m:=1) (H5 1) 1 ?_ FE rfl h1u;rintro _ gq A cq Bq rfl k2 k3 hH;obtain ⟨k4, -, -⟩:=k3 w0;rw [e9] at k4;subst k4;dsimp only [List.append];refine Io ?_;intros;refine Ar [11] [6] ?_;refine Dh 0 1 ?_;refine dt 2 ?_;refine dN 3 ?_;refine oC ?_;refine Bf (Ame _ g F s6 h6 EZ) fun p hp=>?_;obtain ⟨hp1,hp2⟩:=hp;refine dk ?_;refine dN 4 ?_;apply Iq;rfl;rfl;rfl;rfl;exact Ik;exact Ih;intro _;rename_i gp
  refine Eh (E:=An) (xs:=[p.1]) (Dd p.1 hp1) ?_ FB;refine Av (E:=An) (xs:=[p.1]) fun Fp=>?_;refine dk ?_;refine dt 5 ?_;refine dN 6 ?_;refine oS ?_;refine Nm ?_;refine dd ?_;refine Pz (E:=EC 1) (xs:=ys) [ab (some ⟨gp,0,none⟩) 1 1] hH (fun w=>⟨rfl,⟨rfl,FO⟩,rfl⟩) ?_;refine Z9 (E:=An) (x:=[p.1]) FA ?_;refine Qm (E:=Oa An FA) (ys:=ys) (xs:=x.up) (x:=[p.1]) 1 rfl hym EZ fun G'=>?_;refine Av (E:=EC 1) (xs:=ys.set 1 [ab (some ⟨gp,0,none⟩) 1 1]) fun F8=>?_
  refine Ps (E:=Oa An FA) (m:=1) (ys:=ys.set 1 [ab (some ⟨gp,0,none⟩) 1 1]) (xs:=x.up.set 1 [p.1]) rfl HP rfl fun F9=>?_;rw [show ys.length=(x.up.set 1 [p.1]).length by simp [hyl]];refine go ?_;refine Es ⟨x.Al,x.Ab,x.Af,x.Ad,x.down,x.up.set 1 [p.1]⟩ (a1:=b1) (a2:=b2) (a3:=b3) (a4:=b4) (a5:=b5) (a6:=b6) ?_
  refine ret ⟨⟨x.Al,x.Ab,x.Af,x.Ad,x.down,x.up.set 1 [p.1]⟩,_,_,p.2⟩ ⟨⟨q2,q8,qd,by show (x.up.set 1 [p.1]).length=x.down.length;rw [bU];exact qu,Azf qq,{ hsm with uq:=fun q hq=>(bE hq).elim (fun hq=>hsm.uq q hq) (fun e=>by rw [e];exact (by decide:1<=1048576)),u:=by show (x.up.set 1 [p.1]).length<=_;rw [bU];exact hsm.u },hit⟩,hp2.mono EZ⟩ rfl
 refine go ?_;refine A4 rfl (fun e3=>?_) (fun e3=>?_)
 ·refine Ae3 Ak9 (xs:=x.Af) (m:=2) rfl fun ys Fy Gy hyl hym=>?_;refine Io ?_;intros;refine Cy (EC 2) ?_;refine go ?_;apply wO;refine Ni (ys:=ys) (Pp 2) (H5 2) (fun a7 c7 F7=>?_) (hn:=hyl.symm) (h63:=KQ) (hby:=KQ);rw [aZ];refine go ?_;have h1u:1 < ys.length:=EZ
  obtain ⟨v9,u9,e9⟩:∃v u,ys[1]=[v,u]:=by
   have h2:=hym _ (aB h1u)
   match hY:ys[1],h2 with
   | [v,u],_=>exact ⟨v,u,rfl⟩
  refine Rf (E:=EC 2) (xs:=ys) (m:=2) (H5 2) 1 ?_ FE rfl h1u;rintro _ gq A cq Bq rfl k2 k3 hH;obtain ⟨k4, -, -⟩:=k3 w0;rw [e9] at k4;subst k4;dsimp only [List.append];refine Io ?_;intros;refine Ar [11] [5] ?_;refine Dh 0 1 ?_;refine dt 2 ?_;refine dN 3 ?_;refine oC ?_;refine Bf (Apl _ g F s6 h6 EZ) fun p hp=>?_;obtain ⟨hp1,hp3,hp2⟩:=hp;refine dk ?_;refine dt 4 ?_;refine dN 5 ?_;refine oS ?_;refine Nm ?_;refine dd ?_
  refine Pz (E:=EC 2) (xs:=ys) [aa p.y.Ai,ab p.a p.y.Ah.length p.c] hH (fun w=>⟨rfl,⟨rfl,FO⟩,rfl⟩) ?_;refine Qm (E:=Bv) (ys:=ys) (xs:=x.Af) (x:=p.y) 1 rfl hym EZ fun G'=>?_;refine Av (E:=EC 2) (xs:=ys.set 1 [aa p.y.Ai,ab p.a p.y.Ah.length p.c]) fun F8=>?_;refine Ps (E:=Bv) (m:=2) (ys:=ys.set 1 [aa p.y.Ai,ab p.a p.y.Ah.length p.c]) (xs:=x.Af.set 1 p.y) rfl HP rfl fun F9=>?_;rw [show ys.length=(x.Af.set 1 p.y).length by simp [hyl]];refine go ?_
  refine Es ⟨x.Al,x.Ab,x.Af.set 1 p.y,x.Ad,x.down,x.up⟩ (a1:=b1) (a2:=b2) (a3:=b3) (a5:=b5) (a6:=b6) (a7:=b7) ?_;refine ret ⟨⟨x.Al,x.Ab,x.Af.set 1 p.y,x.Ad,x.down,x.up⟩,_,_,p.s⟩ ⟨⟨q2,q8,qd,qu,qq,{ hsm with e:=by show (x.Af.set 1 p.y).length<=_;rw [bU];exact hsm.e,e1:=fun e he=>(bE he).elim (fun he=>hsm.e1 e he) (fun h=>by rw [h];omega),e2:=fun e he f hf=>(bE he).elim (fun he=>hsm.e2 e he f hf) (fun h=>by rw [h] at hf;have:=hp3 f hf;omega) },hit⟩,hp2.mono EZ⟩ rfl
 refine go ?_;refine Es x (a1:=b1) (a2:=b2) (a3:=b3) (a4:=b4) (a5:=b5) (a6:=b6) (a7:=b7) ?_;refine ret ⟨x,_,_,s6⟩ ⟨⟨q2,q8,qd,qu,qq,hsm,hit⟩,h6.mono EZ⟩ rfl
theorem Anl (t:Pv) (v:Value) (F:aq) (hl:t.Ac.length<=1000000):Fn prog 30 [v] [.isv Sq v t F] [] (fun (_:KiS)=>True) (fun z=>.slice z.a (Tm t.Ac).length z.c) (fun z=>[.ow Bc 3 (.slice z.a (Tm t.Ac).length z.c) (Tm t.Ac) z.F]):=by
 refine enter func30 rfl ntmps30 fun w0=>?_;refine Nv ?_;rintro a1 c1 F1 rfl l1;refine Cf Bc 3 ?_;refine go ?_;intros;refine Bx [1,2,7] (fun z:KiS=>[(3,.slice z.a (Po t.Ac z.k).length z.c),(8,aa (z.k:Nat))]) (fun z=>[.ow Bc 3 (.slice z.a (Po t.Ac z.k).length z.c) (Po t.Ac z.k) z.F]) (fun z=>z.k<=t.Ac.length) (fun z=>t.Ac.length - z.k) ⟨0,_,_,_⟩ (aG _) fun z hz=>?_;have hkl:=Yf t.Ac z.k;refine go ?_;refine A4 rfl (fun h1=>?_) (fun h1=>?_)
 ·have hh:z.k < t.Ac.length:=EZ
  refine go ?_;refine Bf (W9 t z.k _ F) fun _ _=>?_;cases g:D5 t.Ac (z.k:Nat)
  ·rw [<-Anr g];exact DU
  ·refine Io ?_;intros;apply wO;refine Nb (N7 _) C6 fun a9 c9 F9=>?_;refine go ?_;rw [<-Aul g];exact ES
 ·have hk:z.k=t.Ac.length:=EZ
  rw [show Po t.Ac z.k=Tm t.Ac by unfold Tm;rw [hk]];exact CB
theorem Ap5 (t:Pv) (v:Value) (F:aq) (hg:Lv t.Ac):Fn prog 34 [v] [.isv Sq v t F] [] (fun (_:KiS)=>True) (fun z=>.slice z.a (Tm t.Ac).length z.c) (fun z=>[.ow Bc 3 (.slice z.a (Tm t.Ac).length z.c) (Tm t.Ac) z.F]):=by
 have hl0:=hg.n0;have hl8:=hg.n1;refine enter func34 rfl ntmps34 fun w0=>?_;refine Nv ?_;rintro a1 c1 F1 rfl l1;refine go ?_;intros;refine Cy Bc ?_;refine Bx [1,2] (fun z:KiS=>[(3,.slice z.a (Z3 t.Ac z.k).length z.c),(4,aa ((z.k+1:Nat):Int))]) (fun z=>[.ow Bc 3 (.slice z.a (Z3 t.Ac z.k).length z.c) (Z3 t.Ac z.k) z.F]) (fun z=>z.k+1<=t.Ac.length) (fun z=>t.Ac.length - z.k) ⟨0,_,_,_⟩ (by show 0+1<=t.Ac.length;omega) fun z hz=>?_;have hkl:=Axz t.Ac z.k;refine go ?_;refine A4 rfl (fun h1=>?_) (fun h1=>?_)
 ·have hh:z.k+1 < t.Ac.length:=EZ
  refine go ?_;refine Bf (N2 t ((z.k+1:Nat):Int) _ F (Qb hg.z EZ) EZ) fun q _=>?_;have hlk:=Aji t.Ac ((z.k+1:Nat):Int);refine go ?_;refine A4 rfl (fun h2=>?_) (fun h2=>?_)
  ·have g:D5 t.Ac ((z.k+1:Nat):Int)=true:=by rw [hlk];exact av (bv.1 EZ)
   refine Io ?_;intros;apply wO;refine Nb (xs:=Z3 t.Ac z.k) (N7 _) C6 fun a9 c9 F9=>?_;refine go ?_;rw [<-Ax0 g];exact EM
  ·have g:D5 t.Ac ((z.k+1:Nat):Int)=false:=by rw [hlk];exact ay fun e=>h2 (by rw [e];rfl)
   rw [<-Bbx g];exact DN
 ·have hk:z.k+1=t.Ac.length:=EZ
  rw [Axy hg hk];exact CB
theorem Acx (n:Int) (h0:0<=n) (h1:n<=999999) (w:World):Calls prog 33 #[aa n] w (RB (af (bz (Lib.itoa n))) w):=by
 exact EE
theorem Axs (t:Pv) (v:Value) (F:aq) (hg:Lv t.Ac):FV 32 [v] [.isv Sq v t F] (af (bz (jn (t.Ac.drop 1)))):=by
 have hl0:=hg.n0;have hl8:=hg.n1;have hd:(t.Ac.drop 1).length=t.Ac.length - 1:=aX ..;refine enter func32 rfl ntmps32 fun w0=>?_;refine Nv ?_;rintro a1 c1 F1 rfl l1;have hb:∀k (h:k+1 < t.Ac.length),0<=t.Ac[k+1]/\t.Ac[k+1]<=8:=fun k h=>by have:=hg.p (k+1) h EZ;omega
 refine Hy (xs:=t.Ac) 1 ?_;rintro hi b o rfl;have hb0:0<=t.Ac[1]/\t.Ac[1]<=8:=hb 0 hi;refine go ?_;intros;refine cb (fun w st=>Acx t.Ac[1] EZ EZ w) ?_;have e1:bz (Lib.itoa t.Ac[1])=bz (jn ((t.Ac.drop 1).take (0+1))):=by
  rw [show (t.Ac.drop 1).take (0+1)=[t.Ac[1]] by rw [aO (show 0 < (t.Ac.drop 1).length by omega)];simp,Bei]
 rw [e1];refine go ?_;refine Em [1,2] (fun k:Nat=>[(3,af (bz (jn ((t.Ac.drop 1).take (k+1))))),(4,aa ((k+2:Nat):Int))]) (fun k=>k+2<=t.Ac.length) (fun k=>t.Ac.length - k) 0 EZ fun k hk=>?_;have hs:=Axh hg (k+1);refine go ?_;refine A4 rfl (fun h1=>?_) (fun h1=>?_)
 ·have hh:k+2 < t.Ac.length:=EZ
  have z1:(⟨#[32]⟩:au).size=1:=rfl;have zs:(bz (jn ((t.Ac.drop 1).take (k+1)))++⟨#[32]⟩).size=_:=aE;have hbk:0<=t.Ac[k+2]/\t.Ac[k+2]<=8:=hb (k+1) hh;have zn:(bz (Lib.itoa t.Ac[k+2])).size<=1:=by rw [Gk,Nc hbk.1];exact Dv 0 _ (by show t.Ac[k+2].natAbs < 10 ^ (0+1);have:(10:Nat) ^ (0+1)=10:=rfl;omega)
  refine Hy (a:=some ⟨b,o,none⟩) (xs:=t.Ac) (k+2) ?_;rintro hi2 _ _ e2;cases e2;refine go ?_;refine cb (fun w st=>Acx t.Ac[k+2] hbk.1 (by have:=hbk.2;omega) w) ?_;refine go ?_;have e3:bz (jn ((t.Ac.drop 1).take (k+1)))++⟨#[32]⟩++bz (Lib.itoa t.Ac[k+2])=bz (jn ((t.Ac.drop 1).take (k+1+1))):=by
   rw [Bbl (l:=t.Ac.drop 1) (k:=k+1) EZ EZ];have e5:(t.Ac.drop 1)[k+1]=t.Ac[k+2]:=by rw [db];congr 1;omega
   rw [e5];apply dz;simp [bz,cF]
  rw [e3];refine Ca (k+1) EZ EZ
 ·have e4:(t.Ac.drop 1).take (k+1)=t.Ac.drop 1:=aV EZ;rw [e4];exact AA
theorem Am9 {E:ai} {sep:au} {m:Nat} (hs:sep.size<=2) (hm:m<=100) (hl:E.length<=900000000000) (he:∀e∈E,e.size<=m) (k:Nat):(Lib.join ((E.take k).map (·.data.toList)) sep.data.toList).length<=100000000000000:=by
 have h:=Ana (sep:=sep.data.toList) (m:=m) (xs:=(E.take k).map (·.data.toList)) fun x hx=>by
  obtain ⟨e,he2,rfl⟩:=bL.1 hx;rw [Cp];exact he e (bO he2)
 rw [bf,aP,Cp] at h;have h2:(sep.size+m) * min k E.length<=102 * 900000000000:=Nat.mul_le_mul EZ EZ;omega
theorem Ve (E:ai) (a:aj) (c:Nat) (F:aq) (hl:E.length<=900000000000) (he:∀e∈E,e.size<=100):FV 112 [ab a E.length c] [.sl A8 (ab a E.length c) E F] (af (Wz E)):=by
 refine enter func112 rfl ntmps112 fun w0=>?_;refine go ?_;refine A4 rfl (fun h=>?_) (fun h=>?_)
 ·have e:E=[]:=bv.1 EZ;subst e;exact AA
 ·have hf:=Am9 (sep:=⟨#[44,32]⟩) FA FA hl he E.length;rw [bl] at hf;refine go ?_;refine cb (fun w st=>Axj E ⟨#[44,32]⟩ a c F w (st.get (p:=.sl A8 (ab a E.length c) E F) FB) EZ EZ hf) ?_;refine go ?_;refine ret () trivial ?_;unfold Wz jnW;rw [aC (fun e=>h (by rw [e];rfl))];rfl
theorem Y6 (l:ar) (a:aj) (c:Nat) (F FT:aq) (hf:∀f∈l,0<=f/\f<=99999) (h7:l.length<=1000):FV 198 [ab a l.length c] [.sl Bc (ab a l.length c) l F,E4 FT] (af (Uv l)):=by
 refine enter func198 rfl ntmps198 fun w0=>?_;refine go ?_;refine A4 rfl (fun h=>?_) (fun h=>?_)
 ·have e:l=[]:=bv.1 EZ;subst e;exact AA
 ·refine go ?_;refine Bf (Arr l a c F FT (fun f hh=>⟨(hf f hh).1,by have:=hf f hh;show f.natAbs < 100000;omega⟩) EZ h7) fun _ _=>?_;refine go ?_;refine ret () trivial ?_;unfold Uv;rw [aC (fun e=>h (by rw [e];rfl))];rfl
def jnK (sep:au) (E:ai) (k:Nat):au:=bz (Lib.join ((E.take k).map (·.data.toList)) sep.data.toList)
theorem Axf {sep:au} {E:ai} {k:Nat} (h0:0 < k) (h:k < E.length):jnK sep E (k+1)=jnK sep E k++sep++E[k]:=by
 unfold jnK;rw [aO h,bD,cB,da,Ai6 _ _ _ KD];rw [<-Wv (_++E[k]),Hx,Hx,I1,aN]
theorem Bbk {sep:au} {E:ai} (h:0 < E.length):jnK sep E 1=E[0]:=by
 unfold jnK;cases E with
 | nil=>cases h
 | cons x r =>
  rw [gi,ff,cB,da,Lib.join_cons];simp [Lib.joinTail,Wv]
theorem Aco (E:ai) (sep:au) (a:aj) (c:Nat) (F:aq) (hs:sep.size<=2) (hl:E.length<=900000000000) (he:∀e∈E,e.size<=100):FV 132 [ab a E.length c,af sep] [.sl A8 (ab a E.length c) E F] (af (jnW sep.data.toList E)):=by
 refine enter func132 rfl ntmps132 fun w0=>?_;refine go ?_;refine A4 rfl (fun h=>?_) (fun h=>?_)
 ·have e:E=[]:=bv.1 EZ;subst e;exact AA
 refine Jv (xs:=E) 0 ?_;rintro hi0 b0 o0 rfl s0;refine go ?_;rw [show E[0]=jnK sep E 1 from (Bbk hi0).symm];refine Em [0,1,4] (fun k:Nat=>[(5,af (jnK sep E k)),(6,aa (k:Nat))]) (fun k=>1<=k/\k<=E.length) (fun k=>E.length - k) 1 ⟨aL _,EZ⟩ fun k hk=>?_;obtain ⟨hk1,hk2⟩:=hk;have hz:=Am9 (k:=k) hs FA hl he;have hz2:(jnK sep E k).size<=100000000000000:=by unfold jnK;rw [Gk];exact hz
 refine go ?_;refine A4 rfl (fun h3=>?_) (fun h3=>?_)
 ·have hk3:k < E.length:=EZ
  have h8:=he _ (aB hk3);have hq:(jnK sep E k++sep).size=_:=aE;refine Jv (xs:=E) k ?_;rintro hi b o e1 s1;cases e1;refine go ?_;rw [show jnK sep E k++sep++E[k]=jnK sep E (k+1) from (Axf hk1 hk3).symm];refine go ?_;rw [show ((k:Nat):Int)+1=((k+1:Nat):Int) by omega];refine Ca (k+1) ⟨EZ,hk3⟩ EZ
 ·have hk3:k=E.length:=EZ
  subst hk3;refine go ?_;refine ret () trivial ?_;unfold jnW jnK;rw [aC (fun e=>h (by rw [e];rfl)),bl];rfl
theorem Bgg (l:ar):jnW [32] (l.map itB)=Uv l:=by
 unfold jnW Uv jn;by_cases h:l=[]
 ·subst h;rfl
 ·rw [aC h,aC FJ,Af9]
structure LiS where
 k:Nat
 a:aj
 c:Nat
 F:aq
theorem Ajh (l:ar) (a:aj) (c:Nat) (F:aq) (hf:∀f∈l,0<=f/\f<=99999) (h7:l.length<=1000):FV 141 [ab a l.length c] [.sl Bc (ab a l.length c) l F] (af (Uv l)):=by
 refine enter func141 rfl ntmps141 fun w0=>?_;refine go ?_;intros;refine Cy A8 ?_;refine go ?_;refine Bx [0,2] (fun z:LiS=>[(3,.slice z.a ((l.map itB).take z.k).length z.c),(4,aa (z.k:Nat))]) (fun z=>[.ow A8 9 (.slice z.a ((l.map itB).take z.k).length z.c) ((l.map itB).take z.k) z.F]) (fun z=>z.k<=l.length) (fun z=>l.length - z.k) ⟨0,_,_,_⟩ (aG _) fun z hz=>?_;obtain ⟨k,a1,c1,F1⟩:=z;dsimp only at hz ⊢;have hml:(l.map itB).length=l.length:=bf ..;refine go ?_;refine A4 rfl (fun h3=>?_) (fun h3=>?_)
 ·have hk3:k < l.length:=EZ
  have h8:=hf _ (aB hk3);have htl:((l.map itB).take k).length=k:=GE
  refine Hy (xs:=l) k ?_;rintro hi b o e1;rw [e1];refine go ?_;refine cb (fun w st=>Vp l[k] (by have:=h8.1;omega) EZ w) ?_;refine go ?_;intros;apply wO;refine Nb (E:=A8) (xs:=(l.map itB).take k) (Abc (s:=bz (Lib.itoa l[k])) (by rw [Gk,Nc h8.1];have:=Dv 5 l[k].natAbs IC;unfold maxLen;omega)) Do fun a9 c9 F9=>?_;rw [show (l.map itB).take k++[bz (Lib.itoa l[k])]=(l.map itB).take (k+1) by rw [aO EZ,fL];rfl];refine go ?_;rw [show ((k:Nat):Int)+1=((k+1:Nat):Int) by omega]
  refine Ca ⟨k+1,a9,c9,F9⟩ hk3 GS
 ·have hk3:k=l.length:=EZ
  subst hk3;rw [show (l.map itB).take l.length=l.map itB by rw [<-hml];exact bl];refine Av (E:=A8) (xs:=l.map itB) fun F8=>?_;refine go ?_;refine cf (Aco (l.map itB) ⟨#[32]⟩ a1 c1 F8 FA EZ (fun e hh=>by
   obtain ⟨f,hf2,rfl⟩:=bL.1 hh;have h9:=hf f hf2;unfold itB;rw [Gk,Nc h9.1];have:=Dv 5 f.natAbs IC;omega)) fun _ _=>?_
  refine Ot ?_;refine go ?_;refine ret () trivial ?_;rw [<-Bgg l];rfl
def Zq:List (au × Int)->Nat->List MapEntry
 | [],_=>[]
 | (s,n)::r,i=>{ key:=.string s,val:=.int .i64 n,born:=i }::Zq r (i+1)
theorem Aio (s:au) (n:Int):∀(es:List (au × Int)) (i:Nat),Zq (es++[(s,n)]) i=Zq es i++[{ key:=af s,val:=aa n,born:=i+es.length }]
 | [],i=>rfl
 | (t,m)::r,i=>by
  show _::Zq (r++[(s,n)]) (i+1)=_::(Zq r (i+1)++_);rw [Aio s n r (i+1),aU,show i+1+r.length=i+(r.length+1) by omega]
def Bg8:Bt (Nat × List (au × Int)) where
 sz:=0
 L8 w cs x F:=cs=[]/\F=[x.1]/\w.heap[x.1]?=some (.map (Zq x.2 0).toArray x.2.length)
 len h:=JN
 lt h:=by
  obtain ⟨-,rfl,h⟩:=h;intro b hb;rw [aM] at hb;subst hb;exact (bK.1 h).1
 frame h hF:=by
  obtain ⟨h1,rfl,h⟩:=h;exact ⟨h1,rfl,by rw [hF _ FB];exact h⟩
def MpP (b:Nat) (es:List (au × Int)):Pc:=.own Bg8 (.agg #[]) (b,es) [b]
theorem MpP.at_ {b:Nat} {es:List (au × Int)} {w:World} (h:(MpP b es).P w):w.heap[b]?=some (.map (Zq es 0).toArray es.length):=by
 obtain ⟨-,cs, -,h⟩:=h;exact h.2.2
theorem MpP.mk {b:Nat} {es:List (au × Int)} {w:World} (h:w.heap[b]?=some (.map (Zq es 0).toArray es.length)):(MpP b es).P w:=⟨FB,[],rfl,rfl,rfl,h⟩
def Wl:List (au × Int)->au->Option Int
 | [],_=>none
 | (k,n)::r,s=>if s=k then some n else Wl r s
theorem Be1 {s k:au} (h:s=k):Instr.sameNow .string (af s) (af k)=some true:=by
 obtain ⟨r,hr,hi⟩:=MapKept.sameNow_of_keys (d:=.string) (a:=af s) (b:=af k) IH IH;rw [hr,hi.2 (by rw [h])]
theorem Ay9 {s k:au} (h:¬s=k):Instr.sameNow .string (af s) (af k)=some false:=by
 obtain ⟨r,hr,hi⟩:=MapKept.sameNow_of_keys (d:=.string) (a:=af s) (b:=af k) IH IH;rw [hr];cases r
 ·rfl
 ·have:=hi.1 rfl;simp at this;exact absurd this h
theorem Ab8 {s:au}:∀{es:List (au × Int)} (j i:Nat),Wl es s=none->Instr.findNow .string (af s) (Zq es j) i=some none
 | [],_,_,_=>rfl
 | (k,n)::r,j,i,h=>by
  unfold Wl at h
  split at h
  ·cases h
  ·rename_i hk;unfold Zq Instr.findNow;rw [Ay9 hk];exact Ab8 (j+1) (i+1) h
theorem Ais {s:au} {n:Int}:∀{es:List (au × Int)} (j i:Nat),Wl es s=some n->∃m,Instr.findNow .string (af s) (Zq es j) i=some (some (m,aa n))
 | [],_,_,h=>by cases h
 | (k,v)::r,j,i,h=>by
  unfold Wl at h
  split at h
  ·rename_i hk;cases h;refine ⟨i,?_⟩;unfold Zq Instr.findNow;rw [Be1 hk]
  ·rename_i hk;obtain ⟨m,hm⟩:=Ais (j+1) (i+1) h;refine ⟨m,?_⟩;unfold Zq Instr.findNow;rw [Ay9 hk];exact hm
class MapC (P:Program) (t:TypeId) (kt et:outParam TypeId):Prop where
 u:P.underlying t=some (.map kt et)
 k:P.underlying kt=some .string
 z:(P.info? et).map (·.zero)=some (some (aa 0))
theorem Axk {P:Program} {t kt et:TypeId} [hM:MapC P t kt et] (e:Bool) (s:au) (w:World):(Instr.checkKey e 10000 kt (af s)).run P w=.ok () w:=MapKept.run_checkKey (k:=af s) hM.k IH e 9999
section
variable {c:Cx} {fr:Fr} {H:List Pc} {Φ:Gl} {ty:TypeId} {d:Nat} {x y z:Operand}
theorem Bhq {t:TypeId} (hd:Nat.blt d c.n=true) (h:∀b,T c ((d,.map (some b))::fr) (MpP b []::H) Φ):On c fr H (some d) (.makeMap t none) ty Φ:=⟨fun pos Cc gd=>O3 fun Q a w s g=>by
 have e:(execOp a.eval ⟨some d,.makeMap t none,ty,pos,Cc,gd⟩).run c.P w=.ok (.value (.map (some w.heap.size))) (w.alloc (.map #[] 0)):=by
  simp [execOp,run_makeMap_plain]
 rw [e];refine (h _).h _ _ (s.add (N:=[MpP w.heap.size []]) (Wu _ _) (fun p hp=>?_) ⟨FB,trivial⟩ fun p hp b hb=>?_) (g.put hd)
 ·rw [aM] at hp;subst hp;exact MpP.mk (MapKept.heap_alloc w _).1
 ·rw [aM] at hp;subst hp;simp [MpP,Pc.F] at hb;subst hb;exact .inl (aL _)⟩
theorem Ar1 {t kt et:TypeId} [hM:MapC c.P t kt et] {b:Nat} {es:List (au × Int)} {s:au} {n:Int} {S:List Pc} (hx:ev fr x=some (.map (some b))) (hy:ev fr y=some (af s)) (hz:ev fr z=some (aa n)) (hr:Rpl H (MpP b es) (MpP b (es++[(s,n)])) S) (hn:Wl es s=none) (h:T c fr S Φ):On c fr H none (.insert t x y z) ty Φ:=⟨fun pos Cc gd=>O3 fun Q a w st g=>by
 have hP:(MpP b es).P w:=by obtain ⟨R,h1,_⟩:=hr.picks;exact st.on _ h1.mem
 have hb:=MpP.at_ hP;have hf:=Ab8 0 0 hn;have hk:=fun e=>Axk (P:=c.P) (t:=t) e s w;have e:(execOp a.eval ⟨none,.insert t x y z,ty,pos,Cc,gd⟩).run c.P w=.ok .skip { w with heap:=w.heap.setIfInBounds b (.map ((Zq es 0).toArray.push { key:=af s,val:=aa n,born:=es.length }) (es.length+1)) }:=by
  simp [execOp,g.ev hx,g.ev hy,g.ev hz,Instr.mapUpdate,run_underlying hM.u,MapKept.run_getObj_map hb,hk,MapKept.run_findKey hM.k hf,MapKept.run_setObj_map _ hb,Result.andThen]
 rw [e];obtain ⟨h1,h2⟩:=MapKept.heap_set (o':=.map ((Zq es 0).toArray.push { key:=af s,val:=aa n,born:=es.length }) (es.length+1)) hb;refine h.h _ _ (st.rpl hr rfl (fun b hb=>.inl hb) ⟨rfl,rfl,rfl,FB,fun k hk hn=>?_⟩ (MpP.mk ?_)) g
 ·exact h2 k (fun e=>hn (by rw [e];simp [MpP,Pc.F]))
 ·rw [h1,Aio,aA,fB,cO];rfl⟩
theorem Bg2 {P:Program} {n:Nat} {t kt et:TypeId} [hM:MapC P t kt et] {b:Nat} {es:List (au × Int)} {s:au} (hx:ev fr x=some (.map (some b))) (hy:ev fr y=some (af s)) (hm:MpP b es∈H) :
  Yd P n fr H (.lookup t x y true) ty (.tuple #[aa ((Wl es s).getD 0),.bool (Wl es s).isSome]):=.mk fun a w d pos Cc gd hA hH=>by
 have hb:=MpP.at_ (hH _ hm:(MpP b es).P w);obtain ⟨i,hi,hz⟩:=cw.1 hM.z;have hk:=fun e=>Axk (P:=P) (t:=t) e s w;have e:(Instr.lookup t (.map (some b)) (af s) true).run P w=.ok (.tuple #[aa ((Wl es s).getD 0),.bool (Wl es s).isSome]) w:=by
  cases hg:Wl es s with
  | none=>simp [Instr.lookup,run_underlying hM.u,MapKept.run_getObj_map hb,hk,MapKept.run_findKey hM.k (Ab8 0 0 hg),zeroValue,typeInfo,hi,hz,Result.andThen]
  | some v =>
   obtain ⟨m,hm⟩:=Ais 0 0 hg;simp [Instr.lookup,run_underlying hM.u,MapKept.run_getObj_map hb,hk,MapKept.run_findKey hM.k hm,Result.andThen]
 simp [execOp,hA.ev hx,hA.ev hy,e]
end
theorem Dx {s:au} {l:Bs}:s=bz l↔s.data.toList=l:=⟨fun h=>by rw [h,I1],fun h=>by rw [<-h,Wv]⟩
theorem Rr {ws:ai} {i:Nat} (h:i < ws.length):atW (ws.map fun t=>t.data.toList) i=(ws[i]).data.toList:=by
 unfold atW;rw [Pl (by rw [bf];exact h),fL]
def Aky:List (au × Int):=[(⟨#[100,111,119,110]⟩,2),(⟨#[117,112]⟩,5),(⟨#[108,111,115,101]⟩,3),(⟨#[99,117,116]⟩,6)]
theorem Apx (s:au):(Wl Aky s).getD 0=P2 s.data.toList/\(Wl Aky s).isSome=decide (P2 s.data.toList≠0):=by
 unfold Aky Wl Wl Wl Wl Wl P2;have e1:(s=⟨#[100,111,119,110]⟩)=(s.data.toList=Ao0):=propext (Dx (l:=Ao0));have e2:(s=⟨#[117,112]⟩)=(s.data.toList=wUp):=propext (Dx (l:=wUp));have e3:(s=⟨#[108,111,115,101]⟩)=(s.data.toList=Ao1):=propext (Dx (l:=Ao1));have e4:(s=⟨#[99,117,116]⟩)=(s.data.toList=Bac):=propext (Dx (l:=Bac));by_cases h1:s.data.toList=Ao0
 ·rw [aJ (by rw [e1];exact h1),aJ h1];exact DT
 rw [aC (by rw [e1];exact h1),aC h1];by_cases h2:s.data.toList=wUp
 ·rw [aJ (by rw [e2];exact h2),aJ h2];exact DT
 rw [aC (by rw [e2];exact h2),aC h2];by_cases h3:s.data.toList=Ao1
 ·rw [aJ (by rw [e3];exact h3),aJ h3];exact DT
 rw [aC (by rw [e3];exact h3),aC h3];by_cases h4:s.data.toList=Bac
 ·rw [aJ (by rw [e4];exact h4),aJ h4];exact DT
 rw [aC (by rw [e4];exact h4),aC h4];exact DT
def wsL (ws:ai):List Bs:=ws.map fun t=>t.data.toList
theorem Aoo {ws:ai} (h0:0 < ws.length) (h:ws[0]=⟨#[115,101,110,100]⟩) (hn:ws.length=1):I3 (wsL ws)=some ⟨1,0,⟨#[]⟩⟩:=by
 unfold I3 wsL;rw [Rr h0,bf,aJ ⟨Dx.1 h,hn⟩]
theorem Ad9 {ws:ai} (h1:1 < ws.length) (h:(ws[0]'EZ)=⟨#[115,101,110,100]⟩) (hn:ws.length=2) (he:¬ws[1]=⟨#[]⟩):I3 (wsL ws)=some ⟨1,0,ws[1]⟩:=by
 unfold I3 wsL;rw [Rr EZ,Rr h1,bf,aC EZ,aJ ⟨Dx.1 h,hn,fun e=>he (Dx.2 e)⟩,Wv]
theorem Aqv {ws:ai} (h0:0 < ws.length) (h:ws[0]=⟨#[116,105,99,107]⟩) (hn:ws.length=1):I3 (wsL ws)=some ⟨4,0,⟨#[]⟩⟩:=by
 have h2:=(Dx (l:=Akb)).1 h;unfold I3 wsL;rw [Rr h0,bf,aC (by rw [h2];exact fun e=>absurd e.1 FA),aC EZ,aJ ⟨h2,hn⟩]
theorem Xt {ws:ai} (hn:¬ws.length=2) (h1:∀h0:0 < ws.length,ws.length=1->¬ws[0]=⟨#[115,101,110,100]⟩/\¬ws[0]=⟨#[116,105,99,107]⟩) (h0:0 < ws.length):I3 (wsL ws)=none:=by
 unfold I3 wsL;rw [Rr h0,bf,aC (fun e=>(h1 h0 e.2).1 (Dx.2 e.1)),aC (fun e=>hn e.2.1),aC (fun e=>(h1 h0 e.2).2 (Dx.2 e.1)),aJ hn]
theorem Aj4 {ws:ai} (h1:1 < ws.length) (hn:ws.length=2) (h:¬((ws[0]'EZ)=⟨#[115,101,110,100]⟩/\¬ws[1]=⟨#[]⟩)) :
  I3 (wsL ws)=if P2 (ws[0]'EZ).data.toList≠0/\(C3 ws[1]).2=true then some ⟨P2 (ws[0]'EZ).data.toList,(C3 ws[1]).1,⟨#[]⟩⟩ else none:=by
 unfold I3 wsL;rw [Rr EZ,Rr h1,bf,Wv,aC EZ,aC (fun e=>h ⟨Dx.2 e.1,fun e2=>e.2.2 (Dx.1 e2)⟩),aC EZ,aC EZ]
instance:MapC prog 232 9 3:=⟨FC,FC,FC⟩
theorem Azl (ws:ai) (h0:0 < ws.length) (a:aj) (c:Nat) (F FT:aq) (hz:∀w∈ws,w.size<=1000000):Fn prog 109 [ab a ws.length c] [.sl A8 (ab a ws.length c) ws F,E4 FT] [] (fun (u:Jf × Bool)=>u.1.data.size<=maxLen/\I3 (wsL ws)=if u.2 then some u.1 else none) (fun u=>.tuple #[.agg #[aa u.1.Cq,aa u.1.node,af u.1.data],.bool u.2]) (fun _=>[]):=by
 have hz0:(⟨#[]⟩:au).size<=maxLen:=aG _;refine enter func109 rfl ntmps109 fun w0=>?_;refine Jv (xs:=ws) 0 ?_;rintro hi0 b0 o0 rfl s0
 repeat (first|(apply wO;apply oc;rfl;exact ydE)|(apply wO;apply Cm;rfl;intro _)|apply Amk|apply U5|apply Ys|apply Og)
 refine D0 [0,2,3] [0,1,2,3] (fun _:Unit=>[]) (fun _=>[]) (fun _=>ws.length=2/\∀h1:1 < ws.length,¬(ws[0]=⟨#[115,101,110,100]⟩/\¬ws[1]=⟨#[]⟩)) ?_ fun _ hj=>?_
 ·by_cases h1:ws[0]=⟨#[115,101,110,100]⟩
  ·refine go ?_;rw [show decide (ws[0]=⟨#[115,101,110,100]⟩)=true from av h1];by_cases hn:ws.length=1
   ·refine go ?_;rw [show decide ((ws.length:Int)=1)=true from av EZ];refine go ?_;refine ret (⟨⟨1,0,⟨#[]⟩⟩,true⟩:Jf × Bool) ⟨hz0,Aoo hi0 h1 hn⟩ rfl
   refine go ?_;rw [show decide ((ws.length:Int)=1)=false from ay EZ];refine go ?_;rw [show decide (ws[0]=⟨#[115,101,110,100]⟩)=true from av h1];by_cases hn2:ws.length=2
   rotate_left
   ·refine go ?_;rw [show decide ((ws.length:Int)=2)=false from ay EZ];refine go ?_;rw [show decide (ws[0]=⟨#[116,105,99,107]⟩)=false from ay (by rw [h1];decide)];refine go ?_;refine A4 rfl (fun h9=>?_) (fun h9=>?_)
    rotate_left
    ·exact absurd h9 EZ
    refine go ?_;refine ret (⟨⟨0,0,⟨#[]⟩⟩,false⟩:Jf × Bool) ⟨hz0,Xt hn2 (fun _ e=>absurd e hn) hi0⟩ rfl
   refine Jv (xs:=ws) 1 ?_;rintro hi1 b1 o1 e1 s1;cases e1;refine go ?_;rw [show decide ((ws.length:Int)=2)=true from av EZ];refine go ?_;by_cases he:ws[1]=⟨#[]⟩
   ·rw [show decide (¬ws[1]=⟨#[]⟩)=false from ay (fun h=>h he)];refine go ?_;rw [show decide (ws[0]=⟨#[116,105,99,107]⟩)=false from ay (by rw [h1];decide)];refine go ?_;refine A4 rfl (fun h9=>?_) (fun h9=>?_)
    ·exact absurd h9 EZ
    refine go ?_;refine Bk () ⟨hn2,fun _ h=>h.2 he⟩
   ·rw [show decide (¬ws[1]=⟨#[]⟩)=true from av he];refine go ?_;refine ret (⟨⟨1,0,ws[1]⟩,true⟩:Jf × Bool) ⟨s1,Ad9 hi1 h1 hn2 he⟩ rfl
  ·refine go ?_;rw [show decide (ws[0]=⟨#[115,101,110,100]⟩)=false from ay h1];refine go ?_;rw [show decide (ws[0]=⟨#[115,101,110,100]⟩)=false from ay h1];refine go ?_;by_cases h2:ws[0]=⟨#[116,105,99,107]⟩
   ·rw [show decide (ws[0]=⟨#[116,105,99,107]⟩)=true from av h2];refine go ?_;by_cases hn:ws.length=1
    ·rw [show decide ((ws.length:Int)=1)=true from av EZ];refine go ?_;refine ret (⟨⟨4,0,⟨#[]⟩⟩,true⟩:Jf × Bool) ⟨hz0,Aqv hi0 h2 hn⟩ rfl
    rw [show decide ((ws.length:Int)=1)=false from ay EZ];refine go ?_;refine A4 rfl (fun h9=>?_) (fun h9=>?_)
    ·refine go ?_;refine ret (⟨⟨0,0,⟨#[]⟩⟩,false⟩:Jf × Bool) ⟨hz0,Xt EZ (fun _ e=>⟨h1,fun e2=>by first|omega|exact h2 e2⟩) hi0⟩ rfl
    refine go ?_;refine Bk () ⟨EZ,fun _ h=>h1 h.1⟩
   ·rw [show decide (ws[0]=⟨#[116,105,99,107]⟩)=false from ay h2];refine go ?_;refine A4 rfl (fun h9=>?_) (fun h9=>?_)
    ·refine go ?_;refine ret (⟨⟨0,0,⟨#[]⟩⟩,false⟩:Jf × Bool) ⟨hz0,Xt EZ (fun _ e=>⟨h1,fun e2=>by first|omega|exact h2 e2⟩) hi0⟩ rfl
    refine go ?_;refine Bk () ⟨EZ,fun _ h=>h1 h.1⟩
 obtain ⟨hn2,hns⟩:=hj;have hi1:1 < ws.length:=EZ
 have hsw:=Aj4 hi1 hn2 (hns hi1);have hz1:=hz _ (aB hi1);refine Jv (xs:=ws) 1 ?_;rintro - b1 o1 e1 s1;cases e1;refine go ?_;apply wO;refine Bhq rfl fun mb=>?_;apply wO;refine Ar1 (s:=⟨#[100,111,119,110]⟩) rfl rfl rfl Ale rfl ?_;apply wO;refine Ar1 (s:=⟨#[117,112]⟩) rfl rfl rfl Ale rfl ?_;apply wO;refine Ar1 (s:=⟨#[108,111,115,101]⟩) rfl rfl rfl Ale rfl ?_;apply wO;refine Ar1 (s:=⟨#[99,117,116]⟩) rfl rfl rfl Ale rfl ?_;refine go ?_;apply wO;apply oc;rfl;exact Bg2 (es:=Aky) rfl rfl Bl;obtain ⟨g1,g2⟩:=Apx ws[0];rw [g1,g2];refine go ?_
 refine cb (fun w st=>(Afe ws[1] FT EZ).val w (Iw (st.get (p:=E4 FT) FB))) ?_;by_cases hk:P2 (ws[0]).data.toList≠0
 ·rw [show decide (P2 (ws[0]).data.toList≠0)=true from av hk];refine go ?_;refine ret (⟨⟨P2 (ws[0]).data.toList,(C3 ws[1]).1,⟨#[]⟩⟩,(C3 ws[1]).2⟩:Jf × Bool) ⟨hz0,?_⟩ rfl;rw [hsw];cases (C3 ws[1]).2
  ·rw [aC (fun e=>by cases e.2)];rfl
  ·rw [aJ ⟨hk,rfl⟩];rfl
 ·rw [show decide (P2 (ws[0]).data.toList≠0)=false from ay hk];refine go ?_;refine ret (⟨⟨P2 (ws[0]).data.toList,(C3 ws[1]).1,⟨#[]⟩⟩,false⟩:Jf × Bool) ⟨hz0,?_⟩ rfl;rw [hsw,aC (fun e=>hk e.1)];rfl
structure DrS where
 x:NE
 z:NV
 a:aj
 c:Nat
 F:aq
structure DrK where
 k:Nat
 z:NV
 a:aj
 c:Nat
 F:aq
theorem rdQ {w:World} {t:TypeId} {a:aj} {n c:Nat} {l:List (List As)} {F:aq} (h:(Pc.ow (Ki An 141) t (ab a n c) l F).P w):∃F',(Pc.sl (Oa An FA) (ab a n c) l F').P w:=by
 obtain ⟨F', -,hs⟩:=h.2.sl (Pt (Mq.refl An) FA _);exact ⟨F',FA,hs⟩
theorem U0 (l:List (List As)) (a:aj) (c:Nat) (F:aq) (hl:l.length<=8) (hq:∀q∈l,q.length<=6):FV 194 [ab a l.length c] [.sl (Oa An FA) (ab a l.length c) l F] (aa ((qd l:Nat):Int)):=by
 refine enter func194 rfl ntmps194 fun w0=>?_;refine go ?_;refine Em [6,7] (fun k:Nat=>[(3,aa ((qd (l.take k):Nat):Int)),(8,aa (k:Nat))]) (fun k=>k<=l.length) (fun k=>l.length - k) 0 (aG _) fun k hk=>?_;have h6:=N3 hq k;refine go ?_;refine A4 rfl (fun h1=>?_) (fun h1=>?_)
 ·have hh:k < l.length:=EZ
  have h7:=hq l[k] (aB hh);refine Oc (E:=An) (hz:=FA) (xs:=l) k ?_;rintro hi6 b6 o6 a11 c11 F11 rfl l11;refine go ?_;rw [show ((qd (l.take k):Nat):Int)+(l[k].length:Int)=((qd (l.take (k+1)):Nat):Int) by rw [Alb hh];omega];refine Ca (k+1) hh GS
 ·obtain rfl:k=l.length:=EZ
  refine go ?_;refine ret () trivial ?_;rw [bl];rfl
theorem Avc {n:Du} {s:Jf} (hg:At n=true) (hs:Dq s=true):n.Al.Ac.length=(Hq n (Bm n s)).Al.Ac.length/\n.Af.length=(Hq n (Bm n s)).Af.length/\n.Ad.length=(Hq n (Bm n s)).Ad.length/\n.down.length=(Hq n (Bm n s)).down.length/\n.up.length=(Hq n (Bm n s)).up.length:=by
 cases e:Bm n s with
 | none=>exact ⟨rfl,rfl,rfl,rfl,rfl⟩
 | some r=>exact Bbv hg (Mh hg hs e) (So e)
theorem Alo (n:Du) (s:Jf) (g:Nat) (a1:aj) (c1:Nat) (F1:aq) (a2:aj) (c2:Nat) (F2:aq) (a3:aj) (c3:Nat) (F3:aq) (a4:aj) (c4:Nat) (F4:aq) (a5:aj) (c5:Nat) (F5:aq) (a6:aj) (c6:Nat) (F6:aq) (a7:aj) (c7:Nat) (F7:aq) (FT:aq) (hg:At n=true) (hs:Dq s=true) (hss:s.data.size<=maxLen) :
  Fn prog 111 [Ga g 0 0,.agg #[aa (s).Cq,aa (s).node,af (s).data]] [E4 FT] [.row g 37 0 [] [ab a1 n.Al.Ac.length c1,aa n.Ab.Aa.Am,aa n.Ab.Aa.size,ab a2 n.Ab.Aa.Ak.length c2,aa n.Ab.Ai,aa n.Ab.quiet,ab a3 n.Ab.holds.length c3,ab a4 n.Af.length c4,ab a5 n.Ad.length c5,ab a6 n.down.length c6,ab a7 n.up.length c7] [],.ow Bc 3 (ab a1 n.Al.Ac.length c1) n.Al.Ac F1,.ow A8 9 (ab a2 n.Ab.Aa.Ak.length c2) n.Ab.Aa.Ak F2,.ow Bw 191 (ab a3 n.Ab.holds.length c3) n.Ab.holds F3,.ow Ce 122 (ab a4 n.Af.length c4) n.Af F4,.ow B9 76 (ab a5 n.Ad.length c5) n.Ad F5,.ow (Ki An 141) 125 (ab a6 n.down.length c6) n.down F6,.ow (Ki An 141) 125 (ab a7 n.up.length c7) n.up F7] (fun (_:NV × KA)=>True) (fun z=>.tuple #[.slice z.2.a (Uy (Bm n s)).length z.2.c,.bool (Bm n s).isSome]) (fun z=>[.row g 37 0 [] [.slice z.1.a1 (Hq n (Bm n s)).Al.Ac.length z.1.c1,aa (Hq n (Bm n s)).Ab.Aa.Am,aa (Hq n (Bm n s)).Ab.Aa.size,.slice z.1.a2 (Hq n (Bm n s)).Ab.Aa.Ak.length z.1.c2,aa (Hq n (Bm n s)).Ab.Ai,aa (Hq n (Bm n s)).Ab.quiet,.slice z.1.a3 (Hq n (Bm n s)).Ab.holds.length z.1.c3,.slice z.1.a4 (Hq n (Bm n s)).Af.length z.1.c4,.slice z.1.a5 (Hq n (Bm n s)).Ad.length z.1.c5,.slice z.1.a6 (Hq n (Bm n s)).down.length z.1.c6,.slice z.1.a7 (Hq n (Bm n s)).up.length z.1.c7] [],.ow Bc 3 (.slice z.1.a1 (Hq n (Bm n s)).Al.Ac.length z.1.c1) (Hq n (Bm n s)).Al.Ac z.1.F1,.ow A8 9 (.slice z.1.a2 (Hq n (Bm n s)).Ab.Aa.Ak.length z.1.c2) (Hq n (Bm n s)).Ab.Aa.Ak z.1.F2,.ow Bw 191 (.slice z.1.a3 (Hq n (Bm n s)).Ab.holds.length z.1.c3) (Hq n (Bm n s)).Ab.holds z.1.F3,.ow Ce 122 (.slice z.1.a4 (Hq n (Bm n s)).Af.length z.1.c4) (Hq n (Bm n s)).Af z.1.F4,.ow B9 76 (.slice z.1.a5 (Hq n (Bm n s)).Ad.length z.1.c5) (Hq n (Bm n s)).Ad z.1.F5,.ow (Ki An 141) 125 (.slice z.1.a6 (Hq n (Bm n s)).down.length z.1.c6) (Hq n (Bm n s)).down z.1.F6,.ow (Ki An 141) 125 (.slice z.1.a7 (Hq n (Bm n s)).up.length z.1.c7) (Hq n (Bm n s)).up z.1.F7,.ow A8 9 (.slice z.2.a (Uy (Bm n s)).length z.2.c) (Uy (Bm n s)) z.2.F]):=by
 obtain ⟨k1,k2,k3,k4,k5⟩:=Avc hg hs;have h:=Be4 n s g a1 c1 F1 a2 c2 F2 a3 c3 F3 a4 c4 F4 a5 c5 F5 a6 c6 F6 a7 c7 F7 FT hg hs hss;rw [<-k1,<-k2,<-k3,<-k4,<-k5];exact h
theorem Av4 (n:Du) (g:Nat) (a1:aj) (c1:Nat) (F1:aq) (a2:aj) (c2:Nat) (F2:aq) (a3:aj) (c3:Nat) (F3:aq) (a4:aj) (c4:Nat) (F4:aq) (a5:aj) (c5:Nat) (F5:aq) (a6:aj) (c6:Nat) (F6:aq) (a7:aj) (c7:Nat) (F7:aq) (FT:aq) (hg:At n=true) :
  Fn prog 113 [Ga g 0 0] [E4 FT] [.row g 37 0 [] [ab a1 n.Al.Ac.length c1,aa n.Ab.Aa.Am,aa n.Ab.Aa.size,ab a2 n.Ab.Aa.Ak.length c2,aa n.Ab.Ai,aa n.Ab.quiet,ab a3 n.Ab.holds.length c3,ab a4 n.Af.length c4,ab a5 n.Ad.length c5,ab a6 n.down.length c6,ab a7 n.up.length c7] [],.ow Bc 3 (ab a1 n.Al.Ac.length c1) n.Al.Ac F1,.ow A8 9 (ab a2 n.Ab.Aa.Ak.length c2) n.Ab.Aa.Ak F2,.ow Bw 191 (ab a3 n.Ab.holds.length c3) n.Ab.holds F3,.ow Ce 122 (ab a4 n.Af.length c4) n.Af F4,.ow B9 76 (ab a5 n.Ad.length c5) n.Ad F5,.ow (Ki An 141) 125 (ab a6 n.down.length c6) n.down F6,.ow (Ki An 141) 125 (ab a7 n.up.length c7) n.up F7] (fun (_:NV × KA)=>True) (fun z=>.slice z.2.a (P9 n).2.length z.2.c) (fun z=>[.row g 37 0 [] [.slice z.1.a1 (P9 n).1.Al.Ac.length z.1.c1,aa (P9 n).1.Ab.Aa.Am,aa (P9 n).1.Ab.Aa.size,.slice z.1.a2 (P9 n).1.Ab.Aa.Ak.length z.1.c2,aa (P9 n).1.Ab.Ai,aa (P9 n).1.Ab.quiet,.slice z.1.a3 (P9 n).1.Ab.holds.length z.1.c3,.slice z.1.a4 (P9 n).1.Af.length z.1.c4,.slice z.1.a5 (P9 n).1.Ad.length z.1.c5,.slice z.1.a6 (P9 n).1.down.length z.1.c6,.slice z.1.a7 (P9 n).1.up.length z.1.c7] [],.ow Bc 3 (.slice z.1.a1 (P9 n).1.Al.Ac.length z.1.c1) (P9 n).1.Al.Ac z.1.F1,.ow A8 9 (.slice z.1.a2 (P9 n).1.Ab.Aa.Ak.length z.1.c2) (P9 n).1.Ab.Aa.Ak z.1.F2,.ow Bw 191 (.slice z.1.a3 (P9 n).1.Ab.holds.length z.1.c3) (P9 n).1.Ab.holds z.1.F3,.ow Ce 122 (.slice z.1.a4 (P9 n).1.Af.length z.1.c4) (P9 n).1.Af z.1.F4,.ow B9 76 (.slice z.1.a5 (P9 n).1.Ad.length z.1.c5) (P9 n).1.Ad z.1.F5,.ow (Ki An 141) 125 (.slice z.1.a6 (P9 n).1.down.length z.1.c6) (P9 n).1.down z.1.F6,.ow (Ki An 141) 125 (.slice z.1.a7 (P9 n).1.up.length z.1.c7) (P9 n).1.up z.1.F7,.ow A8 9 (.slice z.2.a (P9 n).2.length z.2.c) (P9 n).2 z.2.F]):=by
 have hwn:=Bae hg;refine enter func113 rfl ntmps113 fun w0=>?_;refine Cf A8 9 ?_;refine go ?_
 refine Bx [0] (fun s:DrS=>[(3,ab s.a s.x.2.length s.c)]) (fun s=>[.row g 37 0 [] [ab s.z.a1 s.x.1.Al.Ac.length s.z.c1,aa s.x.1.Ab.Aa.Am,aa s.x.1.Ab.Aa.size,ab s.z.a2 s.x.1.Ab.Aa.Ak.length s.z.c2,aa s.x.1.Ab.Ai,aa s.x.1.Ab.quiet,ab s.z.a3 s.x.1.Ab.holds.length s.z.c3,ab s.z.a4 s.x.1.Af.length s.z.c4,ab s.z.a5 s.x.1.Ad.length s.z.c5,ab s.z.a6 s.x.1.down.length s.z.c6,ab s.z.a7 s.x.1.up.length s.z.c7] [],.ow Bc 3 (ab s.z.a1 s.x.1.Al.Ac.length s.z.c1) s.x.1.Al.Ac s.z.F1,.ow A8 9 (ab s.z.a2 s.x.1.Ab.Aa.Ak.length s.z.c2) s.x.1.Ab.Aa.Ak s.z.F2,.ow Bw 191 (ab s.z.a3 s.x.1.Ab.holds.length s.z.c3) s.x.1.Ab.holds s.z.F3,.ow Ce 122 (ab s.z.a4 s.x.1.Af.length s.z.c4) s.x.1.Af s.z.F4,.ow B9 76 (ab s.z.a5 s.x.1.Ad.length s.z.c5) s.x.1.Ad s.z.F5,.ow (Ki An 141) 125 (ab s.z.a6 s.x.1.down.length s.z.c6) s.x.1.down s.z.F6,.ow (Ki An 141) 125 (ab s.z.a7 s.x.1.up.length s.z.c7) s.x.1.up s.z.F7,.ow A8 9 (ab s.a s.x.2.length s.c) s.x.2 s.F]) (fun s=>U8 (n,[]) s.x/\drE s.x=P9 n) (fun s=>wN s.x.1) ⟨(n,[]),⟨a1,c1,F1,a2,c2,F2,a3,c3,F3,a4,c4,F4,a5,c5,F5,a6,c6,F6,a7,c7,F7⟩,none,0,[]⟩ ⟨.refl hg,rfl⟩ fun s hs0=>?_
 obtain ⟨x,⟨x1,w1,K1,x2,w2,K2,x3,w3,K3,x4,w4,K4,x5,w5,K5,x6,w6,K6,x7,w7,K7⟩,ea,ec,eF⟩:=s;obtain ⟨fx,hR⟩:=hs0;dsimp only at fx hR ⊢;have hG:=Ax.1 fx.g;have h8:=Gf hG.t;have hn8:=h8.n1;have hn2:=h8.n0;obtain ⟨q1,q2,q3,q4⟩:=Bg.1 hG.l;obtain ⟨-, -,hd6,hu6⟩:=Hz fx.g;have hd6:∀q∈x.1.down,q.length<=6:=fun q hq=>(C7 (hd6 q hq)).1;have hu6:∀q∈x.1.up,q.length<=6:=fun q hq=>(C7 (hu6 q hq)).1;have hb1:=N3 hd6 x.1.down.length;have hb2:=N3 hu6 x.1.up.length;rw [bl] at hb1 hb2;have hev:=fx.e;simp only [aY] at hev;refine go ?_;refine Ar [0] [] ?_;refine Df 0 1 2 3 ?_
 refine Df 5 6 7 8 ?_;refine dN 4 ?_;refine oC ?_;refine cfr (fun w st=>by obtain ⟨Fq,hq⟩:=rdQ (st.get (p:=.ow (Ki An 141) 125 (ab x6 x.1.down.length w6) x.1.down K6) FD);exact ⟨_,Iw hq,rfl,U0 _ _ _ Fq EZ FR⟩) (fun _ _=>?_);refine Ot ?_;refine dk ?_;refine dN 9 ?_;refine oC ?_;refine cfr (fun w st=>by obtain ⟨Fq,hq⟩:=rdQ (st.get (p:=.ow (Ki An 141) 125 (ab x7 x.1.up.length w7) x.1.up K7) FD);exact ⟨_,Iw hq,rfl,U0 _ _ _ Fq EZ FR⟩) (fun _ _=>?_);refine Ot ?_;refine dk ?_;refine Dh 10 11 ?_;refine dd ?_;refine go ?_
 refine A4 rfl (fun h1=>?_) (fun h1=>?_)
 ·have hq0:¬Xm x.1=0:=by unfold Xm;omega
  obtain ⟨fR,hw⟩:=Mm fx.g;have hw:=hw hq0;refine go ?_
  refine Bx [0,24] (fun y:DrK=>[(3,.slice y.a (Eu x y.k).2.length y.c),(25,aa (y.k:Nat))]) (fun y=>[.row g 37 0 [] [.slice y.z.a1 (Eu x y.k).1.Al.Ac.length y.z.c1,aa (Eu x y.k).1.Ab.Aa.Am,aa (Eu x y.k).1.Ab.Aa.size,.slice y.z.a2 (Eu x y.k).1.Ab.Aa.Ak.length y.z.c2,aa (Eu x y.k).1.Ab.Ai,aa (Eu x y.k).1.Ab.quiet,.slice y.z.a3 (Eu x y.k).1.Ab.holds.length y.z.c3,.slice y.z.a4 (Eu x y.k).1.Af.length y.z.c4,.slice y.z.a5 (Eu x y.k).1.Ad.length y.z.c5,.slice y.z.a6 (Eu x y.k).1.down.length y.z.c6,.slice y.z.a7 (Eu x y.k).1.up.length y.z.c7] [],.ow Bc 3 (.slice y.z.a1 (Eu x y.k).1.Al.Ac.length y.z.c1) (Eu x y.k).1.Al.Ac y.z.F1,.ow A8 9 (.slice y.z.a2 (Eu x y.k).1.Ab.Aa.Ak.length y.z.c2) (Eu x y.k).1.Ab.Aa.Ak y.z.F2,.ow Bw 191 (.slice y.z.a3 (Eu x y.k).1.Ab.holds.length y.z.c3) (Eu x y.k).1.Ab.holds y.z.F3,.ow Ce 122 (.slice y.z.a4 (Eu x y.k).1.Af.length y.z.c4) (Eu x y.k).1.Af y.z.F4,.ow B9 76 (.slice y.z.a5 (Eu x y.k).1.Ad.length y.z.c5) (Eu x y.k).1.Ad y.z.F5,.ow (Ki An 141) 125 (.slice y.z.a6 (Eu x y.k).1.down.length y.z.c6) (Eu x y.k).1.down y.z.F6,.ow (Ki An 141) 125 (.slice y.z.a7 (Eu x y.k).1.up.length y.z.c7) (Eu x y.k).1.up y.z.F7,.ow A8 9 (.slice y.a (Eu x y.k).2.length y.c) (Eu x y.k).2 y.F]) (fun y=>y.k<=x.1.Al.Ac.length) (fun y=>x.1.Al.Ac.length - y.k) ⟨0,⟨x1,w1,K1,x2,w2,K2,x3,w3,K3,x4,w4,K4,x5,w5,K5,x6,w6,K6,x7,w7,K7⟩,ea,ec,eF⟩ (aG _) fun y hy0=>?_
  obtain ⟨j,⟨x1,w1,K1,x2,w2,K2,x3,w3,K3,x4,w4,K4,x5,w5,K5,x6,w6,K6,x7,w7,K7⟩,ya,yc,yF⟩:=y;dsimp only at hy0 ⊢;have fJ:=Ad6 fx.g j hy0;have fX:=fx.trans fJ;generalize hX:Eu x j=X at fJ fX ⊢;refine go ?_;refine A4 rfl (fun h2=>?_) (fun h2=>?_)
  ·have hj:j < x.1.Al.Ac.length:=EZ
   have hXt:X.1.Al.Ac.length=x.1.Al.Ac.length:=by rw [fJ.t]
   have hG:=Ax.1 fX.g;obtain ⟨q1,q2,q3,q4⟩:=Bg.1 hG.l;have hjd:j < X.1.down.length:=EZ
   have hsd:=Yl (n:=X.1) (i:=j) EZ;rw [Pl hjd] at hsd;have hz1:=Aa7 fX.g;have hev2:=fX.e;simp only [aY] at hev2;refine go ?_;refine Aca (xs:=X.1.down) (m:=1) j ?_ rfl EZ;rintro _ g6 A6 cs6 B6 p6 q6 G6 Gi6 H6 e6 - hc6 hH6;rw [e6];refine Yh ?_;rintro a6 c6 ev6 l6;obtain rfl:=Pw ev6;refine go ?_;refine A4 rfl (fun h4=>?_) (fun h4=>?_)
   ·have j1:1<=j:=by
     rcases cy j with rfl|h
     ·have:=hz1.1;rw [Pl hjd] at this;omega
     ·exact h
    have ok:=Bb5 j1 EZ;refine Kl X.1.down[j] ?_;refine V0 _ hH6 rfl fun J6=>?_;rw [bx];refine go ?_;refine Bf (Alo X.1 (I4 j) g x1 w1 K1 x2 w2 K2 x3 w3 K3 x4 w4 K4 x5 w5 K5 _ w6 J6 x7 w7 K7 FT fX.g ok (aG _)) fun z _=>?_;have hfe:=fX.trans (Be6 fX.g (i:=j) EZ);have hfe2:=hfe.e;have htl:(Mu X (I4 j)).2.length=X.2.length+(Uy (Bm X.1 (I4 j))).length:=aA;simp only [aY] at hfe2;refine Av (E:=A8) (xs:=Uy (Bm X.1 (I4 j))) fun F8=>?_;refine go ?_;apply wO;refine Ni (E:=A8) (xs:=X.2) (ys:=Uy (Bm X.1 (I4 j))) Do Hv fun a9 c9 F9=>?_
    generalize hX1:Mu X (I4 j)=X1 at hfe hfe2 htl;rw [show X.2++Uy (Bm X.1 (I4 j))=X1.2 by rw [<-hX1];rfl,show Hq X.1 (Bm X.1 (I4 j))=X1.1 by rw [<-hX1];rfl];have fX1:U8 X X1:=by rw [<-hX1];exact Be6 fX.g (by rw [hXt];exact hj)
    have hG1:=Ax.1 fX1.g;obtain ⟨r1,r2,r3,r4⟩:=Bg.1 hG1.l;have hX1t:X1.1.Al.Ac.length=x.1.Al.Ac.length:=by rw [fX1.t];exact hXt
    have hju:j < X1.1.up.length:=EZ
    have hsu:=Vw (n:=X1.1) (i:=j) EZ;rw [Pl hju] at hsu;have hz0:=Aa7 fX1.g;refine go ?_;refine Aca (xs:=X1.1.up) (m:=1) j ?_ rfl EZ;rintro _ g7 A7 cs7 B7 p7 q7 G7 Gi7 H7 e7 - hc7 hH7;rw [e7];refine Yh ?_;rintro a7 c7 ev7 l7;obtain rfl:=Pw ev7;refine go ?_;refine A4 rfl (fun h3=>?_) (fun h3=>?_)
    ·have j1:1<=j:=by
      rcases cy j with rfl|h
      ·have:=hz0.2;rw [Pl hju] at this;omega
      ·exact h
     have ok:=Ayh j1 EZ;have hnx:Eu x (j+1)=(Hq X1.1 (Bm X1.1 (Ly j)),X1.2):=by
      show Mu (Mu (Eu x j) (I4 j)) (Ly j)=_;rw [hX,hX1];exact Prod.ext rfl (Be7 fX1.g (i:=j) EZ).2
     refine Kl X1.1.up[j] ?_;refine V0 _ hH7 rfl fun J7=>?_;rw [bx];refine go ?_;refine Bf (Alo X1.1 (Ly j) g z.1.a1 z.1.c1 z.1.F1 z.1.a2 z.1.c2 z.1.F2 z.1.a3 z.1.c3 z.1.F3 z.1.a4 z.1.c4 z.1.F4 z.1.a5 z.1.c5 z.1.F5 z.1.a6 z.1.c6 z.1.F6 _ z.1.c7 J7 FT fX1.g ok (aG _)) fun y _=>?_;refine go ?_
     refine Ca ⟨j+1,⟨y.1.a1,y.1.c1,y.1.F1,y.1.a2,y.1.c2,y.1.F2,y.1.a3,y.1.c3,y.1.F3,y.1.a4,y.1.c4,y.1.F4,y.1.a5,y.1.c5,y.1.F5,y.1.a6,y.1.c6,y.1.F6,y.1.a7,y.1.c7,y.1.F7⟩,a9,c9,F9⟩ KT GR GH GG
    ·have hnx:Eu x (j+1)=X1:=by
      show Mu (Mu (Eu x j) (I4 j)) (Ly j)=_;rw [hX,hX1];exact Jt (by rw [hsu,aJ EZ])
     refine Kl X1.1.up[j] ?_;refine V0 _ hH7 rfl fun J7=>?_;rw [bx];refine go ?_;refine Ca ⟨j+1,⟨z.1.a1,z.1.c1,z.1.F1,z.1.a2,z.1.c2,z.1.F2,z.1.a3,z.1.c3,z.1.F3,z.1.a4,z.1.c4,z.1.F4,z.1.a5,z.1.c5,z.1.F5,z.1.a6,z.1.c6,z.1.F6,_,z.1.c7,J7⟩,a9,c9,F9⟩ KT GR GH GG
   ·have htn:Mu X (I4 j)=X:=Jt (by rw [hsd,aJ EZ]);refine Kl X.1.down[j] ?_;refine V0 _ hH6 rfl fun J6=>?_;rw [bx];obtain ⟨X1,hX1⟩:∃X1,Mu X (I4 j)=X1:=⟨_,rfl⟩;have hXX:X1=X:=by rw [<-hX1,htn]
    subst hXX;have fX1:U8 X1 X1:=.refl fX.g;have hG1:=Ax.1 fX1.g;obtain ⟨r1,r2,r3,r4⟩:=Bg.1 hG1.l;have hX1t:X1.1.Al.Ac.length=x.1.Al.Ac.length:=by rw [fX1.t];exact hXt
    have hju:j < X1.1.up.length:=EZ
    have hsu:=Vw (n:=X1.1) (i:=j) EZ;rw [Pl hju] at hsu;have hz0:=Aa7 fX1.g;refine go ?_;refine Aca (xs:=X1.1.up) (m:=1) j ?_ rfl EZ;rintro _ g7 A7 cs7 B7 p7 q7 G7 Gi7 H7 e7 - hc7 hH7;rw [e7];refine Yh ?_;rintro a7 c7 ev7 l7;obtain rfl:=Pw ev7;refine go ?_;refine A4 rfl (fun h3=>?_) (fun h3=>?_)
    ·have j1:1<=j:=by
      rcases cy j with rfl|h
      ·have:=hz0.2;rw [Pl hju] at this;omega
      ·exact h
     have ok:=Ayh j1 EZ;have hnx:Eu x (j+1)=(Hq X1.1 (Bm X1.1 (Ly j)),X1.2):=by
      show Mu (Mu (Eu x j) (I4 j)) (Ly j)=_;rw [hX,hX1];exact Prod.ext rfl (Be7 fX1.g (i:=j) EZ).2
     refine Kl X1.1.up[j] ?_;refine V0 _ hH7 rfl fun J7=>?_;rw [bx];refine go ?_;refine Bf (Alo X1.1 (Ly j) g x1 w1 K1 x2 w2 K2 x3 w3 K3 x4 w4 K4 x5 w5 K5 _ w6 J6 _ w7 J7 FT fX1.g ok (aG _)) fun y _=>?_;refine go ?_;refine Ca ⟨j+1,⟨y.1.a1,y.1.c1,y.1.F1,y.1.a2,y.1.c2,y.1.F2,y.1.a3,y.1.c3,y.1.F3,y.1.a4,y.1.c4,y.1.F4,y.1.a5,y.1.c5,y.1.F5,y.1.a6,y.1.c6,y.1.F6,y.1.a7,y.1.c7,y.1.F7⟩,ya,yc,yF⟩ KT GR GH GG
    ·have hnx:Eu x (j+1)=X1:=by
      show Mu (Mu (Eu x j) (I4 j)) (Ly j)=_;rw [hX,hX1];exact Jt (by rw [hsu,aJ EZ])
     refine Kl X1.1.up[j] ?_;refine V0 _ hH7 rfl fun J7=>?_;rw [bx];refine go ?_;refine Ca ⟨j+1,⟨x1,w1,K1,x2,w2,K2,x3,w3,K3,x4,w4,K4,x5,w5,K5,_,w6,J6,_,w7,J7⟩,ya,yc,yF⟩ KT GR GH GG
  ·obtain rfl:j=x.1.Al.Ac.length:=EZ
   have hX:=hX;rw [Aqm fx.g] at hX;refine go ?_;refine Ca ⟨X,⟨x1,w1,K1,x2,w2,K2,x3,w3,K3,x4,w4,K4,x5,w5,K5,x6,w6,K6,x7,w7,K7⟩,ya,yc,yF⟩ ⟨fX,by rw [<-hR,Afq fx.g hq0,hX]⟩ (by show wN X.1 < wN x.1;rw [<-hX];exact hw)
 ·have hq0:Xm x.1=0:=by unfold Xm;omega
  rw [Aas hq0] at hR;rw [hR];exact EQ
theorem Ah6 (n:Du) (v:Value) (F:aq):FV 134 [v] [.isv Pb v n F] (.tuple #[aa (Qi n).1,aa (Qi n).2.1,.bool (Qi n).2.2]):=by
 refine enter func134 rfl ntmps134 fun w0=>?_;refine Fm ?_;rintro a1 c1 F1 a2 c2 F2 a3 c3 F3 a4 c4 F4 a5 c5 F5 a6 c6 F6 a7 c7 F7 rfl l1 l2 l3 l4 l5 l6 l7;refine go ?_;intros;refine Bf (Acm n _ F) fun _ _=>?_;cases g:At n
 ·refine go ?_;refine ret () trivial ?_;unfold Qi;rw [g];rfl
 obtain ⟨-, -,e3,e4⟩:=Hz g;obtain ⟨q2,q8,qn,qu,qe,qt⟩:=M4 g;refine go ?_;refine Em [1,2,3,4] (fun k:Nat=>[(5,aa ((qd (n.down.take k):Nat):Int)),(6,aa ((qd (n.up.take k):Nat):Int)),(7,aa (k:Nat))]) (fun k=>k<=n.down.length) (fun k=>n.down.length - k) 0 (aG _) fun k hk=>?_;have b1:=N3 (fun q hq=>(C7 (e3 q hq)).1) k;have b2:=N3 (fun q hq=>(C7 (e4 q hq)).1) k;refine go ?_;refine A4 rfl (fun h3=>?_) (fun h3=>?_)
 ·have hk3:k < n.down.length:=EZ
  have hk4:k < n.up.length:=EZ
  have b3:=(C7 (e3 _ (aB hk3))).1;have b4:=(C7 (e4 _ (aB hk4))).1;have s3:=Alb hk3;have s4:=Alb hk4;refine Oc (E:=An) (hz:=FA) (xs:=n.down) k ?_;rintro hi1 g1 o1 a8 c8 F8 ea l8;refine Oc (E:=An) (hz:=FA) (xs:=n.up) k ?_;rintro hi2 g2 o2 a9 c9 F9 eb l9;rw [ea,eb];refine go ?_;rw [show ((qd (n.down.take k):Nat):Int)+(n.down[k].length:Int)=((qd (n.down.take (k+1)):Nat):Int) by omega,show ((qd (n.up.take k):Nat):Int)+(n.up[k].length:Int)=((qd (n.up.take (k+1)):Nat):Int) by omega];exact DS
 ·have hk3:k=n.down.length:=EZ
  subst hk3;rw [bl,show n.up.take n.down.length=n.up by rw [<-qu,bl]];refine go ?_;refine ret () trivial ?_;unfold Qi;rw [g];rfl
theorem Apa (n:Du) (v:Value) (F:aq):FV 196 [v] [.isv Pb v n F] (.tuple #[.bool (Gb n).1,.bool (Gb n).2]):=by
 refine enter func196 rfl ntmps196 fun w0=>?_;refine Fm ?_;rintro a1 c1 F1 a2 c2 F2 a3 c3 F3 a4 c4 F4 a5 c5 F5 a6 c6 F6 a7 c7 F7 rfl l1 l2 l3 l4 l5 l6 l7;refine go ?_;intros;refine Bf (Aak n _ F) fun _ _=>?_;cases g:At n
 ·refine go ?_;refine ret () trivial ?_;unfold Gb;rw [g];rfl
 obtain ⟨-, -,e3,e4⟩:=Hz g;obtain ⟨q2,q8,qn,qu,qe,qt⟩:=M4 g;have hG:=Ax.1 g;obtain ⟨-,qr, -, -⟩:=Bg.1 hG.l;have hS:=J3 hG.s;have hW:=Ds.1 (En.1 hG.s).1;have hS1:=hS.l;have hb1:=N3 (fun q hq=>(C7 (e3 q hq)).1) n.down.length;have hb2:=N3 (fun q hq=>(C7 (e4 q hq)).1) n.up.length;rw [bl] at hb1 hb2;refine Io ?_;intros;refine Ir n.Al (a1:=a1) ?_;refine go ?_;refine Bf (Anl n.Al _ _ EZ) fun z _=>?_;refine Av (E:=Bc) (xs:=Tm n.Al.Ac) fun Fl=>?_;have hlv:=Yf n.Al.Ac n.Al.Ac.length;rw [show Po n.Al.Ac n.Al.Ac.length=Tm n.Al.Ac from rfl] at hlv;refine go ?_
 refine Em [1,2,3,12,13] (fun k:Nat=>[(14,aa (k:Nat))]) (fun k=>k<=(Tm n.Al.Ac).length/\∀x∈(Tm n.Al.Ac).take k,Acd n x.toNat=true) (fun k=>(Tm n.Al.Ac).length - k) 0 ⟨aG _,FB⟩ fun k hk=>?_;obtain ⟨hk,hal⟩:=hk;refine go ?_;refine A4 rfl (fun h3=>?_) (fun h3=>?_)
 ·have hk3:k < (Tm n.Al.Ac).length:=EZ
  obtain ⟨i,hi8,hie,hlf⟩:=Ak6 hk3;have h5:i < n.Ad.length:=EZ
  refine Hy (xs:=Tm n.Al.Ac) k ?_;rintro hi b o e;rw [e,hie];refine I8 (xs:=n.Ad) i ?_;rintro h5b b5 o5 a9 c9 F9 a10 c10 F10 e5 l9 l10;rw [e5];refine Ep n.Ad[i] ?_;cases hs:Aep n.Ad[i]
  ·refine Io ?_;intros;refine Ar [0,8] [] ?_;refine dt 0 ?_;refine dN 1 ?_;refine oC ?_;refine Bf (Adq n.Ad[i] _ _) fun _ _=>?_;rw [hs];refine dk ?_;refine Dh 2 3 ?_;refine ds 4 ?_;refine ds 5 ?_;refine ds 6 ?_;refine ds 7 ?_;refine ds 8 ?_;refine ds 9 ?_;refine ds 10 ?_;refine ds 11 ?_;refine dt 12 ?_;refine dd ?_;refine go ?_;refine ret () trivial ?_;unfold Gb;rw [g];rw [aJ rfl,Ahh hi8 hlf (by unfold Acd;rw [Gp h5,hs];rfl)];rfl
  ·refine Io ?_;intros;refine Ar [0,8] [] ?_;refine dt 0 ?_;refine dN 1 ?_;refine oC ?_;refine Bf (Adq n.Ad[i] _ _) fun _ _=>?_;rw [hs];refine dk ?_;refine Dh 2 3 ?_;refine C5 4 ?_;refine C5 5 ?_;refine C5 6 ?_;refine C5 7 ?_;refine C5 8 ?_;refine C5 9 ?_;refine d1g 10 ?_;apply On.h;refine oC ?_;refine cb (fun w s=>In n.Ab.Aa.Am n.Ab.Aa.size _ n.Ab.Aa.Ak.length _ w hW.1.1 hW.1.2 EZ) ?_;refine dk ?_;refine C5 11 ?_;refine dt 12 ?_;refine dd ?_;refine go ?_;refine A4 rfl (fun h6=>?_) (fun h6=>?_)
   ·refine go ?_;refine ret () trivial ?_;unfold Gb;rw [g];rw [aJ rfl,Ahh hi8 hlf (by unfold Acd;rw [Gp h5,hs,ay h6];rfl)];rfl
   ·refine go ?_;rw [show ((k:Nat):Int)+1=((k+1:Nat):Int) by omega];refine Ca (k+1) ⟨hk3,fun x hx=>?_⟩ EZ;rw [aO hk3] at hx;rcases aK.1 hx with hx|hx
    ·exact hal x hx
    ·rw [aM.1 hx,hie];show Acd n i=true;unfold Acd;rw [Gp h5,hs,av (dp.1 h6)];rfl
 ·refine Io ?_;intros;refine Ar [2] [] ?_;refine Df 0 1 3 4 ?_;refine dN 2 ?_;refine oC ?_;refine Bf (U0 n.down _ _ _ EZ fun q hq=>(C7 (e3 q hq)).1) fun _ _=>?_;refine dk ?_;refine dN 5 ?_;refine oC ?_;refine Bf (U0 n.up _ _ _ EZ fun q hq=>(C7 (e4 q hq)).1) fun _ _=>?_;refine dk ?_;refine Df 6 7 8 9 ?_;refine dd ?_;have hst:Yy n=decide (((qd n.down:Nat):Int)+((qd n.up:Nat):Int)=0):=by
   by_cases h0:Xm n=0
   ·rw [Aor h0 fun j hj hl=>hal ((j:Nat):Int) (by rw [aV EZ];exact Ax1 hj hl)];exact (av JT).symm
   ·rw [Azn h0];exact (ay JT).symm
  rw [<-hst];refine go ?_;refine ret () trivial ?_;unfold Gb;rw [g];rfl
theorem Aa2 {k:Nat} (h:k<=999999):(bz (Lib.itoa ((k:Nat):Int))).size<=6:=by
 rw [Gk,Nc (dB k),Int.natAbs_natCast];exact Dv 5 k IC
theorem Bca (n:Du) (line:au) (v:Value) (F FT:aq) (g:At n=true):Fn prog 114 [v,af line] [.isv Pb v n F,E4 FT] [] (fun (u:au × Bool)=>Kr n line.data.toList=if u.2 then some u.1 else none) (fun u=>.tuple #[af u.1,.bool u.2]) (fun _=>[]):=by
 refine enter func114 rfl ntmps114 fun w0=>?_;refine Fm ?_;rintro a1 c1 F1 a2 c2 F2 a3 c3 F3 a4 c4 F4 a5 c5 F5 a6 c6 F6 a7 c7 F7 rfl l1 l2 l3 l4 l5 l6 l7;obtain ⟨e1,e2,e3,e4⟩:=Hz g;obtain ⟨q2,q8,qn,qu,qe,qt⟩:=M4 g;have hG:=Ax.1 g;obtain ⟨-,qr, -, -⟩:=Bg.1 hG.l;have hS:=J3 hG.s;have hW:=Ds.1 (En.1 hG.s).1;have hS1:=hS.l;have hb1:=N3 (fun q hq=>(C7 (e3 q hq)).1) n.down.length;have hb2:=N3 (fun q hq=>(C7 (e4 q hq)).1) n.up.length;rw [bl] at hb1 hb2;have z1:=Aa2 (k:=qd n.down) EZ;have z2:=Aa2 (k:=qd n.up) EZ;refine go ?_;intros;refine A4 rfl (fun h1=>?_) (fun h1=>?_)
 ·refine go ?_;refine cb (fun w s=>In n.Ab.Aa.Am n.Ab.Aa.size _ n.Ab.Aa.Ak.length _ w hW.1.1 hW.1.2 EZ) ?_;have hld:=Aa5 n.Ab.Aa;unfold Li at hld;refine go ?_;refine cb (fun w st=>S0 (Cc n.Ab.Aa.Am n.Ab.Aa.Ak.length) EZ EZ FT w (st.get (p:=E4 FT) FB)) ?_;refine go ?_;refine ret (⟨_,true⟩:au × Bool) ?_ rfl;show Kr n _=some _;unfold Kr;rw [aJ (show line.data.toList=Abs from Dx.1 h1)];rfl
 refine go ?_;refine A4 rfl (fun h2=>?_) (fun h2=>?_)
 ·refine Io ?_;intros;refine Ar [0] [] ?_;refine Df 0 1 5 6 ?_;refine dN 2 ?_;refine oC ?_;refine Bf (U0 n.down _ _ _ EZ fun q hq=>(C7 (e3 q hq)).1) fun _ _=>?_;refine dk ?_;refine dN 3 ?_;refine oC ?_;refine cb (fun w st=>S0 ((qd n.down:Nat):Int) EZ EZ FT w (st.get (p:=E4 FT) FB)) ?_;refine dk ?_;refine dt 4 ?_ (hy:=Hi rfl rfl (by show _+1<=9223372036854775807;omega));refine dN 7 ?_;refine oC ?_;refine Bf (U0 n.up _ _ _ EZ fun q hq=>(C7 (e4 q hq)).1) fun _ _=>?_;refine dk ?_;refine dN 8 ?_;refine oC ?_
  refine cb (fun w st=>S0 ((qd n.up:Nat):Int) EZ EZ FT w (st.get (p:=E4 FT) FB)) ?_;refine dk ?_;refine dt 9 ?_ (hy:=Hi rfl rfl (by rw [aE];show _+1+_<=9223372036854775807;omega));refine Dh 10 11 ?_;refine dd ?_;refine go ?_;refine ret (⟨_,true⟩:au × Bool) ?_ rfl;show Kr n _=some _;unfold Kr;rw [aC (show ¬line.data.toList=Abs from fun e=>h1 (Dx.2 e)),aJ (show line.data.toList=V2 from Dx.1 h2)]
 refine go ?_;refine A4 rfl (fun h3=>?_) (fun h3=>?_)
 ·refine go ?_;have hP:=fun v=>Apa n v F;simp only [show Gb n=(Yy n,true) by unfold Gb;rw [g];rfl] at hP;refine Bf (hP _) fun _ _=>?_;have e:Kr n line.data.toList=some (if Yy n then bz Bc0 else bz wNo):=by
   unfold Kr;rw [aC (show ¬line.data.toList=Abs from fun e=>h1 (Dx.2 e)),aC (show ¬line.data.toList=V2 from fun e=>h2 (Dx.2 e)),aJ (show line.data.toList=Xx from Dx.1 h3)]
  cases hst:Yy n
  ·refine go ?_;refine ret (⟨bz wNo,true⟩:au × Bool) ?_ rfl;rw [e,hst];rfl
  ·refine go ?_;refine ret (⟨bz Bc0,true⟩:au × Bool) ?_ rfl;rw [e,hst];rfl
 ·refine go ?_;refine ret (⟨⟨#[]⟩,false⟩:au × Bool) ?_ rfl;unfold Kr;rw [aC (show ¬line.data.toList=Abs from fun e=>h1 (Dx.2 e)),aC (show ¬line.data.toList=V2 from fun e=>h2 (Dx.2 e)),aC (show ¬line.data.toList=Xx from fun e=>h3 (Dx.2 e))];rfl
theorem Uf {n:Du} {w:Bs} {l:ar} (h:E8 1 (l.getD 0 0) ((n.Al.Ac.length:Int) - 1)=true):Ju n w l =
  if w=Aho/\l.length=1/\Tb n (l.getD 0 0)=true then some (Uv ((Px n (l.getD 0 0).toNat).Ao.map (·.Ae)))
  else if w=Ahq/\l.length=1/\Tb n (l.getD 0 0)=true/\(Px n (l.getD 0 0).toNat).Be=true then some (Tw (Px n (l.getD 0 0).toNat).Aa)
  else if w=Na/\l.length=2/\Tb n (l.getD 0 0)=false then (if Bz (l.getD 1 0) then some (Uv (K0 (Pk n (l.getD 0 0).toNat) (l.getD 1 0))) else none)
  else none:=by unfold Ju;rw [aJ h]
theorem Air {e:Bh} (he:Ba e=true) (k:Int):(∀f∈(Fh e k).1,0<=f/\f<=99999)/\(Fh e k).1.length<=1000:=by
 unfold Fh
 split
 ·refine ⟨fun f hf=>by have:=Aiq he f hf;omega,?_⟩;unfold K0
  split
  ·rename_i x hx;have:=(Uk he).2.2 x (cg hx);dsimp only;omega
  ·exact aG _
 ·exact ⟨fun f hf=>(by cases hf),aG _⟩
theorem Ba3 (n:Du) (w:au) (l:ar) (v:Value) (F:aq) (a:aj) (c:Nat) (Fl FT:aq) (g:At n=true) (hl0:0 < l.length):Fn prog 116 [v,af w,ab a l.length c] [.isv Pb v n F,.sl Bc (ab a l.length c) l Fl,E4 FT] [] (fun (u:au × Bool)=>Ju n w.data.toList l=if u.2 then some u.1 else none) (fun u=>.tuple #[af u.1,.bool u.2]) (fun _=>[]):=by
 refine enter func116 rfl ntmps116 fun w0=>?_;refine Fm ?_;rintro a1 c1 F1 a2 c2 F2 a3 c3 F3 a4 c4 F4 a5 c5 F5 a6 c6 F6 a7 c7 F7 rfl l1 l2 l3 l4 l5 l6 l7;obtain ⟨e1,e2,e3,e4⟩:=Hz g;obtain ⟨q2,q8,qn,qu,qe,qt⟩:=M4 g;have hG:=Ax.1 g;obtain ⟨-,qr, -, -⟩:=Bg.1 hG.l;have hS:=J3 hG.s;have hW:=Ds.1 (En.1 hG.s).1;have hS1:=hS.l;have hb1:=N3 (fun q hq=>(C7 (e3 q hq)).1) n.down.length;have hb2:=N3 (fun q hq=>(C7 (e4 q hq)).1) n.up.length;rw [bl] at hb1 hb2;refine Ir n.Al (a1:=a1) ?_;refine Hy (xs:=l) 0 ?_;rintro hi0 b0 o0 rfl;have eg:l.getD 0 0=l[0]:=Pl hi0 0;refine go ?_;intros
 refine ce (fun w s=>H1 _ _ _ _) ?_;cases hb:E8 1 l[0] ((n.Al.Ac.length:Int) - 1)
 ·refine go ?_;refine ret (⟨⟨#[]⟩,false⟩:au × Bool) ?_ rfl;unfold Ju;rw [eg,hb];rfl
 have hb0:=hb;unfold E8 at hb0;simp only [aw,aF] at hb0;obtain ⟨i,hi⟩:∃i:Nat,l[0]=(i:Int):=⟨l[0].toNat,EZ⟩;have hi8:i < n.Al.Ac.length:=EZ
 have h5:i < n.Ad.length:=EZ
 have hie:i < n.Af.length:=EZ
 rw [<-eg] at hb;have eN:l.getD 0 0=(i:Int):=by rw [eg,hi]
 rw [hi];refine go ?_;refine Bf (W9 n.Al (i:Int) _ F1) fun _ _=>?_;generalize hlf:D5 n.Al.Ac (i:Int)=B;have hLN:Tb n (l.getD 0 0)=B:=by rw [eN];exact hlf
 repeat (apply wO;apply oc;rfl;exact ydE)
 apply U5;apply Ys;apply Og;apply Tq;apply Og;have hR:=Ej.1 (e2 _ (aB h5));have er:Px n (l.getD 0 0).toNat=n.Ad[i]:=by rw [eN,ba];exact Gp h5
 refine D0 [1,2,3,6,7,8,9] [0,1,2,3,4,5,6,7,8,9,10,11,12] (fun b:Bool=>[(29,.bool b)]) (fun _=>[]) (fun b=>b=decide (w=⟨#[97,119,97,105,116]⟩/\l.length=1/\B=true)) ?_ fun b hb9=>?_
 ·by_cases hw:w=⟨#[97,119,97,105,116]⟩
  ·refine go ?_;rw [show decide (w=⟨#[97,119,97,105,116]⟩)=true from av hw];refine go ?_;by_cases hn:l.length=1
   ·rw [show decide ((l.length:Int)=1)=true from av EZ];refine go ?_;refine Bk B ?_;cases B <;> simp [hw,hn]
   ·rw [show decide ((l.length:Int)=1)=false from ay EZ];refine go ?_;refine Bk false ?_;simp [hn]
  ·refine go ?_;rw [show decide (w=⟨#[97,119,97,105,116]⟩)=false from ay hw];refine go ?_;refine Bk false ?_;simp [hw]
 subst hb9;by_cases hc1:w=⟨#[97,119,97,105,116]⟩/\l.length=1/\B=true
 ·rw [av hc1];refine I8 (xs:=n.Ad) i ?_;rintro h5b b5 o5 a9 c9 F9 a10 c10 F10 e5 l9 l10;rw [e5];refine Ep n.Ad[i] ?_;refine go ?_;refine Bf (Abu n.Ad[i] _ _) fun z _=>?_;obtain ⟨ra,rc,rF⟩:=z;dsimp only;have hP:=Y6 (n.Ad[i].Ao.map (·.Ae)) ra rc;have ea:E6 n.Ad[i]=(n.Ad[i].Ao.map (·.Ae),true):=by unfold E6;rw [e2 _ (aB h5)];rfl
  rw [ea];dsimp only;refine Av (E:=Bc) (xs:=n.Ad[i].Ao.map (·.Ae)) fun F8=>?_;refine go ?_;refine cf (hP F8 FT (fun f hf=>by
   obtain ⟨q,hq,rfl⟩:=bL.1 hf;have:=A9.1 (Xp hR hq).1;omega) (by rw [bf];have:=(Dj.1 hR.q).2.1;omega)) fun _ _=>?_
  refine Ot ?_;refine go ?_;refine ret (⟨_,true⟩:au × Bool) ?_ rfl;rw [Uf hb,aJ ⟨Dx.1 hc1.1,hc1.2.1,hLN.trans hc1.2.2⟩,er];rfl
 rw [ay hc1];apply Ys;apply c_f;rfl;apply Og;refine D0 [1,2,3,6,7,8,9] [0,1,2,3,4,5,6,7,8,9,10,11,12] (fun b:Bool=>[(51,.bool b)]) (fun _=>[]) (fun b=>b=decide (w=⟨#[115,108,111,116,115]⟩/\l.length=1/\B=true/\n.Ad[i].Be=true)) ?_ fun b hb9=>?_
 ·refine I8 (xs:=n.Ad) i ?_;rintro h5b b5 o5 a9 c9 F9 a10 c10 F10 e5 l9 l10;rw [e5];by_cases hw:w=⟨#[115,108,111,116,115]⟩
  ·refine go ?_;rw [show decide (w=⟨#[115,108,111,116,115]⟩)=true from av hw];refine go ?_;by_cases hn:l.length=1
   ·rw [show decide ((l.length:Int)=1)=true from av EZ];refine go ?_;cases B
    ·refine go ?_;refine Bk false ?_;simp
    ·refine go ?_;refine Bk n.Ad[i].Be ?_;cases n.Ad[i].Be <;> simp [hw,hn]
   ·rw [show decide ((l.length:Int)=1)=false from ay EZ];refine go ?_;refine Bk false ?_;simp [hn]
  ·refine go ?_;rw [show decide (w=⟨#[115,108,111,116,115]⟩)=false from ay hw];refine go ?_;refine Bk false ?_;simp [hw]
 subst hb9;by_cases hc2:w=⟨#[115,108,111,116,115]⟩/\l.length=1/\B=true/\n.Ad[i].Be=true
 ·rw [av hc2];refine I8 (xs:=n.Ad) i ?_;rintro h5b b5 o5 a9 c9 F9 a10 c10 F10 e5 l9 l10;rw [e5];refine Cb n.Ad[i].Aa (a1:=a9) ?_;refine go ?_;refine Bf (Ad7 n.Ad[i].Aa _ F9 FT hR.w) fun _ _=>?_;refine go ?_;refine ret (⟨_,true⟩:au × Bool) ?_ rfl;rw [Uf hb,aC (fun e=>hc1 ⟨Dx.2 e.1,e.2.1,hLN.symm.trans e.2.2⟩),aJ ⟨Dx.1 hc2.1,hc2.2.1,hLN.trans hc2.2.2.1,by rw [er];exact hc2.2.2.2⟩,er];rfl
 rw [ay hc2];apply Ys;apply c_f;rfl;apply Og;refine D0 [2,3,6,7,8] [0,1,2,3,4,5,6,7,8,9,10,11,12] (fun b:Bool=>[(77,.bool b)]) (fun _=>[]) (fun b=>b=decide (w=⟨#[102,97,99,101,115]⟩/\l.length=2/\B=false)) ?_ fun b hb9=>?_
 ·by_cases hw:w=⟨#[102,97,99,101,115]⟩
  ·refine go ?_;rw [show decide (w=⟨#[102,97,99,101,115]⟩)=true from av hw];refine go ?_;by_cases hn:l.length=2
   ·rw [show decide ((l.length:Int)=2)=true from av EZ];refine go ?_;refine Bk (!B) ?_;cases B <;> simp [hw,hn]
   ·rw [show decide ((l.length:Int)=2)=false from ay EZ];refine go ?_;refine Bk false ?_;simp [hn]
  ·refine go ?_;rw [show decide (w=⟨#[102,97,99,101,115]⟩)=false from ay hw];refine go ?_;refine Bk false ?_;simp [hw]
 subst hb9;by_cases hc3:w=⟨#[102,97,99,101,115]⟩/\l.length=2/\B=false
 rotate_left
 ·rw [ay hc3];refine go ?_;refine ret (⟨⟨#[]⟩,false⟩:au × Bool) ?_ rfl;rw [Uf hb,aC (fun e=>hc1 ⟨Dx.2 e.1,e.2.1,hLN.symm.trans e.2.2⟩),aC (fun e=>hc2 ⟨Dx.2 e.1,e.2.1,hLN.symm.trans e.2.2.1,by rw [<-er];exact e.2.2.2⟩),aC (fun e=>hc3 ⟨Dx.2 e.1,e.2.1,hLN.symm.trans e.2.2⟩)];rfl
 rw [av hc3];have hl1:1 < l.length:=EZ
 have hfn:=Air (e1 _ (aB hie)) l[1];refine Hy (xs:=l) 1 ?_;rintro hi1 b1 o1 ea1;cases ea1;refine P6 (xs:=n.Af) i ?_;rintro h5b b5 o5 a9 c9 F9 e5 l9;rw [e5];refine Gc n.Af[i] ?_;refine Io ?_;intros;refine Ar [1,3,4] [9,10,11,12,13] ?_;refine Df 0 1 2 3 ?_;refine Df 4 5 6 7 ?_;refine dN 8 ?_;refine oC ?_;refine Bf (Ao9 n.Af[i] l[1] _ _) fun z _=>?_;obtain ⟨fa,fc,fF⟩:=z;dsimp only;refine Av (E:=Bc) (xs:=(Fh n.Af[i] l[1]).1) fun F8=>?_;refine dk ?_;refine Q0 9 ?_;refine Q0 10 ?_;refine Q0 11 ?_;refine Q0 12 ?_;refine Q0 13 ?_;refine dd ?_;refine go ?_
 refine Bf (Y6 (Fh n.Af[i] l[1]).1 fa fc F8 FT hfn.1 hfn.2) fun _ _=>?_;refine go ?_;refine ret (⟨_,(Fh n.Af[i] l[1]).2⟩:au × Bool) ?_ rfl;rw [Uf hb,aC (fun e=>hc1 ⟨Dx.2 e.1,e.2.1,hLN.symm.trans e.2.2⟩),aC (fun e=>hc2 ⟨Dx.2 e.1,e.2.1,hLN.symm.trans e.2.2.1,by rw [<-er];exact e.2.2.2⟩),aJ ⟨Dx.1 hc3.1,hc3.2.1,hLN.trans hc3.2.2⟩,Pl hl1,eN,ba,Jq hie];unfold Fh;rw [e1 _ (aB hie),bV];cases Bz l[1] <;> rfl
structure NL where
 a1:aj
 c1:Nat
 a2:aj
 c2:Nat
 a3:aj
 c3:Nat
 a4:aj
 c4:Nat
 a5:aj
 c5:Nat
 a6:aj
 c6:Nat
 a7:aj
 c7:Nat
structure RuS where
 z:NL
 t:au
 b:Bool
 F:aq
theorem Bho {p q r:Pc} {w:World} (h:p.P w) (h2:q.P w) (h3:r.P w):Ob [p,q,r] w:=fun x hx=>by
 simp at hx;rcases hx with rfl|rfl|rfl
 ·exact h
 ·exact h2
 ·exact h3
def T8 (line:au):ai:=(Dm 32 line.data.toList).map bz
theorem Ake (line:au):wsL (T8 line)=Fs line:=by
 unfold wsL T8 Fs;rw [eK];exact (dR fun x _=>I1 x).trans (fP _)
theorem Akd (line:au):0 < (T8 line).length/\(T8 line).length<=line.size+1/\∀t∈T8 line,t.size<=line.size:=by
 obtain ⟨r,hr, -⟩:=O9 32 line.data.toList;obtain ⟨h1,h2⟩:=Avm line.data.toList;rw [Cp] at h1;unfold T8;rw [bf];refine ⟨by rw [hr];simp,h1,fun t ht=>?_⟩;obtain ⟨x,hx,rfl⟩:=bL.1 ht;have:=h2 x hx;rw [Cp] at this;rw [Gk];exact this
theorem Arm {n:Du} {s:Jf} (hg:At n=true) (hs:Dq s=true):(Uy (Bm n s)).length<=900000000000/\∀e∈Uy (Bm n s),e.size<=100:=by
 cases e:Bm n s with
 | none=>exact ⟨aG _,fun e he=>by cases he⟩
 | some y =>
  have h1:=Aoq hg hs e;refine ⟨by show y.2.length<=_;omega,fun z hz=>?_⟩;have:=(X4 (Aqw hg hs e z hz)).2;omega
theorem Abg {n:Du} {line:au} {s:Jf} (h:I3 (Fs line)=some s):Om n line=J4 n s:=by unfold Om;rw [h]
theorem Ay4 {n:Du} {line:au} {s:Jf} (h:I3 (Fs line)=some s) (hs:Dq s=true):Hl n line=Hq n (Bm n s)/\Om n line=if (Bm n s).isSome then some (Hl n line,if s.Cq=2\/s.Cq=4 then Wz (Uy (Bm n s)) else bz wOk) else none:=by
 have e:Om n line=(Bm n s).map fun y=>(y.1,if s.Cq=2\/s.Cq=4 then Wz y.2 else bz wOk):=by rw [Abg h];unfold J4;rw [aJ hs]
 unfold Hl;rw [e];cases Bm n s with
 | none=>exact ⟨rfl,rfl⟩
 | some y=>exact ⟨rfl,rfl⟩
theorem Abf {n:Du} {line:au} {r:Option au} (h:Om n line=Pu n r):Hl n line=n:=by
 unfold Hl;rw [h];cases r <;> rfl
theorem Bgn (n:Du) (line:au) (g:Nat) (a1:aj) (c1:Nat) (a2:aj) (c2:Nat) (a3:aj) (c3:Nat) (a4:aj) (c4:Nat) (a5:aj) (c5:Nat) (a6:aj) (c6:Nat) (a7:aj) (c7:Nat) (F FT:aq) (hg:At n=true) (hl:line.size<=900):Fn prog 57 [Ga g 0 0,af line] [E4 FT] [.row g 37 0 [] [ab a1 n.Al.Ac.length c1,aa n.Ab.Aa.Am,aa n.Ab.Aa.size,ab a2 n.Ab.Aa.Ak.length c2,aa n.Ab.Ai,aa n.Ab.quiet,ab a3 n.Ab.holds.length c3,ab a4 n.Af.length c4,ab a5 n.Ad.length c5,ab a6 n.down.length c6,ab a7 n.up.length c7] [],.own Aam (.agg #[ab a1 n.Al.Ac.length c1,aa n.Ab.Aa.Am,aa n.Ab.Aa.size,ab a2 n.Ab.Aa.Ak.length c2,aa n.Ab.Ai,aa n.Ab.quiet,ab a3 n.Ab.holds.length c3,ab a4 n.Af.length c4,ab a5 n.Ad.length c5,ab a6 n.down.length c6,ab a7 n.up.length c7]) n F] (fun (u:RuS)=>Om n line=if u.b then some (Hl n line,u.t) else none) (fun u=>.tuple #[af u.t,.bool u.b]) (fun u=>[.row g 37 0 [] [.slice u.z.a1 (Hl n line).Al.Ac.length u.z.c1,aa (Hl n line).Ab.Aa.Am,aa (Hl n line).Ab.Aa.size,.slice u.z.a2 (Hl n line).Ab.Aa.Ak.length u.z.c2,aa (Hl n line).Ab.Ai,aa (Hl n line).Ab.quiet,.slice u.z.a3 (Hl n line).Ab.holds.length u.z.c3,.slice u.z.a4 (Hl n line).Af.length u.z.c4,.slice u.z.a5 (Hl n line).Ad.length u.z.c5,.slice u.z.a6 (Hl n line).down.length u.z.c6,.slice u.z.a7 (Hl n line).up.length u.z.c7] [],.own Aam (.agg #[.slice u.z.a1 (Hl n line).Al.Ac.length u.z.c1,aa (Hl n line).Ab.Aa.Am,aa (Hl n line).Ab.Aa.size,.slice u.z.a2 (Hl n line).Ab.Aa.Ak.length u.z.c2,aa (Hl n line).Ab.Ai,aa (Hl n line).Ab.quiet,.slice u.z.a3 (Hl n line).Ab.holds.length u.z.c3,.slice u.z.a4 (Hl n line).Af.length u.z.c4,.slice u.z.a5 (Hl n line).Ad.length u.z.c5,.slice u.z.a6 (Hl n line).down.length u.z.c6,.slice u.z.a7 (Hl n line).up.length u.z.c7]) (Hl n line) u.F]):=by
 obtain ⟨hw0,hwl,hws⟩:=Akd line;refine enter func57 rfl ntmps57 fun w0=>?_;refine go ?_;refine cn (fun w st=>Ase line ⟨#[32]⟩ EZ FA FT w (st.get (p:=E4 FT) FB)) fun a0 c0 F0=>?_;rw [show Lib.splitB ⟨#[32]⟩ 0 (Lib.countB line ⟨#[32]⟩) line=T8 line from U3 32 line];generalize hwd:T8 line=ws at *;have hWL:wsL ws=Fs line:=by rw [<-hwd];exact Ake line
 refine Av (E:=A8) (xs:=ws) fun F1=>?_;refine go ?_;refine Bf (Azl ws hw0 a0 c0 F1 FT (fun t ht=>by have:=hws t ht;omega)) fun u hu=>?_;obtain ⟨s,ok⟩:=u;obtain ⟨hs,hst⟩:=hu;dsimp only at hs hst ⊢;rw [hWL] at hst;cases ok
 rotate_left
 ·replace hst:I3 (Fs line)=some s:=hst;refine go ?_;intros;refine Bf (Ahu s hs) fun _ _=>?_;cases hk:Dq s
  ·have eN:Om n line=none:=by rw [Abg hst];unfold J4;rw [hk];rfl
   have eM:Hl n line=n:=Abf (r:=none) eN;rw [eM,eN];refine go ?_;refine ret (⟨⟨a1,c1,a2,c2,a3,c3,a4,c4,a5,c5,a6,c6,a7,c7⟩,⟨#[]⟩,false,F⟩:RuS) ?_ rfl;rfl
  obtain ⟨eM,eN⟩:=Ay4 (n:=n) hst hk;obtain ⟨hf1,hf2⟩:=Arm hg hk;rw [eN,eM];refine Ago (x:=n) ?_;rintro x1 w1 K1 x2 w2 K2 x3 w3 K3 x4 w4 K4 x5 w5 K5 x6 w6 K6 x7 w7 K7 ev - - - - - - -;simp only [Value.agg.injEq,Array.mk.injEq,List.cons.injEq,Value.slice.injEq,Value.int.injEq,cQ,cR] at ev;obtain ⟨⟨rfl,rfl⟩,⟨rfl,rfl⟩,⟨rfl,rfl⟩,⟨rfl,rfl⟩,⟨rfl,rfl⟩,⟨rfl,rfl⟩,rfl,rfl⟩:=ev;refine go ?_;refine Bf (Alo n s g a1 c1 K1 a2 c2 K2 a3 c3 K3 a4 c4 K4 a5 c5 K5 a6 c6 K6 a7 c7 K7 FT hg hk hs) fun y _=>?_;refine Av (E:=A8) (xs:=Uy (Bm n s)) fun F5=>?_;refine P7 (Hq n (Bm n s)) ?_;by_cases k2:s.Cq=2
  ·rw [aJ (show s.Cq=2\/s.Cq=4 from .inl k2)];refine go ?_;rw [show decide (s.Cq=2)=true from av k2];exact CG
  by_cases k4:s.Cq=4
  ·rw [aJ (show s.Cq=2\/s.Cq=4 from .inr k4)];refine go ?_;rw [show decide (s.Cq=2)=false from ay k2];refine go ?_;refine A4 rfl (fun k5=>?_) (fun k5=>?_)
   rotate_left
   ·exact absurd k4 k5
   exact CG
  ·rw [aC (show ¬(s.Cq=2\/s.Cq=4) from fun h=>h.elim k2 k4)];refine go ?_;rw [show decide (s.Cq=2)=false from ay k2];refine go ?_;refine A4 rfl (fun k5=>?_) (fun k5=>?_)
   ·exact absurd k5 k4
   refine go ?_;refine ret (⟨⟨y.1.a1,y.1.c1,y.1.a2,y.1.c2,y.1.a3,y.1.c3,y.1.a4,y.1.c4,y.1.a5,y.1.c5,y.1.a6,y.1.c6,y.1.a7,y.1.c7⟩,bz wOk,_,_⟩:RuS) ?_ rfl;rfl
 replace hst:I3 (Fs line)=none:=hst;refine go ?_;intros;refine A4 rfl (fun h1=>?_) (fun h1=>?_)
 ·have eN:Om n line=some ((P9 n).1,Wz (P9 n).2):=by unfold Om;rw [hst];dsimp only;rw [aJ (show line.data.toList=V1 from Dx.1 h1)]
  have eM:Hl n line=(P9 n).1:=by unfold Hl;rw [eN]
  rw [eN,eM];have hf1:=Arj hg;refine Ago (x:=n) ?_;rintro x1 w1 K1 x2 w2 K2 x3 w3 K3 x4 w4 K4 x5 w5 K5 x6 w6 K6 x7 w7 K7 ev - - - - - - -;simp only [Value.agg.injEq,Array.mk.injEq,List.cons.injEq,Value.slice.injEq,Value.int.injEq,cQ,cR] at ev;obtain ⟨⟨rfl,rfl⟩,⟨rfl,rfl⟩,⟨rfl,rfl⟩,⟨rfl,rfl⟩,⟨rfl,rfl⟩,⟨rfl,rfl⟩,rfl,rfl⟩:=ev;refine go ?_;refine Bf (Av4 n g a1 c1 K1 a2 c2 K2 a3 c3 K3 a4 c4 K4 a5 c5 K5 a6 c6 K6 a7 c7 K7 FT hg) fun y _=>?_;refine Av (E:=A8) (xs:=(P9 n).2) fun F5=>?_;refine P7 (P9 n).1 ?_;refine go ?_
  refine Bf (Ve (P9 n).2 _ _ F5 EZ (fun e he=>by have:=(X4 (Bd7 hg e he)).2;omega)) fun _ _=>?_;refine go ?_;refine ret (⟨⟨y.1.a1,y.1.c1,y.1.a2,y.1.c2,y.1.a3,y.1.c3,y.1.a4,y.1.c4,y.1.a5,y.1.c5,y.1.a6,y.1.c6,y.1.a7,y.1.c7⟩,_,true,_⟩:RuS) ?_ rfl;rfl
 have hWlen:(Fs line).length=ws.length:=by rw [<-hWL];unfold wsL;rw [bf]
 refine go ?_;refine A4 rfl (fun h2=>?_) (fun h2=>?_)
 ·have eN:Om n line=Pu n (Kr n line.data.toList):=by unfold Om;rw [hst];dsimp only;rw [aC (show ¬line.data.toList=V1 from fun e=>h1 (Dx.2 e)),aJ EZ]
  have eM:=Abf eN;rw [eM,eN];refine go ?_;refine cfr (fun w st=>by obtain ⟨Fq,hq⟩:=st.rO Xy (v:=.agg #[ab a1 n.Al.Ac.length c1,aa n.Ab.Aa.Am,aa n.Ab.Aa.size,ab a2 n.Ab.Aa.Ak.length c2,aa n.Ab.Ai,aa n.Ab.quiet,ab a3 n.Ab.holds.length c3,ab a4 n.Af.length c4,ab a5 n.Ad.length c5,ab a6 n.down.length c6,ab a7 n.up.length c7]) (x:=n) (F:=F) Bl;exact ⟨[.isv Pb _ n Fq,E4 FT],Sz hq (st.get (p:=E4 FT) FD),rfl,Bca n line _ Fq FT hg⟩) (fun u hu=>?_);refine Ot ?_;refine go ?_
  refine ret (⟨⟨a1,c1,a2,c2,a3,c3,a4,c4,a5,c5,a6,c6,a7,c7⟩,u.1,u.2,F⟩:RuS) ?_ rfl;show Pu n _=if u.2 then some (n,u.1) else none
  rw [hu];cases u.2 <;> rfl
 have hdr:((Fs line).drop 1).map bz=ws.drop 1:=by
  rw [<-hWL];unfold wsL;rw [<-List.map_drop,eK];exact (dR fun x _=>Wv x).trans (fP _)
 have eN:Om n line=if Q6 (ws.drop 1) then Pu n (Ju n (ws[0]).data.toList (J0 (ws.drop 1))) else none:=by
  unfold Om;rw [hst];dsimp only;rw [aC (show ¬line.data.toList=V1 from fun e=>h1 (Dx.2 e)),aC EZ,hdr,<-hWL,show atW (wsL ws) 0=(ws[0]).data.toList from Rr hw0]
 have hdl:(ws.drop 1).length=ws.length - 1:=aX ..;refine go ?_;apply wO;refine sld (E:=A8) (xs:=ws) 1 fun a8 c8 F8=>?_;refine go ?_;refine Bf (An6 (ws.drop 1) a8 c8 F8 FT (fun t ht=>by have:=hws t (bu ht);omega) EZ) fun z _=>?_;cases hp:Q6 (ws.drop 1)
 ·rw [hp] at eN;have eM:=Abf (r:=none) eN;have e2:Rj (ws.drop 1)=([],false):=by unfold Rj;rw [hp];rfl
  rw [e2];refine go ?_;rw [eM,eN];refine ret (⟨⟨a1,c1,a2,c2,a3,c3,a4,c4,a5,c5,a6,c6,a7,c7⟩,⟨#[]⟩,false,F⟩:RuS) ?_ rfl;rfl
 rw [hp,aJ rfl] at eN;have eM:=Abf (r:=Ju n (ws[0]).data.toList (J0 (ws.drop 1))) eN;have e2:Rj (ws.drop 1)=(J0 (ws.drop 1),true):=by unfold Rj;rw [hp];rfl
 rw [eM,eN];have hvl:(J0 (ws.drop 1)).length=ws.length - 1:=by unfold J0;rw [bf,hdl]
 rw [e2];dsimp only;generalize J0 (ws.drop 1)=vs at *;have hvs:0 < vs.length:=EZ
 obtain ⟨lx,la,lc⟩:=z;dsimp only;refine Av (E:=Bc) (xs:=vs) fun F8=>?_;refine Jv (xs:=ws) 0 ?_;rintro hi0 b0 o0 e0 s0;cases e0;refine Io ?_;intros;refine Ar [0,5] [8,9,10,11] ?_;refine Df 0 1 2 3 ?_;refine Dh 4 5 ?_;refine dt 6 ?_;refine dN 7 ?_;refine oC ?_
 refine cfr (fun w st=>by obtain ⟨Fq,hq⟩:=st.rO Xy (v:=.agg #[ab a1 n.Al.Ac.length c1,aa n.Ab.Aa.Am,aa n.Ab.Aa.size,ab a2 n.Ab.Aa.Ak.length c2,aa n.Ab.Ai,aa n.Ab.quiet,ab a3 n.Ab.holds.length c3,ab a4 n.Af.length c4,ab a5 n.Ad.length c5,ab a6 n.down.length c6,ab a7 n.up.length c7]) (x:=n) (F:=F) Bl;exact ⟨[.isv Pb _ n Fq,.sl Bc (ab la vs.length lc) vs F8,E4 FT],Bho hq (st.get (p:=.sl Bc (ab la vs.length lc) vs F8) FD) (st.get (p:=E4 FT) FD),rfl,Ba3 n ws[0] vs _ Fq la lc F8 FT hg hvs⟩) (fun u hu=>?_)
 refine Ot ?_;refine dk ?_;refine Q0 8 ?_;refine Q0 9 ?_;refine Q0 10 ?_;refine Q0 11 ?_;refine dd ?_;refine go ?_;refine ret (⟨⟨a1,c1,a2,c2,a3,c3,a4,c4,a5,c5,a6,c6,a7,c7⟩,u.1,u.2,F⟩:RuS) ?_ rfl;show Pu n _=if u.2 then some (n,u.1) else none
 rw [hu];cases u.2 <;> rfl
structure CoS where
 z:NL
 F:aq
structure Wa where
 cs:am
 F:aq
theorem Avs (x:B4) (v:Value) (F:aq) (hs:P5 x.Bb):Fn prog 24 [v] [.isv Ed v x F] [] (fun (_:CoS)=>True) (fun z=>.agg #[ab z.z.a1 x.Bb.Al.Ac.length z.z.c1,aa x.Bb.Ab.Aa.Am,aa x.Bb.Ab.Aa.size,ab z.z.a2 x.Bb.Ab.Aa.Ak.length z.z.c2,aa x.Bb.Ab.Ai,aa x.Bb.Ab.quiet,ab z.z.a3 x.Bb.Ab.holds.length z.z.c3,ab z.z.a4 x.Bb.Af.length z.z.c4,ab z.z.a5 x.Bb.Ad.length z.z.c5,ab z.z.a6 x.Bb.down.length z.z.c6,ab z.z.a7 x.Bb.up.length z.z.c7,af x.Il.Cg,af x.Il.pending,aa x.Il.count]) (fun z=>[.own Aam (.agg #[ab z.z.a1 x.Bb.Al.Ac.length z.z.c1,aa x.Bb.Ab.Aa.Am,aa x.Bb.Ab.Aa.size,ab z.z.a2 x.Bb.Ab.Aa.Ak.length z.z.c2,aa x.Bb.Ab.Ai,aa x.Bb.Ab.quiet,ab z.z.a3 x.Bb.Ab.holds.length z.z.c3,ab z.z.a4 x.Bb.Af.length z.z.c4,ab z.z.a5 x.Bb.Ad.length z.z.c5,ab z.z.a6 x.Bb.down.length z.z.c6,ab z.z.a7 x.Bb.up.length z.z.c7]) x.Bb z.F]):=by
 refine enter func24 rfl ntmps24 fun w0=>?_;refine Cd ?_;rintro a1 c1 F1 a2 c2 F2 a3 c3 F3 a4 c4 F4 a5 c5 F5 a6 c6 F6 a7 c7 F7 rfl s1 s2 l1 l2 l3 l4 l5 l6 l7;refine Es x.Bb (a1:=a1) (a2:=a2) (a3:=a3) (a4:=a4) (a5:=a5) (a6:=a6) (a7:=a7) ?_;refine Io ?_;intros;refine Ar [1] [6] ?_;refine Df 0 1 3 4 ?_;refine dN 2 ?_;refine oC ?_;refine Bf (Al6 x.Bb _ _ hs) fun z _=>?_;refine P7 x.Bb ?_;refine dk ?_;refine dt 5 ?_;refine dN 6 ?_;refine oS ?_;refine Nm ?_;refine dd ?_;refine go ?_;refine ret (⟨⟨z.a1,z.c1,z.a2,z.c2,z.a3,z.c3,z.a4,z.c4,z.a5,z.c5,z.a6,z.c6,z.a7,z.c7⟩,_⟩:CoS) trivial rfl
theorem Azo {d p:Bs} {k:Int} (h:Gt d p k=true):d.length+p.length<=30000:=by
 unfold Gt at h;simp only [aw,aF] at h;exact h.1
theorem Aet {x:B4} (h:D7 x=true):x.Il.Cg.size+x.Il.pending.size<=30000:=by
 unfold D7 at h;rw [aw] at h;have:=Azo h.2;rw [Cp,Cp] at this;exact this
theorem Atb (x:B4) (line:au) (g:Nat) (a1:aj) (c1:Nat) (a2:aj) (c2:Nat) (a3:aj) (c3:Nat) (a4:aj) (c4:Nat) (a5:aj) (c5:Nat) (a6:aj) (c6:Nat) (a7:aj) (c7:Nat) (F FT:aq) (hg:D7 x=true) (hl:line.size<=maxLen):Fn prog 25 [Ga g 0 0,af line] [E4 FT] [.row g 41 0 [] [ab a1 x.Bb.Al.Ac.length c1,aa x.Bb.Ab.Aa.Am,aa x.Bb.Ab.Aa.size,ab a2 x.Bb.Ab.Aa.Ak.length c2,aa x.Bb.Ab.Ai,aa x.Bb.Ab.quiet,ab a3 x.Bb.Ab.holds.length c3,ab a4 x.Bb.Af.length c4,ab a5 x.Bb.Ad.length c5,ab a6 x.Bb.down.length c6,ab a7 x.Bb.up.length c7,af x.Il.Cg,af x.Il.pending,aa x.Il.count] [],.own Aam (.agg #[ab a1 x.Bb.Al.Ac.length c1,aa x.Bb.Ab.Aa.Am,aa x.Bb.Ab.Aa.size,ab a2 x.Bb.Ab.Aa.Ak.length c2,aa x.Bb.Ab.Ai,aa x.Bb.Ab.quiet,ab a3 x.Bb.Ab.holds.length c3,ab a4 x.Bb.Af.length c4,ab a5 x.Bb.Ad.length c5,ab a6 x.Bb.down.length c6,ab a7 x.Bb.up.length c7]) x.Bb F] (fun (_:CoS)=>True) (fun _=>af (Od x line).2) (fun u=>[.row g 41 0 [] [.slice u.z.a1 (Od x line).1.Bb.Al.Ac.length u.z.c1,aa (Od x line).1.Bb.Ab.Aa.Am,aa (Od x line).1.Bb.Ab.Aa.size,.slice u.z.a2 (Od x line).1.Bb.Ab.Aa.Ak.length u.z.c2,aa (Od x line).1.Bb.Ab.Ai,aa (Od x line).1.Bb.Ab.quiet,.slice u.z.a3 (Od x line).1.Bb.Ab.holds.length u.z.c3,.slice u.z.a4 (Od x line).1.Bb.Af.length u.z.c4,.slice u.z.a5 (Od x line).1.Bb.Ad.length u.z.c5,.slice u.z.a6 (Od x line).1.Bb.down.length u.z.c6,.slice u.z.a7 (Od x line).1.Bb.up.length u.z.c7,af (Od x line).1.Il.Cg,af (Od x line).1.Il.pending,aa (Od x line).1.Il.count] [],.own Aam (.agg #[.slice u.z.a1 (Od x line).1.Bb.Al.Ac.length u.z.c1,aa (Od x line).1.Bb.Ab.Aa.Am,aa (Od x line).1.Bb.Ab.Aa.size,.slice u.z.a2 (Od x line).1.Bb.Ab.Aa.Ak.length u.z.c2,aa (Od x line).1.Bb.Ab.Ai,aa (Od x line).1.Bb.Ab.quiet,.slice u.z.a3 (Od x line).1.Bb.Ab.holds.length u.z.c3,.slice u.z.a4 (Od x line).1.Bb.Af.length u.z.c4,.slice u.z.a5 (Od x line).1.Bb.Ad.length u.z.c5,.slice u.z.a6 (Od x line).1.Bb.down.length u.z.c6,.slice u.z.a7 (Od x line).1.Bb.up.length u.z.c7]) (Od x line).1.Bb u.F]):=by
 have hgn:At x.Bb=true:=JA
 have hgl:Gt x.Il.Cg.data.toList x.Il.pending.data.toList x.Il.count=true:=by unfold D7 at hg;rw [aw] at hg;exact hg.2
 have hsz:=Aet hg;refine enter func25 rfl ntmps25 fun w0=>?_;refine go ?_;refine cb (fun w st=>Lg.Wd line ⟨#[]⟩ w hl (aG _)) ?_;rw [show Lg.Bp line ⟨#[]⟩=T3 line from rfl];cases h1:T3 line
 ·have e:Od x line=(x,bz Bcz):=by unfold Od;rw [h1];rfl
  rw [e];refine go ?_;refine ret (⟨⟨a1,c1,a2,c2,a3,c3,a4,c4,a5,c5,a6,c6,a7,c7⟩,F⟩:CoS) trivial rfl
 refine go ?_;refine A4 rfl (fun h2=>?_) (fun h2=>?_)
 ·have e:Od x line=(x,bz Asm):=by unfold Od;rw [h1,aJ rfl,aJ h2]
  rw [e];refine go ?_;refine ret (⟨⟨a1,c1,a2,c2,a3,c3,a4,c4,a5,c5,a6,c6,a7,c7⟩,F⟩:CoS) trivial rfl
 have hlz:line.size<=160:=by
  have h:=h1;unfold T3 Lg.Bp E8 at h;simp only [aw,aF] at h;have:=h.1.1.1.1.2;omega
 rw [Apn ⟨h1,h2⟩];have ht:=Akr (Alf (line:=line) hgn);have hGd:Yq line.data.toList (Rs (Py x.Bb line)).data.toList:=Ja (by rw [<-Lg.N0];exact Zs h1 ht.1 ht.2);obtain ⟨xn,⟨d,p,q⟩⟩:=x;dsimp only at hgn hgl hsz h2 ht hGd ⊢;have hcn:=Lg.Tz hgl;obtain ⟨k,rfl⟩:∃k:Nat,q=(k:Int):=⟨q.toNat,EZ⟩;refine go ?_
 refine cfr (fun w st=>by obtain ⟨Fq,hq⟩:=st.rO Xy (v:=.agg #[ab a1 xn.Al.Ac.length c1,aa xn.Ab.Aa.Am,aa xn.Ab.Aa.size,ab a2 xn.Ab.Aa.Ak.length c2,aa xn.Ab.Ai,aa xn.Ab.quiet,ab a3 xn.Ab.holds.length c3,ab a4 xn.Af.length c4,ab a5 xn.Ad.length c5,ab a6 xn.down.length c6,ab a7 xn.up.length c7]) (x:=xn) (F:=F) Bl;exact ⟨[.isv Pb _ xn Fq],Iw hq,rfl,Al6 xn _ Fq (M6 hgn)⟩) (fun z _=>?_);refine Ot ?_;refine P7 xn ?_;refine go ?_;intros
 refine Bf (Bgn xn line _ z.a1 z.c1 z.a2 z.c2 z.a3 z.c3 z.a4 z.c4 z.a5 z.c5 z.a6 z.c6 z.a7 z.c7 _ FT hgn EZ) fun u hu=>?_;refine go ?_
 refine D0 [0,1] [] (fun _:NL × aq=>[(6,af (Py xn line))]) (fun z=>[.row g 41 0 [] [.slice z.1.a1 (Hl xn line).Al.Ac.length z.1.c1,aa (Hl xn line).Ab.Aa.Am,aa (Hl xn line).Ab.Aa.size,.slice z.1.a2 (Hl xn line).Ab.Aa.Ak.length z.1.c2,aa (Hl xn line).Ab.Ai,aa (Hl xn line).Ab.quiet,.slice z.1.a3 (Hl xn line).Ab.holds.length z.1.c3,.slice z.1.a4 (Hl xn line).Af.length z.1.c4,.slice z.1.a5 (Hl xn line).Ad.length z.1.c5,.slice z.1.a6 (Hl xn line).down.length z.1.c6,.slice z.1.a7 (Hl xn line).up.length z.1.c7,af d,af p,aa (k:Int)] [],.own Aam (.agg #[.slice z.1.a1 (Hl xn line).Al.Ac.length z.1.c1,aa (Hl xn line).Ab.Aa.Am,aa (Hl xn line).Ab.Aa.size,.slice z.1.a2 (Hl xn line).Ab.Aa.Ak.length z.1.c2,aa (Hl xn line).Ab.Ai,aa (Hl xn line).Ab.quiet,.slice z.1.a3 (Hl xn line).Ab.holds.length z.1.c3,.slice z.1.a4 (Hl xn line).Af.length z.1.c4,.slice z.1.a5 (Hl xn line).Ad.length z.1.c5,.slice z.1.a6 (Hl xn line).down.length z.1.c6,.slice z.1.a7 (Hl xn line).up.length z.1.c7]) (Hl xn line) z.2,E4 FT]) (fun _=>True) ?_ fun z _=>?_
 ·cases hb:u.b
  ·rw [hb] at hu;have eM:Hl xn line=xn:=by unfold Hl;rw [hu];rfl
   have eT:Py xn line=⟨#[63]⟩:=by unfold Py;rw [hu];rfl
   rw [eM,eT];refine go ?_;refine Bk (⟨a1,c1,a2,c2,a3,c3,a4,c4,a5,c5,a6,c6,a7,c7⟩,F) trivial
  ·rw [hb] at hu;have eT:Py xn line=u.t:=by unfold Py;rw [hu];rfl
   rw [eT];refine go ?_;refine Bk (⟨u.z.a1,u.z.c1,u.z.a2,u.z.c2,u.z.a3,u.z.c3,u.z.a4,u.z.c4,u.z.a5,u.z.c5,u.z.a6,u.z.c6,u.z.a7,u.z.c7⟩,u.F) trivial
 refine go ?_;refine D0 [0,1] [0,1,2] (fun _:Unit=>[(6,af (Rs (Py xn line)))]) (fun _=>[]) (fun _=>True) ?_ fun _ _=>?_
 ·refine A4 rfl (fun h5=>?_) (fun h5=>?_)
  ·have e:Rs (Py xn line)=bz Bad:=by unfold Rs;rw [aJ EZ]
   rw [e];exact CP
  ·have e:Rs (Py xn line)=Py xn line:=by unfold Rs;rw [aC EZ]
   rw [e];exact CP
 have hbs:(Lg.bs (Ke k line.data.toList (Rs (Py xn line)).data.toList)).size<=400:=by
  rw [Lg.Jh];have:=Acq (k:=k) EZ hGd;omega
 refine Io ?_;intros;refine Ar [0] [30] ?_;refine Df 0 1 2 3 ?_;refine Df 4 5 6 7 ?_;refine Df 8 9 10 11 ?_;refine Df 12 13 14 15 ?_;refine Df 16 17 18 21 ?_;refine Df 22 23 24 25 ?_;refine dt 26 ?_;refine dN 19 ?_;refine oC ?_;refine cb (fun w st=>Lg.Wy k line (Rs (Py xn line)) _ w EZ hGd (Asj (st.get (p:=E4 FT) FD))) ?_;refine dk ?_;refine dt 20 ?_ (hy:=Hi rfl rfl EZ);refine Dh 27 28 ?_;refine dt 29 ?_;refine dN 30 ?_;refine oS ?_;refine Nm ?_;refine dd ?_;refine go ?_
 refine ret (⟨⟨z.1.a1,z.1.c1,z.1.a2,z.1.c2,z.1.a3,z.1.c3,z.1.a4,z.1.c4,z.1.a5,z.1.c5,z.1.a6,z.1.c6,z.1.a7,z.1.c7⟩,_⟩:CoS) trivial rfl
structure L28 where
 g:Nat
 a:aj
 c:Nat
 F:aq
structure L2S where
 k:Nat
 a:aj
 c:Nat
 F:aq
theorem Axq (n:Du) (v:Value) (F:aq) (hs:P5 n):Fn prog 66 [v] [.isv Pb v n F] [] (fun (_:Wa)=>True) (fun z=>.agg z.cs.toArray) (fun z=>[.isv Pb (.agg z.cs.toArray) n z.F]):=by
 have hs1:=hs.t;have hs2:=hs.i;have hs3:=hs.h;have hs4:=hs.e;have hs5:=hs.rl;have hs6:=hs.d;have hs7:=hs.u;refine enter func66 rfl ntmps66 fun w0=>?_;refine Fm ?_;rintro a1 c1 F1 a2 c2 F2 a3 c3 F3 a4 c4 F4 a5 c5 F5 a6 c6 F6 a7 c7 F7 rfl l1 l2 l3 l4 l5 l6 l7;refine go ?_;intros;refine D0 [1,2] [0,1,2,3,4,5,6,7,8,9] (fun w:L28=>[(3,Ga w.g 0 0)]) (fun w=>[.row w.g 29 0 [] [aa n.Ab.Aa.Am,aa n.Ab.Aa.size,ab w.a n.Ab.Aa.Ak.length w.c] [],.ow A8 9 (ab w.a n.Ab.Aa.Ak.length w.c) n.Ab.Aa.Ak w.F]) (fun _=>True) ?_ fun w _=>?_
 ·skip
  refine Ar [1] [] ?_;refine Df 0 1 2 3 ?_;refine Df 4 5 6 7 ?_;refine Df 9 10 11 12 ?_;refine dM 8 15 ?_ ?_
  ·apply Kg;rfl;intro _;refine Cy A8 ?_;refine dk ?_;refine dM 13 15 ?_ ?_
   ·refine Ni (E:=A8) (xs:=[]) Do Hv fun a9 c9 F9=>?_;rw [aZ];refine dk ?_;refine dt 14 ?_;refine dN 15 ?_;apply Cm;rfl;intro _;refine dk ?_;refine dN 16 ?_;refine oS ?_;refine dk ?_;refine dd ?_;refine Bk (⟨_,a9,c9,F9⟩:L28) trivial
   ·apply Cm;rfl;intro _;exact CL
  ·apply Cm;rfl;intro _;refine dk ?_;refine dN 8 ?_;apply Kg;rfl;intro _;refine Cy A8 ?_;exact CL
 refine go ?_;refine cn (fun w2 st=>X9 _ n.Al.Ac F1 w2 (st.get (p:=.sl _ _ _ _) FD).2 EZ) fun b1 d1 G1=>?_;refine go ?_;intros;rename_i g4;refine Ar [2,5] [] ?_;refine Df 0 1 2 3 ?_;refine Df 4 5 6 8 ?_;refine Dh 9 10 ?_;refine dN 7 ?_;apply Kg;rfl;intro _;refine Cy Bw ?_;refine dk ?_;refine dN 11 ?_;refine Ni (E:=Bw) (xs:=[]) Is Ks fun b3 d3 G3=>?_;rw [aZ];refine dk ?_;refine Dh 12 13 ?_;refine dN 14 ?_;refine oS ?_;refine dk ?_;refine dd ?_;refine Cf Ce 122 ?_;refine go ?_
 refine Bx [1,2,4] (fun z:L2S=>[(5,aa (z.k:Nat))]) (fun z=>[.row g4 37 0 [] [ab b1 n.Al.Ac.length d1,aa n.Ab.Aa.Am,aa n.Ab.Aa.size,ab w.a n.Ab.Aa.Ak.length w.c,aa n.Ab.Ai,aa n.Ab.quiet,ab b3 n.Ab.holds.length d3,.slice z.a (n.Af.take z.k).length z.c,ab none 0 0,ab none 0 0,ab none 0 0] [],.ow Ce 122 (.slice z.a (n.Af.take z.k).length z.c) (n.Af.take z.k) z.F]) (fun z=>z.k<=n.Af.length) (fun z=>n.Af.length - z.k) ⟨0,none,0,[]⟩ (aG _) fun z hz=>?_;obtain ⟨k,za,zc,zF⟩:=z;dsimp only at hz ⊢
 have t4:(n.Af.take k).length<=n.Af.length:=GE
 refine go ?_;refine A4 rfl (fun h1=>?_) (fun h1=>?_)
 ·have hk3:k < n.Af.length:=EZ
  refine P6 (xs:=n.Af) k ?_;rintro hi4 b4 o4 a8 c8 F8 e4 l8;rw [e4];refine Gc n.Af[k] ?_;refine Io ?_;intros;refine Ar [1,3,10] [11] ?_;refine Df 0 1 2 3 ?_;refine Dh 4 5 ?_;refine dt 6 ?_;refine dN 7 ?_;refine oC ?_;refine cv (fun w2 st=>Xd _ n.Af[k] F8 w2 (st.get (p:=.isv _ _ _ _) FD) (by have:=hs.e1 _ (aB hk3);omega) (fun x hx=>by have:=hs.e2 _ (aB hk3) x hx;omega)) fun v9 F9=>?_;refine H2 (x:=n.Af[k]) ?_;rintro a9 c9 F10 rfl l9;refine Gw n.Af[k] ?_;refine dk ?_;refine dN 8 ?_;apply Iq;rfl;rfl;rfl;rfl;exact Ik;exact Ih;intro _;refine dk ?_
  refine dN 9 ?_;refine Ab0 Rw n.Af[k] rfl fun x4 d4 G4=>?_;refine dk ?_;refine dt 10 ?_;refine dN 11 ?_;refine oS ?_;refine Nm ?_;refine dd ?_;rw [<-aO hk3];refine go ?_;rw [show ((k:Nat):Int)+1=((k+1:Nat):Int) by omega];refine Ca ⟨k+1,x4,d4,G4⟩ hk3 (by show n.Af.length - (k+1) < n.Af.length - k;omega)
 rw [show n.Af.take k=n.Af from aV EZ];generalize za=y4;generalize zc=v4;generalize zF=V4;refine Cf B9 76 ?_;refine go ?_
 refine Bx [1,2,4] (fun z:L2S=>[(6,aa (z.k:Nat))]) (fun z=>[.row g4 37 0 [] [ab b1 n.Al.Ac.length d1,aa n.Ab.Aa.Am,aa n.Ab.Aa.size,ab w.a n.Ab.Aa.Ak.length w.c,aa n.Ab.Ai,aa n.Ab.quiet,ab b3 n.Ab.holds.length d3,ab y4 n.Af.length v4,.slice z.a (n.Ad.take z.k).length z.c,ab none 0 0,ab none 0 0] [],.ow B9 76 (.slice z.a (n.Ad.take z.k).length z.c) (n.Ad.take z.k) z.F]) (fun z=>z.k<=n.Ad.length) (fun z=>n.Ad.length - z.k) ⟨0,none,0,[]⟩ (aG _) fun z hz=>?_;obtain ⟨k,za,zc,zF⟩:=z;dsimp only at hz ⊢
 have t4:(n.Ad.take k).length<=n.Ad.length:=GE
 refine go ?_;refine A4 rfl (fun h1=>?_) (fun h1=>?_)
 ·have hk3:k < n.Ad.length:=EZ
  refine I8 (xs:=n.Ad) k ?_;rintro hi5 b5 o5 a11 c11 F11 a12 c12 F12 e5 l11 l12;rw [e5];refine Ep n.Ad[k] ?_;refine Io ?_;intros;refine Ar [1,4,12] [11] ?_;refine Df 0 1 2 3 ?_;refine Dh 4 5 ?_;refine dt 6 ?_;refine dN 7 ?_;refine oC ?_;refine Bf (S9 n.Ad[k] _ _ (by have:=hs.r _ (aB hk3);omega) (by have:=hs.r _ (aB hk3);omega)) fun s9 _=>?_;refine Im (x:=n.Ad[k]) ?_;rintro a9 c9 G9 a10 c10 G10 e9 l9 l10;rw [e9];refine Kk n.Ad[k] ?_;refine dk ?_;refine dN 8 ?_;apply Iq;rfl;rfl;rfl;rfl;exact Ik;exact Ih;intro _;refine dk ?_;refine dN 9 ?_
  refine Ab0 Qr n.Ad[k] rfl fun x4 d4 G4=>?_;refine dk ?_;refine dt 10 ?_;refine dN 11 ?_;refine oS ?_;refine Nm ?_;refine dd ?_;rw [<-aO hk3];refine go ?_;rw [show ((k:Nat):Int)+1=((k+1:Nat):Int) by omega];refine Ca ⟨k+1,x4,d4,G4⟩ hk3 (by show n.Ad.length - (k+1) < n.Ad.length - k;omega)
 rw [show n.Ad.take k=n.Ad from aV EZ];generalize za=y5;generalize zc=v5;generalize zF=V5;refine Cf (Ki An 141) 125 ?_;refine go ?_
 refine Bx [1,2,4] (fun z:L2S=>[(7,aa (z.k:Nat))]) (fun z=>[.row g4 37 0 [] [ab b1 n.Al.Ac.length d1,aa n.Ab.Aa.Am,aa n.Ab.Aa.size,ab w.a n.Ab.Aa.Ak.length w.c,aa n.Ab.Ai,aa n.Ab.quiet,ab b3 n.Ab.holds.length d3,ab y4 n.Af.length v4,ab y5 n.Ad.length v5,.slice z.a (n.down.take z.k).length z.c,ab none 0 0] [],.ow (Ki An 141) 125 (.slice z.a (n.down.take z.k).length z.c) (n.down.take z.k) z.F]) (fun z=>z.k<=n.down.length) (fun z=>n.down.length - z.k) ⟨0,none,0,[]⟩ (aG _) fun z hz=>?_;obtain ⟨k,za,zc,zF⟩:=z;dsimp only at hz ⊢
 have t4:(n.down.take k).length<=n.down.length:=GE
 refine go ?_;refine A4 rfl (fun h1=>?_) (fun h1=>?_)
 ·have hk3:k < n.down.length:=EZ
  have hq9:=hs.dq _ (aB hk3);refine Oc (E:=An) (hz:=FA) (xs:=n.down) k ?_;rintro hi6 b6 o6 a13 c13 F13 e6 l13;rw [e6];refine Io ?_;intros;refine Ar [0,2,11] [12] ?_;refine Df 0 1 3 4 ?_;refine Dh 5 6 ?_;refine dt 7 ?_;refine dN 2 ?_;apply Kg;rfl;intro _;refine Cy An ?_;refine dk ?_;refine dN 8 ?_;refine Ni (E:=An) (xs:=[]) Ho Jm fun a9 c9 F9=>?_;rw [aZ];refine Kl n.down[k] ?_;refine dk ?_;refine dN 9 ?_;apply Iq;rfl;rfl;rfl;rfl;exact Ik;exact Ih;intro _;refine dk ?_;refine dN 10 ?_;refine Ab0 (Uw) n.down[k] rfl fun x4 d4 G4=>?_;refine dk ?_;refine dt 11 ?_
  refine dN 12 ?_;refine oS ?_;refine Nm ?_;refine dd ?_;rw [<-aO hk3];refine go ?_;rw [show ((k:Nat):Int)+1=((k+1:Nat):Int) by omega];refine Ca ⟨k+1,x4,d4,G4⟩ hk3 (by show n.down.length - (k+1) < n.down.length - k;omega)
 rw [show n.down.take k=n.down from aV EZ];generalize za=y6;generalize zc=v6;generalize zF=V6;refine Cf (Ki An 141) 125 ?_;refine go ?_
 refine Bx [1,2,4] (fun z:L2S=>[(8,aa (z.k:Nat))]) (fun z=>[.row g4 37 0 [] [ab b1 n.Al.Ac.length d1,aa n.Ab.Aa.Am,aa n.Ab.Aa.size,ab w.a n.Ab.Aa.Ak.length w.c,aa n.Ab.Ai,aa n.Ab.quiet,ab b3 n.Ab.holds.length d3,ab y4 n.Af.length v4,ab y5 n.Ad.length v5,ab y6 n.down.length v6,.slice z.a (n.up.take z.k).length z.c] [],.ow (Ki An 141) 125 (.slice z.a (n.up.take z.k).length z.c) (n.up.take z.k) z.F]) (fun z=>z.k<=n.up.length) (fun z=>n.up.length - z.k) ⟨0,none,0,[]⟩ (aG _) fun z hz=>?_;obtain ⟨k,za,zc,zF⟩:=z;dsimp only at hz ⊢
 have t4:(n.up.take k).length<=n.up.length:=GE
 refine go ?_;refine A4 rfl (fun h1=>?_) (fun h1=>?_)
 ·have hk3:k < n.up.length:=EZ
  have hq9:=hs.uq _ (aB hk3);refine Oc (E:=An) (hz:=FA) (xs:=n.up) k ?_;rintro hi6 b6 o6 a13 c13 F13 e6 l13;rw [e6];refine Io ?_;intros;refine Ar [0,2,12] [12] ?_;refine Df 0 1 3 4 ?_;refine Dh 5 6 ?_;refine dt 7 ?_;refine dN 2 ?_;apply Kg;rfl;intro _;refine Cy An ?_;refine dk ?_;refine dN 8 ?_;refine Ni (E:=An) (xs:=[]) Ho Jm fun a9 c9 F9=>?_;rw [aZ];refine Kl n.up[k] ?_;refine dk ?_;refine dN 9 ?_;apply Iq;rfl;rfl;rfl;rfl;exact Ik;exact Ih;intro _;refine dk ?_;refine dN 10 ?_;refine Ab0 (Uw) n.up[k] rfl fun x4 d4 G4=>?_;refine dk ?_;refine dt 11 ?_
  refine dN 12 ?_;refine oS ?_;refine Nm ?_;refine dd ?_;rw [<-aO hk3];refine go ?_;rw [show ((k:Nat):Int)+1=((k+1:Nat):Int) by omega];refine Ca ⟨k+1,x4,d4,G4⟩ hk3 (by show n.up.length - (k+1) < n.up.length - k;omega)
 rw [show n.up.take k=n.up from aV EZ];generalize za=y7;generalize zc=v7;generalize zF=V7;refine P7 n ?_;refine go ?_;refine Tx Xy fun F9=>?_;exact AG
theorem Anh (x:B4) (v:Value) (F:aq) (hs:P5 x.Bb):Fn prog 38 [v] [.isv Ed v x F] [] (fun (_:Wa)=>True) (fun z=>.agg z.cs.toArray) (fun z=>[.isv Ed (.agg z.cs.toArray) x z.F]):=by
 refine enter func38 rfl ntmps38 fun w0=>?_;refine Cd ?_;rintro a1 c1 F1 a2 c2 F2 a3 c3 F3 a4 c4 F4 a5 c5 F5 a6 c6 F6 a7 c7 F7 rfl s1 s2 l1 l2 l3 l4 l5 l6 l7;refine Es x.Bb (a1:=a1) (a2:=a2) (a3:=a3) (a4:=a4) (a5:=a5) (a6:=a6) (a7:=a7) ?_;refine Io ?_;intros;refine Ar [1] [6] ?_;refine Df 0 1 3 4 ?_;refine dN 2 ?_;refine oC ?_;refine Bf (Axq x.Bb _ _ hs) fun z _=>?_;obtain ⟨cs,zF⟩:=z;dsimp only;refine Fm (x:=x.Bb) (v:=.agg cs.toArray) ?_;rintro b1 d1 G1 b2 d2 G2 b3 d3 G3 b4 d4 G4 b5 d5 G5 b6 d6 G6 b7 d7 G7 ev - - - - - - -;obtain rfl:=Pw ev;clear ev;refine dk ?_;refine dt 5 ?_;refine dN 6 ?_
 refine oS ?_;refine Nm ?_;refine dd ?_;refine go ?_;refine C0 x s1 s2 (a1:=b1) (a2:=b2) (a3:=b3) (a4:=b4) (a5:=b5) (a6:=b6) (a7:=b7) ?_;exact AG
end Go.Proofs.YtkoldibamfjghaaGreatDoor
namespace Go.Proofs.YtkoldibamfjghaaGreatDoor

open Go.RowKit
end Go.Proofs.YtkoldibamfjghaaGreatDoor
namespace Go.Proofs.YtkoldibamfjghaaGreatDoor
open Go.RowKit
structure DqS where
 x:NE
 b:Bool
 cs:am
 F:aq
 a:aj
 c:Nat
 Fe:aq
structure DqK where
 k:Nat
 cs:am
 F:aq
 a:aj
 c:Nat
 Fe:aq
theorem Ait (w:World):∀xs:ar,Cz Bc w (xs.map (Value.int .i64)) xs []
 | []=>⟨rfl,rfl⟩
 | x::r=>⟨[.int .i64 x],r.map (Value.int .i64),[],[],rfl,rfl,⟨rfl,rfl⟩,Ait w r⟩
theorem Aoh {n:Du} {s:Jf} (e:Bm n s=none):Bi n s=(Sb,[],false):=by
 unfold Bi
 split
 ·rw [e]
 ·rfl
theorem Aoi {n:Du} {s:Jf} {r:NE} (g1:At n=true) (g2:Dq s=true) (e:Bm n s=some r):Bi n s=(r.1,r.2,true):=by unfold Bi;rw [g1,g2,e];rfl
theorem Ap0 (n:Du) (v:Value) (F FT:aq) (hg:At n=true):Fn prog 131 [v] [.isv Pb v n F,E4 FT] [] (fun (_:StZ)=>True) (fun z=>.tuple #[.agg z.cs.toArray,.slice z.a (P9 n).2.length z.c]) (fun z=>[.isv Pb (.agg z.cs.toArray) (P9 n).1 z.F,.ow A8 9 (.slice z.a (P9 n).2.length z.c) (P9 n).2 z.Fe]):=by
 have hwn:=Bae hg;refine enter func131 rfl ntmps131 fun w0=>?_;refine Fm ?_;rintro a1 c1 F1 a2 c2 F2 a3 c3 F3 a4 c4 F4 a5 c5 F5 a6 c6 F6 a7 c7 F7 rfl l1 l2 l3 l4 l5 l6 l7;refine go ?_;intros;refine Bf (Ang n _ F hg) fun z _=>?_;obtain ⟨w,y⟩:=z;dsimp only;refine Av (E:=Bc) (xs:=n.Al.Ac) fun Ft=>?_;refine Ae4 Kc (xs:=n.Af) fun He=>?_;refine Ae4 Qt (xs:=n.Ad) fun Hr=>?_;refine Ae4 (Pt (Mq.refl An) FA _) (xs:=n.down) fun Hd=>?_;refine Ae4 (Pt (Mq.refl An) FA _) (xs:=n.up) fun Hu=>?_;refine H9 (x:=n.Ab) ?_;rintro b2 d2 G2 b3 d3 G3 ev - -
 simp only [Value.agg.injEq,Array.mk.injEq,List.cons.injEq,Value.slice.injEq,cQ,cR] at ev;obtain ⟨⟨rfl,rfl⟩,rfl,rfl⟩:=ev;refine Es n (a1:=w.a1) (c1:=w.c1) (a2:=w.s.a) (c2:=w.s.c) (a3:=w.s.a2) (c3:=w.s.c2) (a4:=y.a4) (c4:=y.c4) (a5:=y.a5) (c5:=y.c5) (a6:=y.a6) (c6:=y.c6) (a7:=y.a7) (c7:=y.c7) ?_;refine go ?_;intros;rename_i g4 g5;refine Cy A8 ?_;refine go ?_
 refine Bx [2,4] (fun s:DqS=>[(5,ab s.a s.x.2.length s.c),(6,.bool s.b)]) (fun s=>[.row g4 37 0 [] s.cs [],.isv Pb (.agg s.cs.toArray) s.x.1 s.F,.ow A8 9 (ab s.a s.x.2.length s.c) s.x.2 s.Fe]) (fun s=>U8 (n,[]) s.x/\(if s.b then drE s.x else s.x)=P9 n) (fun s=>if s.b then wN s.x.1+1 else 0) ⟨(n,[]),true,_,_,_,_,_⟩ ⟨.refl hg,rfl⟩ fun s hs0=>?_;obtain ⟨x,b,cs,Fx,ea,ec,eF⟩:=s;obtain ⟨fx,hR⟩:=hs0;dsimp only at fx hR ⊢;refine Fm (x:=x.1) ?_;rintro b1 d1 G1 b2 d2 G2 b3 d3 G3 b4 d4 G4 b5 d5 G5 b6 d6 G6 b7 d7 G7 ev - - - - - - -;obtain rfl:=Pw ev;clear ev;cases b
 ·rw [aC FA] at hR;rw [hR];refine go ?_;refine ret (⟨_,Fx,ea,ec,eF⟩:StZ) trivial rfl
 rw [aJ rfl] at hR;have hG:=Ax.1 fx.g;have h8:=Gf hG.t;have hn8:=h8.n1;have hn2:=h8.n0;have hev:=fx.e;simp only [aY] at hev;refine go ?_;refine Bx [2,4] (fun s:DqK=>[(5,.slice s.a (Hp x s.k).2.length s.c),(6,.bool (Qe x s.k)),(7,aa ((s.k+1:Nat):Int))]) (fun s=>[.row g4 37 0 [] s.cs [],.isv Pb (.agg s.cs.toArray) (Hp x s.k).1 s.F,.ow A8 9 (.slice s.a (Hp x s.k).2.length s.c) (Hp x s.k).2 s.Fe]) (fun s=>s.k+1<=x.1.Al.Ac.length) (fun s=>x.1.Al.Ac.length - s.k) ⟨0,_,_,_,_,_⟩ (by show 0+1<=_;omega) fun s hs0=>?_;obtain ⟨k,cs,Fx,ya,yc,yF⟩:=s;dsimp only at hs0 ⊢
 have rf:=Oy fx.g k hs0;have fX:=fx.trans rf.1;have hXt:(Hp x k).1.Al.Ac.length=x.1.Al.Ac.length:=by rw [rf.1.t]
 generalize hX:Hp x k=X at fX hXt ⊢;generalize hM:Qe x k=M;refine Fm (x:=X.1) ?_;rintro b1 d1 G1 b2 d2 G2 b3 d3 G3 b4 d4 G4 b5 d5 G5 b6 d6 G6 b7 d7 G7 ev - - - - - - -;obtain rfl:=Pw ev;clear ev;refine go ?_;refine A4 rfl (fun h1=>?_) (fun h1=>?_)
 rotate_left
 ·have hk:x.1.Al.Ac.length - 1=k:=EZ
  have hXr:Vu x=X:=by rw [<-hX,<-hk];rfl
  have hmi:=Agk fx.g;rw [hk,hM] at hmi;refine go ?_;refine Ca ⟨X,M,_,_,ya,yc,yF⟩ ⟨fX,?_⟩ ?_
  ·cases M
   ·have hz:=hmi.1 rfl;show X=P9 n;rw [<-hR,Aas hz,<-hXr,Aqn fx.g hz]
   ·have hz:¬Xm x.1=0:=fun h=>by cases hmi.2 h
    show drE X=P9 n;rw [<-hR,Afq fx.g hz,hXr]
  ·cases M
   ·show 0 < wN x.1+1;omega
   ·have hz:¬Xm x.1=0:=fun h=>by cases hmi.2 h
    have:=(Mm fx.g).2 hz;rw [hXr] at this;show wN X.1+1 < wN x.1+1;omega
 have hj:k+1 < x.1.Al.Ac.length:=EZ
 refine go ?_;intros;refine Eh (E:=Bc) (xs:=[2,5]) (fun w=>Ait w _) ?_ FA;refine Av (E:=Bc) (xs:=[2,5]) fun Fk=>?_;refine go ?_;refine Bx [2,4,7,25,26] (fun s:DqK=>[(5,.slice s.a (Sy X (k+1) s.k).2.length s.c),(6,.bool (Adp M X (k+1) s.k)),(27,aa (s.k:Nat))]) (fun s=>[.row g4 37 0 [] s.cs [],.isv Pb (.agg s.cs.toArray) (Sy X (k+1) s.k).1 s.F,.ow A8 9 (.slice s.a (Sy X (k+1) s.k).2.length s.c) (Sy X (k+1) s.k).2 s.Fe]) (fun s=>s.k<=2) (fun s=>2 - s.k) ⟨0,_,_,_,_,_⟩ (aG _) fun s hs1=>?_;obtain ⟨m,cs,Fx,ya,yc,yF⟩:=s;dsimp only at hs1 ⊢
 have fY:=fX.trans (Atq fX.g (i:=k+1) EZ EZ m hs1);have hYe:=fY.e;simp only [aY] at hYe;generalize hY:Sy X (k+1) m=Y at fY hYe ⊢;generalize hB:Adp M X (k+1) m=B;refine Fm (x:=Y.1) ?_;rintro b1 d1 G1 b2 d2 G2 b3 d3 G3 b4 d4 G4 b5 d5 G5 b6 d6 G6 b7 d7 G7 ev - - - - - - -;obtain rfl:=Pw ev;clear ev;refine go ?_;refine A4 rfl (fun h2=>?_) (fun h2=>?_)
 ·have hm:m < 2:=EZ
  have ok:Dq (kst m (k+1))=true:=Bhr EZ EZ hm;refine Hy (xs:=[2,5]) m ?_;rintro hi b9 o9 e9;rw [e9,show ([2,5]:ar)[m]=(kst m (k+1)).Cq by rcases (show m=0\/m=1 by omega) with rfl|rfl <;> rfl];have gY:=fY.g;refine go ?_;refine Bf (Us Y.1 (kst m (k+1)) _ _ FT (aG _) gY ok) fun z _=>?_;cases e:Bm Y.1 (kst m (k+1)) with
  | none =>
   rw [Aoh e];have hnY:Sy X (k+1) (m+1)=Y:=by show Mu (Sy X (k+1) m) (kst m (k+1))=Y;rw [hY];exact Jt e
   have hnB:Adp M X (k+1) (m+1)=B:=by show (Adp M X (k+1) m || (Bm (Sy X (k+1) m).1 (kst m (k+1))).isSome)=B;rw [hY,hB,e];exact Bool.or_false B
   refine Fm (x:=Sb) ?_;rintro f1 t1 G1 f2 t2 G2 f3 t3 G3 f4 t4 G4 f5 t5 G5 f6 t6 G6 f7 t7 G7 ez - - - - - - -;rw [ez];refine go ?_;intros;refine Ca ⟨m+1,_,_,ya,yc,yF⟩ (by show m+1<=2;omega) (by show 2 - (m+1) < 2 - m;omega) (by dsimp only;rw [hnY,hnB];exact frE) (by dsimp only;rw [hnY];exact hsE)
  | some r =>
   rw [Aoi gY ok e];have hnY:Sy X (k+1) (m+1)=(r.1,Y.2++r.2):=by show Mu (Sy X (k+1) m) (kst m (k+1))=_;rw [hY];exact Yn e
   have hnB:Adp M X (k+1) (m+1)=true:=by show (Adp M X (k+1) m || (Bm (Sy X (k+1) m).1 (kst m (k+1))).isSome)=true;rw [hY,hB,e];exact gB B
   have hr:=Aoq gY ok e;refine Fm (x:=r.1) ?_;rintro f1 t1 G1 f2 t2 G2 f3 t3 G3 f4 t4 G4 f5 t5 G5 f6 t6 G6 f7 t7 G7 ez - - - - - - -;rw [ez];refine Av (E:=A8) (xs:=r.2) fun F8=>?_;refine go ?_;intros;apply wO;refine Ni (E:=A8) (xs:=Y.2) (ys:=r.2) Do Hv fun a9 c9 F9=>?_;refine go ?_;refine Ca ⟨m+1,_,z.F,a9,c9,F9⟩ (by show m+1<=2;omega) (by show 2 - (m+1) < 2 - m;omega) (by dsimp only;rw [hnY,hnB];exact frE) (by dsimp only;rw [hnY];exact hsE)
 ·obtain rfl:m=2:=EZ
  refine go ?_;refine Ca ⟨k+1,_,_,ya,yc,yF⟩ JH (by show x.1.Al.Ac.length - (k+1) < x.1.Al.Ac.length - k;omega) (by dsimp only;rw [Anu,hX,hM,hB,Abd,hX,hY];exact frE) (by dsimp only;rw [Abd,hX,hY];exact hsE)
theorem Ahe (n:Du) (v:Value) (F:aq):FV 135 [v] [.isv Pb v n F] (.tuple #[.bool (Gb n).1,.bool (Gb n).2]):=by
 refine enter func135 rfl ntmps135 fun w0=>?_;refine Fm ?_;rintro a1 c1 F1 a2 c2 F2 a3 c3 F3 a4 c4 F4 a5 c5 F5 a6 c6 F6 a7 c7 F7 rfl l1 l2 l3 l4 l5 l6 l7;refine go ?_;intros;refine Bf (Acm n _ F) fun _ _=>?_;cases g:At n
 ·refine go ?_;refine ret () trivial ?_;unfold Gb;rw [g];rfl
 obtain ⟨-,e2,e3,e4⟩:=Hz g;obtain ⟨q2,q8,qn,qu,qe,qt⟩:=M4 g;have hG:=Ax.1 g;obtain ⟨-,qr, -, -⟩:=Bg.1 hG.l;have hS1:=(J3 hG.s).l;have hW:=Ds.1 (En.1 hG.s).1;refine Io ?_;intros;refine Ir n.Al (a1:=a1) ?_;refine go ?_;refine Em [1,2,3] (fun k:Nat=>[(4,aa (k:Nat))]) (fun k=>1<=k/\k<=n.Al.Ac.length/\∀j,1<=j->j < k->(n.down.getD j []).length=0/\(n.up.getD j []).length=0/\(D5 n.Al.Ac ((j:Nat):Int)=true->Acd n j=true)) (fun k=>n.Al.Ac.length - k) 1 ⟨aL _,EZ,fun j a b=>by omega⟩ fun k hk=>?_;obtain ⟨hk1,hk2,hal⟩:=hk;refine go ?_;refine A4 rfl (fun h3=>?_) (fun h3=>?_)
 ·have hk3:k < n.Al.Ac.length:=EZ
  have h5:k < n.Ad.length:=EZ
  have hd5:k < n.down.length:=EZ
  have hu5:k < n.up.length:=EZ
  have m8:=(C7 (e3 _ (aB hd5))).1;have m9:=(C7 (e4 _ (aB hu5))).1;have gd:(n.down.getD k [])=n.down[k]:=Pl hd5 _;have gu:(n.up.getD k [])=n.up[k]:=Pl hu5 _;refine Oc (E:=An) (hz:=FA) (xs:=n.down) k ?_;rintro hi1 g1 o1 a8 c8 F8 ea l8;refine Oc (E:=An) (hz:=FA) (xs:=n.up) k ?_;rintro hi2 g2 o2 a9 c9 F9 eb l9;rw [ea,eb];refine Io ?_;intros;refine Ar [0,2,5] [] ?_;refine Df 0 1 2 3 ?_;refine Df 4 5 6 7 ?_;refine Df 8 9 10 11 ?_;refine Dh 12 13 ?_;refine dd ?_;refine go ?_;refine A4 rfl (fun h4=>?_) (fun h4=>?_)
  ·refine go ?_;refine ret () trivial ?_;unfold Gb;rw [g];rw [aJ rfl,Azn (fun h0=>by
    have hd:=Aax (l:=n.down) (i:=k) JT;have hu:=Aax (l:=n.up) (i:=k) JT;rw [gd] at hd;rw [gu] at hu;omega)]
   rfl
  refine I8 (xs:=n.Ad) k ?_;rintro h5b b5 o5 a10 c10 F10 a11 c11 F11 e5 l10 l11;rw [e5];have hr:=Ej.1 (e2 _ (aB h5));have hr1:=(Ko hr.w).1;have hr2:=(Dj.1 hr.q).2.1;cases hlf:D5 n.Al.Ac ((k:Nat):Int)
  ·refine Io ?_;intros;refine Ar [0,9] [] ?_;refine Dh 0 1 ?_;refine dt 2 ?_;refine dN 3 ?_;refine oC ?_;refine Bf (N1 n.Al _ _ F1 (Gf hG.t) EZ) fun _ _=>?_;rw [hlf];refine dk ?_;refine dt 4 ?_;refine ds 5 ?_;refine ds 6 ?_;refine ds 7 ?_;refine ds 8 ?_;refine dsu 9 ?_;refine dsu 10 ?_;refine dsu 11 ?_;refine dsu 12 ?_;refine dsu 13 ?_;refine dsu 14 ?_;refine dsu 15 ?_;refine dsu 16 ?_;refine dsu 17 ?_;refine ds 18 ?_;refine ds 19 ?_;refine dsu 20 ?_;refine dsu 21 ?_;refine dsu 22 ?_;refine dsu 23 ?_;refine dsu 24 ?_;refine dsu 25 ?_;refine dsu 26 ?_;refine dsu 27 ?_;refine ds 28 ?_
   refine dt 29 ?_;refine dd ?_;refine go ?_;rw [show ((k:Nat):Int)+1=((k+1:Nat):Int) by omega];refine Ca (k+1) ⟨EZ,hk3,fun j hj0 hj=>?_⟩ EZ;by_cases hjk:j=k
   ·subst hjk;exact ⟨by rw [gd];omega,by rw [gu];omega,fun h=>absurd h JV⟩
   ·exact hal j hj0 EZ
  cases hst0:n.Ad[k].Be
  ·have hst:Aep n.Ad[k]=false:=by unfold Aep;rw [hst0];rfl
   try rw [hst0]
   refine Io ?_;intros;refine Ar [0,9] [] ?_;refine Dh 0 1 ?_;refine dt 2 ?_;refine dN 3 ?_;refine oC ?_;refine Bf (N1 n.Al _ _ F1 (Gf hG.t) EZ) fun _ _=>?_;rw [hlf];refine dk ?_;refine dt 4 ?_;refine C5 5 ?_;refine C5 6 ?_;refine C5 7 ?_;refine C5 8 ?_;refine ds 9 ?_;refine ds 10 ?_;refine ds 11 ?_;refine ds 12 ?_;refine ds 13 ?_;refine ds 14 ?_;refine ds 15 ?_;refine ds 16 ?_;refine ds 17 ?_;refine C5 18 ?_;refine C5 19 ?_;refine ds 20 ?_;refine ds 21 ?_;refine ds 22 ?_;refine ds 23 ?_;refine ds 24 ?_;refine ds 25 ?_;refine ds 26 ?_;refine ds 27 ?_;refine C5 28 ?_;refine dt 29 ?_
   exact ED
  ·by_cases hz:n.Ad[k].Ao.length+n.Ad[k].Aa.Ap.length=0
   rotate_left
   ·have hst:Aep n.Ad[k]=false:=by
     unfold Aep;by_cases hz1:((n.Ad[k].Ao.length:Int)=0)
     ·rw [ay (show ¬((n.Ad[k].Aa.Ap.length:Int)=0) by omega),ci]
     ·rw [ay hz1,ci,cX]
    try rw [hst0]
    refine Io ?_;intros;refine Ar [0,9] [] ?_;refine Dh 0 1 ?_;refine dt 2 ?_;refine dN 3 ?_;refine oC ?_;refine Bf (N1 n.Al _ _ F1 (Gf hG.t) EZ) fun _ _=>?_;rw [hlf];refine dk ?_;refine dt 4 ?_;refine C5 5 ?_;refine C5 6 ?_;refine C5 7 ?_;refine C5 8 ?_;refine C5 9 ?_;refine C5 10 ?_;refine C5 11 ?_;refine C5 12 ?_;refine C5 13 ?_;refine C5 14 ?_;refine C5 15 ?_;refine C5 16 ?_;refine C5 17 ?_;rw [show decide ((0:Int) < ((n.Ad[k].Ao.length:Int)+(n.Ad[k].Aa.Ap.length:Int)))=true from av EZ];refine C5 18 ?_;refine C5 19 ?_;refine ds 20 ?_;refine ds 21 ?_
    refine ds 22 ?_;refine ds 23 ?_;refine ds 24 ?_;refine ds 25 ?_;refine ds 26 ?_;refine ds 27 ?_;refine C5 28 ?_;refine dt 29 ?_;exact ED
   ·have hst:Aep n.Ad[k]=true:=by
     unfold Aep;rw [hst0,av (show ((n.Ad[k].Aa.Ap.length:Int)=0) by omega),av (show ((n.Ad[k].Ao.length:Int)=0) by omega)];rfl
    try rw [hst0]
    refine Io ?_;intros;refine Ar [0,9] [] ?_;refine Dh 0 1 ?_;refine dt 2 ?_;refine dN 3 ?_;refine oC ?_;refine Bf (N1 n.Al _ _ F1 (Gf hG.t) EZ) fun _ _=>?_;rw [hlf];refine dk ?_;refine dt 4 ?_;refine C5 5 ?_;refine C5 6 ?_;refine C5 7 ?_;refine C5 8 ?_;refine C5 9 ?_;refine C5 10 ?_;refine C5 11 ?_;refine C5 12 ?_;refine C5 13 ?_;refine C5 14 ?_;refine C5 15 ?_;refine C5 16 ?_;refine C5 17 ?_;rw [show decide ((0:Int) < ((n.Ad[k].Ao.length:Int)+(n.Ad[k].Aa.Ap.length:Int)))=false from ay EZ];refine C5 18 ?_;refine C5 19 ?_;refine C5 20 ?_;refine C5 21 ?_
    refine C5 22 ?_;refine C5 23 ?_;refine C5 24 ?_;refine C5 25 ?_;refine d1g 26 ?_;apply On.h;refine oC ?_;refine cb (fun w s=>Ta n.Ab.Aa.Am n.Ab.Aa.size _ n.Ab.Aa.Ak.length _ w hW.1.1 hW.1.2 EZ) ?_;refine dk ?_;refine C5 27 ?_;refine C5 28 ?_;refine dt 29 ?_;refine dd ?_;refine go ?_;refine A4 rfl (fun h6=>?_) (fun h6=>?_)
    ·refine go ?_;refine ret () trivial ?_;unfold Gb;rw [g];rw [aJ rfl,Ahh hk3 hlf (by unfold Acd;rw [Gp h5,ay h6,ci])];rfl
    ·refine go ?_;rw [show ((k:Nat):Int)+1=((k+1:Nat):Int) by omega];refine Ca (k+1) ⟨EZ,hk3,fun j hj0 hj=>?_⟩ EZ;by_cases hjk:j=k
     ·subst hjk;exact ⟨by rw [gd];omega,by rw [gu];omega,fun h=>by unfold Acd;rw [Gp h5,hst,av (dp.1 h6)];rfl⟩
     ·exact hal j hj0 EZ
 ·have hk3:k=n.Al.Ac.length:=EZ
  have hst:Yy n=true:=by
   refine Aor ?_ fun i hi hl=>?_
   ·have d0:=Aa7 g;have a1:qd n.down=0:=Ayr fun i hi=>by
     rw [<-Pl hi []];by_cases h0:i=0
     ·subst h0;exact d0.1
     ·exact (hal i EZ EZ).1
    have a2:qd n.up=0:=Ayr fun i hi=>by
     rw [<-Pl hi []];by_cases h0:i=0
     ·subst h0;exact d0.2
     ·exact (hal i EZ EZ).2.1
    unfold Xm;omega
   ·by_cases h0:i=0
    ·subst h0;rw [Asb (Gf hG.t)] at hl;cases hl
    ·exact (hal i EZ EZ).2.2 hl
  refine go ?_;refine ret () trivial ?_;unfold Gb;rw [g,aJ rfl,hst];rfl
theorem Ah5 (x:A1) (v:Value) (F:aq):Fn prog 217 [v] [.isv B8 v x F] [] (fun (_:OwR)=>True) (fun s=>.tuple #[.slice s.a (E6 x).1.length s.c,.bool (E6 x).2]) (fun s=>[.ow Bc 3 (.slice s.a (E6 x).1.length s.c) (E6 x).1 s.F]):=by
 refine enter func217 rfl ntmps217 fun w0=>?_;refine Hf (v:=v) (x:=x) (F:=F) ?_;rintro a1 c1 F1 a2 c2 F2 rfl l1 l2;unfold maxLen at l1 l2;refine go ?_;intros;rename_i g0;refine Bf (Ajb x _ F) fun _ _=>?_;refine Cy Bc ?_;cases g1:Bp x
 ·rw [show E6 x=([],false) by unfold E6;rw [g1];rfl];exact AZ
 have g5:=Ej.1 g1;have hq8:=(Dj.1 g5.q).2.1;rw [show E6 x=(x.Ao.map (·.Ae),true) by unfold E6;rw [g1];rfl];refine go ?_;refine Bx [1,2,3] (fun s:AwS=>[(5,aa (s.i:Nat)),(4,.slice s.a ((x.Ao.take s.i).map (·.Ae)).length s.c)]) (fun s=>[.ow Bc 3 (.slice s.a ((x.Ao.take s.i).map (·.Ae)).length s.c) ((x.Ao.take s.i).map (·.Ae)) s.F]) (fun s=>s.i<=x.Ao.length) (fun s=>x.Ao.length - s.i) ⟨0,some ⟨g0,0,none⟩,0,[g0]⟩ (aG _) fun s hs=>?_;obtain ⟨i,a3,c3,F3⟩:=s;dsimp only at hs ⊢;have hl3:((x.Ao.take i).map (·.Ae)).length<=i:=FF
 refine go ?_;refine A4 rfl (fun h4=>?_) (fun h4=>?_)
 ·have hi:i < x.Ao.length:=EZ
  have eo:(x.Ao.take (i+1)).map (·.Ae)=(x.Ao.take i).map (·.Ae)++[x.Ao[i].Ae]:=by rw [cC,aD hi,bD];rfl
  exact CA
 have hi:i=x.Ao.length:=EZ
 subst hi;rw [bl];exact AZ
def rsC (x:B4) (o:Option NR):B4 × au:=match o with
 | some r=>(⟨r.1,x.Il⟩,r.2)
 | none=>(x,⟨#[63]⟩)
theorem Ag5 {x:B4} {r:Option au}:rsC x (Pu x.Bb r)=(x,r.getD ⟨#[63]⟩):=by cases r <;> rfl
theorem Bea {n:Du} {s:Jf} {y:NE} (hg:At n=true) (hs:Dq s=true) (e:Bm n s=some y):y.2.length<=900000000000/\∀e∈y.2,e.size<=100:=by
 have:=Arm hg hs;rw [e] at this;exact this
theorem Qc (x:B4) (s:Jf) (b:Bool) (v:Value) (F FT:aq) (hg:At x.Bb=true) (hss:s.data.size<=maxLen) (hb:b=decide (s.Cq=2\/s.Cq=4)):Fn prog 70 [v,.agg #[aa s.Cq,aa s.node,af s.data],.bool b] [.isv Ed v x F,E4 FT] [] (fun (_:Wa)=>True) (fun u=>.tuple #[.agg u.cs.toArray,af (rsC x (J4 x.Bb s)).2]) (fun u=>[.isv Ed (.agg u.cs.toArray) (rsC x (J4 x.Bb s)).1 u.F]):=by
 refine enter func70 rfl ntmps70 fun w0=>?_;refine Cd ?_;rintro a1 c1 F1 a2 c2 F2 a3 c3 F3 a4 c4 F4 a5 c5 F5 a6 c6 F6 a7 c7 F7 rfl s1 s2 l1 l2 l3 l4 l5 l6 l7;refine Es x.Bb (a1:=a1) (a2:=a2) (a3:=a3) (a4:=a4) (a5:=a5) (a6:=a6) (a7:=a7) ?_;refine go ?_;intros;refine Bf (At9 s hss) fun _ _=>?_;cases hk:Dq s
 ·have e:J4 x.Bb s=none:=by unfold J4;rw [hk];rfl
  rw [e];exact DK
 refine go ?_;refine Bf (Us x.Bb s _ _ FT hss hg hk) fun z _=>?_;cases es:Bm x.Bb s with
 | none =>
  have e:J4 x.Bb s=none:=by unfold J4;rw [hk,es];rfl
  rw [e,Aoh es];refine Fm (x:=Sb) ?_;rintro f1 t1 G1 f2 t2 G2 f3 t3 G3 f4 t4 G4 f5 t5 G5 f6 t6 G6 f7 t7 G7 ez - - - - - - -;rw [ez];refine go ?_;intros;exact AG
 | some y =>
  have e:J4 x.Bb s=some (y.1,if s.Cq=2\/s.Cq=4 then Wz y.2 else bz wOk):=by unfold J4;rw [hk,es];rfl
  have hE:=Bea hg hk es;rw [e,Aoi hg hk es];obtain ⟨m,E⟩:=y;dsimp only at hE ⊢;refine Fm (x:=m) ?_;rintro f1 t1 G1 f2 t2 G2 f3 t3 G3 f4 t4 G4 f5 t5 G5 f6 t6 G6 f7 t7 G7 ez - - - - - - -;rw [ez];refine Av (E:=A8) (xs:=E) fun F8=>?_;refine go ?_;intros;refine C0 (⟨m,x.Il⟩:B4) s1 s2 (a1:=f1) (c1:=t1) (a2:=f2) (c2:=t2) (a3:=f3) (c3:=t3) (a4:=f4) (c4:=t4) (a5:=f5) (c5:=t5) (a6:=f6) (c6:=t6) (a7:=f7) (c7:=t7) ?_;cases b
  ·rw [aC (by simpa using hb.symm)];exact DK
  rw [aJ (by simpa using hb.symm)];exact BV
def U7 (n:Du) (line:au):Option NR :=
 if line.data.toList=Ahp then J4 n ⟨1,0,⟨#[]⟩⟩
 else if line.data.toList=Akb then J4 n ⟨4,0,⟨#[]⟩⟩
 else if line.data.toList=V1 then some ((P9 n).1,Wz (P9 n).2)
 else Pu n (Kr n line.data.toList)
theorem Bag {line:au} (h:(Fs line).length=1):Fs line=[line.data.toList]:=by
 unfold Fs at h ⊢;obtain ⟨r,hr,hi⟩:=O9 32 line.data.toList;rw [hr,aU] at h;have hb:=hi.1 (bv.1 EZ);exact Sn fun c hc e=>hb (e▸hc)
theorem Ay8 {n:Du} {line:au} (h:(Fs line).length=1):Om n line=U7 n line:=by
 have hw:=Bag h;have h0:atW (Fs line) 0=line.data.toList:=by rw [hw];rfl
 unfold U7
 split
 ·rename_i e;exact Abg (by unfold I3;rw [h0];exact aJ ⟨e,h⟩)
 ·rename_i e1
  split
  ·rename_i e;exact Abg (by unfold I3;rw [h0,aC (fun c=>e1 c.1),aC (fun c=>e1 c.1)];exact aJ ⟨e,h⟩)
  ·rename_i e2;have hs:I3 (Fs line)=none:=by
    unfold I3;rw [h0,aC (fun c=>e1 c.1),aC (fun c=>e1 c.1),aC (fun c=>e2 c.1)];exact aJ EZ
   unfold Om;rw [hs];dsimp only
   split
   ·rfl
   ·first|rfl|rw [aJ h]
theorem Auf (x:B4) (line:au) (v:Value) (F FT:aq) (hg:At x.Bb=true):Fn prog 69 [v,af line] [.isv Ed v x F,E4 FT] [] (fun (_:Wa)=>True) (fun u=>.tuple #[.agg u.cs.toArray,af (rsC x (U7 x.Bb line)).2]) (fun u=>[.isv Ed (.agg u.cs.toArray) (rsC x (U7 x.Bb line)).1 u.F]):=by
 refine enter func69 rfl ntmps69 fun w0=>?_;refine Cd ?_;rintro a1 c1 F1 a2 c2 F2 a3 c3 F3 a4 c4 F4 a5 c5 F5 a6 c6 F6 a7 c7 F7 rfl s1 s2 l1 l2 l3 l4 l5 l6 l7;refine Es x.Bb (a1:=a1) (a2:=a2) (a3:=a3) (a4:=a4) (a5:=a5) (a6:=a6) (a7:=a7) ?_;refine go ?_;intros;refine A4 rfl (fun h1=>?_) (fun h1=>?_)
 ·rw [show U7 x.Bb line=J4 x.Bb ⟨1,0,⟨#[]⟩⟩ by unfold U7;rw [aJ (show line.data.toList=Ahp from Dx.1 h1)]];have hP:=fun v F=>Qc x ⟨1,0,⟨#[]⟩⟩ false v F FT hg (aG _) FA;generalize rsC x (J4 x.Bb ⟨1,0,⟨#[]⟩⟩)=R at hP ⊢;refine go ?_;refine Bf (hP _ _) fun u _=>?_;refine Cd (x:=R.1) ?_;rintro f1 t1 G1 f2 t2 G2 f3 t3 G3 f4 t4 G4 f5 t5 G5 f6 t6 G6 f7 t7 G7 ez s3 s4 - - - - - - -;rw [ez];refine go ?_;refine C0 R.1 s3 s4 (a1:=f1) (c1:=t1) (a2:=f2) (c2:=t2) (a3:=f3) (c3:=t3) (a4:=f4) (c4:=t4) (a5:=f5) (c5:=t5) (a6:=f6) (c6:=t6) (a7:=f7) (c7:=t7) ?_
  exact AG
 refine go ?_;refine A4 rfl (fun h2=>?_) (fun h2=>?_)
 ·rw [show U7 x.Bb line=J4 x.Bb ⟨4,0,⟨#[]⟩⟩ by unfold U7;rw [aC (show ¬line.data.toList=Ahp from fun e=>h1 (Dx.2 e)),aJ (show line.data.toList=Akb from Dx.1 h2)]];have hP:=fun v F=>Qc x ⟨4,0,⟨#[]⟩⟩ true v F FT hg (aG _) FA;generalize rsC x (J4 x.Bb ⟨4,0,⟨#[]⟩⟩)=R at hP ⊢;refine go ?_;refine Bf (hP _ _) fun u _=>?_;refine Cd (x:=R.1) ?_;rintro f1 t1 G1 f2 t2 G2 f3 t3 G3 f4 t4 G4 f5 t5 G5 f6 t6 G6 f7 t7 G7 ez s3 s4 - - - - - - -;rw [ez];refine go ?_
  exact BB
 refine go ?_;refine A4 rfl (fun h3=>?_) (fun h3=>?_)
 ·rw [show U7 x.Bb line=some ((P9 x.Bb).1,Wz (P9 x.Bb).2) by unfold U7;rw [aC (show ¬line.data.toList=Ahp from fun e=>h1 (Dx.2 e)),aC (show ¬line.data.toList=Akb from fun e=>h2 (Dx.2 e)),aJ (show line.data.toList=V1 from Dx.1 h3)]];have hP:=fun v F=>Ap0 x.Bb v F FT hg;have hE:(P9 x.Bb).2.length<=900000000000/\∀e∈(P9 x.Bb).2,e.size<=100:=⟨by have:=Arj hg;omega,fun e he=>by have:=(X4 (Bd7 hg e he)).2;omega⟩;generalize P9 x.Bb=y at hP hE ⊢;obtain ⟨m,E⟩:=y;dsimp only at hP hE ⊢;refine go ?_;refine Bf (hP _ _) fun z _=>?_;refine Fm (x:=m) ?_
  rintro f1 t1 G1 f2 t2 G2 f3 t3 G3 f4 t4 G4 f5 t5 G5 f6 t6 G6 f7 t7 G7 ez - - - - - - -;rw [ez];refine Av (E:=A8) (xs:=E) fun F8=>?_;refine go ?_;intros;refine C0 (⟨m,x.Il⟩:B4) s1 s2 (a1:=f1) (c1:=t1) (a2:=f2) (c2:=t2) (a3:=f3) (c3:=t3) (a4:=f4) (c4:=t4) (a5:=f5) (c5:=t5) (a6:=f6) (c6:=t6) (a7:=f7) (c7:=t7) ?_;exact BV
 have eW:U7 x.Bb line=Pu x.Bb (Kr x.Bb line.data.toList):=by unfold U7;rw [aC (show ¬line.data.toList=Ahp from fun e=>h1 (Dx.2 e)),aC (show ¬line.data.toList=Akb from fun e=>h2 (Dx.2 e)),aC (show ¬line.data.toList=V1 from fun e=>h3 (Dx.2 e))]
 rw [eW,Ag5];obtain ⟨e1,e2,e3,e4⟩:=Hz hg;obtain ⟨q2,q8,qn,qu,qe,qt⟩:=M4 hg;have hG:=Ax.1 hg;have hS:=J3 hG.s;have hW:=Ds.1 (En.1 hG.s).1;have hS1:=hS.l;have hb1:=N3 (fun q hq=>(C7 (e3 q hq)).1) x.Bb.down.length;have hb2:=N3 (fun q hq=>(C7 (e4 q hq)).1) x.Bb.up.length;rw [bl] at hb1 hb2;have z1:=Aa2 (k:=qd x.Bb.down) EZ;have z2:=Aa2 (k:=qd x.Bb.up) EZ;have hld:=Aa5 x.Bb.Ab.Aa;unfold Li at hld;refine go ?_;refine A4 rfl (fun h4=>?_) (fun h4=>?_)
 ·rw [show Kr x.Bb line.data.toList=some (bz (Lib.itoa (Li x.Bb.Ab.Aa))) by unfold Kr;rw [aJ (show line.data.toList=Abs from Dx.1 h4)]];refine Io ?_;intros;refine Ar [1] [7,8] ?_;refine Df 0 1 2 3 ?_;refine dt 4 ?_;refine dN 5 ?_;refine oC ?_;refine cb (fun w2 s=>Ta x.Bb.Ab.Aa.Am x.Bb.Ab.Aa.size _ x.Bb.Ab.Aa.Ak.length _ w2 hW.1.1 hW.1.2 EZ) ?_;refine dk ?_;refine dN 6 ?_;refine oC ?_;refine cb (fun w2 st=>Vp (Cc x.Bb.Ab.Aa.Am x.Bb.Ab.Aa.Ak.length) EZ EZ w2) ?_;refine dk ?_;refine dN 7 ?_;refine oS ?_;refine Nm ?_;refine Q0 8 ?_;refine dd ?_;refine go ?_
  exact AG
 refine go ?_;refine A4 rfl (fun h5=>?_) (fun h5=>?_)
 ·rw [show Kr x.Bb line.data.toList=some (bz (Lib.itoa ((qd x.Bb.down:Nat):Int))++⟨#[32]⟩++bz (Lib.itoa ((qd x.Bb.up:Nat):Int))) by unfold Kr;rw [aC (show ¬line.data.toList=Abs from fun e=>h4 (Dx.2 e)),aJ (show line.data.toList=V2 from Dx.1 h5)]];refine go ?_;have hP:=fun v F=>Ah6 x.Bb v F;simp only [show Qi x.Bb=(((qd x.Bb.down:Nat):Int),((qd x.Bb.up:Nat):Int),true) by unfold Qi;rw [hg];rfl] at hP;refine Bf (hP _ _) fun _ _=>?_;refine Io ?_;intros;refine Ar [1] [] ?_;refine Dh 0 1 ?_;refine dt 4 ?_;refine dN 2 ?_;refine oC ?_
  refine cb (fun w2 st=>Vp ((qd x.Bb.down:Nat):Int) EZ EZ w2) ?_;refine dk ?_;refine dt 3 ?_ (hy:=Hi rfl rfl (by show _+1<=9223372036854775807;omega));refine dN 5 ?_;refine oC ?_;refine cb (fun w2 st=>Vp ((qd x.Bb.up:Nat):Int) EZ EZ w2) ?_;refine dk ?_;refine dt 6 ?_ (hy:=Hi rfl rfl (by rw [aE];show _+1+_<=9223372036854775807;omega));refine dN 7 ?_;refine oS ?_;refine dk ?_;refine dt 8 ?_;refine dd ?_;exact DK
 refine go ?_;refine A4 rfl (fun h6=>?_) (fun h6=>?_)
 ·rw [show Kr x.Bb line.data.toList=some (if Yy x.Bb then bz Bc0 else bz wNo) by unfold Kr;rw [aC (show ¬line.data.toList=Abs from fun e=>h4 (Dx.2 e)),aC (show ¬line.data.toList=V2 from fun e=>h5 (Dx.2 e)),aJ (show line.data.toList=Xx from Dx.1 h6)]];refine go ?_;have hP:=fun v F=>Ahe x.Bb v F;simp only [show Gb x.Bb=(Yy x.Bb,true) by unfold Gb;rw [hg];rfl] at hP;refine Bf (hP _ _) fun _ _=>?_;cases hst:Yy x.Bb
  ·exact DK
  ·exact DK
 ·rw [show Kr x.Bb line.data.toList=none by unfold Kr;rw [aC (show ¬line.data.toList=Abs from fun e=>h4 (Dx.2 e)),aC (show ¬line.data.toList=V2 from fun e=>h5 (Dx.2 e)),aC (show ¬line.data.toList=Xx from fun e=>h6 (Dx.2 e))]];exact DK
structure Aia (n:Du):Prop where
 h2:2<=n.Al.Ac.length
 h8:n.Al.Ac.length<=8
 hd:n.down.length<=8
 hu:n.up.length=n.down.length
 hq:∀q∈n.down++n.up,q.length<=6
 hi:n.Ab.Aa.Ak.length<=1000
theorem Aml {n:Du} (h:At n=true):Aia n:=by
 obtain ⟨q2,q8,qd,qu, -, -⟩:=M4 h;have h6:n.Ab.Aa.Ak.length<=6:=(J3 (Ax.1 h).s).l;exact ⟨q2,q8,qd,qu,Ai0 h,EZ⟩
theorem Avd {s:Jf} (h:Dq s=true):0<=s.node/\s.node<=7:=by
 unfold Dq at h
 split at h
 ·simp only [aw,aF] at h;omega
 ·split at h
  ·simp only [aw,aF] at h;omega
  ·unfold Oi E8 at h;simp only [aw,aF] at h;omega
theorem Acy {n:Int} (h0:-1<=n) (h1:n<=65536):(bz (Lib.itoa n)).size<=7:=by
 rw [Gk];by_cases h:0<=n
 ·rw [Nc h];have:=Dv 5 n.natAbs IC;omega
 ·rw [Aa3 EZ,aU];have:=Dv 5 n.natAbs IC;omega
theorem Ab3 (B g:Nat) (F:CuF) (s:Nl) (x:B4) (v:Value) (Fx:aq) (hc:Aia x.Bb) (ok:Hw B s) (hB:B<=700000000000) :
  Fn prog 20 [Ga g 0 0,v] [.sl Jo (ab F.a F.By.length F.c) F.By F.bs,.isv Ed v x Fx] [.row g 60 0 [] [ab F.a F.By.length F.c,aa (s.k:Nat),.int .u64 s.Hm] []] (fun (z:au × Nl)=>z.1.size<=100/\Hw (B+300) z.2) (fun z=>af z.1) (fun z=>[.row g 60 0 [] [ab F.a F.By.length F.c,aa (z.2.k:Nat),.int .u64 z.2.Hm] []]):=by
 refine enter func20 rfl ntmps20 fun w0=>?_;refine Cd ?_;rintro a1 c1 F1 a2 c2 F2 a3 c3 F3 a4 c4 F4 a5 c5 F5 a6 c6 F6 a7 c7 F7 rfl s1 s2 l1 l2 l3 l4 l5 l6 l7;refine Es x.Bb (a1:=a1) (a2:=a2) (a3:=a3) (a4:=a4) (a5:=a5) (a6:=a6) (a7:=a7) ?_;refine go ?_;intros;refine Bf (Aln _ g F s x.Bb _ _ hc.h2 hc.h8 hc.hd hc.hu hc.hq ok EZ) fun d hd=>?_;obtain ⟨hd1, -,hd3⟩:=hd;have hn:=Avd hd1;refine go ?_;refine cb (fun w2 st=>Vp d.t.node EZ EZ w2) ?_;refine go ?_;refine Bf (Ad0 _ g F 3 d.s hd3 EZ EZ) fun p hp=>?_;obtain ⟨b1,s1⟩:=p;obtain ⟨-,h1⟩:=hp;dsimp only at h1 ⊢
 refine go ?_;refine D0 [0,3,4] [1,2,3,4,5,6,7,8,9,10,11] (fun z:au × Nl=>[(5,af z.1)]) (fun z=>[.row g 60 0 [] [ab F.a F.By.length F.c,aa (z.2.k:Nat),.int .u64 z.2.Hm] []]) (fun z=>z.1.size<=7/\Hw (B+210) z.2) ?_ fun z hz=>?_
 ·cases b1
  ·refine go ?_;refine Bk (bz (Lib.itoa d.t.node),s1) ⟨Acy EZ EZ,h1.mono EZ⟩
  ·refine go ?_;refine Bf (Eb _ g F 9 s1 h1 EZ EZ) fun p hp=>?_;obtain ⟨r,s2⟩:=p;obtain ⟨hr,h2⟩:=hp;dsimp only at hr h2 ⊢;refine go ?_;refine cb (fun w2 st=>Vp ((r:Nat):Int) EZ EZ w2) ?_;refine go ?_;refine Bk (bz (Lib.itoa ((r:Nat):Int)),s2) ⟨Acy EZ EZ,h2.mono EZ⟩
 obtain ⟨t,s2⟩:=z;obtain ⟨ht,h2⟩:=hz;dsimp only at ht h2 ⊢;refine go ?_;refine Bf (Eb _ g F 14 s2 h2 EZ EZ) fun p hp=>?_;obtain ⟨r,s3⟩:=p;obtain ⟨hr,h3⟩:=hp;dsimp only at hr h3 ⊢;obtain rfl|rfl|rfl|rfl|rfl|rfl|rfl|rfl|rfl|rfl|rfl|rfl|rfl|rfl:r=0\/r=1\/r=2\/r=3\/r=4\/r=5\/r=6\/r=7\/r=8\/r=9\/r=10\/r=11\/r=12\/r=13:=EZ
 ·refine Io ?_;intros;refine Eh (xs:=[⟨#[97]⟩,⟨#[97,98,99]⟩,⟨#[120]⟩,⟨#[104,101,108,108,111]⟩,⟨#[90]⟩,⟨#[97,98,99,100,101,102,103,104,105]⟩]) (fun w=>Qa w _ FA) ?_ FA;refine Av (E:=A8) fun G2=>?_;refine go ?_;refine Bf (Aem _ _ F _ [⟨#[97]⟩,⟨#[97,98,99]⟩,⟨#[120]⟩,⟨#[104,101,108,108,111]⟩,⟨#[90]⟩,⟨#[97,98,99,100,101,102,103,104,105]⟩] _ s3 h3 EZ FA FA) fun q hq=>?_;obtain ⟨u,s4⟩:=q;obtain ⟨hq,h4⟩:=hq;dsimp only at hq h4 ⊢
  exact AU
 ·refine Io ?_;intros;refine Eh (xs:=[⟨#[97]⟩,⟨#[97,98,99]⟩,⟨#[120]⟩,⟨#[104,101,108,108,111]⟩,⟨#[90]⟩,⟨#[97,98,99,100,101,102,103,104,105]⟩]) (fun w=>Qa w _ FA) ?_ FA;refine Av (E:=A8) fun G2=>?_;refine go ?_;refine Bf (Aem _ _ F _ [⟨#[97]⟩,⟨#[97,98,99]⟩,⟨#[120]⟩,⟨#[104,101,108,108,111]⟩,⟨#[90]⟩,⟨#[97,98,99,100,101,102,103,104,105]⟩] _ s3 h3 EZ FA FA) fun q hq=>?_;obtain ⟨u,s4⟩:=q;obtain ⟨hq,h4⟩:=hq;dsimp only at hq h4 ⊢
  exact AU
 ·exact AQ
 ·exact AQ
 ·exact AQ
 ·refine go ?_;apply wO;apply oc;rfl;exact Hi rfl rfl (by show 3+_<=9223372036854775807;omega);refine go ?_;refine ret (⟨_,s3⟩:au × Nl) ⟨?_,h3.mono EZ⟩ rfl;show (⟨#[117,112,32]⟩++t:au).size<=100;rw [aE];show 3+_<=100;omega
 ·refine go ?_;apply wO;apply oc;rfl;exact Hi rfl rfl (by show 5+_<=9223372036854775807;omega);refine go ?_;refine ret (⟨_,s3⟩:au × Nl) ⟨?_,h3.mono EZ⟩ rfl;show (⟨#[108,111,115,101,32]⟩++t:au).size<=100;rw [aE];show 5+_<=100;omega
 ·refine go ?_;apply wO;apply oc;rfl;exact Hi rfl rfl (by show 4+_<=9223372036854775807;omega);refine go ?_;refine ret (⟨_,s3⟩:au × Nl) ⟨?_,h3.mono EZ⟩ rfl;show (⟨#[99,117,116,32]⟩++t:au).size<=100;rw [aE];show 4+_<=100;omega
 ·refine go ?_;apply wO;apply oc;rfl;exact Hi rfl rfl JM;refine go ?_;refine ret (⟨_,s3⟩:au × Nl) ⟨?_,h3.mono EZ⟩ rfl;show (⟨#[97,119,97,105,116,32]⟩++t:au).size<=100;rw [aE];show 6+_<=100;omega
 ·refine go ?_;apply wO;apply oc;rfl;exact Hi rfl rfl JM;refine go ?_;refine ret (⟨_,s3⟩:au × Nl) ⟨?_,h3.mono EZ⟩ rfl;show (⟨#[115,108,111,116,115,32]⟩++t:au).size<=100;rw [aE];show 6+_<=100;omega
 ·refine Ct x.Bb.Ab.Aa (a1:=a2) ?_;refine go ?_;apply wO;apply oc;rfl;exact Hi rfl rfl JM;refine go ?_;apply wO;apply oc;rfl;exact Hi rfl rfl (by rw [aE];show 6+_+1<=9223372036854775807;omega);refine go ?_;refine Bf (Ai2 _ g F s3 x.Bb.Ab.Aa _ F2 h3 EZ hc.hi) fun q hq=>?_;obtain ⟨m,s4⟩:=q;obtain ⟨hm,h4⟩:=hq;dsimp only at hm h4 ⊢;have hz:=Acy hm.1 hm.2;refine go ?_;refine cb (fun w2 st=>Vp m EZ EZ w2) ?_;refine go ?_
  apply wO;apply oc;rfl;exact Hi rfl rfl (by rw [aE,aE];show 6+_+1+_<=9223372036854775807;omega);refine go ?_;refine ret (⟨_,s4⟩:au × Nl) ⟨?_,h4.mono EZ⟩ rfl;show (⟨#[102,97,99,101,115,32]⟩++t++⟨#[32]⟩++bz (Lib.itoa m):au).size<=100;rw [aE,aE,aE];show 6+_+1+_<=100;omega
 ·refine Io ?_;intros;refine Eh (xs:=[⟨#[116,105,99,107]⟩,⟨#[100,114,97,105,110]⟩]) (fun w=>Qa w _ FA) ?_ FA;refine Av (E:=A8) fun G2=>?_;refine go ?_;refine Bf (Aem _ _ F _ [⟨#[116,105,99,107]⟩,⟨#[100,114,97,105,110]⟩] _ s3 h3 EZ FA FA) fun q hq=>?_;obtain ⟨u,s4⟩:=q;obtain ⟨hq,h4⟩:=hq;dsimp only at hq h4 ⊢;have hu:u.size<=20:=(by decide:∀y∈([⟨#[116,105,99,107]⟩,⟨#[100,114,97,105,110]⟩]:ai),y.size<=20) u hq;refine go ?_;refine ret (⟨u,s4⟩:au × Nl) ⟨by show u.size<=100;omega,h4.mono EZ⟩ rfl
 ·refine Io ?_;intros;refine Eh (xs:=[⟨#[115,101,110,100]⟩,⟨#[116,105,99,107]⟩,⟨#[100,114,97,105,110]⟩,⟨#[108,101,97,100]⟩,⟨#[113,117,101,117,101,100]⟩,⟨#[115,101,116,116,108,101,100]⟩,⟨#[]⟩,⟨#[119,104,97,116]⟩,⟨#[100,111,119,110]⟩,⟨#[100,111,119,110,32,120]⟩,⟨#[115,101,110,100,32,97,32,98]⟩,⟨#[102,97,99,101,115,32,49]⟩,⟨#[102,97,99,101,115,32,49,32,50,32,51]⟩,⟨#[97,64,98]⟩,⟨#[115,101,110,100,32]⟩]) (fun w=>Qa w _ FA) ?_ FA;refine Av (E:=A8) fun G2=>?_;refine go ?_
  refine Bf (Aem _ _ F _ [⟨#[115,101,110,100]⟩,⟨#[116,105,99,107]⟩,⟨#[100,114,97,105,110]⟩,⟨#[108,101,97,100]⟩,⟨#[113,117,101,117,101,100]⟩,⟨#[115,101,116,116,108,101,100]⟩,⟨#[]⟩,⟨#[119,104,97,116]⟩,⟨#[100,111,119,110]⟩,⟨#[100,111,119,110,32,120]⟩,⟨#[115,101,110,100,32,97,32,98]⟩,⟨#[102,97,99,101,115,32,49]⟩,⟨#[102,97,99,101,115,32,49,32,50,32,51]⟩,⟨#[97,64,98]⟩,⟨#[115,101,110,100,32]⟩] _ s3 h3 EZ FA FA) fun q hq=>?_;obtain ⟨u,s4⟩:=q;obtain ⟨hq,h4⟩:=hq;dsimp only at hq h4 ⊢
  exact AL
 ·refine Io ?_;intros;refine Eh (xs:=[⟨#[115,101,110,100]⟩,⟨#[116,105,99,107]⟩,⟨#[100,114,97,105,110]⟩,⟨#[108,101,97,100]⟩,⟨#[113,117,101,117,101,100]⟩,⟨#[115,101,116,116,108,101,100]⟩,⟨#[]⟩,⟨#[119,104,97,116]⟩,⟨#[100,111,119,110]⟩,⟨#[100,111,119,110,32,120]⟩,⟨#[115,101,110,100,32,97,32,98]⟩,⟨#[102,97,99,101,115,32,49]⟩,⟨#[102,97,99,101,115,32,49,32,50,32,51]⟩,⟨#[97,64,98]⟩,⟨#[115,101,110,100,32]⟩]) (fun w=>Qa w _ FA) ?_ FA;refine Av (E:=A8) fun G2=>?_;refine go ?_
  refine Bf (Aem _ _ F _ [⟨#[115,101,110,100]⟩,⟨#[116,105,99,107]⟩,⟨#[100,114,97,105,110]⟩,⟨#[108,101,97,100]⟩,⟨#[113,117,101,117,101,100]⟩,⟨#[115,101,116,116,108,101,100]⟩,⟨#[]⟩,⟨#[119,104,97,116]⟩,⟨#[100,111,119,110]⟩,⟨#[100,111,119,110,32,120]⟩,⟨#[115,101,110,100,32,97,32,98]⟩,⟨#[102,97,99,101,115,32,49]⟩,⟨#[102,97,99,101,115,32,49,32,50,32,51]⟩,⟨#[97,64,98]⟩,⟨#[115,101,110,100,32]⟩] _ s3 h3 EZ FA FA) fun q hq=>?_;obtain ⟨u,s4⟩:=q;obtain ⟨hq,h4⟩:=hq;dsimp only at hq h4 ⊢
  exact AL
def Wg (n:Du) (w:Bs) (k:Int):Option NR:=if P2 w≠0 then J4 n ⟨P2 w,k,⟨#[]⟩⟩ else Pu n (Ju n w [k])
theorem Aid {n:Du} {w:Bs} {l:ar} (h:E8 1 (l.getD 0 0) ((n.Al.Ac.length:Int) - 1)=false):Ju n w l=none:=by unfold Ju;rw [h];rfl
theorem Asz {n:Du} {w:Bs} {k:Int} (h:E8 1 k ((n.Al.Ac.length:Int) - 1)=true):Ju n w [k] =
  if w=Aho/\Tb n k=true then some (Uv ((Px n k.toNat).Ao.map (·.Ae)))
  else if w=Ahq/\Tb n k=true/\(Px n k.toNat).Be=true then some (Tw (Px n k.toNat).Aa)
  else none:=by
 rw [Uf (l:=[k]) h];by_cases h1:w=Aho/\Tb n k=true
 ·rw [aJ h1,aJ ⟨h1.1,rfl,h1.2⟩];rfl
 rw [aC h1,aC (fun e=>h1 ⟨e.1,e.2.2⟩)];by_cases h2:w=Ahq/\Tb n k=true/\(Px n k.toNat).Be=true
 ·rw [aJ h2,aJ ⟨h2.1,rfl,h2.2⟩];rfl
 rw [aC h2,aC (fun e=>h2 ⟨e.1,e.2.2⟩),aC (fun e=>by cases e.2.1)]
theorem As0 {n:Du} {a b:Int} (h:E8 1 a ((n.Al.Ac.length:Int) - 1)=true):Ju n Na [a,b] =
  if Tb n a=false then (if Bz b then some (Uv (K0 (Pk n a.toNat) b)) else none) else none:=by
 rw [Uf (l:=[a,b]) h,aC (fun e=>by cases e.2.1),aC (fun e=>by cases e.2.1)];by_cases h1:Tb n a=false
 ·rw [aJ h1,aJ ⟨rfl,rfl,h1⟩];rfl
 ·rw [aC h1,aC (fun e=>h1 e.2.2)]
theorem Amj {n:Du} {w:Bs} {l:ar} (h:1 < l.length) (h2:¬(w=Na/\l.length=2)):Ju n w l=none:=by
 unfold Ju
 split
 ·rw [aC (fun e=>by omega),aC (fun e=>by omega),aC (fun e=>h2 ⟨e.1,e.2.1⟩)]
 ·rfl
theorem Aud (x:B4) (w:au) (k:Int) (v:Value) (F FT:aq) (hg:At x.Bb=true):FV 138 [v,af w,aa k] [.isv Ed v x F,E4 FT] (af ((Ju x.Bb w.data.toList [k]).getD ⟨#[63]⟩)):=by
 refine enter func138 rfl ntmps138 fun w0=>?_;refine Cd ?_;rintro a1 c1 F1 a2 c2 F2 a3 c3 F3 a4 c4 F4 a5 c5 F5 a6 c6 F6 a7 c7 F7 rfl s1 s2 l1 l2 l3 l4 l5 l6 l7;refine Ir x.Bb.Al (a1:=a1) ?_;obtain ⟨e1,e2,e3,e4⟩:=Hz hg;obtain ⟨q2,q8,qn,qu,qe,qt⟩:=M4 hg;have hG:=Ax.1 hg;obtain ⟨-,qr, -, -⟩:=Bg.1 hG.l;refine go ?_;intros;refine ce (fun w s=>Ka _ _ _ _) ?_;rw [show (x.Bb.Ad.length:Int)=(x.Bb.Al.Ac.length:Int) by rw [qr]];cases hb:E8 1 k ((x.Bb.Al.Ac.length:Int) - 1)
 ·rw [Aid (l:=[k]) hb];exact AA
 have hb0:=hb;unfold E8 at hb0;simp only [aw,aF] at hb0;rw [Asz hb];obtain ⟨i,rfl⟩:∃i:Nat,k=(i:Int):=⟨k.toNat,EZ⟩;have h5:i < x.Bb.Ad.length:=EZ
 have er:Px x.Bb ((i:Int)).toNat=x.Bb.Ad[i]:=by rw [ba];exact Gp h5
 rw [er];have hR:=Ej.1 (e2 _ (aB h5));refine go ?_;refine Bf (N1 x.Bb.Al (i:Int) _ F1 (Gf hG.t) EZ) fun _ _=>?_;have hLN:Tb x.Bb (i:Int)=D5 x.Bb.Al.Ac (i:Int):=rfl;cases hlf:D5 x.Bb.Al.Ac (i:Int)
 ·rw [aC (fun e=>by rw [hLN,hlf] at e;cases e.2),aC (fun e=>by rw [hLN,hlf] at e;cases e.2.1)];exact AA
 rw [hLN,hlf];refine I8 (xs:=x.Bb.Ad) i ?_;rintro h5b b5 o5 a9 c9 F9 a10 c10 F10 e5 l9 l10;rw [e5];refine Ep x.Bb.Ad[i] ?_;refine go ?_;intros;refine A4 rfl (fun hw=>?_) (fun hw=>?_)
 ·rw [aJ ⟨(Dx.1 hw:w.data.toList=Aho),rfl⟩];refine go ?_;refine Bf (Ah5 x.Bb.Ad[i] _ _) fun z _=>?_;obtain ⟨ra,rc,rF⟩:=z;dsimp only;rw [show E6 x.Bb.Ad[i]=(x.Bb.Ad[i].Ao.map (·.Ae),true) by unfold E6;rw [e2 _ (aB h5)];rfl];dsimp only;refine Av (E:=Bc) (xs:=x.Bb.Ad[i].Ao.map (·.Ae)) fun F8=>?_;refine go ?_;have hN:∀f∈x.Bb.Ad[i].Ao.map (·.Ae),0<=f/\f<=99999:=fun f hf=>by
   obtain ⟨q,hq,rfl⟩:=bL.1 hf;have:=A9.1 (Xp hR hq).1;omega
  have hL:(x.Bb.Ad[i].Ao.map (·.Ae)).length<=1000:=by rw [bf];have:=(Dj.1 hR.q).2.1;omega
  have hP:=Ajh (x.Bb.Ad[i].Ao.map (·.Ae)) ra rc F8 hN hL;refine Bf hP fun _ _=>?_;exact AA
 rw [aC (fun e=>hw (Dx.2 e.1))];by_cases hw2:w=⟨#[115,108,111,116,115]⟩
 ·have hw3:w.data.toList=Ahq:=Dx.1 hw2;refine go ?_;rw [show decide (w=⟨#[115,108,111,116,115]⟩)=true from av hw2];cases hst:x.Bb.Ad[i].Be
  ·rw [aC (fun e=>by cases e.2.2)];exact AA
  rw [aJ ⟨hw3,rfl,rfl⟩];refine Cb x.Bb.Ad[i].Aa (a1:=a9) ?_;refine go ?_;refine Bf (Ai9 x.Bb.Ad[i].Aa _ F9 FT hR.w) fun _ _=>?_;exact AA
 ·rw [aC (fun e=>hw2 (Dx.2 e.1))];refine go ?_;rw [show decide (w=⟨#[115,108,111,116,115]⟩)=false from ay hw2];exact AA
theorem Ap4 (x:B4) (p q:Int) (v:Value) (F:aq) (hg:At x.Bb=true):FV 73 [v,aa p,aa q] [.isv Ed v x F] (af ((Ju x.Bb Na [p,q]).getD ⟨#[63]⟩)):=by
 refine enter func73 rfl ntmps73 fun w0=>?_;refine Cd ?_;rintro a1 c1 F1 a2 c2 F2 a3 c3 F3 a4 c4 F4 a5 c5 F5 a6 c6 F6 a7 c7 F7 rfl s1 s2 l1 l2 l3 l4 l5 l6 l7;refine Ir x.Bb.Al (a1:=a1) ?_;obtain ⟨e1,e2,e3,e4⟩:=Hz hg;obtain ⟨q2,q8,qn,qu,qe,qt⟩:=M4 hg;have hG:=Ax.1 hg;obtain ⟨-,qr, -, -⟩:=Bg.1 hG.l;refine go ?_;intros;refine ce (fun w s=>Ka _ _ _ _) ?_;rw [show (x.Bb.Af.length:Int)=(x.Bb.Al.Ac.length:Int) by rw [qe]];cases hb:E8 1 p ((x.Bb.Al.Ac.length:Int) - 1)
 ·rw [Aid (l:=[p,q]) hb];exact AA
 have hb0:=hb;unfold E8 at hb0;simp only [aw,aF] at hb0;rw [As0 hb];obtain ⟨i,rfl⟩:∃i:Nat,p=(i:Int):=⟨p.toNat,EZ⟩;have hie:i < x.Bb.Af.length:=EZ
 have er:Pk x.Bb ((i:Int)).toNat=x.Bb.Af[i]:=by rw [ba];exact Jq hie
 rw [er];refine go ?_;refine Bf (N1 x.Bb.Al (i:Int) _ F1 (Gf hG.t) EZ) fun _ _=>?_;have hLN:Tb x.Bb (i:Int)=D5 x.Bb.Al.Ac (i:Int):=rfl;cases hlf:D5 x.Bb.Al.Ac (i:Int)
 rotate_left
 ·rw [hLN,hlf,aC FA];exact AA
 rw [hLN,hlf,aJ rfl];have hgE:=e1 _ (aB hie);have hfn:=Air hgE q;refine P6 (xs:=x.Bb.Af) i ?_;rintro h5b b5 o5 a9 c9 F9 e5 l9;rw [e5];refine Gc x.Bb.Af[i] ?_;refine go ?_;refine Bf (Ahd x.Bb.Af[i] q _ _) fun z _=>?_;obtain ⟨fa,fc,fF⟩:=z;dsimp only;cases hs:Bz q
 ·rw [show Fh x.Bb.Af[i] q=([],false) by unfold Fh;rw [hs,ci];rfl];exact AA
 rw [show Fh x.Bb.Af[i] q=(K0 x.Bb.Af[i] q,true) by unfold Fh;rw [hs,hgE];rfl] at hfn ⊢;dsimp only at hfn ⊢;refine Av (E:=Bc) (xs:=K0 x.Bb.Af[i] q) fun F8=>?_;refine go ?_;have hP:=Ajh (K0 x.Bb.Af[i] q) fa fc F8 hfn.1 hfn.2;refine Bf hP fun _ _=>?_;exact AA
theorem Aue (x:B4) (w:au) (k:Int) (v:Value) (F FT:aq) (hg:At x.Bb=true):Fn prog 72 [v,af w,aa k] [.isv Ed v x F,E4 FT] [] (fun (_:Wa)=>True) (fun u=>.tuple #[.agg u.cs.toArray,af (rsC x (Wg x.Bb w.data.toList k)).2]) (fun u=>[.isv Ed (.agg u.cs.toArray) (rsC x (Wg x.Bb w.data.toList k)).1 u.F]):=by
 refine enter func72 rfl ntmps72 fun w0=>?_;refine Cd ?_;rintro a1 c1 F1 a2 c2 F2 a3 c3 F3 a4 c4 F4 a5 c5 F5 a6 c6 F6 a7 c7 F7 rfl s1 s2 l1 l2 l3 l4 l5 l6 l7;refine Es x.Bb (a1:=a1) (a2:=a2) (a3:=a3) (a4:=a4) (a5:=a5) (a6:=a6) (a7:=a7) ?_;refine go ?_;intros;refine A4 rfl (fun h1=>?_) (fun h1=>?_)
 ·rw [show Wg x.Bb w.data.toList k=J4 x.Bb ⟨2,k,⟨#[]⟩⟩ by rw [(Dx.1 h1:w.data.toList=_)];rfl];have hP:=fun v F=>Qc x ⟨2,k,⟨#[]⟩⟩ true v F FT hg (aG _) (by show _=decide ((2:Int)=2\/(2:Int)=4);decide);generalize rsC x (J4 x.Bb ⟨2,k,⟨#[]⟩⟩)=R at hP ⊢;refine go ?_;refine Bf (hP _ _) fun u _=>?_;refine Cd (x:=R.1) ?_;rintro f1 t1 G1 f2 t2 G2 f3 t3 G3 f4 t4 G4 f5 t5 G5 f6 t6 G6 f7 t7 G7 ez s3 s4 - - - - - - -;rw [ez];refine go ?_;refine C0 R.1 s3 s4 (a1:=f1) (c1:=t1) (a2:=f2) (c2:=t2) (a3:=f3) (c3:=t3) (a4:=f4) (c4:=t4) (a5:=f5) (c5:=t5) (a6:=f6) (c6:=t6) (a7:=f7) (c7:=t7) ?_
  exact AG
 refine go ?_;refine A4 rfl (fun h2=>?_) (fun h2=>?_)
 ·rw [show Wg x.Bb w.data.toList k=J4 x.Bb ⟨5,k,⟨#[]⟩⟩ by rw [(Dx.1 h2:w.data.toList=_)];rfl];have hP:=fun v F=>Qc x ⟨5,k,⟨#[]⟩⟩ false v F FT hg (aG _) (by show _=decide ((5:Int)=2\/(5:Int)=4);decide);generalize rsC x (J4 x.Bb ⟨5,k,⟨#[]⟩⟩)=R at hP ⊢;refine go ?_;refine Bf (hP _ _) fun u _=>?_;refine Cd (x:=R.1) ?_;rintro f1 t1 G1 f2 t2 G2 f3 t3 G3 f4 t4 G4 f5 t5 G5 f6 t6 G6 f7 t7 G7 ez s3 s4 - - - - - - -;rw [ez];refine go ?_;refine C0 R.1 s3 s4 (a1:=f1) (c1:=t1) (a2:=f2) (c2:=t2) (a3:=f3) (c3:=t3) (a4:=f4) (c4:=t4) (a5:=f5) (c5:=t5) (a6:=f6) (c6:=t6) (a7:=f7) (c7:=t7) ?_
  exact AG
 refine go ?_;refine A4 rfl (fun h3=>?_) (fun h3=>?_)
 ·rw [show Wg x.Bb w.data.toList k=J4 x.Bb ⟨3,k,⟨#[]⟩⟩ by rw [(Dx.1 h3:w.data.toList=_)];rfl];have hP:=fun v F=>Qc x ⟨3,k,⟨#[]⟩⟩ false v F FT hg (aG _) (by show _=decide ((3:Int)=2\/(3:Int)=4);decide);generalize rsC x (J4 x.Bb ⟨3,k,⟨#[]⟩⟩)=R at hP ⊢;refine go ?_;refine Bf (hP _ _) fun u _=>?_;refine Cd (x:=R.1) ?_;rintro f1 t1 G1 f2 t2 G2 f3 t3 G3 f4 t4 G4 f5 t5 G5 f6 t6 G6 f7 t7 G7 ez s3 s4 - - - - - - -;rw [ez];refine go ?_;refine C0 R.1 s3 s4 (a1:=f1) (c1:=t1) (a2:=f2) (c2:=t2) (a3:=f3) (c3:=t3) (a4:=f4) (c4:=t4) (a5:=f5) (c5:=t5) (a6:=f6) (c6:=t6) (a7:=f7) (c7:=t7) ?_
  exact AG
 refine go ?_;refine A4 rfl (fun h4=>?_) (fun h4=>?_)
 ·rw [show Wg x.Bb w.data.toList k=J4 x.Bb ⟨6,k,⟨#[]⟩⟩ by rw [(Dx.1 h4:w.data.toList=_)];rfl];have hP:=fun v F=>Qc x ⟨6,k,⟨#[]⟩⟩ false v F FT hg (aG _) (by show _=decide ((6:Int)=2\/(6:Int)=4);decide);generalize rsC x (J4 x.Bb ⟨6,k,⟨#[]⟩⟩)=R at hP ⊢;refine go ?_;refine Bf (hP _ _) fun u _=>?_;refine Cd (x:=R.1) ?_;rintro f1 t1 G1 f2 t2 G2 f3 t3 G3 f4 t4 G4 f5 t5 G5 f6 t6 G6 f7 t7 G7 ez s3 s4 - - - - - - -;rw [ez];refine go ?_;refine C0 R.1 s3 s4 (a1:=f1) (c1:=t1) (a2:=f2) (c2:=t2) (a3:=f3) (c3:=t3) (a4:=f4) (c4:=t4) (a5:=f5) (c5:=t5) (a6:=f6) (c6:=t6) (a7:=f7) (c7:=t7) ?_
  exact AG
 have eN:Wg x.Bb w.data.toList k=Pu x.Bb (Ju x.Bb w.data.toList [k]):=by
  unfold Wg P2;rw [aC (show ¬w.data.toList=Ao0 from fun e=>h1 (Dx.2 e)),aC (show ¬w.data.toList=wUp from fun e=>h2 (Dx.2 e)),aC (show ¬w.data.toList=Ao1 from fun e=>h3 (Dx.2 e)),aC (show ¬w.data.toList=Bac from fun e=>h4 (Dx.2 e))];rfl
 rw [eN,Ag5];refine Io ?_;intros;refine Ar [1] [] ?_;refine Df 0 1 2 3 ?_;refine dN 4 ?_;refine oC ?_;refine Bf (Aud x w k _ _ FT hg) fun _ _=>?_;refine dk ?_;refine dN 5 ?_;refine oS ?_;refine dk ?_;refine dt 6 ?_;refine dd ?_;exact DK
theorem Alg {n:Du} {line:au} {ws:ai} (hW:wsL ws=Fs line) (h0:1 < ws.length):Om n line=match I3 (wsL ws) with
  | some s=>J4 n s
  | none=>if Q6 (ws.drop 1) then Pu n (Ju n (ws[0]).data.toList (J0 (ws.drop 1))) else none:=by
 have hl:(wsL ws).length=ws.length:=by unfold wsL;rw [bf]
 have hd:¬line.data.toList=V1:=fun e=>by
  have h2:Fs line=[V1]:=by unfold Fs;rw [e];rfl
  rw [<-hW] at h2;rw [h2] at hl;simp at hl;omega
 have hdr:((wsL ws).drop 1).map bz=ws.drop 1:=by
  unfold wsL;rw [<-List.map_drop,eK];exact (dR fun x _=>Wv x).trans (fP _)
 unfold Om;rw [<-hW];cases I3 (wsL ws) with
 | some s=>rfl
 | none =>
  dsimp only;rw [aC hd,aC EZ,hdr,show atW (wsL ws) 0=(ws[0]).data.toList from Rr EZ]
theorem Ay7 {n:Du} {line:au} {ws:ai} (hW:wsL ws=Fs line) (h1:1 < ws.length) (h:(ws[0]'EZ)=⟨#[115,101,110,100]⟩) (hn:ws.length=2) (he:¬ws[1]=⟨#[]⟩):Om n line=J4 n ⟨1,0,ws[1]⟩:=by
 rw [Alg hW h1,Ad9 h1 h hn he]
theorem Ay5 {n:Du} {line:au} {ws:ai} (hW:wsL ws=Fs line) (h:3 < ws.length):Om n line=none:=by
 rw [Alg hW EZ,Xt EZ (fun _ e=>by omega) EZ];dsimp only
 split
 ·rw [Amj (by unfold J0;rw [bf,aX];omega) (fun e=>by have:=e.2;unfold J0 at this;rw [bf,aX] at this;omega)];rfl
 ·rfl
theorem Asd {n:Du} {line:au} {ws:ai} (hW:wsL ws=Fs line) (h1:1 < ws.length) (hn:ws.length=2) (hs:¬((ws[0]'EZ)=⟨#[115,101,110,100]⟩/\¬ws[1]=⟨#[]⟩)):Om n line=if (C3 ws[1]).2=true then Wg n (ws[0]'EZ).data.toList (C3 ws[1]).1 else none:=by
 rw [Alg hW h1,Aj4 h1 hn hs]
 match ws,hn with
 | [a,b],_ =>
  show (match (if P2 a.data.toList≠0/\(C3 b).2=true then some (⟨P2 a.data.toList,(C3 b).1,⟨#[]⟩⟩:Jf) else none) with
   | some s=>J4 n s
   | none=>if Q6 [b] then Pu n (Ju n a.data.toList (J0 [b])) else none)=if (C3 b).2=true then Wg n a.data.toList (C3 b).1 else none
  have ho:Q6 [b]=(C3 b).2:=by unfold Q6;simp
  have hv:J0 [b]=[(C3 b).1]:=rfl;rw [ho,hv];unfold Wg;by_cases hk:P2 a.data.toList≠0
  ·cases hp:(C3 b).2
   ·rw [aC (fun e=>by cases e.2)];rfl
   ·rw [aJ ⟨hk,rfl⟩,aJ hk];rfl
  ·rw [aC (fun e=>hk e.1),aC hk]
theorem Ajz {n:Du} {line:au} {ws:ai} (hW:wsL ws=Fs line) (h1:1 < ws.length) (h2:2 < ws.length) (hn:ws.length=3):Om n line=if (C3 ws[1]).2=true/\(C3 ws[2]).2=true/\(ws[0]'EZ).data.toList=Na then Pu n (Ju n Na [(C3 ws[1]).1,(C3 ws[2]).1]) else none:=by
 rw [Alg hW h1,Xt EZ (fun _ e=>by omega) EZ]
 match ws,hn with
 | [a,b,c],_ =>
  show (if Q6 [b,c] then Pu n (Ju n a.data.toList (J0 [b,c])) else none)=if (C3 b).2=true/\(C3 c).2=true/\a.data.toList=Na then Pu n (Ju n Na [(C3 b).1,(C3 c).1]) else none
  have ho:Q6 [b,c]=((C3 b).2 && (C3 c).2):=by unfold Q6;simp
  have hv:J0 [b,c]=[(C3 b).1,(C3 c).1]:=rfl;rw [ho,hv];by_cases hf:a.data.toList=Na
  ·rw [hf];cases (C3 b).2
   ·rw [aC (show ¬(false=true/\(C3 c).2=true/\Na=Na) from fun e=>by cases e.1)];rfl
   cases (C3 c).2
   ·rw [aC (show ¬(true=true/\false=true/\Na=Na) from fun e=>by cases e.2.1)];rfl
   rw [aJ (show true=true/\true=true/\Na=Na from ⟨rfl,rfl,rfl⟩)];rfl
  ·rw [aC (show ¬((C3 b).2=true/\(C3 c).2=true/\a.data.toList=Na) from fun e=>hf e.2.2),Amj FB (fun e=>hf e.1)];cases (C3 b).2 <;> cases (C3 c).2 <;> rfl
theorem Xr (s:au) (hs:s.size<=1000000000):FV 71 [af s] [] (.tuple #[aa (C3 s).1,.bool (C3 s).2]):=by
 refine enter func71 rfl ntmps71 fun w0=>?_;refine go ?_;refine Bf (Axo s hs) fun _ _=>?_;exact AA
theorem Axr (x:B4) (line:au) (v:Value) (F FT:aq) (hg:At x.Bb=true) (hl:line.size<=900):Fn prog 40 [v,af line] [.isv Ed v x F,E4 FT] [] (fun (_:Wa)=>True) (fun u=>.tuple #[.agg u.cs.toArray,af (rsC x (Om x.Bb line)).2]) (fun u=>[.isv Ed (.agg u.cs.toArray) (rsC x (Om x.Bb line)).1 u.F]):=by
 obtain ⟨hw0,hwl,hws⟩:=Akd line;refine enter func40 rfl ntmps40 fun w0=>?_;refine Cd ?_;rintro a1 c1 F1 a2 c2 F2 a3 c3 F3 a4 c4 F4 a5 c5 F5 a6 c6 F6 a7 c7 F7 rfl s1 s2 l1 l2 l3 l4 l5 l6 l7;refine Es x.Bb (a1:=a1) (a2:=a2) (a3:=a3) (a4:=a4) (a5:=a5) (a6:=a6) (a7:=a7) ?_;refine go ?_;intros;refine Bf (Ya line 32 EZ) fun q _=>?_;obtain ⟨qa,qc,qF⟩:=q;dsimp only;rw [show (Dm 32 line.data.toList).map bz=T8 line from rfl];generalize hwd:T8 line=ws at *;have hWL:wsL ws=Fs line:=by rw [<-hwd];exact Ake line
 refine Av (E:=A8) (xs:=ws) fun F8=>?_;refine go ?_;refine A4 rfl (fun h1=>?_) (fun h1=>?_)
 ·have hr:=Ay8 (n:=x.Bb) (line:=line) (by rw [<-hWL];unfold wsL;rw [bf];omega);rw [hr];have hP:=fun v F=>Auf x line v F FT hg;generalize rsC x (U7 x.Bb line)=R at hP ⊢;refine go ?_;refine Bf (hP _ _) fun u _=>?_;refine Cd (x:=R.1) ?_;rintro f1 t1 G1 f2 t2 G2 f3 t3 G3 f4 t4 G4 f5 t5 G5 f6 t6 G6 f7 t7 G7 ez s3 s4 - - - - - - -;rw [ez];refine go ?_;exact BB
 have hi1:1 < ws.length:=EZ
 have hs1:=hws _ (aB hi1);refine Jv (xs:=ws) 0 ?_;rintro hi0 b0 o0 rfl s0;refine Jv (xs:=ws) 1 ?_;rintro - b1 o1 e9 s9;cases e9;apply Og;refine D0 [2,4,5,6,7] [0,1,2,3,4,5,6,7,8,9,10,11,12,13,14] (fun b:Bool=>[(24,.bool b)]) (fun _=>[]) (fun b=>b=decide (ws[0]=⟨#[115,101,110,100]⟩/\ws.length=2/\¬ws[1]=⟨#[]⟩)) ?_ fun b hb9=>?_
 ·by_cases hs:ws[0]=⟨#[115,101,110,100]⟩
  ·refine go ?_;rw [show decide (ws[0]=⟨#[115,101,110,100]⟩)=true from av hs];refine go ?_;by_cases hn:ws.length=2
   ·rw [show decide ((ws.length:Int)=2)=true from av EZ];refine go ?_;refine Bk (decide (¬ws[1]=⟨#[]⟩)) ?_;simp [hs,hn]
   ·rw [show decide ((ws.length:Int)=2)=false from ay EZ];refine go ?_;refine Bk false ?_;simp [hn]
  ·refine go ?_;rw [show decide (ws[0]=⟨#[115,101,110,100]⟩)=false from ay hs];refine go ?_;refine Bk false ?_;simp [hs]
 subst hb9;by_cases hc:ws[0]=⟨#[115,101,110,100]⟩/\ws.length=2/\¬ws[1]=⟨#[]⟩
 ·rw [av hc];rw [Ay7 hWL hi1 hc.1 hc.2.1 hc.2.2];have hP:=fun v F=>Qc x ⟨1,0,ws[1]⟩ false v F FT hg (show (ws[1]).size<=maxLen by unfold maxLen;omega) (by show _=decide ((1:Int)=2\/(1:Int)=4);decide);generalize rsC x (J4 x.Bb ⟨1,0,ws[1]⟩)=R at hP ⊢;refine Io ?_;intros;refine Ar [0,4] [] ?_;refine Df 0 1 2 3 ?_;refine dt 4 ?_;refine dN 5 ?_;refine oC ?_;refine Bf (hP _ _) fun u _=>?_;refine Cd (x:=R.1) ?_;rintro f1 t1 G1 f2 t2 G2 f3 t3 G3 f4 t4 G4 f5 t5 G5 f6 t6 G6 f7 t7 G7 ez s3 s4 - - - - - - -;rw [ez];refine dk ?_;refine Dh 6 7 ?_;refine dN 8 ?_;refine oS ?_;refine dk ?_
  refine dt 9 ?_;refine dd ?_;refine go ?_;exact BB
 rw [ay hc];refine go ?_;refine A4 rfl (fun h3=>?_) (fun h3=>?_)
 ·rw [Ay5 hWL EZ];exact DK
 refine go ?_;refine Bf (Xr ws[1] EZ) fun _ _=>?_;cases hp:(C3 ws[1]).2
 ·have hr:Om x.Bb line=none:=by
   by_cases hn:ws.length=2
   ·rw [Asd hWL hi1 hn (fun e=>hc ⟨e.1,hn,e.2⟩),hp];rfl
   ·rw [Ajz hWL hi1 EZ EZ,hp,aC (fun e=>by cases e.1)]
  rw [hr];exact DK
 refine go ?_;refine A4 rfl (fun h2=>?_) (fun h2=>?_)
 ·have hn:ws.length=2:=EZ
  rw [Asd hWL hi1 hn (fun e=>hc ⟨e.1,hn,e.2⟩),hp,aJ rfl];have hP:=fun v F=>Aue x ws[0] (C3 ws[1]).1 v F FT hg;generalize rsC x (Wg x.Bb (ws[0]).data.toList (C3 ws[1]).1)=R at hP ⊢;refine Io ?_;intros;refine Ar [1,4] [] ?_;refine Df 0 1 2 3 ?_;refine dt 4 ?_;refine dN 5 ?_;refine oC ?_;refine Bf (hP _ _) fun u _=>?_;refine Cd (x:=R.1) ?_;rintro f1 t1 G1 f2 t2 G2 f3 t3 G3 f4 t4 G4 f5 t5 G5 f6 t6 G6 f7 t7 G7 ez s3 s4 - - - - - - -;rw [ez];refine dk ?_;refine Dh 6 7 ?_;refine dN 8 ?_;refine oS ?_;refine dk ?_;refine dt 9 ?_;refine dd ?_;refine go ?_
  exact BB
 have hn:ws.length=3:=EZ
 have hi2:2 < ws.length:=EZ
 have hs2:=hws _ (aB hi2);rw [Ajz hWL hi1 hi2 hn,hp];refine Jv (xs:=ws) 2 ?_;rintro - b2 o2 e9 s8;cases e9;refine go ?_;refine Bf (Xr ws[2] EZ) fun _ _=>?_;cases hp2:(C3 ws[2]).2
 ·rw [aC (fun e=>by cases e.2.1)];exact DK
 by_cases hf:ws[0]=⟨#[102,97,99,101,115]⟩
 ·rw [aJ ⟨rfl,rfl,(Dx.1 hf:(ws[0]).data.toList=Na)⟩,Ag5];refine go ?_;rw [show decide (¬ws[0]=⟨#[102,97,99,101,115]⟩)=false from ay (fun h=>h hf)];refine Io ?_;intros;refine Ar [5] [] ?_;refine Df 0 1 2 3 ?_;refine dN 4 ?_;refine oC ?_;refine Bf (Ap4 x (C3 ws[1]).1 (C3 ws[2]).1 _ _ hg) fun _ _=>?_;refine dk ?_;refine dN 5 ?_;refine oS ?_;refine dk ?_;refine dt 6 ?_;refine dd ?_;exact DK
 ·rw [aC (fun e=>hf (Dx.2 e.2.2))];refine go ?_;rw [show decide (¬ws[0]=⟨#[102,97,99,101,115]⟩)=true from av hf];exact DK
theorem Bcn {x:B4} {line:au}:rsC x (Om x.Bb line)=(⟨Hl x.Bb line,x.Il⟩,Py x.Bb line):=by
 unfold rsC Hl Py;cases Om x.Bb line <;> rfl
theorem Au9 (l:Log) (line Gj:au) (w:World) (hv:Gt l.Cg.data.toList l.pending.data.toList l.count=true) (hc:¬l.count=60) (hr:Lg.Bp line Gj=true) (hz:l.Cg.size+l.pending.size<=30000) (h1:line.size<=160) (h2:Gj.size<=200) :
  Calls prog 36 #[.agg #[af l.Cg,af l.pending,aa l.count],.agg #[af line,af Gj]] w (RB (.tuple #[.agg #[af (Rl l line Gj).Cg,af (Rl l line Gj).pending,aa (Rl l line Gj).count],aa 0]) w):=by
 have hcn:=Lg.Tz hv;obtain ⟨k,hk⟩:∃k:Nat,l.count=k:=⟨l.count.toNat,EZ⟩;have h:=(Aj2 l.Cg l.pending line Gj k (by rw [<-hk];exact hv) EZ hr hz h1 h2).val w nofun;rw [<-hk] at h;unfold Rl;rw [show k=l.count.toNat by omega] at h;exact h
theorem Rb (x:B4) (line:au) (v:Value) (F FT:aq) (hs:P5 x.Bb) (hz:x.Il.Cg.size+x.Il.pending.size<=1048576) (hl:line.size<=maxLen):Fn prog 14 [v,af line] [.isv Ed v x F,E4 FT] [] (fun (_:Wa)=>True) (fun u=>.tuple #[.agg u.cs.toArray,af (Ln x line).2]) (fun u=>[.isv Ed (.agg u.cs.toArray) (Ln x line).1 u.F]):=by
 refine enter func14 rfl ntmps14 fun w0=>?_;refine Cd ?_;rintro a1 c1 F1 a2 c2 F2 a3 c3 F3 a4 c4 F4 a5 c5 F5 a6 c6 F6 a7 c7 F7 rfl s1 s2 l1 l2 l3 l4 l5 l6 l7;refine Es x.Bb (a1:=a1) (a2:=a2) (a3:=a3) (a4:=a4) (a5:=a5) (a6:=a6) (a7:=a7) ?_;refine go ?_;intros;refine Bf (Anh x _ F hs) fun u0 _=>?_;refine Cd (x:=x) ?_;rintro f1 t1 G1 f2 t2 G2 f3 t3 G3 f4 t4 G4 f5 t5 G5 f6 t6 G6 f7 t7 G7 ez - - - - - - - - -;rw [ez];refine go ?_;intros;refine Bf (Yb x _ F hz) fun _ _=>?_;unfold Ln;cases hg:D7 x
 ·rw [aC FA];exact BK
 rw [aJ rfl];have hgn:At x.Bb=true:=JA
 have hgl:Gt x.Il.Cg.data.toList x.Il.pending.data.toList x.Il.count=true:=by unfold D7 at hg;rw [aw] at hg;exact hg.2
 have hsz:=Aet hg;refine go ?_;refine cb (fun w st=>Lg.Si line ⟨#[]⟩ w hl (aG _)) ?_;rw [show Lg.Bp line ⟨#[]⟩=T3 line from rfl];cases h1:T3 line
 ·have e:Od x line=(x,bz Bcz):=by unfold Od;rw [h1];rfl
  rw [e];exact BK
 refine go ?_;refine A4 rfl (fun h2=>?_) (fun h2=>?_)
 ·have e:Od x line=(x,bz Asm):=by unfold Od;rw [h1,aJ rfl,aJ h2]
  rw [e];exact BK
 have hlz:line.size<=160:=by
  have h:=h1;unfold T3 Lg.Bp E8 at h;simp only [aw,aF] at h;have:=h.1.1.1.1.2;omega
 rw [Apn ⟨h1,h2⟩];have ht:=Akr (Alf (line:=line) hgn);have hgr:=Zs h1 ht.1 ht.2;have hgm:=Ajy (line:=line) hgn;refine C0 x s1 s2 (a1:=f1) (c1:=t1) (a2:=f2) (c2:=t2) (a3:=f3) (c3:=t3) (a4:=f4) (c4:=t4) (a5:=f5) (c5:=t5) (a6:=f6) (c6:=t6) (a7:=f7) (c7:=t7) ?_;refine go ?_;refine Bf (Axr x line _ _ FT hgn EZ) fun u _=>?_;rw [Bcn];dsimp only;refine Cd (x:=(⟨Hl x.Bb line,x.Il⟩:B4)) ?_;rintro g1 u1 K1 g2 u2 K2 g3 u3 K3 g4 u4 K4 g5 u5 K5 g6 u6 K6 g7 u7 K7 ez - - - - - - - - -;rw [ez];refine go ?_;intros;refine Bf (Anh ⟨Hl x.Bb line,x.Il⟩ _ _ (M6 hgm)) fun u1 _=>?_
 refine Cd (x:=(⟨Hl x.Bb line,x.Il⟩:B4)) ?_;rintro b1 d1 L1 b2 d2 L2 b3 d3 L3 b4 d4 L4 b5 d5 L5 b6 d6 L6 b7 d7 L7 ez - - - - - - - - -;rw [ez];refine go ?_;refine D0 [1,2,4,5,6] [0,1,2,3,4,5,6,18,27,28,37,38] (fun _:Unit=>[(8,af (Rs (Py x.Bb line)))]) (fun _=>[]) (fun _=>True) ?_ fun _ _=>?_
 ·refine A4 rfl (fun h5=>?_) (fun h5=>?_)
  ·have e:Rs (Py x.Bb line)=bz Bad:=by unfold Rs;rw [aJ EZ]
   rw [e];exact CP
  ·have e:Rs (Py x.Bb line)=Py x.Bb line:=by unfold Rs;rw [aC EZ]
   rw [e];exact CP
 refine go ?_;refine cb (fun w st=>Au9 x.Il line (Rs (Py x.Bb line)) w hgl h2 hgr hsz hlz ht.2) ?_;have hcg:=Aet (Afx (line:=line) hg);rw [Apn ⟨h1,h2⟩] at hcg;dsimp only at hcg;refine go ?_;refine C0 (⟨Hl x.Bb line,Rl x.Il line (Rs (Py x.Bb line))⟩:B4) (show (Rl x.Il line (Rs (Py x.Bb line))).Cg.size<=maxLen by unfold maxLen;omega) (show (Rl x.Il line (Rs (Py x.Bb line))).pending.size<=maxLen by unfold maxLen;omega) (a1:=b1) (c1:=d1) (a2:=b2) (c2:=d2) (a3:=b3) (c3:=d3) (a4:=b4) (c4:=d4) (a5:=b5) (c5:=d5) (a6:=b6) (c6:=d6) (a7:=b7) (c7:=d7) ?_;exact AG
structure RsS where
 k:Nat
 z:NL
 F:aq
 a:aj
 c:Nat
 Fa:aq
theorem Aug (t:Bs):(Dm 10 t).length<=t.length+1/\∀u∈Dm 10 t,u.length<=t.length:=by
 have hcb:=Lib.countB_le ⟨#[10]⟩ FA (bz t).size (bz t) (aL _);have hlen:=Lib.splitB_all ⟨#[10]⟩ FA 0 _ (bz t) rfl;rw [U3,I1,bf] at hlen;rw [Gk] at hcb;refine ⟨EZ,fun u hu=>?_⟩;have h:bz u∈(Dm 10 t).map bz:=bL.2 ⟨u,hu,rfl⟩;have e:=U3 10 (bz t);rw [I1] at e;rw [<-e] at h;have:=R7 ⟨#[10]⟩ (bz t).size _ (bz t) (aL _) (bz u) h;rw [Gk,Gk] at this;exact this
theorem Ajk (t:au):(Kb t).length<=t.size+1/\∀l∈Kb t,l.size<=t.size:=by
 obtain ⟨h1,h2⟩:=Aug t.data.toList;rw [Cp] at h1;unfold Kb;rw [bf];refine ⟨h1,fun l hl=>?_⟩;obtain ⟨u,hu,rfl⟩:=bL.1 hl;have:=h2 u hu;rw [Cp] at this;rw [Gk];exact this
theorem Ajv {c:B4} {l:au} (hg:D7 c=true):(Od c l).2.size<=200:=by
 unfold Od
 split
 ·split
  ·show (bz Asm).size<=200;decide
  ·exact (Akr (Alf JA)).2
 ·show (bz Bcz).size<=200;decide
theorem Ams {x:B4} {ls:ai} {k:Nat} (h:k < ls.length):Ch x (ls.take (k+1))=((Od (Ch x (ls.take k)).1 ls[k]).1,(Ch x (ls.take k)).2++[(Od (Ch x (ls.take k)).1 ls[k]).2]):=by
 rw [aO h,Afy]
theorem Adh (x:B4) (t:au) (v:Value) (F FT:aq) (hs:P5 x.Bb) (hz:x.Il.Cg.size+x.Il.pending.size<=1048576) (hl:t.size<=1048576):Fn prog 7 [v,af t] [.isv Ed v x F,E4 FT] [] (fun (_:OwR)=>True) (fun z=>.tuple #[.slice z.a (Dg x t).1.length z.c,.bool (Dg x t).2]) (fun z=>[.ow A8 9 (.slice z.a (Dg x t).1.length z.c) (Dg x t).1 z.F]):=by
 obtain ⟨hll,hls⟩:=Ajk t;refine enter func7 rfl ntmps7 fun w0=>?_;refine Cd ?_;rintro a1 c1 F1 a2 c2 F2 a3 c3 F3 a4 c4 F4 a5 c5 F5 a6 c6 F6 a7 c7 F7 rfl s1 s2 l1 l2 l3 l4 l5 l6 l7;refine Es x.Bb (a1:=a1) (a2:=a2) (a3:=a3) (a4:=a4) (a5:=a5) (a6:=a6) (a7:=a7) ?_;refine Cf A8 9 ?_;refine go ?_;intros;refine cn (fun w st=>Ase t ⟨#[10]⟩ EZ FA FT w (st.get (p:=E4 FT) FB)) fun a0 c0 F0=>?_;rw [show Lib.splitB ⟨#[10]⟩ 0 (Lib.countB t ⟨#[10]⟩) t=Kb t from U3 10 t]
 have hres:Dg x t=if D7 x && decide ((Kb t).length<=30) && decide (t.size<=4000) then ((Ch x (Kb t)).2,true) else ([],false):=rfl
 generalize Kb t=ls at *;refine Av (E:=A8) (xs:=ls) fun F1=>?_;refine go ?_;refine Bf (Ua x _ F FT hz) fun _ _=>?_;cases hg:D7 x
 ·rw [hres,hg,aC FB];exact AZ
 refine go ?_;by_cases h30:30 < ls.length
 ·rw [hres,hg,aC FF,show decide ((ls.length:Int) > 30)=true from av EZ];exact AZ
 rw [show decide ((ls.length:Int) > 30)=false from ay EZ];refine go ?_;by_cases h4:4000 < t.size
 ·rw [hres,hg,aC FF,show decide ((t.size:Int) > 4000)=true from av EZ];exact AZ
 rw [show decide ((t.size:Int) > 4000)=false from ay EZ];rw [hres,hg,aJ FF];refine go ?_;refine Bf (Avs x _ F hs) fun y _=>?_;refine go ?_;intros;rename_i g
 refine Bx [4,5,7,28,29] (fun z:RsS=>[(30,aa (z.k:Nat)),(8,.slice z.a (Ch x (ls.take z.k)).2.length z.c)]) (fun z=>[.row g 41 0 [] [.slice z.z.a1 (Ch x (ls.take z.k)).1.Bb.Al.Ac.length z.z.c1,aa (Ch x (ls.take z.k)).1.Bb.Ab.Aa.Am,aa (Ch x (ls.take z.k)).1.Bb.Ab.Aa.size,.slice z.z.a2 (Ch x (ls.take z.k)).1.Bb.Ab.Aa.Ak.length z.z.c2,aa (Ch x (ls.take z.k)).1.Bb.Ab.Ai,aa (Ch x (ls.take z.k)).1.Bb.Ab.quiet,.slice z.z.a3 (Ch x (ls.take z.k)).1.Bb.Ab.holds.length z.z.c3,.slice z.z.a4 (Ch x (ls.take z.k)).1.Bb.Af.length z.z.c4,.slice z.z.a5 (Ch x (ls.take z.k)).1.Bb.Ad.length z.z.c5,.slice z.z.a6 (Ch x (ls.take z.k)).1.Bb.down.length z.z.c6,.slice z.z.a7 (Ch x (ls.take z.k)).1.Bb.up.length z.z.c7,af (Ch x (ls.take z.k)).1.Il.Cg,af (Ch x (ls.take z.k)).1.Il.pending,aa (Ch x (ls.take z.k)).1.Il.count] [],.own Aam (.agg #[.slice z.z.a1 (Ch x (ls.take z.k)).1.Bb.Al.Ac.length z.z.c1,aa (Ch x (ls.take z.k)).1.Bb.Ab.Aa.Am,aa (Ch x (ls.take z.k)).1.Bb.Ab.Aa.size,.slice z.z.a2 (Ch x (ls.take z.k)).1.Bb.Ab.Aa.Ak.length z.z.c2,aa (Ch x (ls.take z.k)).1.Bb.Ab.Ai,aa (Ch x (ls.take z.k)).1.Bb.Ab.quiet,.slice z.z.a3 (Ch x (ls.take z.k)).1.Bb.Ab.holds.length z.z.c3,.slice z.z.a4 (Ch x (ls.take z.k)).1.Bb.Af.length z.z.c4,.slice z.z.a5 (Ch x (ls.take z.k)).1.Bb.Ad.length z.z.c5,.slice z.z.a6 (Ch x (ls.take z.k)).1.Bb.down.length z.z.c6,.slice z.z.a7 (Ch x (ls.take z.k)).1.Bb.up.length z.z.c7]) (Ch x (ls.take z.k)).1.Bb z.F,.ow A8 9 (.slice z.a (Ch x (ls.take z.k)).2.length z.c) (Ch x (ls.take z.k)).2 z.Fa]) (fun z=>z.k<=ls.length) (fun z=>ls.length - z.k) ⟨0,⟨y.z.a1,y.z.c1,y.z.a2,y.z.c2,y.z.a3,y.z.c3,y.z.a4,y.z.c4,y.z.a5,y.z.c5,y.z.a6,y.z.c6,y.z.a7,y.z.c7⟩,_,none,0,[]⟩ (aG _) fun z hk=>?_
 have hgk:=Zr (ls.take z.k) hg;have hrk:(Ch x (ls.take z.k)).2.length<=30:=by rw [X5,aP];omega
 refine go ?_;refine A4 rfl (fun h1=>?_) (fun h1=>?_)
 ·have hh:z.k < ls.length:=EZ
  have hsz:=hls _ (aB hh);have hst:=Ams (x:=x) hh;refine Jv (xs:=ls) z.k ?_;rintro hi0 b0 o0 e0 s0;cases e0;refine go ?_;refine Bf (Atb (Ch x (ls.take z.k)).1 ls[z.k] g z.z.a1 z.z.c1 z.z.a2 z.z.c2 z.z.a3 z.z.c3 z.z.a4 z.z.c4 z.z.a5 z.z.c5 z.z.a6 z.z.c6 z.z.a7 z.z.c7 _ FT hgk s0) fun u _=>?_;refine go ?_;intros;apply wO;refine Nb (Abc (s:=(Od (Ch x (ls.take z.k)).1 ls[z.k]).2) (by have:=Ajv (l:=ls[z.k]) hgk;unfold maxLen;omega)) Do fun a9 c9 F9=>?_;refine go ?_
  rw [show ((z.k:Nat):Int)+1=((z.k+1:Nat):Int) by omega,show (Ch x (ls.take z.k)).2++[(Od (Ch x (ls.take z.k)).1 ls[z.k]).2]=(Ch x (ls.take (z.k+1))).2 by rw [hst],show (Od (Ch x (ls.take z.k)).1 ls[z.k]).1=(Ch x (ls.take (z.k+1))).1 by rw [hst]];refine Ca ⟨z.k+1,⟨u.z.a1,u.z.c1,u.z.a2,u.z.c2,u.z.a3,u.z.c3,u.z.a4,u.z.c4,u.z.a5,u.z.c5,u.z.a6,u.z.c6,u.z.a7,u.z.c7⟩,u.F,a9,c9,F9⟩ hh (by show ls.length - (z.k+1) < ls.length - z.k;omega)
 rw [show ls.take z.k=ls from aV EZ];exact AZ
theorem Aip {c:B4} {l:au} (hg:D7 c=true):Ln c l=Od c l:=by unfold Ln;rw [hg,aJ rfl]
theorem W6 {c:B4} (hg:D7 c=true):At c.Bb=true:=by unfold D7 at hg;rw [aw] at hg;exact hg.1
theorem Aeo (x:B4) (t:au) (v:Value) (F FT:aq) (hz:x.Il.Cg.size+x.Il.pending.size<=1048576) (hl:t.size<=1048576):Fn prog 8 [v,af t] [.isv Ed v x F,E4 FT] [] (fun (_:OwR)=>True) (fun z=>.tuple #[.slice z.a (Dg x t).1.length z.c,.bool (Dg x t).2]) (fun z=>[.ow A8 9 (.slice z.a (Dg x t).1.length z.c) (Dg x t).1 z.F]):=by
 obtain ⟨hll,hls⟩:=Ajk t;refine enter func8 rfl ntmps8 fun w0=>?_;refine Cd ?_;rintro a1 c1 F1 a2 c2 F2 a3 c3 F3 a4 c4 F4 a5 c5 F5 a6 c6 F6 a7 c7 F7 rfl s1 s2 l1 l2 l3 l4 l5 l6 l7;refine Es x.Bb (a1:=a1) (a2:=a2) (a3:=a3) (a4:=a4) (a5:=a5) (a6:=a6) (a7:=a7) ?_;refine go ?_;intros;rename_i g g0;refine Bf (Ya t 10 EZ) fun q _=>?_;refine Cy A8 ?_;obtain ⟨qa,qc,qF⟩:=q;dsimp only;rw [show (Dm 10 t.data.toList).map bz=Kb t from rfl];have hres:Dg x t=if D7 x && decide ((Kb t).length<=30) && decide (t.size<=4000) then ((Ch x (Kb t)).2,true) else ([],false):=rfl
 generalize Kb t=ls at *;refine Av (E:=A8) (xs:=ls) fun F1=>?_;refine go ?_;refine Bf (Yb x _ F hz) fun _ _=>?_;cases hg:D7 x
 ·rw [hres,hg,aC FB];exact AZ
 refine go ?_;by_cases h4:4000 < t.size
 ·rw [hres,hg,aC FF,show decide ((t.size:Int) > 4000)=true from av EZ];exact AZ
 rw [show decide ((t.size:Int) > 4000)=false from ay EZ];refine go ?_;by_cases h30:30 < ls.length
 ·rw [hres,hg,aC FF,show decide ((ls.length:Int) > 30)=true from av EZ];exact AZ
 rw [show decide ((ls.length:Int) > 30)=false from ay EZ];rw [hres,hg,aJ FF];refine go ?_
 refine Bx [2,4,5,7] (fun z:RsS=>[(9,aa (z.k:Nat)),(6,.slice z.a (Ch x (ls.take z.k)).2.length z.c)]) (fun z=>[.row g 41 0 [] [.slice z.z.a1 (Ch x (ls.take z.k)).1.Bb.Al.Ac.length z.z.c1,aa (Ch x (ls.take z.k)).1.Bb.Ab.Aa.Am,aa (Ch x (ls.take z.k)).1.Bb.Ab.Aa.size,.slice z.z.a2 (Ch x (ls.take z.k)).1.Bb.Ab.Aa.Ak.length z.z.c2,aa (Ch x (ls.take z.k)).1.Bb.Ab.Ai,aa (Ch x (ls.take z.k)).1.Bb.Ab.quiet,.slice z.z.a3 (Ch x (ls.take z.k)).1.Bb.Ab.holds.length z.z.c3,.slice z.z.a4 (Ch x (ls.take z.k)).1.Bb.Af.length z.z.c4,.slice z.z.a5 (Ch x (ls.take z.k)).1.Bb.Ad.length z.z.c5,.slice z.z.a6 (Ch x (ls.take z.k)).1.Bb.down.length z.z.c6,.slice z.z.a7 (Ch x (ls.take z.k)).1.Bb.up.length z.z.c7,af (Ch x (ls.take z.k)).1.Il.Cg,af (Ch x (ls.take z.k)).1.Il.pending,aa (Ch x (ls.take z.k)).1.Il.count] [],.isv Ed (.agg #[.slice z.z.a1 (Ch x (ls.take z.k)).1.Bb.Al.Ac.length z.z.c1,aa (Ch x (ls.take z.k)).1.Bb.Ab.Aa.Am,aa (Ch x (ls.take z.k)).1.Bb.Ab.Aa.size,.slice z.z.a2 (Ch x (ls.take z.k)).1.Bb.Ab.Aa.Ak.length z.z.c2,aa (Ch x (ls.take z.k)).1.Bb.Ab.Ai,aa (Ch x (ls.take z.k)).1.Bb.Ab.quiet,.slice z.z.a3 (Ch x (ls.take z.k)).1.Bb.Ab.holds.length z.z.c3,.slice z.z.a4 (Ch x (ls.take z.k)).1.Bb.Af.length z.z.c4,.slice z.z.a5 (Ch x (ls.take z.k)).1.Bb.Ad.length z.z.c5,.slice z.z.a6 (Ch x (ls.take z.k)).1.Bb.down.length z.z.c6,.slice z.z.a7 (Ch x (ls.take z.k)).1.Bb.up.length z.z.c7,af (Ch x (ls.take z.k)).1.Il.Cg,af (Ch x (ls.take z.k)).1.Il.pending,aa (Ch x (ls.take z.k)).1.Il.count]) (Ch x (ls.take z.k)).1 z.F,.ow A8 9 (.slice z.a (Ch x (ls.take z.k)).2.length z.c) (Ch x (ls.take z.k)).2 z.Fa]) (fun z=>z.k<=ls.length) (fun z=>ls.length - z.k) ⟨0,⟨a1,c1,a2,c2,a3,c3,a4,c4,a5,c5,a6,c6,a7,c7⟩,F,some ⟨g0,0,none⟩,0,[g0]⟩ (aG _) fun z hk=>?_
 have hgk:=Zr (ls.take z.k) hg;have hrk:(Ch x (ls.take z.k)).2.length<=30:=by rw [X5,aP];omega
 refine go ?_;refine A4 rfl (fun h1=>?_) (fun h1=>?_)
 ·have hh:z.k < ls.length:=EZ
  have hsz:=hls _ (aB hh);have hst:=Ams (x:=x) hh;have hP:=fun v F=>Rb (Ch x (ls.take z.k)).1 ls[z.k] v F FT (M6 (W6 hgk)) (by have:=Aet hgk;omega) FH;rw [Aip hgk] at hP;refine Jv (xs:=ls) z.k ?_;rintro hi0 b0 o0 e0 s0;cases e0;refine Io ?_;intros;refine Ar [0,1] [6,7,8,9,10] ?_;refine Df 0 1 2 3 ?_;refine dt 4 ?_;refine dN 5 ?_;refine oC ?_;refine Bf (hP _ _) fun u _=>?_;refine Cd (x:=(Od (Ch x (ls.take z.k)).1 ls[z.k]).1) ?_;rintro f1 t1 G1 f2 t2 G2 f3 t3 G3 f4 t4 G4 f5 t5 G5 f6 t6 G6 f7 t7 G7 ez q1 q2 - - - - - - -;rw [ez];refine dk ?_;refine Q0 6 ?_
  refine Q0 7 ?_;refine Q0 8 ?_;refine dN 9 ?_;refine oS ?_;refine Nm ?_;refine Q0 10 ?_;refine dd ?_;refine C0 (Od (Ch x (ls.take z.k)).1 ls[z.k]).1 q1 q2 (a1:=f1) (c1:=t1) (a2:=f2) (c2:=t2) (a3:=f3) (c3:=t3) (a4:=f4) (c4:=t4) (a5:=f5) (c5:=t5) (a6:=f6) (c6:=t6) (a7:=f7) (c7:=t7) ?_;refine go ?_;intros;apply wO;refine Nb (Abc (s:=(Od (Ch x (ls.take z.k)).1 ls[z.k]).2) (by have:=Ajv (l:=ls[z.k]) hgk;unfold maxLen;omega)) Do fun a9 c9 F9=>?_;refine go ?_
  rw [show ((z.k:Nat):Int)+1=((z.k+1:Nat):Int) by omega,show (Ch x (ls.take z.k)).2++[(Od (Ch x (ls.take z.k)).1 ls[z.k]).2]=(Ch x (ls.take (z.k+1))).2 by rw [hst],show (Od (Ch x (ls.take z.k)).1 ls[z.k]).1=(Ch x (ls.take (z.k+1))).1 by rw [hst]];refine Ca ⟨z.k+1,⟨f1,t1,f2,t2,f3,t3,f4,t4,f5,t5,f6,t6,f7,t7⟩,_,a9,c9,F9⟩ hh (by show ls.length - (z.k+1) < ls.length - z.k;omega)
 rw [show ls.take z.k=ls from aV EZ];exact AZ
structure RpS where
 k:Nat
 x:B4
 z:NL
 F:aq
theorem Am1 {c:B4} (h:D7 c=true):Aew c.Il=true:=by unfold D7 at h;rw [aw] at h;exact h.2
theorem Ak5 (t:au):∃l0 r,Kb t=l0::r/\Kb l0=[l0]/\l0.size<=t.size:=by
 obtain ⟨r,hr, -⟩:=O9 10 t.data.toList;refine ⟨bz (Ea 10 t.data.toList),r.map bz,by unfold Kb;rw [hr,cB],?_,?_⟩
 ·unfold Kb;rw [I1,Sn Xw];rfl
 ·rw [Gk,show t.size=t.data.toList.length from (Cp t).symm];unfold Ea;exact (List.takeWhile_prefix _).length_le
theorem Alh {c:B4} {t:au} (h:(Dg c t).2=true):∃l0 r x xs,Kb t=l0::r/\Dg c l0=([x],true)/\Dg c t=(x::xs,true)/\l0.size<=t.size:=by
 obtain ⟨l0,r,e,e0,hz⟩:=Ak5 t;unfold Dg at h;cases ho:Xh c t
 ·rw [ho] at h;cases h
 ·have ho':=ho;unfold Xh at ho;simp only [aw,aF] at ho;refine ⟨l0,r,(Od c l0).2,(Ch (Od c l0).1 r).2,e,?_,?_,hz⟩
  ·unfold Dg Xh;rw [e0,ho.1.1,aJ FF];rfl
  ·unfold Dg;rw [aJ ho',e];rfl
theorem Au6 {c:B4} {t:au} (h:(Dg c t).2=false):Dg c t=([],false):=by
 unfold Dg at h ⊢
 split
 ·rename_i ho;rw [aJ ho] at h;cases h
 ·rfl
structure CnD where
 x:B4
 cs:am
 F:aq
 i:Nat
 s:Nl
structure Bg6 (B:Nat) (z:CnD):Prop where
 k:Aia z.x.Bb
 n:P5 z.x.Bb
 l:Aew z.x.Il=true
 i:z.i<=3
 s:Hw (B+9500+400 * (3 - z.i)) z.s
theorem Asp:Aew ⟨⟨#[]⟩,⟨#[]⟩,0⟩=true:=by decide
theorem As5 (B g:Nat) (F:CuF) (s:Nl) (FT:aq) (ok:Hw B s) (hB:B<=400000000000) :
  Fn prog 19 [Ga g 0 0] [.sl Jo (ab F.a F.By.length F.c) F.By F.bs,E4 FT] [.row g 60 0 [] [ab F.a F.By.length F.c,aa (s.k:Nat),.int .u64 s.Hm] []] (fun (z:CnD)=>(Aia z.x.Bb/\P5 z.x.Bb/\z.x.Il.Cg.size+z.x.Il.pending.size<=70000)/\Hw (B+20000) z.s) (fun z=>.agg z.cs.toArray) (fun z=>[.isv Ed (.agg z.cs.toArray) z.x z.F,.row g 60 0 [] [ab F.a F.By.length F.c,aa (z.s.k:Nat),.int .u64 z.s.Hm] []]):=by
 refine enter func19 rfl ntmps19 fun w0=>?_;refine go ?_;intros;rename_i g2;refine Bf (Bel _ g F s FT ok EZ) fun z hz=>?_;obtain ⟨n,cs,Fx,s1⟩:=z;obtain ⟨⟨n2,n8,nd,nu,nq,nsm,ni⟩,h1⟩:=hz;dsimp only at n2 n8 nd nu nq nsm ni h1 ⊢;refine Fm (x:=n) ?_;rintro b1 d1 G1 b2 d2 G2 b3 d3 G3 b4 d4 G4 b5 d5 G5 b6 d6 G6 b7 d7 G7 ev - - - - - - -;obtain rfl:=Pw ev;clear ev;refine C0 ⟨n,⟨⟨#[]⟩,⟨#[]⟩,0⟩⟩ (aG _) (aG _) (a1:=b1) (c1:=d1) (a2:=b2) (c2:=d2) (a3:=b3) (c3:=d3) (a4:=b4) (c4:=d4) (a5:=b5) (c5:=d5) (a6:=b6) (c6:=d6) (a7:=b7) (c7:=d7) ?_;refine go ?_;intros;rename_i g3
 refine Bf (Ad0 _ g F 3 s1 h1 EZ EZ) fun p hp=>?_;obtain ⟨bb,s2⟩:=p;obtain ⟨-,h2⟩:=hp;dsimp only at h2 ⊢;refine go ?_;refine D0 [0,2,3] [11,12,13] (fun z:CnD=>[]) (fun z=>[.row g3 41 0 [] z.cs [],.isv Ed (.agg z.cs.toArray) z.x z.F,.row g 60 0 [] [ab F.a F.By.length F.c,aa (z.s.k:Nat),.int .u64 z.s.Hm] []]) (fun z=>Aia z.x.Bb/\P5 z.x.Bb/\Aew z.x.Il=true/\Hw (B+9200) z.s) ?_ fun z hz=>?_
 ·cases bb
  ·refine go ?_;refine Bk ⟨⟨n,⟨⟨#[]⟩,⟨#[]⟩,0⟩⟩,_,_,0,s2⟩ ⟨⟨n2,n8,nd,nu,nq,ni⟩,nsm,Asp,h2.mono EZ⟩
  ·refine go ?_;refine Bf (Aq4 _ g F s2 h2 EZ) fun t ht=>?_;obtain ⟨ht1,ht2⟩:=ht;refine go ?_;refine Bf (Ti _ g F t.s ht2 EZ) fun m hm=>?_;obtain ⟨hm1,hm2⟩:=hm;refine go ?_;refine Bf (Eb _ g F 6 m.2 hm2 EZ EZ) fun y hy=>?_;obtain ⟨k4,s4⟩:=y;obtain ⟨rk4,h4⟩:=hy;dsimp only at rk4 h4 ⊢;refine Io ?_;intros;refine Av (E:=Bc) (xs:=t.l) fun Ft=>?_;refine Ir ⟨t.l⟩ ?_;refine go ?_;obtain ⟨en,gn⟩:=Agn (t:=⟨t.l⟩) (f:=m.1) (y:=1+(k4:Nat)) ht1 hm1.1 hm1.2 EZ EZ;refine Bf (Ac6 ⟨t.l⟩ m.1 (1+(k4:Nat)) _ _) fun z _=>?_
   have er:Ol ⟨t.l⟩ m.1 (1+(k4:Nat))=(⟨Wp ⟨t.l⟩ m.1 (1+(k4:Nat)),⟨⟨#[]⟩,⟨#[]⟩,0⟩⟩,true):=by unfold Ol;rw [en];rfl
   rw [er];obtain ⟨ccs,F0⟩:=z;dsimp only;generalize Wp ⟨t.l⟩ m.1 (1+(k4:Nat))=N at *;refine Tx Alv fun F0=>?_;refine Cd (x:=⟨N,⟨⟨#[]⟩,⟨#[]⟩,0⟩⟩) ?_;rintro e1 f1 K1 e2 f2 K2 e3 f3 K3 e4 f4 K4 e5 f5 K5 e6 f6 K6 e7 f7 K7 ev q1 q2 - - - - - - -;obtain rfl:=Pw ev;clear ev;refine go ?_;refine C0 ⟨N,⟨⟨#[]⟩,⟨#[]⟩,0⟩⟩ q1 q2 (a1:=e1) (c1:=f1) (a2:=e2) (c2:=f2) (a3:=e3) (c3:=f3) (a4:=e4) (c4:=f4) (a5:=e5) (c5:=f5) (a6:=e6) (c6:=f6) (a7:=e7) (c7:=f7) ?_;refine Bk ⟨⟨N,⟨⟨#[]⟩,⟨#[]⟩,0⟩⟩,_,_,0,s4⟩ ⟨Aml gn,M6 gn,Asp,h4.mono EZ⟩
 obtain ⟨x,cs,Fc,i9,s2⟩:=z;obtain ⟨hk,hsn,hlg,h2⟩:=hz;dsimp only at hk hsn hlg h2 ⊢;refine go ?_;refine Bf (Eb _ g F 4 s2 h2 EZ EZ) fun y hy=>?_;obtain ⟨k4,s3⟩:=y;obtain ⟨rk4,h3⟩:=hy;dsimp only at rk4 h3 ⊢;refine go ?_;refine Bx [0,2,3] (fun z:CnD=>[(4,aa (z.i:Nat))]) (fun z=>[.row g3 41 0 [] z.cs [],.isv Ed (.agg z.cs.toArray) z.x z.F,.row g 60 0 [] [ab F.a F.By.length F.c,aa (z.s.k:Nat),.int .u64 z.s.Hm] []]) (Bg6 B) (fun z=>z.i) ⟨x,_,_,k4,s3⟩ ⟨hk,hsn,hlg,by show k4<=3;omega,h3.mono (by show _<=B+9500+400 * (3 - k4);omega)⟩ fun z hz=>?_
 clear hk hsn hlg h2 h3 rk4;obtain ⟨x,cs,Fc,i0,s3⟩:=z;obtain ⟨hk,hsn,hlg,hi,h3⟩:=hz;dsimp only at hk hsn hlg hi h3 ⊢;have hz3:x.Il.Cg.size+x.Il.pending.size<=30000:=Abr hlg;refine Cd (x:=x) ?_;rintro b1 d1 G1 b2 d2 G2 b3 d3 G3 b4 d4 G4 b5 d5 G5 b6 d6 G6 b7 d7 G7 ev q1 q2 - - - - - - -;obtain rfl:=Pw ev;clear ev;refine C0 x q1 q2 (a1:=b1) (c1:=d1) (a2:=b2) (c2:=d2) (a3:=b3) (c3:=d3) (a4:=b4) (c4:=d4) (a5:=b5) (c5:=d5) (a6:=b6) (c6:=d6) (a7:=b7) (c7:=d7) ?_
 repeat apply Og
 refine D0 [0,2,3,4] [0,1,2,3,4,5,6,7,8,9,10,11,12,13] (fun b:Bool=>[(28,.bool b)]) (fun z=>[]) (fun b=>b=(decide (0 < i0) && D7 x)) ?_ fun b hb=>?_
 ·refine go ?_;by_cases h0:0 < i0
  ·rw [show decide ((i0:Int) > 0)=true from av EZ];refine go ?_;refine Bf (Yb x _ _ EZ) fun _ _=>?_;refine go ?_;refine Bk (D7 x) (by rw [av h0];rfl)
  ·rw [show decide ((i0:Int) > 0)=false from ay EZ];refine go ?_;refine Bk false (by rw [ay h0];rfl)
 cases b
 ·refine go ?_;refine Bf (Ad0 _ g F 24 s3 h3 EZ EZ) fun p hp=>?_;obtain ⟨b2,s4⟩:=p;obtain ⟨-,h4⟩:=hp;dsimp only at h4 ⊢;refine go ?_;cases b2
  ·refine go ?_;refine ret ⟨x,_,_,0,s4⟩ ⟨⟨hk,hsn,by show x.Il.Cg.size+x.Il.pending.size<=70000;omega⟩,h4.mono EZ⟩ rfl
  ·refine go ?_;refine Bf (Awf _ g F s4 h4 EZ) fun z hz=>?_;obtain ⟨l,i1,s5⟩:=z;obtain ⟨hl5,h5⟩:=hz;dsimp only at hl5 h5 ⊢;refine go ?_;refine C0 ⟨x.Bb,l⟩ (by show l.Cg.size<=_;unfold maxLen;omega) (by show l.pending.size<=_;unfold maxLen;omega) (a1:=b1) (c1:=d1) (a2:=b2) (c2:=d2) (a3:=b3) (c3:=d3) (a4:=b4) (c4:=d4) (a5:=b5) (c5:=d5) (a6:=b6) (c6:=d6) (a7:=b7) (c7:=d7) ?_;refine ret ⟨⟨x.Bb,l⟩,_,_,0,s5⟩ ⟨⟨hk,hsn,hl5⟩,h5.mono EZ⟩ rfl
 ·rw [eq_comm,aw,aF] at hb;obtain ⟨hi0,hgc⟩:=hb;refine Io ?_;intros;refine Ar [8] [4,5,6,7,8] ?_;refine dtl 0 ?_;refine dtl 1 ?_;refine dtl 2 ?_;refine dN 3 ?_;refine oC ?_;refine Bf (Ab3 _ g F s3 x _ _ hk h3 EZ) fun p hp=>?_;obtain ⟨ln,s4⟩:=p;obtain ⟨hl4,h4⟩:=hp;dsimp only at hl4 h4 ⊢;have hP:=fun v F=>Rb x ln v F FT hsn EZ FH;rw [Aip hgc] at hP;refine dk ?_;refine dN 4 ?_;refine oC ?_;refine Bf (hP _ _) fun u _=>?_;obtain ⟨ucs,uF⟩:=u;dsimp only;refine Cd (x:=(Od x ln).1) ?_
  rintro f1 t1 G1 f2 t2 G2 f3 t3 G3 f4 t4 G4 f5 t5 G5 f6 t6 G6 f7 t7 G7 ev q3 q4 - - - - - - -;obtain rfl:=Pw ev;clear ev;refine Nm ?_;refine Q0 5 ?_;refine Q0 6 ?_;refine Q0 7 ?_;refine dN 8 ?_;refine oS ?_;refine Nm ?_;refine dd ?_;refine C0 (Od x ln).1 q3 q4 (a1:=f1) (c1:=t1) (a2:=f2) (c2:=t2) (a3:=f3) (c3:=t3) (a4:=f4) (c4:=t4) (a5:=f5) (c5:=t5) (a6:=f6) (c6:=t6) (a7:=f7) (c7:=t7) ?_;refine go ?_;rw [show ((i0:Nat):Int) - 1=((i0 - 1:Nat):Int) by omega];have hg2:=Afx (line:=ln) hgc
  refine Ca ⟨(Od x ln).1,_,_,i0 - 1,s4⟩ ⟨Aml (W6 hg2),M6 (W6 hg2),Am1 hg2,by show i0 - 1<=3;omega,h4.mono (by show _<=B+9500+400 * (3 - (i0 - 1));omega)⟩ (by show i0 - 1 < i0;omega)
structure TxD where
 t:au
 i:Nat
 s:Nl
theorem Ao7 (v:Value) (By:ar) (G FT:aq):Fn prog 6 [v] [.sl Jo v By G,E4 FT] [] (fun (z:CnD × au)=>Aia z.1.x.Bb/\P5 z.1.x.Bb/\z.1.x.Il.Cg.size+z.1.x.Il.pending.size<=70000/\z.2.size<=600) (fun z=>.tuple #[.agg z.1.cs.toArray,af z.2]) (fun z=>[.isv Ed (.agg z.1.cs.toArray) z.1.x z.1.F]):=by
 refine enter func6 rfl ntmps6 fun w0=>?_;refine Abn (E:=Jo) ?_;rintro a c rfl l1 l2;refine go ?_;intros;rename_i g2 gc;refine Bf (As5 0 _ ⟨By,a,c,G⟩ ⟨0,0⟩ FT ⟨aL _,FA,FA⟩ EZ) fun z hz=>?_;obtain ⟨x,cs,Fx,i1,s1⟩:=z;obtain ⟨⟨hk,hsn,hlz⟩,h1⟩:=hz;dsimp only at hk hsn hlz h1 ⊢;refine Cd (x:=x) ?_;rintro b1 d1 G1 b2 d2 G2 b3 d3 G3 b4 d4 G4 b5 d5 G5 b6 d6 G6 b7 d7 G7 ev q1 q2 - - - - - - -;obtain rfl:=Pw ev;clear ev;refine C0 x q1 q2 (a1:=b1) (c1:=d1) (a2:=b2) (c2:=d2) (a3:=b3) (c3:=d3) (a4:=b4) (c4:=d4) (a5:=b5) (c5:=d5) (a6:=b6) (c6:=d6) (a7:=b7) (c7:=d7) ?_
 refine go ?_;intros;rename_i g5;refine Bf (Ab3 _ _ ⟨By,a,c,G⟩ s1 x _ _ hk h1 EZ) fun p hp=>?_;obtain ⟨t,s2⟩:=p;obtain ⟨ht,h2⟩:=hp;dsimp only at ht h2 ⊢;refine go ?_;refine Bf (Eb _ _ ⟨By,a,c,G⟩ 5 s2 h2 EZ EZ) fun y hy=>?_;obtain ⟨k3,s3⟩:=y;obtain ⟨rk3,h3⟩:=hy;dsimp only at rk3 h3 ⊢;refine go ?_
 refine Bx [2,3,4,5] (fun z:TxD=>[(6,af z.t),(7,aa (z.i:Nat))]) (fun z=>[.row gc 60 0 [] [ab a By.length c,aa (z.s.k:Nat),.int .u64 z.s.Hm] []]) (fun z=>z.t.size+101 * z.i<=504/\z.i<=4/\Hw (21000+400 * (4 - z.i)) z.s) (fun z=>z.i) ⟨t,k3,s3⟩ ⟨by show t.size+101 * k3<=504;omega,by show k3<=4;omega,h3.mono (by show _<=21000+400 * (4 - k3);omega)⟩ fun z hz=>?_;clear h1 h2 h3 ht;obtain ⟨t,i4,s4⟩:=z;obtain ⟨ht,hi,h4⟩:=hz;dsimp only at ht hi h4 ⊢;refine go ?_;refine A4 rfl (fun h5=>?_) (fun h5=>?_)
 ·have hi0:0 < i4:=EZ
  refine go ?_;apply wO;apply oc;rfl;exact Hi rfl rfl (by show t.size+1<=9223372036854775807;omega);refine go ?_;refine Bf (Ab3 _ _ ⟨By,a,c,G⟩ s4 x _ _ hk h4 EZ) fun p hp=>?_;obtain ⟨u,s5⟩:=p;obtain ⟨hu,h6⟩:=hp;dsimp only at hu h6 ⊢;refine go ?_;apply wO;apply oc;rfl;exact Hi rfl rfl (by rw [aE];show t.size+1+u.size<=9223372036854775807;omega);refine go ?_;rw [show ((i4:Nat):Int) - 1=((i4 - 1:Nat):Int) by omega]
  refine Ca ⟨t++⟨#[10]⟩++u,i4 - 1,s5⟩ ⟨by show (t++⟨#[10]⟩++u:au).size+101 * (i4 - 1)<=504;rw [aE,aE];show t.size+1+u.size+101 * (i4 - 1)<=504;omega,by show i4 - 1<=4;omega,h6.mono (by show _<=21000+400 * (4 - (i4 - 1));omega)⟩ (by show i4 - 1 < i4;omega)
 refine go ?_;refine Bf (Ad0 _ _ ⟨By,a,c,G⟩ 20 s4 h4 EZ EZ) fun p hp=>?_;obtain ⟨bb,s7⟩:=p;obtain ⟨-,h7⟩:=hp;dsimp only at h7 ⊢;refine go ?_;cases bb
 ·refine go ?_;refine ret (⟨x,_,_,0,s7⟩,t) ⟨hk,hsn,hlz,by show t.size<=600;omega⟩ rfl
 ·refine go ?_;refine Bf (Eb _ _ ⟨By,a,c,G⟩ 2 s7 h7 EZ EZ) fun y hy=>?_;obtain ⟨k8,s8⟩:=y;obtain ⟨rk8,h8⟩:=hy;dsimp only at rk8 h8 ⊢;refine go ?_;refine Bx [2,3,5] (fun z:TxD=>[(6,af z.t),(8,aa (z.i:Nat))]) (fun z=>[]) (fun z=>z.t.size+z.i<=30) (fun z=>z.i) ⟨⟨#[]⟩,29+k8,s8⟩ (by show 0+(29+k8)<=30;omega) fun z hz=>?_;refine go ?_;refine A4 rfl (fun h9=>?_) (fun h9=>?_)
  ·refine go ?_;apply wO;apply oc;rfl;exact Hi rfl rfl (by show z.t.size+1<=9223372036854775807;omega);refine go ?_;rw [show ((z.i:Nat):Int) - 1=((z.i - 1:Nat):Int) by omega];refine Ca ⟨z.t++⟨#[10]⟩,z.i - 1,s8⟩ (by show (z.t++⟨#[10]⟩:au).size+(z.i - 1)<=30;rw [aE];show z.t.size+1+(z.i - 1)<=30;omega) GO
  refine go ?_;refine ret (⟨x,_,_,0,s8⟩,z.t) ⟨hk,hsn,hlz,by show z.t.size<=600;omega⟩ rfl
end Go.Proofs.YtkoldibamfjghaaGreatDoor
