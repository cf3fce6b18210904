/- Part 11 of the proof: 26 texts, one behind the other. -/
import Derived.Test.YtmppejmafbfhlaaGreatDoorRows
import Derived.MakeChecks
import Derived.Stop.LaidErr
import Derived.Shelf.Vars
import Derived.LaidLaws
import Derived.Test.YtmppejmafbfhlaaGreatDoorM10
open _root_.Go.Proofs.Tryz
set_option maxRecDepth 100000
set_option maxHeartbeats 8000000
set_option linter.all false
set_option linter.unusedVariables false
set_option linter.unusedSimpArgs false
namespace Go.Proofs.YtmppejmafbfhlaaGreatDoor
theorem AB{p:Prop}(h:p:=by refine Ci Bc (by decide) ?_;refine Ci A9 (by decide) ?_;refine Ci Bv (by decide) ?_;refine Ci Bz (by decide) ?_;refine Ci Cb (by decide) ?_;refine Ci (O7 Ak (by decide)) (by decide) ?_;refine Ci (O7 Ak (by decide)) (by decide) ?_;refine E8 Rh (a1:=none) (c1:=0) (a2:=none) (c2:=0) (a3:=none) (c3:=0) (a4:=none) (c4:=0) (a5:=none) (c5:=0) (a6:=none) (c6:=0) (a7:=none) (c7:=0) ?_;refine go ?_;intros;refine C3 A9 ?_;refine go ?_;refine ret (⟨_,_,_,_,_⟩:StZ) trivial rfl):p:=h
theorem AH{p:Prop}(h:p:=by rw [show (ys++[([aa 77,ab none 0 0,aa (z.y.Ai+2)]:am)]).length=(z.y.Ah++[(⟨77,[],z.y.Ai+2⟩:Hk)]).length by simp [hyl]];refine E5 ⟨z.y.Ai,z.y.Ah++[⟨77,[],z.y.Ai+2⟩]⟩ ?_;refine ret ⟨⟨z.y.Ai,z.y.Ah++[⟨77,[],z.y.Ai+2⟩]⟩,_,_,_,0,s3⟩ ⟨by show (z.y.Ah++[_]).length<=1000;simp;omega,fun e he=>(aJ.1 he).elim (fun h=>by have:=z1.f e h;have:=z1.mm;omega) (fun h=>by rw [aL.1 h];simp),hp.mono (by omega)⟩ rfl):p:=h
theorem AL{p:Prop}(h:p:=by have hu:u.size<=20:=(by decide:∀y∈([⟨#[115,101,110,100]⟩,⟨#[116,105,99,107]⟩,⟨#[100,114,97,105,110]⟩,⟨#[108,101,97,100]⟩,⟨#[113,117,101,117,101,100]⟩,⟨#[115,101,116,116,108,101,100]⟩,⟨#[]⟩,⟨#[119,104,97,116]⟩,⟨#[100,111,119,110]⟩,⟨#[100,111,119,110,32,120]⟩,⟨#[115,101,110,100,32,97,32,98]⟩,⟨#[102,97,99,101,115,32,49]⟩,⟨#[102,97,99,101,115,32,49,32,50,32,51]⟩,⟨#[97,64,98]⟩,⟨#[115,101,110,100,32]⟩]:ai),y.size<=20) u hq;refine go ?_;refine ret (⟨u,s4⟩:au × N4) ⟨by show u.size<=100;omega,h4.mono (by omega)⟩ rfl):p:=h
theorem AM{p:Prop}(h:p:=by refine dk ?_;refine dN 3 ?_;refine oC ?_;refine Be (Aa3 z.y l.1 _ z.F z1.t0 z1.t1 z1.l6 z1.z0 (by have:=z1.h1;omega) z1.w hl3) fun q _=>?_;refine dk ?_;refine dt 4 ?_;refine P0 5 ?_;refine P0 6 ?_;refine dN 7 ?_;refine oS ?_;refine Nm ?_;refine dd ?_;refine go ?_;rw [show ((z.i:Nat):Int) - 1=((z.i - 1:Nat):Int) by omega];refine Ce ⟨Qp z.y l.1,q.a,q.c,q.a2,q.c2,q.F,z.i - 1,l.2⟩ ⟨by rw [show r0 - (z.i - 1)=r0 - z.i+1 by omega];exact Asx z1 hl3,by show z.i - 1<=r0;omega,hl2.mono (by show _<=B+20+50 * (r0 - (z.i - 1));omega)⟩ (by show z.i - 1 < z.i;omega)):p:=h
theorem AO{p:Prop}(h:p:=by rw [show (ys++[([aa q.1,ab (some ⟨gf,0,none⟩) 1 1,aa (z.y.Ai+(t.1:Nat))]:am)]).length=(z.y.Ah++[(⟨q.1,[(r.1:Int)],z.y.Ai+(t.1:Nat)⟩:Hk)]).length by simp [hyl]];refine E5 ⟨z.y.Ai,z.y.Ah++[⟨q.1,[(r.1:Int)],z.y.Ai+(t.1:Nat)⟩]⟩ ?_;refine ret ⟨⟨z.y.Ai,z.y.Ah++[⟨q.1,[(r.1:Int)],z.y.Ai+(t.1:Nat)⟩]⟩,_,_,_,0,t.2⟩ ⟨by show (z.y.Ah++[_]).length<=1000;simp;omega,fun e he=>(aJ.1 he).elim (fun h=>by have:=z1.f e h;have:=z1.mm;omega) (fun h=>by rw [aL.1 h];simp),ht2.mono (by omega)⟩ rfl):p:=h
theorem AQ{p:Prop}(h:p:=by refine go ?_;apply wO;apply oc;rfl;exact Hh rfl rfl (by show 5+_<=9223372036854775807;omega);refine go ?_;refine ret (⟨_,s3⟩:au × N4) ⟨?_,h3.mono (by omega)⟩ rfl;show (⟨#[100,111,119,110,32]⟩++t:au).size<=100;rw [aN];show 5+_<=100;omega):p:=h
theorem AS{p:Prop}(h:p:=by refine go ?_;rw [show ((zi:Nat):Int) - 1=((zi - 1:Nat):Int) by omega];refine Ce ⟨(Bm x t.t).1,_,_,zi - 1,t.s⟩ ⟨Xc eb,by show zi - 1<=23;omega,t3.mono (by show _<=B+400+200 * (23 - (zi - 1));omega)⟩ (by show zi - 1 < zi;omega)):p:=h
theorem AU{p:Prop}(h:p:=by have hu:u.size<=20:=(by decide:∀y∈([⟨#[97]⟩,⟨#[97,98,99]⟩,⟨#[120]⟩,⟨#[104,101,108,108,111]⟩,⟨#[90]⟩,⟨#[97,98,99,100,101,102,103,104,105]⟩]:ai),y.size<=20) u hq;refine go ?_;apply wO;apply oc;rfl;exact Hh rfl rfl (by show 5+_<=9223372036854775807;omega);refine go ?_;refine ret (⟨_,s4⟩:au × N4) ⟨?_,h4.mono (by omega)⟩ rfl;show (⟨#[115,101,110,100,32]⟩++u:au).size<=100;rw [aN];show 5+_<=100;omega):p:=h
theorem AW{p:Prop}(h:p:=by refine go ?_;rw [show ((zi:Nat):Int) - 1=((zi - 1:Nat):Int) by omega];refine Ce ⟨x,_,_,zi - 1,t.s⟩ ⟨z1,by show zi - 1<=23;omega,t3.mono (by show _<=B+400+200 * (23 - (zi - 1));omega)⟩ (by show zi - 1 < zi;omega)):p:=h
theorem BB{p:Prop}(h:p:=by refine Cg R.1 s3 s4 (a1:=f1) (c1:=t1) (a2:=f2) (c2:=t2) (a3:=f3) (c3:=t3) (a4:=f4) (c4:=t4) (a5:=f5) (c5:=t5) (a6:=f6) (c6:=t6) (a7:=f7) (c7:=t7) ?_;exact AF):p:=h
theorem BG{p:Prop}(h:p:=by rw [show Bm n s=(Rh,[],false) by unfold Bm;rw [g1,g2,htk0,e1];rfl];exact AB):p:=h
theorem BM{p:Prop}(h:p:=by refine go ?_;refine Cg x s1 s2 (a1:=f1) (c1:=t1) (a2:=f2) (c2:=t2) (a3:=f3) (c3:=t3) (a4:=f4) (c4:=t4) (a5:=f5) (c5:=t5) (a6:=f6) (c6:=t6) (a7:=f7) (c7:=t7) ?_;exact AF):p:=h
theorem BV{p:Prop}(h:p:=by refine Hy ?_;intros;refine Ar [1] [3,4] ?_;refine Dh 0 1 ?_;refine dN 2 ?_;refine oC ?_;refine Be (Adt E ⟨#[44,32]⟩ _ _ F8 (by decide) hE.1 hE.2) fun _ _=>?_;refine dk ?_;refine dN 3 ?_;refine oS ?_;refine Nm ?_;refine P0 4 ?_;refine dd ?_;refine go ?_;exact AF):p:=h
theorem CK{p:Prop}(h:p:=by refine dk ?_;refine dN 13 ?_;refine N5 (E:=A9) (xs:=[]) D7 Ie fun a9 c9 F9=>?_;rw [aZ];refine dk ?_;refine dt 14 ?_;refine dN 16 ?_;refine oS ?_;refine dk ?_;refine dd ?_;refine Bk (⟨_,a9,c9,F9⟩:L28) trivial):p:=h
theorem CT{p:Prop}(h:p:=by refine dk ?_;refine dN 11 ?_;refine oC ?_;refine Be (hW _ F8) fun s _=>?_;refine dk ?_;refine dt 12 ?_;refine dN 14 ?_;refine oS ?_;refine dk ?_;refine dd ?_;refine Bk (⟨_,b1,d1,G1,s⟩:OwN) trivial):p:=h
theorem CU{p:Prop}(h:p:=by refine ret (⟨_,FN,_,_,_⟩:StZ) trivial rfl):p:=h
theorem DM{p:Prop}(h:p:=by refine go ?_;exact AF):p:=h
theorem ED{p:Prop}(h:p:=by refine dd ?_;refine go ?_;refine ret () trivial ?_;unfold Gn;rw [g];rw [aH rfl,Aij hk3 hlf (by unfold Adg;rw [Hf h5,hst];rfl)];rfl):p:=h
theorem HI{p:Prop}(h:p:=by show _<=B+20+50 * (r0 - (z.i - 1));omega):p:=h
theorem IK{p:Prop}(h:p:=by show i < n.Ap.Ad.length;omega):p:=h
theorem IN{p:Prop}(h:p:=by show z.y.Aa.Al.length<=7;omega):p:=h
theorem JP{p:Prop}(h:p:=by show 6+_<=9223372036854775807;omega):p:=h
theorem KC{p:Prop}(h:p:=by show y.Ai<=30+((m+1:Nat):Int);omega):p:=h
theorem KI{p:Prop}(h:p:=by show z.i - 1<=r0;omega):p:=h
theorem KN{p:Prop}(h:p:=by show z.y.holds.length<=20;omega):p:=h
theorem KR{p:Prop}(h:p:=by simp only [aY];omega):p:=h
end Go.Proofs.YtmppejmafbfhlaaGreatDoor
namespace Go.Proofs.YtmppejmafbfhlaaGreatDoor
open Go.RowKit
structure OwN where
 g:Nat
 a1:aj
 c1:Nat
 F1:aq
 s:Alk
structure OwK where
 k:Nat
 a4:aj
 c4:Nat
 F4:aq
 a5:aj
 c5:Nat
 F5:aq
 a6:aj
 c6:Nat
 F6:aq
 a7:aj
 c7:Nat
 F7:aq
def Vu:One (J0 Ak 159):=fun h u hu=>by
 obtain ⟨v,rfl,h⟩:=h;obtain rfl:=aL.1 hu;rcases h with ⟨rfl, -, -⟩|⟨b,cap,cs,rest,G,rfl, -⟩ <;> rfl
def Ar5 {x:Cu} (hg:Cp x=true):Apz x x.Aa=x:=by
 obtain ⟨gw,hl,t0,t1,k0,k1,hm,hn,hu,hb⟩:=Kk hg;unfold Apz;rw [<-Yg hu,Aa0 hg]
def Aof (n:Dx) (v:Value) (F:aq) (hg:At n=true):Fn prog 165 [v] [.isv Pe v n F] [] (fun (_:OwN × OwK)=>True) (fun z=>.agg #[ab z.1.a1 n.Ap.Ad.length z.1.c1,aa (n.Ab).Aa.Am,aa (n.Ab).Aa.size,.slice z.1.s.a (n.Ab).Aa.Al.length z.1.s.c,aa (n.Ab).Ai,aa (n.Ab).quiet,.slice z.1.s.a2 (n.Ab).holds.length z.1.s.c2,.slice z.2.a4 (n.Af).length z.2.c4,.slice z.2.a5 (n.Ac).length z.2.c5,.slice z.2.a6 (n.down).length z.2.c6,.slice z.2.a7 (n.up).length z.2.c7]) (fun z=>[.ow Bc 3 (ab z.1.a1 n.Ap.Ad.length z.1.c1) n.Ap.Ad z.1.F1,.isv Ei (.agg #[aa (n.Ab).Aa.Am,aa (n.Ab).Aa.size,.slice z.1.s.a (n.Ab).Aa.Al.length z.1.s.c,aa (n.Ab).Ai,aa (n.Ab).quiet,.slice z.1.s.a2 (n.Ab).holds.length z.1.s.c2]) n.Ab z.1.s.F,.ow Cc 111 (.slice z.2.a4 (n.Af).length z.2.c4) (n.Af) z.2.F4,.ow B4 118 (.slice z.2.a5 (n.Ac).length z.2.c5) (n.Ac) z.2.F5,.ow (J0 Ak 159) 120 (.slice z.2.a6 (n.down).length z.2.c6) (n.down) z.2.F6,.ow (J0 Ak 159) 120 (.slice z.2.a7 (n.up).length z.2.c7) (n.up) z.2.F7]):=by
 have hG:=Ax.1 hg;have h8:=(Hl hG.t).n1;have hS:=Kk hG.s;have hSl:=hS.l;have hSm:=hS.m;obtain ⟨q1,q2,q3,q4⟩:=Bn.1 hG.l;obtain ⟨g1,g2,g3,g4⟩:=If hg;refine enter func165 rfl ntmps165 fun w0=>?_;refine Fg ?_;rintro a1 c1 F1 a2 c2 F2 a3 c3 F3 a4 c4 F4 a5 c5 F5 a6 c6 F6 a7 c7 F7 rfl l1 l2 l3 l4 l5 l6 l7;refine D6 n.Ab ?_;refine Cr n.Ab.Aa (a1:=a2) ?_;have hW:=fun vw Fw=>Auz n.Ab n.Ab.Aa (.agg #[aa n.Ab.Aa.Am,aa n.Ab.Aa.size,ab a2 n.Ab.Aa.Al.length c2,aa n.Ab.Ai,aa n.Ab.quiet,ab a3 n.Ab.holds.length c3]) vw (F2++F3) Fw hS.t0 hS.t1 EY hS.n hS.u
 rw [Ar5 hG.s,show Oe n.Ab.Aa n.Ab.holds=n.Ab.holds by rw [<-Yg hS.u,Aa0 hG.s]] at hW;refine go ?_;intros
 refine Dv [1,2] [0,1,2,3,4,5,6,7,8,9,10,11] (fun w:OwN=>[(3,Gj w.g 0 0)]) (fun w=>[.row w.g 43 0 [] [ab w.a1 n.Ap.Ad.length w.c1,aa (n.Ab).Aa.Am,aa (n.Ab).Aa.size,.slice w.s.a (n.Ab).Aa.Al.length w.s.c,aa (n.Ab).Ai,aa (n.Ab).quiet,.slice w.s.a2 (n.Ab).holds.length w.s.c2,ab none 0 0,ab none 0 0,ab none 0 0,ab none 0 0] [],.ow Bc 3 (ab w.a1 n.Ap.Ad.length w.c1) n.Ap.Ad w.F1,.isv Ei (.agg #[aa (n.Ab).Aa.Am,aa (n.Ab).Aa.size,.slice w.s.a (n.Ab).Aa.Al.length w.s.c,aa (n.Ab).Ai,aa (n.Ab).quiet,.slice w.s.a2 (n.Ab).holds.length w.s.c2]) n.Ab w.s.F]) (fun _=>True) ?_ fun w _=>?_
 ·skip
  refine Ar [1] [] ?_;refine C4 0 1 2 5 ?_;refine C4 6 7 8 9 ?_;refine dM 3 13 ?_ ?_
  ·refine oC ?_;refine cn (fun w st=>Zk _ n.Ap.Ad F1 w (st.get (p:=.sl _ _ _ _) FD).2 EY) fun b1 d1 G1=>?_;refine dk ?_;refine dt 4 ?_;refine dM 10 13 ?_ ?_
   ·refine oC ?_;refine Be (Tp n.Ab.Aa _ F2 hS.t0 hS.t1 EY) fun y _=>?_;refine Kg ?_;rintro a9 c9 F9 e9 l9;rw [e9];refine Av (xs:=n.Ab.Aa.Al) fun F8=>?_;refine Cr n.Ab.Aa (a1:=a9) ?_;refine dk ?_;refine dM 11 13 ?_ ?_
    ·refine oC ?_;refine Be (hW _ F8) fun s _=>?_;refine dk ?_;refine dt 12 ?_;refine dN 13 ?_;apply Cn;rfl;intro _;refine dk ?_;refine dN 14 ?_;refine oS ?_;refine dk ?_;refine dd ?_;refine Bk (⟨_,b1,d1,G1,s⟩:OwN) trivial
    ·apply Cn;rfl;intro _;exact CT
   ·apply Cn;rfl;intro _;refine dk ?_;refine dN 10 ?_;refine oC ?_;refine Be (Tp n.Ab.Aa _ F2 hS.t0 hS.t1 EY) fun y _=>?_;refine Kg ?_;rintro a9 c9 F9 e9 l9;rw [e9];refine Av (xs:=n.Ab.Aa.Al) fun F8=>?_;refine Cr n.Ab.Aa (a1:=a9) ?_;exact CT
  ·apply Cn;rfl;intro _;refine dk ?_;refine dN 3 ?_;refine oC ?_;refine cn (fun w st=>Zk _ n.Ap.Ad F1 w (st.get (p:=.sl _ _ _ _) FD).2 EY) fun b1 d1 G1=>?_;refine dk ?_;refine dt 4 ?_;refine dN 10 ?_;refine oC ?_;refine Be (Tp n.Ab.Aa _ F2 hS.t0 hS.t1 EY) fun y _=>?_;refine Kg ?_;rintro a9 c9 F9 e9 l9;rw [e9];refine Av (xs:=n.Ab.Aa.Al) fun F8=>?_;refine Cr n.Ab.Aa (a1:=a9) ?_;refine dk ?_;refine dN 11 ?_;refine oC ?_;refine Be (hW _ F8) fun s _=>?_;refine dk ?_;refine dt 12 ?_;refine dN 14 ?_;refine oS ?_;refine dk ?_;refine dd ?_
   refine Bk (⟨_,b1,d1,G1,s⟩:OwN) trivial
 refine Bt Cc 111 ?_;refine Bt B4 118 ?_;refine Bt (J0 Ak 159) 120 ?_;refine Bt (J0 Ak 159) 120 ?_;refine go ?_
 refine Ca [1,2,3] (fun y:OwK=>[(4,aa (y.k:Nat))]) (fun y=>[.row w.g 43 0 [] [ab w.a1 n.Ap.Ad.length w.c1,aa (n.Ab).Aa.Am,aa (n.Ab).Aa.size,.slice w.s.a (n.Ab).Aa.Al.length w.s.c,aa (n.Ab).Ai,aa (n.Ab).quiet,.slice w.s.a2 (n.Ab).holds.length w.s.c2,.slice y.a4 (n.Af.take y.k).length y.c4,.slice y.a5 (n.Ac.take y.k).length y.c5,.slice y.a6 (n.down.take y.k).length y.c6,.slice y.a7 (n.up.take y.k).length y.c7] [],.ow Cc 111 (.slice y.a4 (n.Af.take y.k).length y.c4) (n.Af.take y.k) y.F4,.ow B4 118 (.slice y.a5 (n.Ac.take y.k).length y.c5) (n.Ac.take y.k) y.F5,.ow (J0 Ak 159) 120 (.slice y.a6 (n.down.take y.k).length y.c6) (n.down.take y.k) y.F6,.ow (J0 Ak 159) 120 (.slice y.a7 (n.up.take y.k).length y.c7) (n.up.take y.k) y.F7]) (fun y=>y.k<=n.Af.length) (fun y=>n.Af.length - y.k) ⟨0,none,0,[],none,0,[],none,0,[],none,0,[]⟩ (aD _) fun y hy=>?_
 refine go ?_;refine Ay rfl (fun h1=>?_) (fun h1=>?_)
 ·have hk:y.k < n.Af.length:=EY
  have hk5:y.k < n.Ac.length:=EY
  have hk6:y.k < n.down.length:=EY
  have hk7:y.k < n.up.length:=EY
  have t4:(n.Af.take y.k).length<=8:=GD
  have t5:(n.Ac.take y.k).length<=8:=GD
  have t6:(n.down.take y.k).length<=8:=GD
  have t7:(n.up.take y.k).length<=8:=GD
  have hge:=g1 _ (aB hk);have hel:=(Hp.1 hge).2.1;have hgr:=El.1 (g2 _ (aB hk5));have hrs:=(Lc hgr.w).1;have hrq:=(Dj.1 hgr.q).2.1;have hd6:=(C8 (g3 _ (aB hk6))).1;have hu6:=(C8 (g4 _ (aB hk7))).1;refine Oo (xs:=n.Af) y.k ?_;rintro hi4 b4 o4 a8 c8 F8 e4 l8;rw [e4];refine E5 n.Af[y.k] ?_;dsimp only [List.append];refine go ?_;refine Ar [1,3,11] [11] ?_;refine C4 0 1 2 3 ?_;refine Dh 4 5 ?_;refine dt 6 ?_;refine dN 7 ?_;refine oC ?_
  refine cv (fun w2 st=>Yh _ n.Af[y.k] F8 w2 (st.get (p:=.isv _ _ _ _) FD) EY (fun x hx=>by have:=P2 hge hx;omega)) fun v9 F9=>?_;refine Ih (x:=n.Af[y.k]) ?_;rintro a9 c9 F10 rfl l9;refine Hi n.Af[y.k] ?_;refine dk ?_;refine dN 8 ?_;apply I1;rfl;rfl;rfl;rfl;exact Iy;exact Ir;intro _;refine dk ?_;refine dN 9 ?_;refine Ac5 S9 n.Af[y.k] rfl fun x4 d4 G4=>?_;refine dk ?_;refine dt 10 ?_;refine dN 11 ?_;refine oS ?_;refine Nm ?_;refine dd ?_;rw [<-aR hk];refine Jl (xs:=n.Ac) y.k ?_;rintro hi5 b5 o5 a11 c11 F11 a12 c12 F12 e5 l11 l12;rw [e5]
  refine D5 n.Ac[y.k] ?_;dsimp only [List.append];refine go ?_;refine Ar [1,8,15] [11] ?_;refine C4 0 1 2 3 ?_;refine Dh 4 5 ?_;refine dt 6 ?_;refine dN 7 ?_;refine oC ?_;refine Be (T4 n.Ac[y.k] _ _ EY EY) fun s9 _=>?_;refine I2 (x:=n.Ac[y.k]) ?_;rintro a9 c9 G9 a10 c10 G10 e9 l9 l10;rw [e9];refine Kw n.Ac[y.k] ?_;refine dk ?_;refine dN 8 ?_;apply I1;rfl;rfl;rfl;rfl;exact Iy;exact Ir;intro _;refine dk ?_;refine dN 9 ?_;refine Ac5 Rl n.Ac[y.k] rfl fun x5 d5 G5=>?_;refine dk ?_;refine dt 10 ?_;refine dN 11 ?_;refine oS ?_;refine Nm ?_;refine dd ?_
  rw [<-aR hk5];refine Ms (E:=Ak) (hz:=EZ) (xs:=n.down) y.k ?_;rintro hi6 b6 o6 a13 c13 F13 e6 l13;rw [e6];refine go ?_;refine Ar [0,11,17] [12] ?_;refine C4 0 1 3 4 ?_;refine Dh 5 6 ?_;refine dt 7 ?_;refine dN 2 ?_;apply Kt;rfl;intro _;refine C3 Ak ?_;refine dk ?_;refine dN 8 ?_;refine N5 H9 Jz fun a9 c9 F9=>?_;rw [aZ];refine Kx n.down[y.k] ?_;refine dk ?_;refine dN 9 ?_;apply I1;rfl;rfl;rfl;rfl;exact Iy;exact Ir;intro _;refine dk ?_;refine dN 10 ?_;refine Ac5 (Vu) n.down[y.k] rfl fun x6 d6 G6=>?_;refine dk ?_;refine dt 11 ?_;refine dN 12 ?_
  refine oS ?_;refine Nm ?_;refine dd ?_;rw [<-aR hk6];refine Ms (E:=Ak) (hz:=EZ) (xs:=n.up) y.k ?_;rintro hi7 b7 o7 a14 c14 F14 e7 l14;rw [e7];refine go ?_;refine Ar [0,14,19] [12] ?_;refine C4 0 1 3 4 ?_;refine Dh 5 6 ?_;refine dt 7 ?_;refine dN 2 ?_;apply Kt;rfl;intro _;refine C3 Ak ?_;refine dk ?_;refine dN 8 ?_;refine N5 H9 Jz fun a9 c9 F9=>?_;rw [aZ];refine Kx n.up[y.k] ?_;refine dk ?_;refine dN 9 ?_;apply I1;rfl;rfl;rfl;rfl;exact Iy;exact Ir;intro _;refine dk ?_;refine dN 10 ?_;refine Ac5 (Vu) n.up[y.k] rfl fun x7 d7 G7=>?_;refine dk ?_
  refine dt 11 ?_;refine dN 12 ?_;refine oS ?_;refine Nm ?_;refine dd ?_;rw [<-aR hk7];refine go ?_;refine Ce ⟨y.k+1,x4,d4,G4,x5,d5,G5,x6,d6,G6,x7,d7,G7⟩ hk (by show n.Af.length - (y.k+1) < n.Af.length - y.k;omega)
 ·rw [show n.Af.take y.k=n.Af from aV EY,show n.Ac.take y.k=n.Ac from aV EY,show n.down.take y.k=n.down from aV EY,show n.up.take y.k=n.up from aV EY];refine go ?_;refine ret (⟨w,y⟩:OwN × OwK) trivial rfl
end Go.Proofs.YtmppejmafbfhlaaGreatDoor
namespace Go.Proofs.YtmppejmafbfhlaaGreatDoor
open Go.RowKit
open Go.RowKit
def Ajz {α:Type} {O R:B8 α} (hW:M9 O R) {w:World}:∀{xs:List α} {cs:am} {G:aq},Cw O w cs xs G->∃G',(∀b∈G',b∈G)/\Cw R w cs xs G'
 | [],_,_,h=>⟨[],FA,h.1,rfl⟩
 | x::r,_,_,h=>by
  obtain ⟨c1,c2,F1,F2,rfl,rfl,h1,h2⟩:=h;obtain ⟨G1,s1,r1⟩:=hW.Mj h1;obtain ⟨G2,s2,r2⟩:=Ajz hW h2;exact ⟨G1++G2,fun b hb=>by rcases aJ.1 hb with hb|hb;simp [s1 b hb];simp [s2 b hb],c1,c2,G1,G2,rfl,rfl,r1,r2⟩
def Lr.skip {x:Pc}:∀{B A:List Pc},Lr A B->Lr (x::A) B
 | _,_,.nil=>.nil
 | _,_,.cons hp hr=>.cons (.there hp) hr.skip
def Lr.all:∀A:List Pc,Lr A A
 | []=>.nil
 | _::A=>.cons .here (Lr.all A)
section
variable {c:Cx} {fr:Fr} {H:List Pc} {Φ:Gl}
def Af1 {α:Type} {O R:B8 α} (hW:M9 O R) {cs:am} {xs:List α} {G:aq} {S:List Pc} (h:∀G',T c fr (.isv (EA R xs.length) (.agg cs.toArray) xs G'::S) Φ) (hp:C1 H (.flat O cs xs G) S:=by exact Do):T c fr H Φ:=.mk fun a w s g=>by
 have s1:=s.pick hp;obtain ⟨-,ho⟩:=s1.on (.flat O cs xs G) FA;obtain ⟨G',hG,hf⟩:=Ajz hW ho;exact (h G').h a w (s1.conv rfl ⟨_,rfl,rfl,hf⟩ hG) g
def Aav (m:Dx) {l:ar} {N:Nat} (hT:m.Ap.Ad=l) (hN:N=l.length) (hl:Lx m=true) {a1 a2 a3 a4 a5 a6 a7:aj} {c1 c2 c3 c4 c5 c6 c7:Nat} {F1 FS F4 G4 F5 G5 F6 G6 F7 G7:aq} {ys4 ys5 ys6 ys7:List (am)} (h4:ys4.length=N) (h5:ys5.length=N) (h6:ys6.length=N) (h7:ys7.length=N)
  (h:∀F,T c fr (.isv Pe (.agg #[ab a1 N c1,aa m.Ab.Aa.Am,aa m.Ab.Aa.size,ab a2 m.Ab.Aa.Al.length c2,aa m.Ab.Ai,aa m.Ab.quiet,ab a3 m.Ab.holds.length c3,ab a4 N c4,ab a5 N c5,ab a6 N c6,ab a7 N c7]) m F::H) Φ) (p1:.sl Bc (ab a1 N c1) l F1∈H:=by exact Bp) (p2:.isv Ei (.agg #[aa m.Ab.Aa.Am,aa m.Ab.Aa.size,ab a2 m.Ab.Aa.Al.length c2,aa m.Ab.Ai,aa m.Ab.quiet,ab a3 m.Ab.holds.length c3]) m.Ab FS∈H:=by exact Bp) (p4:.sl (EC 2) (ab a4 N c4) ys4 F4∈H:=by exact Bp) (q4:.isv (EA (Bz) N) (.agg ys4.flatten.toArray) m.Af G4∈H:=by exact Bp) (p5:.sl (EC 5) (ab a5 N c5) ys5 F5∈H:=by exact Bp) (q5:.isv (EA (Cb) N) (.agg ys5.flatten.toArray) m.Ac G5∈H:=by exact Bp) (p6:.sl (EC 1) (ab a6 N c6) ys6 F6∈H:=by exact Bp) (q6:.isv (EA (O7 Ak EZ) N) (.agg ys6.flatten.toArray) m.down G6∈H:=by exact Bp) (p7:.sl (EC 1) (ab a7 N c7) ys7 F7∈H:=by exact Bp) (q7:.isv (EA (O7 Ak EZ) N) (.agg ys7.flatten.toArray) m.up G7∈H:=by exact Bp):T c fr H Φ:=by
 obtain ⟨e1,e2,e3,e4⟩:=Bn.1 hl;subst hT hN;refine Hc (hm:=p2) ?_;rintro b2 d2 F2 b3 d3 F3 ev - -;have ev2:=ev;simp only [Value.agg.injEq,Array.mk.injEq,List.cons.injEq,Value.slice.injEq,cM,cO] at ev2;obtain ⟨⟨rfl,rfl⟩,rfl,rfl⟩:=ev2;refine Qq (E:=Bz) (xs:=m.Af) rfl EY rfl (fun F8=>?_) (.tail _ (.tail _ p4)) (.tail _ (.tail _ q4));refine Qq (E:=Cb) (xs:=m.Ac) rfl EY rfl (fun F9=>?_) (.tail _ (.tail _ (.tail _ p5))) (.tail _ (.tail _ (.tail _ q5)))
 refine Qq (E:=O7 Ak EZ) (xs:=m.down) rfl EY rfl (fun F10=>?_) (.tail _ (.tail _ (.tail _ (.tail _ p6)))) (.tail _ (.tail _ (.tail _ (.tail _ q6))));refine Qq (E:=O7 Ak EZ) (xs:=m.up) rfl EY rfl (fun F11=>?_) (.tail _ (.tail _ (.tail _ (.tail _ (.tail _ p7))))) (.tail _ (.tail _ (.tail _ (.tail _ (.tail _ q7)))))
 refine E8 m (a1:=a1) (c1:=c1) (F1:=F1) (a2:=a2) (c2:=c2) (F2:=F2) (a3:=a3) (c3:=c3) (F3:=F3) (a4:=a4) (c4:=c4) (F4:=F8) (a5:=a5) (c5:=c5) (F5:=F9) (a6:=a6) (c6:=c6) (F6:=F10) (a7:=a7) (c7:=c7) (F7:=F11) ?_ (.tail _ (.tail _ (.tail _ (.tail _ (.tail _ (.tail _ p1)))))) (.tail _ (.tail _ (.tail _ (.tail _ (.head _))))) (.tail _ (.tail _ (.tail _ (.tail _ (.tail _ (.head _)))))) (by rw [e1];exact .tail _ (.tail _ (.tail _ (.head _)))) (by rw [e2];exact .tail _ (.tail _ (.head _))) (by rw [e3];exact .tail _ (.head _)) (by rw [e4];exact .head _);rw [e1,e2,e3,e4]
 exact Bif _ (h _) (.cons .here (Lr.skip (Lr.skip (Lr.skip (Lr.skip (Lr.skip (Lr.skip (Lr.all H))))))))
end
end Go.Proofs.YtmppejmafbfhlaaGreatDoor
namespace Go.Proofs.YtmppejmafbfhlaaGreatDoor
open Go.RowKit
def Vq (n:Dx) (s:Js) (v:Value) (F FT:aq) (hss:s.data.size<=maxLen) (g1:At n=true) (g2:Dq s=true):Fn prog 106 [v,.agg #[aa s.Ct,aa s.node,af s.data]] [.isv Pe v n F,Ga FT] [] (fun (_:StZ)=>True) (fun z=>.tuple #[.agg z.cs.toArray,.slice z.a (Bm n s).2.1.length z.c,.bool (Bm n s).2.2]) (fun z=>[.isv Pe (.agg z.cs.toArray) (Bm n s).1 z.F,.ow A9 9 (.slice z.a (Bm n s).2.1.length z.c) (Bm n s).2.1 z.Fe]):=by
 have hG:=Ax.1 g1;have h8:=Hl hG.t;have hn8:=h8.n1;have hn2:=h8.n0;obtain ⟨q1,q2,q3,q4⟩:=Bn.1 hG.l;have hkl:=Vp n.Ap.Ad 0;have hkx:∀x∈I0 n.Ap.Ad 0,0<=x/\x.toNat < n.down.length:=fun x hx=>by have:=Lv (i:=0) h8 hx;omega
 have hd6:∀q∈n.down,q.length<=6:=fun q hq=>(C8 ((If g1).2.2.1 q hq)).1;have hck:=Yy hG.s;refine enter func106 rfl ntmps106 fun w0=>?_;refine Fg ?_;rintro a1 c1 F1 a2 c2 F2 a3 c3 F3 a4 c4 F4 a5 c5 F5 a6 c6 F6 a7 c7 F7 rfl l1 l2 l3 l4 l5 l6 l7;refine go ?_;intros;refine Be (Aof n _ F g1) fun z _=>?_;obtain ⟨w,y⟩:=z;dsimp only;refine Av (E:=Bc) (xs:=n.Ap.Ad) fun Ft=>?_;refine Aea (E:=Cc) (xs:=n.Af) S9 (m:=2) rfl fun ye Fe Ge he1 he2=>?_;refine Af1 (R:=Bz) (xs:=n.Af) Kr fun He=>?_;refine Aea (E:=B4) (xs:=n.Ac) Rl (m:=5) rfl fun yr Fr Gr hr1 hr2=>?_;refine Af1 (R:=Cb) (xs:=n.Ac) Rn fun Hr=>?_
 refine Aea (E:=J0 Ak 159) (xs:=n.down) Vu (m:=1) rfl fun yd Fd Gd hd1 hd2=>?_;refine Af1 (R:=O7 Ak EZ) (xs:=n.down) (Qr (M9.refl Ak) EZ _) fun Hd=>?_;refine Aea (E:=J0 Ak 159) (xs:=n.up) Vu (m:=1) rfl fun yu Fu Gu hu1 hu2=>?_;refine Af1 (R:=O7 Ak EZ) (xs:=n.up) (Qr (M9.refl Ak) EZ _) fun Hu=>?_;rw [q1,q2,q3,q4];refine Jm n.Ap (a1:=w.a1) ?_;refine go ?_;intros;refine Ay rfl (fun h1=>?_) (fun h1=>?_)
 ·have e1:Bo n s=some (Ah9 n s.data,[]):=by unfold Bo;rw [aH h1]
  have hgm:=M0 g1 g2 e1;rw [show Bm n s=(Ah9 n s.data,[],true) by unfold Bm;rw [g1,g2,e1];rfl];refine go ?_;refine Be (Aux n.Ab s.data _ _ hG.s hss) fun u _=>?_;refine go ?_;intros;refine Ar [0,3] [] ?_;refine C4 0 1 2 4 ?_;refine dM 3 5 ?_ ?_
  ·refine oC ?_;refine Be (Qi n.Ap 0 _ Ft (Tn h8.z (gJ _)) ⟨EY,EY⟩) fun v _=>?_;refine Av (E:=Bc) (xs:=I0 n.Ap.Ad 0) fun Fk=>?_;refine dk ?_;refine dN 5 ?_;apply I1;rfl;rfl;rfl;rfl;exact Iy;exact Ir;intro _;refine Dy (E:=Ak) (xs:=[Dz n.Ab.Aa s.data]) (De (Dz n.Ab.Aa s.data) hss) ?_ FA;refine Av (E:=Ak) (xs:=[Dz n.Ab.Aa s.data]) fun Fp=>?_;refine dk ?_;refine dN 6 ?_;refine oC ?_;refine Be (Og n.down (I0 n.Ap.Ad 0) [Dz n.Ab.Aa s.data] _ _ _ _ _ _ _ _ _ _ _ _ _ _ _ _ _ _ _ _ _ _ _ _ _ yd Fd Hd _ _ Fk _ _ Fp hkx hd6) fun x _=>?_;refine dk ?_;refine dd ?_
   refine go ?_;intros;refine C3 A9 ?_;refine go ?_;refine Fs (ys:=ye) fun _ w4=>?_;refine Fs (ys:=yr) fun _ w5=>?_;refine Fs (ys:=x.ys) fun _ w6=>?_;refine Fs (ys:=yu) fun _ w7=>?_;refine Av (E:=EC 2) (xs:=ye) fun _=>?_;refine Av (E:=EC 5) (xs:=yr) fun _=>?_;refine Av (E:=EC 1) (xs:=x.ys) fun _=>?_;refine Av (E:=EC 1) (xs:=yu) fun _=>?_;refine Aav (Ah9 n s.data) (l:=n.Ap.Ad) (N:=n.Ap.Ad.length) rfl rfl (Ax.1 hgm).l w4 w5 w6 w7 (a1:=w.a1) (c1:=w.c1) (a2:=u.a) (c2:=u.c) (a3:=u.a2) (c3:=u.c2) (a4:=y.a4) (c4:=y.c4) (a5:=y.a5) (c5:=y.c5) (a6:=y.a6) (c6:=y.c6) (a7:=y.a7) (c7:=y.c7) fun FN=>?_
   exact CU
  ·apply I1;rfl;rfl;rfl;rfl;exact Iy;exact Ir;intro _;refine Dy (E:=Ak) (xs:=[Dz n.Ab.Aa s.data]) (De (Dz n.Ab.Aa s.data) hss) ?_ FA;refine Av (E:=Ak) (xs:=[Dz n.Ab.Aa s.data]) fun Fp=>?_;refine dk ?_;refine dN 3 ?_;refine oC ?_;refine Be (Qi n.Ap 0 _ Ft (Tn h8.z (gJ _)) ⟨EY,EY⟩) fun v _=>?_;refine Av (E:=Bc) (xs:=I0 n.Ap.Ad 0) fun Fk=>?_;refine dk ?_;refine dN 6 ?_;refine oC ?_;refine Be (Og n.down (I0 n.Ap.Ad 0) [Dz n.Ab.Aa s.data] _ _ _ _ _ _ _ _ _ _ _ _ _ _ _ _ _ _ _ _ _ _ _ _ _ yd Fd Hd _ _ Fk _ _ Fp hkx hd6) fun x _=>?_;refine dk ?_;refine dd ?_
   refine go ?_;intros;refine C3 A9 ?_;refine go ?_;refine Fs (ys:=ye) fun _ w4=>?_;refine Fs (ys:=yr) fun _ w5=>?_;refine Fs (ys:=x.ys) fun _ w6=>?_;refine Fs (ys:=yu) fun _ w7=>?_;refine Av (E:=EC 2) (xs:=ye) fun _=>?_;refine Av (E:=EC 5) (xs:=yr) fun _=>?_;refine Av (E:=EC 1) (xs:=x.ys) fun _=>?_;refine Av (E:=EC 1) (xs:=yu) fun _=>?_;refine Aav (Ah9 n s.data) (l:=n.Ap.Ad) (N:=n.Ap.Ad.length) rfl rfl (Ax.1 hgm).l w4 w5 w6 w7 (a1:=w.a1) (c1:=w.c1) (a2:=u.a) (c2:=u.c) (a3:=u.a2) (c3:=u.c2) (a4:=y.a4) (c4:=y.c4) (a5:=y.a5) (c5:=y.c5) (a6:=y.a6) (c6:=y.c6) (a7:=y.a7) (c7:=y.c7) fun FN=>?_
   exact CU
 refine go ?_;refine Ay rfl (fun h4=>?_) (fun h4=>?_)
 ·refine go ?_;refine Ay rfl (fun hc=>?_) (fun hc=>?_)
  ·have e1:Bo n s=none:=by unfold Bo;rw [aC h1,aH h4,aH hc]
   rw [show Bm n s=(Rh,[],false) by unfold Bm;rw [g1,g2,e1];rfl];exact AB
  ·have e1:Bo n s=some (Gw n):=by unfold Bo;rw [aC h1,aH h4,aC hc]
   have hgm:=M0 g1 g2 e1;rw [show Bm n s=((Gw n).1,(Gw n).2,true) by unfold Bm;rw [g1,g2,e1];rfl];refine go ?_;refine Be (Au6 n w.a1 w.c1 y.a4 y.c4 y.a5 y.c5 y.a6 y.c6 y.a7 y.c7 w.s.a w.s.a2 w.s.c w.s.c2 Ft w.s.F FT ⟨⟨ye,Fe,He⟩,⟨yr,Fr,Hr⟩,⟨yd,Fd,Hd⟩,⟨yu,Fu,Hu⟩⟩ g1 EY) fun x _=>?_;refine go ?_;intros;refine Fs (ys:=x.1.e.ys) fun _ w4=>?_;refine Fs (ys:=x.1.r.ys) fun _ w5=>?_;refine Fs (ys:=x.1.d.ys) fun _ w6=>?_;refine Fs (ys:=x.1.u.ys) fun _ w7=>?_;refine Av (E:=EC 2) (xs:=x.1.e.ys) fun _=>?_;refine Av (E:=EC 5) (xs:=x.1.r.ys) fun _=>?_;refine Av (E:=EC 1) (xs:=x.1.d.ys) fun _=>?_
   refine Av (E:=EC 1) (xs:=x.1.u.ys) fun _=>?_;refine Aav ((Gw n).1) (l:=n.Ap.Ad) (N:=n.Ap.Ad.length) (congrArg Nf.Ad (Ts e1)) rfl (Ax.1 hgm).l w4 w5 w6 w7 (a1:=w.a1) (c1:=w.c1) (a2:=x.2.1.a) (c2:=x.2.1.c) (a3:=x.2.1.a2) (c3:=x.2.1.c2) (a4:=y.a4) (c4:=y.c4) (a5:=y.a5) (c5:=y.c5) (a6:=y.a6) (c6:=y.c6) (a7:=y.a7) (c7:=y.c7) fun FN=>?_;exact CU
 have htk0:Bo n s=C6 n s:=by unfold Bo;rw [aC h1,aC h4]
 have hf:Pj s.node=true:=by
  have:=g2;unfold Dq at this;rw [aC h1,aC h4] at this;simp only [aw] at this;exact this.1.2
 obtain ⟨f1,f2⟩:=Nt.1 hf;obtain ⟨i,hi⟩:∃i:Nat,s.node=((i:Nat):Int):=⟨s.node.toNat,EY⟩;have i0:i≠0:=EY
 rw [hi];by_cases k5:s.Ct=5
 ·have hu:Xz s=true:=by unfold Xz;rw [av k5];rfl
  have hq:∀h:i < n.up.length,U1 n s=n.up[i]:=fun h=>by unfold U1;rw [hu,aH rfl,hi,ba];exact Qg h []
  have hpo:Hb n s=Pa n i:=IM
  refine go ?_;refine Dd rfl rfl (fun g5=>?_) (fun g5=>?_)
  rotate_left
  ·exact absurd k5 g5
  refine go ?_;refine Dd rfl rfl (fun h6=>?_) (fun h6=>?_)
  ·have e1:C6 n s=none:=by unfold C6;rw [aH EY]
   exact BG
  have hil:i < n.up.length:=EY
  have hq:=hq hil;refine Fs (ys:=yu) fun hm hlr=>?_;refine Aia (ys:=yu) (xs:=n.up) i hm EY EY fun h9 _ Gq=>?_;refine Adj (x:=n.up[i]) fun a9 c9 e9 l9=>?_;have e10:yu[i]=[.slice a9 n.up[i].length c9]:=JS
  refine Q4 (E:=EC 1) (xs:=yu) (m:=1) (Ik 1) i ?_ FC rfl h9;rintro _ gq Aq cs Bq ea j2 j3 hHq;rw [ea];obtain ⟨j4, -, -⟩:=j3 w0;rw [e10] at j4;subst j4;refine go ?_;refine Ay rfl (fun h7=>?_) (fun h7=>?_)
  ·have e1:C6 n s=none:=IP
   exact BG
  have h0:0 < n.up[i].length:=EY
  refine Pf (xs:=n.up[i]) 0 ?_;rintro hi3 b3 o3 e3 s3;rw [e3];refine go ?_;intros;refine Ar [2,17] [10] ?_;refine C4 0 1 2 3 ?_;refine C4 4 5 6 7 ?_;refine dN 8 ?_;refine sld 1 fun a8 c8 F8=>?_;refine dk ?_;refine dt 9 ?_;refine dN 10 ?_;refine oS ?_;refine Nm ?_;refine dd ?_;refine P8 (E:=EC 1) (xs:=yu) [.slice a8 (n.up[i].drop 1).length c8] hHq (fun _=>⟨rfl,⟨rfl,FO⟩,rfl⟩) ?_;refine Aba (E:=Ak) (x:=n.up[i].drop 1) EZ ?_;refine Re (E:=O7 Ak EZ) (ys:=yu) (xs:=n.up) (x:=n.up[i].drop 1) i rfl hm EY fun Gv=>?_
  rw [<-ea,show n.up.set i (n.up[i].drop 1)=(Pa n i).up from (In EY).symm];have hmem:=Pl h0;have hpk:Br (Nw n.up[i])=true:=Np (hq▸(Mx (s:=s) g1).1) hmem;have hpz:(Nw n.up[i]).data.size<=maxLen:=by
   exact BH
  have hgp:At (Pa n i)=true:=hpo▸Lz g1;have hGp:=Ax.1 hgp;have hPg:=Yq h0;rw [<-hPg];generalize hP:Nw n.up[i]=P at *;have htk:C6 n s=some (Qz (Pa n i) i P,[]):=by
   unfold C6;rw [aC EY,hq,aC EY,hpo,hP,hi,ba];rw [aC EY,aH k5]
  have hgm:=M0 g1 g2 (htk0.trans htk);rw [show Bm n s=(Qz (Pa n i) i P,[],true) by unfold Bm;rw [g1,g2,htk0,htk];rfl];refine go ?_;refine Ay rfl (fun k2=>?_) (fun k2=>?_)
  ·exact absurd k2 EY
  refine go ?_;refine Ay rfl (fun m5=>?_) (fun m5=>?_)
  rotate_left
  ·exact absurd k5 m5
  have hdp:∀q∈(Pa n i).down,q.length<=6:=fun q hq=>(C8 ((If hgp).2.2.1 q hq)).1;have hup:∀q∈(Pa n i).up,q.length<=6:=fun q hq=>(C8 ((If hgp).2.2.2 q hq)).1;refine go ?_;refine Be (Bc5 (Pa n i) i P w.a1 w.c1 y.a4 y.c4 y.a5 y.c5 y.a6 y.c6 y.a7 y.c7 w.s.a w.s.a2 w.s.c w.s.c2 Ft w.s.F ⟨⟨ye,Fe,He⟩,⟨yr,Fr,Hr⟩,⟨yd,Fd,Hd⟩,⟨yu.set i [.slice a8 (n.up[i].drop 1).length c8],[gq],Gv⟩⟩ hGp.l i0 IK (Hl hGp.t) hGp.s (fun k hk hkl hl=>by obtain ⟨x1,x2,x3,x4,r⟩:=hGp.rn (i:=k) hkl;rw [J9 x1];exact (r.hn hk hl).1) hpk hpz hdp hup) fun x _=>?_;refine go ?_;intros;refine C3 A9 ?_
  refine go ?_;refine Fs (ys:=x.1.e.ys) fun _ w4=>?_;refine Fs (ys:=x.1.r.ys) fun _ w5=>?_;refine Fs (ys:=x.1.d.ys) fun _ w6=>?_;refine Fs (ys:=x.1.u.ys) fun _ w7=>?_;refine Av (E:=EC 2) (xs:=x.1.e.ys) fun _=>?_;refine Av (E:=EC 5) (xs:=x.1.r.ys) fun _=>?_;refine Av (E:=EC 1) (xs:=x.1.d.ys) fun _=>?_;refine Av (E:=EC 1) (xs:=x.1.u.ys) fun _=>?_
  refine Aav (Qz (Pa n i) i P) (l:=n.Ap.Ad) (N:=n.Ap.Ad.length) (congrArg Nf.Ad (Ts (htk0.trans htk))) rfl (Ax.1 hgm).l w4 w5 w6 w7 (a1:=w.a1) (c1:=w.c1) (a2:=x.2.a) (c2:=x.2.c) (a3:=x.2.a2) (c3:=x.2.c2) (a4:=y.a4) (c4:=y.c4) (a5:=y.a5) (c5:=y.c5) (a6:=y.a6) (c6:=y.c6) (a7:=y.a7) (c7:=y.c7) fun FN=>?_;exact CU
 by_cases k6:s.Ct=6
 ·have hu:Xz s=true:=by unfold Xz;rw [av k6,gG]
  have hq:∀h:i < n.up.length,U1 n s=n.up[i]:=fun h=>by unfold U1;rw [hu,aH rfl,hi,ba];exact Qg h []
  have hpo:Hb n s=Pa n i:=IM
  refine go ?_;refine Dd rfl rfl (fun g5=>?_) (fun g5=>?_)
  ·exact absurd g5 EY
  refine go ?_;refine Ay rfl (fun g6=>?_) (fun g6=>?_)
  rotate_left
  ·exact absurd k6 g6
  refine go ?_;refine Dd rfl rfl (fun h6=>?_) (fun h6=>?_)
  ·have e1:C6 n s=none:=by unfold C6;rw [aH EY]
   exact BG
  have hil:i < n.up.length:=EY
  have hq:=hq hil;refine Fs (ys:=yu) fun hm hlr=>?_;refine Aia (ys:=yu) (xs:=n.up) i hm EY EY fun h9 _ Gq=>?_;refine Adj (x:=n.up[i]) fun a9 c9 e9 l9=>?_;have e10:yu[i]=[.slice a9 n.up[i].length c9]:=JS
  refine Q4 (E:=EC 1) (xs:=yu) (m:=1) (Ik 1) i ?_ FC rfl h9;rintro _ gq Aq cs Bq ea j2 j3 hHq;rw [ea];obtain ⟨j4, -, -⟩:=j3 w0;rw [e10] at j4;subst j4;refine go ?_;refine Ay rfl (fun h7=>?_) (fun h7=>?_)
  ·have e1:C6 n s=none:=IP
   exact BG
  have h0:0 < n.up[i].length:=EY
  refine Pf (xs:=n.up[i]) 0 ?_;rintro hi3 b3 o3 e3 s3;rw [e3];refine go ?_;intros;refine Ar [2,17] [10] ?_;refine C4 0 1 2 3 ?_;refine C4 4 5 6 7 ?_;refine dN 8 ?_;refine sld 1 fun a8 c8 F8=>?_;refine dk ?_;refine dt 9 ?_;refine dN 10 ?_;refine oS ?_;refine Nm ?_;refine dd ?_;refine P8 (E:=EC 1) (xs:=yu) [.slice a8 (n.up[i].drop 1).length c8] hHq (fun _=>⟨rfl,⟨rfl,FO⟩,rfl⟩) ?_;refine Aba (E:=Ak) (x:=n.up[i].drop 1) EZ ?_;refine Re (E:=O7 Ak EZ) (ys:=yu) (xs:=n.up) (x:=n.up[i].drop 1) i rfl hm EY fun Gv=>?_
  rw [<-ea,show n.up.set i (n.up[i].drop 1)=(Pa n i).up from (In EY).symm];have hmem:=Pl h0;have hpk:Br (Nw n.up[i])=true:=Np (hq▸(Mx (s:=s) g1).1) hmem;have hpz:(Nw n.up[i]).data.size<=maxLen:=by
   exact BH
  have hgp:At (Pa n i)=true:=hpo▸Lz g1;have hGp:=Ax.1 hgp;have hPg:=Yq h0;rw [<-hPg];generalize hP:Nw n.up[i]=P at *;have htk:C6 n s=some (Pa n i,[]):=by
   unfold C6;rw [aC EY,hq,aC EY,hpo,hP,hi,ba];rw [aC EY,aC EY]
  have hgm:=M0 g1 g2 (htk0.trans htk);rw [show Bm n s=(Pa n i,[],true) by unfold Bm;rw [g1,g2,htk0,htk];rfl];refine go ?_;refine Ay rfl (fun k2=>?_) (fun k2=>?_)
  ·exact absurd k2 EY
  refine go ?_;refine Ay rfl (fun m5=>?_) (fun m5=>?_)
  ·exact absurd m5 EY
  refine go ?_;intros;refine C3 A9 ?_;refine go ?_;refine Fs (ys:=ye) fun _ w4=>?_;refine Fs (ys:=yr) fun _ w5=>?_;refine Fs (ys:=yd) fun _ w6=>?_;refine Fs (ys:=(yu.set i [.slice a8 (n.up[i].drop 1).length c8])) fun _ w7=>?_;refine Av (E:=EC 2) (xs:=ye) fun _=>?_;refine Av (E:=EC 5) (xs:=yr) fun _=>?_;refine Av (E:=EC 1) (xs:=yd) fun _=>?_;refine Av (E:=EC 1) (xs:=(yu.set i [.slice a8 (n.up[i].drop 1).length c8])) fun _=>?_
  refine Aav (Pa n i) (l:=n.Ap.Ad) (N:=n.Ap.Ad.length) rfl rfl (Ax.1 hgm).l w4 w5 w6 w7 (a1:=w.a1) (c1:=w.c1) (a2:=w.s.a) (c2:=w.s.c) (a3:=w.s.a2) (c3:=w.s.c2) (a4:=y.a4) (c4:=y.c4) (a5:=y.a5) (c5:=y.c5) (a6:=y.a6) (c6:=y.c6) (a7:=y.a7) (c7:=y.c7) fun FN=>?_;exact CU
 have hu:Xz s=false:=by unfold Xz;rw [ay k5,ay k6];rfl
 have hq:∀h:i < n.down.length,U1 n s=n.down[i]:=fun h=>by unfold U1;rw [hu,aC EZ,hi,ba];exact Qg h []
 have hpo:Hb n s=Q9 n i:=by unfold Hb;rw [hu,aC EZ,hi,ba]
 refine go ?_;refine Dd rfl rfl (fun g5=>?_) (fun g5=>?_)
 ·exact absurd g5 k5
 refine go ?_;refine Ay rfl (fun g6=>?_) (fun g6=>?_)
 ·exact absurd g6 k6
 refine go ?_;refine Dd rfl rfl (fun h6=>?_) (fun h6=>?_)
 ·have e1:C6 n s=none:=by unfold C6;rw [aH EY]
  exact BG
 have hil:i < n.down.length:=EY
 have hq:=hq hil;refine Fs (ys:=yd) fun hm hlr=>?_;refine Aia (ys:=yd) (xs:=n.down) i hm EY EY fun h9 _ Gq=>?_;refine Adj (x:=n.down[i]) fun a9 c9 e9 l9=>?_;have e10:yd[i]=[.slice a9 n.down[i].length c9]:=JS
 refine Q4 (E:=EC 1) (xs:=yd) (m:=1) (Ik 1) i ?_ FC rfl h9;rintro _ gq Aq cs Bq ea j2 j3 hHq;rw [ea];obtain ⟨j4, -, -⟩:=j3 w0;rw [e10] at j4;subst j4;refine go ?_;refine Ay rfl (fun h7=>?_) (fun h7=>?_)
 ·have e1:C6 n s=none:=IP
  exact BG
 have h0:0 < n.down[i].length:=EY
 refine Pf (xs:=n.down[i]) 0 ?_;rintro hi3 b3 o3 e3 s3;rw [e3];refine go ?_;intros;refine Ar [2,17] [10] ?_;refine C4 0 1 2 3 ?_;refine C4 4 5 6 7 ?_;refine dN 8 ?_;refine sld 1 fun a8 c8 F8=>?_;refine dk ?_;refine dt 9 ?_;refine dN 10 ?_;refine oS ?_;refine Nm ?_;refine dd ?_;refine P8 (E:=EC 1) (xs:=yd) [.slice a8 (n.down[i].drop 1).length c8] hHq (fun _=>⟨rfl,⟨rfl,FO⟩,rfl⟩) ?_;refine Aba (E:=Ak) (x:=n.down[i].drop 1) EZ ?_;refine Re (E:=O7 Ak EZ) (ys:=yd) (xs:=n.down) (x:=n.down[i].drop 1) i rfl hm EY fun Gv=>?_
 rw [<-ea,show n.down.set i (n.down[i].drop 1)=(Q9 n i).down from (In EY).symm];have hmem:=Pl h0;have hpk:Br (Nw n.down[i])=true:=Np (hq▸(Mx (s:=s) g1).1) hmem;have hpz:(Nw n.down[i]).data.size<=maxLen:=by
  exact BH
 have hgp:At (Q9 n i)=true:=hpo▸Lz g1;have hGp:=Ax.1 hgp;have hPg:=Yq h0;rw [<-hPg];generalize hP:Nw n.down[i]=P at *;have htk:C6 n s=if s.Ct=2 then some (C9 (Q9 n i) i P) else some (Q9 n i,[]):=by
  unfold C6;rw [aC EY,hq,aC EY,hpo,hP,hi,ba]
  split
  ·rfl
  ·first|rfl|rw [aC k5]
 have hdp:∀q∈(Q9 n i).down,q.length<=6:=fun q hq=>(C8 ((If hgp).2.2.1 q hq)).1;refine go ?_;refine Ay rfl (fun k2=>?_) (fun k2=>?_)
 ·rw [aH k2] at htk;have hgm:=M0 g1 g2 (htk0.trans htk);rw [show Bm n s=((C9 (Q9 n i) i P).1,(C9 (Q9 n i) i P).2,true) by unfold Bm;rw [g1,g2,htk0,htk];rfl];refine go ?_;have hls:(C9 (Q9 n i) i P).1.Ab=n.Ab:=by unfold C9;split <;> rfl
  refine Ar [4,8,20] [] ?_;refine C4 0 1 2 3 ?_;refine dt 4 ?_;refine dN 5 ?_;refine oC ?_
  refine Be (Al3 (Q9 n i) i P w.a1 w.c1 y.a4 y.c4 y.a5 y.c5 y.a6 y.c6 y.a7 y.c7 w.s.a w.s.a2 n.Ab.Aa.Al.length w.s.c n.Ab.holds.length w.s.c2 _ _ _ _ Ft ⟨⟨ye,Fe,He⟩,⟨yr,Fr,Hr⟩,⟨yd.set i [.slice a8 (n.down[i].drop 1).length c8],[gq],Gv⟩,⟨yu,Fu,Hu⟩⟩ FT hGp.l IK EY (Hl hGp.t) (fun hl=>by obtain ⟨x1,x2,x3,x4,r⟩:=hGp.rn (i:=i) IK;rw [Hf x2];exact (r.hf i0 hl).2.1) (fun hl=>by obtain ⟨x1,x2,x3,x4,r⟩:=hGp.rn (i:=i) IK;rw [J9 x1];exact (r.hn i0 hl).1) hpk hpz hdp) fun x _=>?_;refine dk ?_
  refine dN 6 ?_;refine oS ?_;refine dk ?_;refine Dh 7 8 ?_;refine dd ?_;refine go ?_;rw [<-hls];refine Fs (ys:=x.1.e.ys) fun _ w4=>?_;refine Fs (ys:=x.1.r.ys) fun _ w5=>?_;refine Fs (ys:=x.1.d.ys) fun _ w6=>?_;refine Fs (ys:=x.1.u.ys) fun _ w7=>?_;refine Av (E:=EC 2) (xs:=x.1.e.ys) fun _=>?_;refine Av (E:=EC 5) (xs:=x.1.r.ys) fun _=>?_;refine Av (E:=EC 1) (xs:=x.1.d.ys) fun _=>?_;refine Av (E:=EC 1) (xs:=x.1.u.ys) fun _=>?_
  refine Aav ((C9 (Q9 n i) i P).1) (l:=n.Ap.Ad) (N:=n.Ap.Ad.length) (congrArg Nf.Ad (Ts (htk0.trans htk))) rfl (Ax.1 hgm).l w4 w5 w6 w7 (a1:=w.a1) (c1:=w.c1) (a2:=w.s.a) (c2:=w.s.c) (a3:=w.s.a2) (c3:=w.s.c2) (a4:=y.a4) (c4:=y.c4) (a5:=y.a5) (c5:=y.c5) (a6:=y.a6) (c6:=y.c6) (a7:=y.a7) (c7:=y.c7) fun FN=>?_;refine ret (⟨_,FN,x.2.a,x.2.c,x.2.F⟩:StZ) trivial rfl
 ·rw [aC k2] at htk;have hgm:=M0 g1 g2 (htk0.trans htk);rw [show Bm n s=(Q9 n i,[],true) by unfold Bm;rw [g1,g2,htk0,htk];rfl];refine go ?_;refine Ay rfl (fun m5=>?_) (fun m5=>?_)
  ·exact absurd m5 k5
  refine go ?_;intros;refine C3 A9 ?_;refine go ?_;refine Fs (ys:=ye) fun _ w4=>?_;refine Fs (ys:=yr) fun _ w5=>?_;refine Fs (ys:=(yd.set i [.slice a8 (n.down[i].drop 1).length c8])) fun _ w6=>?_;refine Fs (ys:=yu) fun _ w7=>?_;refine Av (E:=EC 2) (xs:=ye) fun _=>?_;refine Av (E:=EC 5) (xs:=yr) fun _=>?_;refine Av (E:=EC 1) (xs:=(yd.set i [.slice a8 (n.down[i].drop 1).length c8])) fun _=>?_;refine Av (E:=EC 1) (xs:=yu) fun _=>?_
  refine Aav (Q9 n i) (l:=n.Ap.Ad) (N:=n.Ap.Ad.length) rfl rfl (Ax.1 hgm).l w4 w5 w6 w7 (a1:=w.a1) (c1:=w.c1) (a2:=w.s.a) (c2:=w.s.c) (a3:=w.s.a2) (c3:=w.s.c2) (a4:=y.a4) (c4:=y.c4) (a5:=y.a5) (c5:=y.c5) (a6:=y.a6) (c6:=y.c6) (a7:=y.a7) (c7:=y.c7) fun FN=>?_;exact CU
structure SwS where
 y:Aw
 a:aj
 c:Nat
 F:aq
 s:N4
structure SwL where
 y:Aw
 i:Nat
 a:aj
 c:Nat
 F:aq
 s:N4
structure Bi9 (B r0:Nat) (z:SwL):Prop where
 l:z.y.Al.length+z.i=r0
 s:Hm (B+8+50 * z.y.Al.length) z.s
def Amg (B g:Nat) (F:CuF) (s:N4) (ok:Hm B s) (hB:B<=800000000000) :
  Fn prog 174 [Gj g 0 0] [.sl Jc (ab F.a F.By.length F.c) F.By F.bs] [.row g 61 0 [] [ab F.a F.By.length F.c,aa (s.k:Nat),.int .u64 s.Ha] []] (fun (z:SwS)=>z.y.Al.length<=7/\Hm (B+1000) z.s) (fun s=>.agg #[aa s.y.Am,aa s.y.size,ab s.a s.y.Al.length s.c])
   (fun s=>[.isv Ck (.agg #[aa s.y.Am,aa s.y.size,ab s.a s.y.Al.length s.c]) s.y s.F,.row g 61 0 [] [ab F.a F.By.length F.c,aa (s.s.k:Nat),.int .u64 s.s.Ha] []]):=by
 refine enter func174 rfl ntmps174 fun w0=>?_;refine Bt A9 9 ?_;refine go ?_;intros;refine Be (Ud B g F s ok EY) fun n hn=>?_;obtain ⟨hn1,hn2⟩:=hn;refine go ?_;refine Be (Dr (B+4) g F 6 n.2 hn2 EY EY) fun y hy=>?_;obtain ⟨r1,s1⟩:=y;obtain ⟨hy1,hy2⟩:=hy;dsimp only at hy1 hy2 ⊢;have hr1:r1<=5:=EY
 refine go ?_;intros;rename_i gg;refine Be (Dr _ g F (1+(r1:Int)+1) s1 hy2 EY EY) fun y hy=>?_;obtain ⟨r0,s2⟩:=y;obtain ⟨hz1,hz2⟩:=hy;dsimp only at hz1 hz2 ⊢;have hr0:r0<=6:=EY
 refine go ?_;refine Ca [0,2,3] (fun z:SwL=>[(4,aa (z.i:Nat))]) (fun z=>[.row gg 35 0 [] [aa z.y.Am,aa z.y.size,ab z.a z.y.Al.length z.c] [],.ow A9 9 (ab z.a z.y.Al.length z.c) z.y.Al z.F,.row g 61 0 [] [ab F.a F.By.length F.c,aa (z.s.k:Nat),.int .u64 z.s.Ha] []]) (Bi9 B r0) (fun z=>z.i) ⟨⟨n.1,1+(r1:Int),[]⟩,r0,none,0,[],s2⟩ ⟨FA,hz2.mono (by show _<=B+8+50 * 0;omega)⟩ fun z hz=>?_;obtain ⟨z1,z3⟩:=hz;refine go ?_;refine Ay rfl (fun h2=>?_) (fun h2=>?_)
 ·refine Hy ?_;intros;refine Ar [0] [7] ?_;refine Dh 0 1 ?_;refine dt 2 ?_;refine dN 3 ?_;refine oC ?_;refine Be (Tq _ g F z.s 4 z3 EY EY EY) fun l hl=>?_;obtain ⟨hl1,hl2⟩:=hl;have hl3:l.1.size<=maxLen:=FE
  refine dk ?_;refine dN 4 ?_;apply I1;rfl;rfl;rfl;rfl;exact Iy;exact Ir;intro _;refine dk ?_;refine dN 5 ?_;refine N9 (Ah0 hl3) D7 fun a9 c9 F9=>?_;refine dk ?_;refine dt 6 ?_;refine dN 7 ?_;refine oS ?_;refine Nm ?_;refine dd ?_;refine go ?_;rw [show ((z.i:Nat):Int) - 1=((z.i - 1:Nat):Int) by omega]
  refine Ce ⟨⟨z.y.Am,z.y.size,z.y.Al++[l.1]⟩,z.i - 1,a9,c9,F9,l.2⟩ ⟨by show (z.y.Al++[l.1]).length+(z.i - 1)=r0;rw [aA];simp only [aU,aY];omega,hl2.mono (by show _<=B+8+50 * (z.y.Al++[l.1]).length;rw [aA];simp only [aU,aY];omega)⟩ (by show z.i - 1 < _;omega)
 ·have hl7:z.y.Al.length<=6:=EY
  refine go ?_;refine Be (Dr _ g F 24 z.s z3 EY EY) fun p hp=>?_;obtain ⟨r,s3⟩:=p;obtain ⟨-,hp⟩:=hp;dsimp only at hp ⊢;refine go ?_;refine Ay rfl (fun e0=>?_) (fun e0=>?_)
  ·refine go ?_;refine Be (Ul _ g F s3 hp EY) fun q hq=>?_;refine go ?_;refine Av (E:=A9) (xs:=z.y.Al) fun F8=>?_;refine Cr ⟨q.1,z.y.size,z.y.Al⟩ ?_;refine ret ⟨⟨q.1,z.y.size,z.y.Al⟩,_,_,_,q.2⟩ ⟨by show z.y.Al.length<=7;omega,hq.mono EY⟩ rfl
  refine go ?_;refine Ay rfl (fun e1=>?_) (fun e1=>?_)
  ·refine Hy ?_;intros;refine Dy (xs:=[0,7,6]) (fun w=>Mu w _) ?_ EZ;refine Av (E:=Bc) fun G=>?_;refine go ?_;refine Be (Qc _ g F _ [0,7,6] G s3 hp EY EZ EZ) fun q hq=>?_;refine go ?_;refine Av (E:=A9) (xs:=z.y.Al) fun F8=>?_;refine Cr ⟨z.y.Am,q.1,z.y.Al⟩ ?_;refine ret ⟨⟨z.y.Am,q.1,z.y.Al⟩,_,_,_,q.2⟩ ⟨by show z.y.Al.length<=7;omega,hq.2.mono EY⟩ rfl
  refine go ?_;refine Ay rfl (fun e2=>?_) (fun e2=>?_)
  ·refine Hy ?_;intros;refine Ar [1] [8] ?_;refine Dh 0 1 ?_;refine dt 2 ?_;refine dN 3 ?_;apply I1;rfl;rfl;rfl;rfl;exact Iy;exact Ir;intro _;refine Dy (xs:=[⟨#[65]⟩,⟨#[97,98,99,100,101,102,103,104]⟩,⟨#[97,98,99,100,101,102,103,104,105]⟩,⟨#[]⟩]) (fun w=>Q3 w _ EZ) ?_ EZ;refine Av (E:=A9) fun G=>?_;refine dk ?_;refine dN 4 ?_;refine oC ?_;refine Be (Afl _ g F _ [⟨#[65]⟩,⟨#[97,98,99,100,101,102,103,104]⟩,⟨#[97,98,99,100,101,102,103,104,105]⟩,⟨#[]⟩] _ s3 hp EY EZ EZ) fun q2 hq2=>?_
   have hq3:q2.1.size<=maxLen:=by have:=hq2.1;simp only [aG,aT,bn] at this;rcases this with e|e|e|e <;> rw [e] <;> decide
   refine dk ?_;refine dN 5 ?_;apply I1;rfl;rfl;rfl;rfl;exact Iy;exact Ir;intro _;refine dk ?_;refine dN 6 ?_;refine N9 (Ah0 hq3) D7 fun a9 c9 F9=>?_;refine dk ?_;refine dt 7 ?_;refine dN 8 ?_;refine oS ?_;refine Nm ?_;refine dd ?_;refine go ?_;refine Av (E:=A9) (xs:=z.y.Al++[q2.1]) fun F8=>?_;refine Cr ⟨z.y.Am,z.y.size,z.y.Al++[q2.1]⟩ ?_;refine ret ⟨⟨z.y.Am,z.y.size,z.y.Al++[q2.1]⟩,_,_,_,q2.2⟩ ⟨by show (z.y.Al++[q2.1]).length<=7;rw [aA];simp only [aU,aY];omega,hq2.2.mono EY⟩ rfl
  refine go ?_;refine Av (E:=A9) (xs:=z.y.Al) fun F8=>?_;refine Cr z.y ?_;refine ret ⟨z.y,_,_,_,s3⟩ ⟨by show z.y.Al.length<=7;omega,hp.mono EY⟩ rfl
def Aj4 (B g:Nat) (F:CuF) (s:N4) (x:Aw) (v:Value) (Fx:aq) (ok:Hm B s) (hB:B<=800000000000) (hl:x.Al.length<=1000) :
  Fn prog 49 [Gj g 0 0,v] [.sl Jc (ab F.a F.By.length F.c) F.By F.bs,.isv Ck v x Fx] [.row g 61 0 [] [ab F.a F.By.length F.c,aa (s.k:Nat),.int .u64 s.Ha] []] (fun (z:Int × N4)=>(-1<=z.1/\z.1<=65536)/\Hm (B+8) z.2) (fun z=>aa z.1) (fun z=>[.row g 61 0 [] [ab F.a F.By.length F.c,aa (z.2.k:Nat),.int .u64 z.2.Ha] []]):=by
 refine enter func49 rfl ntmps49 fun w0=>?_;refine E9 ?_;rintro a1 c1 F1 rfl l1;refine go ?_;intros;refine ce (fun w s=>Oh _ _) ?_;cases g1:Cd x.Am
 ·refine go ?_;refine Be (We B g F s ok EY) fun z hz=>?_;refine go ?_;refine ret z ⟨hz.1,hz.2.mono EY⟩ rfl
 obtain ⟨n0,n1⟩:=Ba.1 g1;refine go ?_;refine Be (Ab8 B g F 12 s ok EY EY) fun q hq=>?_;cases hb:q.1
 ·refine go ?_;refine Ar [1] [] ?_;refine C4 0 1 2 3 ?_;refine Dh 4 5 ?_;refine dt 6 ?_;refine dN 7 ?_;refine oC ?_;refine Be (Dr _ g F ((x.Al.length:Int)+3) q.2 hq.2 EY EY) fun y hy=>?_;obtain ⟨hy1,hy2⟩:=hy;refine dk ?_;refine dt 8 ?_;refine dN 9 ?_;refine oC ?_;refine ce (fun w s=>Id _ _ _ EY EY) ?_;refine dk ?_;refine dt 10 ?_;refine dd ?_;refine go ?_;refine ret (_,y.2) ⟨by have:=Jk x.Am ((y.1:Int) - 1);show -1<=Cf x.Am ((y.1:Int) - 1)/\Cf x.Am ((y.1:Int) - 1)<=65536;omega,hy2.mono EY⟩ rfl
 ·refine go ?_;refine Be (We (B+2) g F q.2 hq.2 EY) fun z hz=>?_;refine go ?_;refine ret z hz rfl
structure SwN where
 y:Aw
 a:aj
 c:Nat
 F:aq
 n:Int
structure SwT where
 y:Aw
 a:aj
 c:Nat
 F:aq
 t:au
structure SwP where
 y:Aw
 a:aj
 c:Nat
 F:aq
 p:As
structure SwJ where
 y:Aw
 a:aj
 c:Nat
 F:aq
structure OkD (m:Nat) (y:Cu):Prop where
 t0:0<=y.Aa.Am
 t1:y.Aa.Am<=65535
 z0:1<=y.Aa.size
 z6:y.Aa.size<=6
 l:(y.Aa.Al.length:Int)<=y.Aa.size
 it:∀s∈y.Aa.Al,s.size<=maxLen
 k0:0<=y.Ai
 km:y.Ai<=m
 q0:0<=y.quiet
 q3:y.quiet<=3
 h:y.holds.length<=m
 w:Aah y.holds
 mm:m<=100
def OkD.l6 {m y} (h:OkD m y):y.Aa.Al.length<=6:=by have:=h.l;have:=h.z6;omega
def OkD.k1 {m y} (h:OkD m y):y.Ai<=99999:=by have:=h.km;have:=h.mm;omega
def OkD.h1 {m y} (h:OkD m y):y.holds.length<=900:=by have:=h.h;have:=h.mm;omega
def Adk (W:Aw) (cl:Int) (hs:List I3):(Iz W cl hs).length<=hs.length:=bN _ _
def Abe {W:Aw} {cl:Int} {hs:List I3} (h:Aah hs):Aah (Iz W cl hs):=fun z hz=>h z (bR.1 hz).1
def Bfn {W:Aw} {p:As} (h:∀s∈W.Al,s.size<=maxLen):(Dp W p).1.data.size<=maxLen:=by
 unfold Dp
 split
 ·rename_i g;unfold Kn at g;simp only [aw] at g;have hk:=Abz g.2;show (Aay W p.Ae).size<=maxLen;rw [Vm hk];exact h _ (aB hk)
 ·decide
def Asx {m y} (h:OkD m y) {s:au} (hs:s.size<=maxLen) (hm:m+1<=100:=by omega):OkD (m+1) (Qp y s):=by
 have hb:=Rd h.t0 h.t1;have hkl:=Adk (Di y.Aa s) y.Ai y.holds;have:=h.km;have:=h.h;have hr:((Df y.Aa).Al.length:Int)+1<=y.Aa.size/\∀x∈(Df y.Aa).Al,x.size<=maxLen:=by
  have:=h.l;unfold Df
  split
  ·exact ⟨by simp only [aX];have:=h.z0;omega,fun x hx=>h.it x (br hx)⟩
  ·exact ⟨EY,h.it⟩
 refine ⟨hb.1,hb.2,h.z0,h.z6,?_,?_,h.k0,?_,by show (0:Int)<=0;omega,by show (0:Int)<=3;omega,?_,Abe h.w,hm⟩
 ·show (((Df y.Aa).Al++[s]).length:Int)<=y.Aa.size;simp only [aA,aU,aY];omega
 ·intro x hx;have hx:x∈(Df y.Aa).Al++[s]:=hx;simp only [aJ,aG,aT,bn] at hx;rcases hx with hx|rfl
  ·exact hr.2 x hx
  ·exact hs
 ·show y.Ai<=((m+1:Nat):Int);omega
 ·show (Iz _ _ _).length<=m+1;omega
def Bgc {m y} (h:OkD m y) {n:Int} (hn:-1<=n/\n<=65536) (hm:m+1<=100:=by omega):OkD (m+1) (N0 y n):=by
 have hkl:=Adk y.Aa y.Ai y.holds;have:=h.km;have:=h.h;unfold N0
 split
 ·refine ⟨h.t0,h.t1,h.z0,h.z6,h.l,h.it,h.k0,by show y.Ai<=((m+1:Nat):Int);omega,h.q0,h.q3,?_,?_,hm⟩
  ·show (Ls _ _ _).length<=m+1;unfold Ls;simp;omega
  ·intro z hz;have hz:z∈Ls y.holds (Gk y.Aa.Am y.holds n) ⟨n,y.Ai+3⟩:=hz;unfold Ls at hz;simp only [aJ,aG] at hz;rcases hz with hz|rfl|hz
   ·exact h.w z (bK hz)
   ·exact hn
   ·exact h.w z (br hz)
 ·exact ⟨h.t0,h.t1,h.z0,h.z6,h.l,h.it,h.k0,by show y.Ai<=((m+1:Nat):Int);omega,h.q0,h.q3,by show (Iz _ _ _).length<=m+1;omega,Abe h.w,hm⟩
def Bdl {m y} (h:OkD m y) (hm:m+1<=100:=by omega):OkD (m+1) (Nk y):=by
 have hkl:=Adk y.Aa (y.Ai+1) y.holds;have:=h.km;have:=h.h;have:=h.k0;have:=h.q0;have:=h.q3;refine ⟨h.t0,h.t1,h.z0,h.z6,h.l,h.it,by show 0<=y.Ai+1;omega,by show y.Ai+1<=((m+1:Nat):Int);omega,?_,?_,by show (Iz _ _ _).length<=m+1;omega,Abe h.w,hm⟩
 ·show 0<=Ss y.quiet;unfold Ss;split <;> omega
 ·show Ss y.quiet<=3;unfold Ss;split <;> omega
def Bcs {f z:Int} (h0:0<=f) (h1:f<=65535) (z0:1<=z) (z6:z<=6):Gf f z=(⟨⟨f,z,[]⟩,0,0,[]⟩,true):=by
 have hg:Cp ⟨⟨f,z,[]⟩,0,0,[]⟩=true:=Ep.2 ⟨Du.2 ⟨⟨h0,h1⟩,⟨z0,z6⟩,FF,rfl⟩,rfl,rfl,FA,List.Pairwise.nil⟩;unfold Gf;rw [hg];rfl
structure SrD where
 y:Cu
 a:aj
 c:Nat
 a2:aj
 c2:Nat
 F:aq
 i:Nat
 s:N4
def Baq (B g:Nat) (F:CuF) (s:N4) (ok:Hm B s) (hB:B<=700000000000) :
  Fn prog 107 [Gj g 0 0] [.sl Jc (ab F.a F.By.length F.c) F.By F.bs] [.row g 61 0 [] [ab F.a F.By.length F.c,aa (s.k:Nat),.int .u64 s.Ha] []] (fun (z:SrD)=>z.y.Aa.Al.length<=7/\z.y.holds.length<=20/\Hm (B+2000) z.s) (fun s=>.agg #[aa s.y.Aa.Am,aa s.y.Aa.size,ab s.a s.y.Aa.Al.length s.c,aa s.y.Ai,aa s.y.quiet,ab s.a2 s.y.holds.length s.c2])
   (fun s=>[.isv Ei (.agg #[aa s.y.Aa.Am,aa s.y.Aa.size,ab s.a s.y.Aa.Al.length s.c,aa s.y.Ai,aa s.y.quiet,ab s.a2 s.y.holds.length s.c2]) s.y s.F,.row g 61 0 [] [ab F.a F.By.length F.c,aa (s.s.k:Nat),.int .u64 s.s.Ha] []]):=by
 refine enter func107 rfl ntmps107 fun w0=>?_;refine go ?_;intros;refine Be (Ud B g F s ok EY) fun n hn=>?_;obtain ⟨hn1,hn2⟩:=hn;refine go ?_;refine Be (Dr (B+4) g F 6 n.2 hn2 EY EY) fun y hy=>?_;obtain ⟨r1,s1⟩:=y;obtain ⟨hy1,hy2⟩:=hy;dsimp only at hy1 hy2 ⊢;have hr1:r1<=5:=EY
 refine go ?_;refine Be (Xv n.1 (1+(r1:Int))) fun F0 _=>?_;rw [Bcs hn1.1 hn1.2 EY EY];refine go ?_;intros;rename_i gg;refine Be (Dr _ g F 9 s1 hy2 EY EY) fun y hy=>?_;obtain ⟨r0,s2⟩:=y;obtain ⟨hz1,hz2⟩:=hy;dsimp only at hz1 hz2 ⊢;have hr0:r0<=8:=EY
 refine go ?_
 refine Ca [0,2,3] (fun z:SrD=>[(5,aa (z.i:Nat))]) (fun z=>[.row gg 38 0 [] [aa z.y.Aa.Am,aa z.y.Aa.size,ab z.a z.y.Aa.Al.length z.c,aa z.y.Ai,aa z.y.quiet,ab z.a2 z.y.holds.length z.c2] [],.isv Ei (.agg #[aa z.y.Aa.Am,aa z.y.Aa.size,ab z.a z.y.Aa.Al.length z.c,aa z.y.Ai,aa z.y.quiet,ab z.a2 z.y.holds.length z.c2]) z.y z.F,.row g 61 0 [] [ab F.a F.By.length F.c,aa (z.s.k:Nat),.int .u64 z.s.Ha] []]) (fun z=>OkD (r0 - z.i) z.y/\z.i<=r0/\Hm (B+20+50 * (r0 - z.i)) z.s) (fun z=>z.i) ⟨⟨⟨n.1,1+(r1:Int),[]⟩,0,0,[]⟩,none,0,none,0,F0,r0,s2⟩ ⟨⟨hn1.1,hn1.2,by show (1:Int)<=1+(r1:Int);omega,by show 1+(r1:Int)<=6;omega,by show ((0:Nat):Int)<=1+(r1:Int);omega,FA,by show (0:Int)<=0;omega,by show (0:Int)<=((r0 - r0:Nat):Int);omega,by show (0:Int)<=0;omega,by show (0:Int)<=3;omega,FA,by intro z hz;simp at hz,EY⟩,aK _,hz2.mono (by show _<=B+20+50 * (r0 - r0);omega)⟩ fun z hz=>?_
 obtain ⟨z1,z2,z3⟩:=hz;refine go ?_;refine Ay rfl (fun h2=>?_) (fun h2=>?_)
 ·have hi0:0 < z.i:=EY
  refine go ?_;refine Be (Dr _ g F 4 z.s z3 EY EY) fun p hp=>?_;obtain ⟨r2,s4⟩:=p;obtain ⟨hr2,z3⟩:=hp;dsimp only at hr2 z3 ⊢;have hr4:r2=0\/r2=1\/r2=2\/r2=3:=EY
  rcases hr4 with rfl|rfl|rfl|rfl
  ·refine go ?_;refine Ar [1] [5,6,7] ?_;refine Dh 0 1 ?_;refine dN 2 ?_;refine oC ?_;refine Be (Tq _ g F s4 3 z3 EY EY EY) fun l hl=>?_;obtain ⟨hl1,hl2⟩:=hl;have hl3:l.1.size<=maxLen:=FE
   exact AM
  ·refine go ?_;refine Ar [1] [5,6,7] ?_;refine Dh 0 1 ?_;refine dN 2 ?_;refine oC ?_;refine Be (Tq _ g F s4 3 z3 EY EY EY) fun l hl=>?_;obtain ⟨hl1,hl2⟩:=hl;have hl3:l.1.size<=maxLen:=FE
   exact AM
  ·refine Hc (x:=z.y) (F:=z.F) ?_;rintro b1 d1 G1 b2 d2 G2 e5 m1 m2;simp only [Value.agg.injEq,Array.mk.injEq,List.cons.injEq,Value.slice.injEq,Value.int.injEq,cM,cO] at e5;obtain ⟨⟨rfl,rfl⟩, -⟩:=e5;refine Cr z.y.Aa (a1:=z.a) ?_;generalize G1=FW;refine go ?_;refine Ar [4] [8,9,10] ?_;refine C4 0 1 2 3 ?_;refine dN 4 ?_;refine oC ?_;refine Be (Aj4 _ g F s4 z.y.Aa _ FW z3 EY (by have:=z1.l6;omega)) fun n hn=>?_;obtain ⟨hn1,hn2⟩:=hn;refine dk ?_;refine dt 5 ?_;refine dN 6 ?_;refine oC ?_
   refine Be (Aaa z.y ⟨3,n.1,0,0,⟨#[]⟩⟩ _ z.F z1.t0 z1.t1 z1.l6 z1.k0 z1.k1 z1.h1 z1.w hn1.1 hn1.2 GZ (Bfn z1.it)) fun q _=>?_;refine dk ?_;refine dt 7 ?_;refine P0 8 ?_;refine P0 9 ?_;refine dN 10 ?_;refine oS ?_;refine Nm ?_;refine dd ?_;refine go ?_;rw [show ((z.i:Nat):Int) - 1=((z.i - 1:Nat):Int) by omega];refine Ce ⟨N0 z.y n.1,q.a,q.c,q.a2,q.c2,q.F,z.i - 1,n.2⟩ ⟨by rw [show r0 - (z.i - 1)=r0 - z.i+1 by omega];exact Bgc z1 hn1,KI,hn2.mono HI⟩ GO
  ·refine go ?_;refine Be (Aha z.y _ z.F z1.t0 z1.t1 z1.l6 z1.k0 z1.k1 z1.q0 z1.q3 (by have:=z1.h1;omega) z1.w) fun q _=>?_;refine go ?_;rw [show ((z.i:Nat):Int) - 1=((z.i - 1:Nat):Int) by omega];refine Ce ⟨Nk z.y,q.a,q.c,q.a2,q.c2,q.F,z.i - 1,s4⟩ ⟨by rw [show r0 - (z.i - 1)=r0 - z.i+1 by omega];exact Bdl z1,KI,z3.mono HI⟩ GO
 ·have hl7:=z1.l6;have hh7:=z1.h;refine go ?_;refine Be (Dr _ g F 24 z.s z3 EY EY) fun p hp=>?_;obtain ⟨r,s3⟩:=p;obtain ⟨-,hp⟩:=hp;dsimp only at hp ⊢;refine Hc (x:=z.y) (F:=z.F) ?_;rintro b1 d1 G1 b2 d2 G2 e5 m1 m2;simp only [Value.agg.injEq,Array.mk.injEq,List.cons.injEq,Value.slice.injEq,Value.int.injEq,cM,cO] at e5;obtain ⟨⟨rfl,rfl⟩,rfl,rfl⟩:=e5;refine go ?_;refine Ay rfl (fun e0=>?_) (fun e0=>?_)
  ·refine Hy ?_;intros;refine Dy (xs:=[-1,9999,10000]) (fun w=>Mu w _) ?_ EZ;refine Av (E:=Bc) fun G=>?_;refine go ?_;refine Be (Qc _ g F _ [-1,9999,10000] G s3 hp EY EZ EZ) fun q hq=>?_;refine go ?_;refine D6 ⟨z.y.Aa,q.1,z.y.quiet,z.y.holds⟩ (a1:=z.a) ?_;refine ret ⟨⟨z.y.Aa,q.1,z.y.quiet,z.y.holds⟩,_,_,_,_,_,0,q.2⟩ ⟨IN,KN,hq.2.mono EY⟩ rfl
  refine go ?_;refine Ay rfl (fun e1=>?_) (fun e1=>?_)
  ·refine Hy ?_;intros;refine Dy (xs:=[-1,3,4]) (fun w=>Mu w _) ?_ EZ;refine Av (E:=Bc) fun G=>?_;refine go ?_;refine Be (Qc _ g F _ [-1,3,4] G s3 hp EY EZ EZ) fun q hq=>?_;refine go ?_;refine D6 ⟨z.y.Aa,z.y.Ai,q.1,z.y.holds⟩ (a1:=z.a) ?_;refine ret ⟨⟨z.y.Aa,z.y.Ai,q.1,z.y.holds⟩,_,_,_,_,_,0,q.2⟩ ⟨IN,KN,hq.2.mono EY⟩ rfl
  refine go ?_;refine Ay rfl (fun e2=>?_) (fun e2=>?_)
  ·have hkm:=z1.km;have hk0:=z1.k0;refine Hy ?_;intros;refine Ar [3] [15] ?_;refine C4 1 2 4 6 ?_;refine Dh 7 8 ?_;refine dN 0 ?_;apply Kt;rfl;intro _;refine C3 Bv ?_;refine dk ?_;refine dN 3 ?_;refine N5 (ys:=z.y.holds) I9 Lf fun a7 c7 F7=>?_;rw [aZ];refine dk ?_;refine dN 5 ?_;refine oC ?_;refine Be (Ul _ g F s3 hp EY) fun q hq=>?_;refine dk ?_;refine dN 9 ?_;refine oC ?_;refine Be (Dr _ g F 5 q.2 hq EY EY) fun r hr=>?_;obtain ⟨hr1,hr2⟩:=hr;refine dk ?_;refine Dh 10 11 ?_;refine dN 12 ?_;apply I1;rfl;rfl;rfl;rfl;exact Iy;exact Ir;intro _;refine dk ?_
   refine dN 13 ?_;refine N9 (V1 ⟨q.1,z.y.Ai+(r.1:Nat)⟩) I9 fun a9 c9 F9=>?_;refine dk ?_;refine dt 14 ?_;refine dN 15 ?_;refine oS ?_;refine Nm ?_;refine dd ?_;refine go ?_;refine Av (E:=Bv) fun F8=>?_;refine D6 ⟨z.y.Aa,z.y.Ai,z.y.quiet,z.y.holds++[⟨q.1,z.y.Ai+(r.1:Nat)⟩]⟩ (a1:=z.a) ?_;refine ret ⟨⟨z.y.Aa,z.y.Ai,z.y.quiet,z.y.holds++[⟨q.1,z.y.Ai+(r.1:Nat)⟩]⟩,_,_,_,_,_,0,r.2⟩ ⟨IN,by show (z.y.holds++[_]).length<=20;simp;omega,hr2.mono EY⟩ rfl
  refine go ?_;refine Ay rfl (fun e3=>?_) (fun e3=>?_)
  ·refine go ?_;refine Be (Amg _ g F s3 hp EY) fun q hq=>?_;obtain ⟨hq1,hq2⟩:=hq;refine go ?_;refine E9 (x:=q.y) ?_;rintro b3 d3 G3 e6 m3;simp only [Value.agg.injEq,Array.mk.injEq,List.cons.injEq,Value.slice.injEq,Value.int.injEq,cM,cO] at e6;obtain ⟨rfl,rfl⟩:=e6;refine Ci Bv EZ ?_;refine D6 ⟨q.y,0,0,[]⟩ (a1:=q.a) ?_;refine ret ⟨⟨q.y,0,0,[]⟩,_,_,_,_,_,0,q.s⟩ ⟨by show q.y.Al.length<=7;omega,by show ([]:List I3).length<=20;simp,hq2.mono EY⟩ rfl
  ·refine go ?_;refine ret ⟨z.y,z.a,z.c,z.a2,z.c2,z.F,0,s3⟩ ⟨IN,KN,hp.mono EY⟩ rfl
structure OkE (m:Nat) (y:Bj):Prop where
 k0:0<=y.Ai
 k1:y.Ai<=30+m
 l:y.Ah.length<=m
 f:∀x∈y.Ah,x.Bl.length<=m
 mm:m<=100
def Azm {m y} (h:OkE m y) (hm:m+1<=100:=by omega):OkE (m+1) (Er y):=by
 have:=h.k0;have:=h.k1;have hl:=bN (fun x:Hk=>!decide (x.Cm<=y.Ai+1)) y.Ah;exact ⟨by show 0<=y.Ai+1;omega,by show y.Ai+1<=30+((m+1:Nat):Int);omega,by show (y.Ah.filter _).length<=_;have:=h.l;omega,fun x hx=>by have:=h.f x (bR.1 hx).1;omega,hm⟩
def Bdk {m y} (h:OkE m y) {n f:Int} (hm:m+1<=100:=by omega):OkE (m+1) (N7 y n f):=by
 have:=h.k0;have:=h.k1;have hl:=h.l;have hf:∀x∈y.Ah,x.Bl.length<=m+1:=fun x hx=>by have:=h.f x hx;omega
 unfold N7
 split
 ·rename_i x hx;refine ⟨h.k0,KC,by show (y.Ah.set _ _).length<=m+1;rw [bG];omega,fun z hz=>?_,hm⟩;rcases bC hz with h'|rfl
  ·exact hf z h'
  ·have:=h.f x (ci hx);have:=Azs x.Bl f;show (Sm x.Bl f).length<=m+1;omega
 ·split
  ·refine ⟨h.k0,KC,by show (y.Ah++[_]).length<=m+1;simp;omega,fun z hz=>?_,hm⟩;rcases aJ.1 hz with h'|h'
   ·exact hf z h'
   ·simp at h';subst h';simp
  ·exact ⟨h.k0,KC,EY,hf,hm⟩
structure ElD where
 y:Bj
 a:aj
 c:Nat
 F:aq
 i:Nat
 s:N4
def Aql (B g:Nat) (F:CuF) (s:N4) (ok:Hm B s) (hB:B<=700000000000) :
  Fn prog 109 [Gj g 0 0] [.sl Jc (ab F.a F.By.length F.c) F.By F.bs] [.row g 61 0 [] [ab F.a F.By.length F.c,aa (s.k:Nat),.int .u64 s.Ha] []] (fun (z:ElD)=>z.y.Ah.length<=1000/\(∀x∈z.y.Ah,x.Bl.length<=1000)/\Hm (B+2000) z.s) (fun s=>.agg #[aa s.y.Ai,ab s.a s.y.Ah.length s.c])
   (fun s=>[.isv Bz (.agg #[aa s.y.Ai,ab s.a s.y.Ah.length s.c]) s.y s.F,.row g 61 0 [] [ab F.a F.By.length F.c,aa (s.s.k:Nat),.int .u64 s.s.Ha] []]):=by
 refine enter func109 rfl ntmps109 fun w0=>?_;refine go ?_;intros;refine Be (Dr B g F 30 s ok EY EY) fun y hy=>?_;obtain ⟨r1,s1⟩:=y;obtain ⟨hy1,hy2⟩:=hy;dsimp only at hy1 hy2 ⊢;have hr1:r1<=29:=EY
 refine go ?_;intros;rename_i gg;refine Be (Ud _ g F s1 hy2 EY) fun n hn=>?_;obtain ⟨hn1,hn2⟩:=hn;refine go ?_;refine Be (Dr _ g F 10 n.2 hn2 EY EY) fun y hy=>?_;obtain ⟨r0,s2⟩:=y;obtain ⟨hz1,hz2⟩:=hy;dsimp only at hz1 hz2 ⊢;have hr0:r0<=9:=EY
 refine Ci D9 EZ ?_;refine E5 ⟨(r1:Int),[]⟩ ?_;refine go ?_
 refine Ca [0,2,3,4] (fun z:ElD=>[(5,aa (z.i:Nat))]) (fun z=>[.row gg 111 0 [] [aa z.y.Ai,ab z.a z.y.Ah.length z.c] [],.isv Bz (.agg #[aa z.y.Ai,ab z.a z.y.Ah.length z.c]) z.y z.F,.row g 61 0 [] [ab F.a F.By.length F.c,aa (z.s.k:Nat),.int .u64 z.s.Ha] []]) (fun z=>OkE (r0 - z.i) z.y/\z.i<=r0/\Hm (B+20+50 * (r0 - z.i)) z.s) (fun z=>z.i) ⟨⟨(r1:Int),[]⟩,none,0,[],r0,s2⟩ ⟨⟨by show (0:Int)<=(r1:Int);omega,by show (r1:Int)<=_;omega,FA,FA,EY⟩,aK _,hz2.mono (by show _<=B+20+50 * (r0 - r0);omega)⟩ fun z hz=>?_;obtain ⟨z1,z2,z3⟩:=hz;refine go ?_
 refine Ay rfl (fun h2=>?_) (fun h2=>?_)
 ·have hi0:0 < z.i:=EY
  refine go ?_;refine Be (Ab8 _ g F 5 z.s z3 EY EY) fun p hp=>?_;obtain ⟨b4,s4⟩:=p;obtain ⟨-,z4⟩:=hp;dsimp only at z4 ⊢;cases b4
  ·refine go ?_;refine Ar [1] [10,11,12] ?_;refine C4 0 1 2 5 ?_;refine dN 3 ?_;refine oC ?_;refine Be (Dr _ g F 6 s4 z4 EY EY) fun p hp=>?_;obtain ⟨p1,p2⟩:=hp;refine dk ?_;refine dN 4 ?_;refine oC ?_;refine ce (fun w s=>Id _ _ _ EY EY) ?_;refine dk ?_;refine dN 6 ?_;refine oC ?_;refine Be (Dr _ g F 7 p.2 p2 EY EY) fun q hq=>?_;obtain ⟨q1,q2⟩:=hq;refine dk ?_;refine dt 7 ?_;refine dN 8 ?_;refine oC ?_
   refine Be (Wq z.y (Cf n.1 (p.1:Nat)) (1+(q.1:Nat)) _ z.F (by have:=z1.l;omega) (fun x hx=>by have:=z1.f x hx;omega) (by have:=z1.k0;omega) (by have:=z1.k1;omega)) fun u _=>?_;refine Oy Kr fun F7=>?_;refine Ee (v:=u.1) ?_;rintro a6 c6 F6 e6 l6;rw [e6];refine dk ?_;refine dt 9 ?_;refine P0 10 ?_;refine P0 11 ?_;refine dN 12 ?_;refine oS ?_;refine Nm ?_;refine dd ?_;refine go ?_;rw [show ((z.i:Nat):Int) - 1=((z.i - 1:Nat):Int) by omega]
   refine Ce ⟨(N7 z.y (Cf n.1 (p.1:Nat)) (1+(q.1:Nat))),a6,c6,F7,z.i - 1,q.2⟩ ⟨by rw [show r0 - (z.i - 1)=r0 - z.i+1 by omega];exact Bdk z1,KI,q2.mono HI⟩ GO
  ·refine go ?_;refine cr (fun w st=>Akd _ z.y z.F w (st.get (p:=.isv Bz (.agg #[aa z.y.Ai,ab z.a z.y.Ah.length z.c]) z.y z.F) FA) (Ns.2 ⟨z1.k0,by have:=z1.k1;have:=z1.mm;omega⟩) (by have:=z1.l;omega) (fun x hx=>by have:=z1.f x hx;omega)) fun u F7=>?_;refine Ee (v:=u) ?_;rintro a6 c6 F6 rfl l6;refine go ?_;rw [show ((z.i:Nat):Int) - 1=((z.i - 1:Nat):Int) by omega];refine Ce ⟨Er z.y,a6,c6,F7,z.i - 1,s4⟩ ⟨by rw [show r0 - (z.i - 1)=r0 - z.i+1 by omega];exact Azm z1,KI,z4.mono HI⟩ GO
 ·have hl7:=z1.l;refine go ?_;refine Be (Dr _ g F 24 z.s z3 EY EY) fun p hp=>?_;obtain ⟨r,s3⟩:=p;obtain ⟨-,hp⟩:=hp;dsimp only at hp ⊢;refine go ?_;refine Ay rfl (fun e0=>?_) (fun e0=>?_)
  ·refine Ee (x:=z.y) (F:=z.F) ?_;rintro b1 d1 G1 e5 m1;simp only [Value.agg.injEq,Array.mk.injEq,List.cons.injEq,Value.slice.injEq,Value.int.injEq,cM,cO] at e5;obtain ⟨rfl,rfl⟩:=e5;refine Hy ?_;intros;refine Dy (xs:=[-1,9999,10000]) (fun w=>Mu w _) ?_ EZ;refine Av (E:=Bc) fun G=>?_;refine go ?_;refine Be (Qc _ g F _ [-1,9999,10000] G s3 hp EY EZ EZ) fun q hq=>?_;refine go ?_;refine E5 ⟨q.1,z.y.Ah⟩ ?_;refine ret ⟨⟨q.1,z.y.Ah⟩,_,_,_,0,q.2⟩ ⟨by show z.y.Ah.length<=1000;omega,fun e he=>(by have:=z1.f e he;have:=z1.mm;omega),hq.2.mono EY⟩ rfl
  refine go ?_;refine Ay rfl (fun e1=>?_) (fun e1=>?_)
  ·refine Ee (x:=z.y) (F:=z.F) ?_;rintro b1 d1 G1 e5 m1;simp only [Value.agg.injEq,Array.mk.injEq,List.cons.injEq,Value.slice.injEq,Value.int.injEq,cM,cO] at e5;obtain ⟨rfl,rfl⟩:=e5;refine Af2 Wy (xs:=z.y.Ah) (m:=3) rfl fun ys Fy Gy hyl hym=>?_;refine Hy ?_;intros;refine Ar [4] [18] ?_;refine C4 1 2 4 6 ?_;refine Dh 9 10 ?_;refine dt 11 ?_;refine dN 0 ?_;apply Kt;rfl;intro _;refine C3 (EC 3) ?_;refine dk ?_;refine dN 3 ?_;refine N5 (ys:=ys) (Ql 3) (Ik 3) (fun a7 c7 F7=>?_) (hn:=hyl.symm) (h63:=GV) (hby:=GV);rw [aZ];refine dk ?_;refine dN 5 ?_
   refine oC ?_;refine Be (Ul _ g F s3 hp EY) fun q hq=>?_;refine dk ?_;refine dN 7 ?_;refine oC ?_;refine Be (Dr _ g F 9 q.2 hq EY EY) fun r hr=>?_;obtain ⟨hr1,hr2⟩:=hr;refine dk ?_;refine dM 8 12 ?_ ?_
   ·apply I1;rfl;rfl;rfl;rfl;exact Iy;exact Ir;intro _;rename_i gf;refine Dy (E:=Bc) (xs:=[(r.1:Int)]) (O3 _) ?_ FA;refine Av (E:=Bc) fun F10=>?_;refine dk ?_;refine dN 12 ?_;refine oC ?_;refine Be (Dr _ g F 9 r.2 hr2 EY EY) fun t ht=>?_;obtain ⟨ht1,ht2⟩:=ht;have hk0:=z1.k0;have hk1:=z1.k1;refine dk ?_;refine Dh 13 14 ?_;refine dN 15 ?_;apply I1;rfl;rfl;rfl;rfl;exact Iy;exact Ir;intro _;refine Tw ⟨q.1,[(r.1:Int)],z.y.Ai+(t.1:Nat)⟩ ?_;refine dk ?_;refine dN 16 ?_
    refine N9 (ys:=[([aa q.1,ab (some ⟨gf,0,none⟩) 1 1,aa (z.y.Ai+(t.1:Nat))]:am)]) (Ya (m:=3) (cs:=[aa q.1,ab (some ⟨gf,0,none⟩) 1 1,aa (z.y.Ai+(t.1:Nat))]) rfl FO) (Ql 3) (fun a9 c9 F11=>?_);refine dk ?_;refine dt 17 ?_;refine dN 18 ?_;refine oS ?_;refine Nm ?_;refine dd ?_;refine go ?_;refine Av (E:=EC 3) fun F8=>?_;refine Apn (E:=D9) (x:=⟨q.1,[(r.1:Int)],z.y.Ai+(t.1:Nat)⟩) ?_
    refine Baz (E:=D9) (c1:=ys.flatten) (c2:=[aa q.1,ab (some ⟨gf,0,none⟩) 1 1,aa (z.y.Ai+(t.1:Nat))]) (x1:=z.y.Ah) (x2:=[⟨q.1,[(r.1:Int)],z.y.Ai+(t.1:Nat)⟩]) rfl rfl ?_;refine Qq (E:=D9) (m:=3) (v:=.agg (ys.flatten++([aa q.1,ab (some ⟨gf,0,none⟩) 1 1,aa (z.y.Ai+(t.1:Nat))]:am)).toArray) (ys:=ys++[([aa q.1,ab (some ⟨gf,0,none⟩) 1 1,aa (z.y.Ai+(t.1:Nat))]:am)]) (xs:=z.y.Ah++[(⟨q.1,[(r.1:Int)],z.y.Ai+(t.1:Nat)⟩:Hk)]) rfl HS FA fun F9=>?_
    exact AO
   ·refine oC ?_;refine Be (Dr _ g F 9 r.2 hr2 EY EY) fun t ht=>?_;obtain ⟨ht1,ht2⟩:=ht;have hk0:=z1.k0;have hk1:=z1.k1;refine dk ?_;refine dt 13 ?_;refine dN 8 ?_;apply I1;rfl;rfl;rfl;rfl;exact Iy;exact Ir;intro _;rename_i gf;refine Dy (E:=Bc) (xs:=[(r.1:Int)]) (O3 _) ?_ FA;refine Av (E:=Bc) fun F10=>?_;refine dk ?_;refine dt 14 ?_;refine dN 15 ?_;apply I1;rfl;rfl;rfl;rfl;exact Iy;exact Ir;intro _;refine Tw ⟨q.1,[(r.1:Int)],z.y.Ai+(t.1:Nat)⟩ ?_;refine dk ?_;refine dN 16 ?_
    refine N9 (ys:=[([aa q.1,ab (some ⟨gf,0,none⟩) 1 1,aa (z.y.Ai+(t.1:Nat))]:am)]) (Ya (m:=3) (cs:=[aa q.1,ab (some ⟨gf,0,none⟩) 1 1,aa (z.y.Ai+(t.1:Nat))]) rfl FO) (Ql 3) (fun a9 c9 F11=>?_);refine dk ?_;refine dt 17 ?_;refine dN 18 ?_;refine oS ?_;refine Nm ?_;refine dd ?_;refine go ?_;refine Av (E:=EC 3) fun F8=>?_;refine Apn (E:=D9) (x:=⟨q.1,[(r.1:Int)],z.y.Ai+(t.1:Nat)⟩) ?_
    refine Baz (E:=D9) (c1:=ys.flatten) (c2:=[aa q.1,ab (some ⟨gf,0,none⟩) 1 1,aa (z.y.Ai+(t.1:Nat))]) (x1:=z.y.Ah) (x2:=[⟨q.1,[(r.1:Int)],z.y.Ai+(t.1:Nat)⟩]) rfl rfl ?_;refine Qq (E:=D9) (m:=3) (v:=.agg (ys.flatten++([aa q.1,ab (some ⟨gf,0,none⟩) 1 1,aa (z.y.Ai+(t.1:Nat))]:am)).toArray) (ys:=ys++[([aa q.1,ab (some ⟨gf,0,none⟩) 1 1,aa (z.y.Ai+(t.1:Nat))]:am)]) (xs:=z.y.Ah++[(⟨q.1,[(r.1:Int)],z.y.Ai+(t.1:Nat)⟩:Hk)]) rfl HS FA fun F9=>?_
    exact AO
  refine go ?_;refine Ay rfl (fun e2=>?_) (fun e2=>?_)
  ·refine Ee (x:=z.y) (F:=z.F) ?_;rintro b1 d1 G1 e5 m1;simp only [Value.agg.injEq,Array.mk.injEq,List.cons.injEq,Value.slice.injEq,Value.int.injEq,cM,cO] at e5;obtain ⟨rfl,rfl⟩:=e5;have hk0:=z1.k0;have hk1:=z1.k1;refine Af2 Wy (xs:=z.y.Ah) (m:=3) rfl fun ys Fy Gy hyl hym=>?_;refine Hy ?_;intros;refine Ar [4] [11] ?_;refine C4 1 2 4 5 ?_;refine Dh 6 7 ?_;refine dM 0 8 ?_ ?_
   ·apply Kt;rfl;intro _;refine C3 (EC 3) ?_;refine dk ?_;refine dM 3 8 ?_ ?_
    ·refine N5 (ys:=ys) (Ql 3) (Ik 3) (fun a7 c7 F7=>?_) (hn:=hyl.symm) (h63:=GV) (hby:=GV);rw [aZ];refine dk ?_;refine dN 8 ?_;apply I1;rfl;rfl;rfl;rfl;exact Iy;exact Ir;intro _;refine Ci Bc EZ ?_;refine Tw ⟨77,[],z.y.Ai+2⟩ ?_;refine dk ?_;refine dN 9 ?_;refine N9 (ys:=[([aa 77,ab none 0 0,aa (z.y.Ai+2)]:am)]) (Ya (m:=3) (cs:=[aa 77,ab none 0 0,aa (z.y.Ai+2)]) rfl FO) (Ql 3) (fun a9 c9 F11=>?_);refine dk ?_;refine dt 10 ?_;refine dN 11 ?_;refine oS ?_;refine Nm ?_;refine dd ?_
     refine go ?_;refine Av (E:=EC 3) fun F8=>?_;refine Apn (E:=D9) (x:=⟨77,[],z.y.Ai+2⟩) ?_;refine Baz (E:=D9) (c1:=ys.flatten) (c2:=[aa 77,ab none 0 0,aa (z.y.Ai+2)]) (x1:=z.y.Ah) (x2:=[⟨77,[],z.y.Ai+2⟩]) rfl rfl ?_;refine Qq (E:=D9) (m:=3) (v:=.agg (ys.flatten++([aa 77,ab none 0 0,aa (z.y.Ai+2)]:am)).toArray) (ys:=ys++[([aa 77,ab none 0 0,aa (z.y.Ai+2)]:am)]) (xs:=z.y.Ah++[(⟨77,[],z.y.Ai+2⟩:Hk)]) rfl HS FA fun F9=>?_
     exact AH
    ·apply I1;rfl;rfl;rfl;rfl;exact Iy;exact Ir;intro _;refine Ci Bc EZ ?_;refine Tw ⟨77,[],z.y.Ai+2⟩ ?_;refine dk ?_;refine dN 3 ?_;refine N5 (ys:=ys) (Ql 3) (Ik 3) (fun a7 c7 F7=>?_) (hn:=hyl.symm) (h63:=GV) (hby:=GV);rw [aZ];refine dk ?_;refine dN 9 ?_;refine N9 (ys:=[([aa 77,ab none 0 0,aa (z.y.Ai+2)]:am)]) (Ya (m:=3) (cs:=[aa 77,ab none 0 0,aa (z.y.Ai+2)]) rfl FO) (Ql 3) (fun a9 c9 F11=>?_);refine dk ?_;refine dt 10 ?_;refine dN 11 ?_;refine oS ?_;refine Nm ?_;refine dd ?_
     refine go ?_;refine Av (E:=EC 3) fun F8=>?_;refine Apn (E:=D9) (x:=⟨77,[],z.y.Ai+2⟩) ?_;refine Baz (E:=D9) (c1:=ys.flatten) (c2:=[aa 77,ab none 0 0,aa (z.y.Ai+2)]) (x1:=z.y.Ah) (x2:=[⟨77,[],z.y.Ai+2⟩]) rfl rfl ?_;refine Qq (E:=D9) (m:=3) (v:=.agg (ys.flatten++([aa 77,ab none 0 0,aa (z.y.Ai+2)]:am)).toArray) (ys:=ys++[([aa 77,ab none 0 0,aa (z.y.Ai+2)]:am)]) (xs:=z.y.Ah++[(⟨77,[],z.y.Ai+2⟩:Hk)]) rfl HS FA fun F9=>?_
     exact AH
   ·apply I1;rfl;rfl;rfl;rfl;exact Iy;exact Ir;intro _;refine Ci Bc EZ ?_;refine Tw ⟨77,[],z.y.Ai+2⟩ ?_;refine dk ?_;refine dN 0 ?_;apply Kt;rfl;intro _;refine C3 (EC 3) ?_;refine dk ?_;refine dN 3 ?_;refine N5 (ys:=ys) (Ql 3) (Ik 3) (fun a7 c7 F7=>?_) (hn:=hyl.symm) (h63:=GV) (hby:=GV);rw [aZ];refine dk ?_;refine dN 9 ?_;refine N9 (ys:=[([aa 77,ab none 0 0,aa (z.y.Ai+2)]:am)]) (Ya (m:=3) (cs:=[aa 77,ab none 0 0,aa (z.y.Ai+2)]) rfl FO) (Ql 3) (fun a9 c9 F11=>?_);refine dk ?_
    refine dt 10 ?_;refine dN 11 ?_;refine oS ?_;refine Nm ?_;refine dd ?_;refine go ?_;refine Av (E:=EC 3) fun F8=>?_;refine Apn (E:=D9) (x:=⟨77,[],z.y.Ai+2⟩) ?_;refine Baz (E:=D9) (c1:=ys.flatten) (c2:=[aa 77,ab none 0 0,aa (z.y.Ai+2)]) (x1:=z.y.Ah) (x2:=[⟨77,[],z.y.Ai+2⟩]) rfl rfl ?_;refine Qq (E:=D9) (m:=3) (v:=.agg (ys.flatten++([aa 77,ab none 0 0,aa (z.y.Ai+2)]:am)).toArray) (ys:=ys++[([aa 77,ab none 0 0,aa (z.y.Ai+2)]:am)]) (xs:=z.y.Ah++[(⟨77,[],z.y.Ai+2⟩:Hk)]) rfl HS FA fun F9=>?_
    exact AH
  ·refine go ?_;refine ret ⟨z.y,z.a,z.c,z.F,0,s3⟩ ⟨by show z.y.Ah.length<=1000;omega,fun e he=>(by have:=z1.f e he;have:=z1.mm;omega),hp.mono EY⟩ rfl
structure NtD where
 n:Dx
 cs:am
 F:aq
 s:N4
structure NtW where
 n:Dx
 cs:am
 F:aq
 i:Nat
 s:N4
structure Bi2 (B:Nat) (z:NtW):Prop where
 g:At z.n=true
 i:z.i<=23
 s:Hm (B+400+200 * (23 - z.i)) z.s
def Ban {n:Dx} {p:As} (h:∀q∈n.down++n.up,q.length<=6):∀q∈n.down++n.up.set 1 [p],q.length<=6:=fun q hq=>by
 rcases aJ.1 hq with hq|hq
 ·exact h q (cA _ hq)
 ·rcases bC hq with hq|rfl
  ·exact h q (eP _ hq)
  ·exact (by decide:1<=6)
def Bga (B g:Nat) (F:CuF) (s:N4) (FT:aq) (ok:Hm B s) (hB:B<=600000000000) :
  Fn prog 56 [Gj g 0 0] [.sl Jc (ab F.a F.By.length F.c) F.By F.bs,Ga FT] [.row g 61 0 [] [ab F.a F.By.length F.c,aa (s.k:Nat),.int .u64 s.Ha] []] (fun (z:NtD)=>(2<=z.n.Ap.Ad.length/\z.n.Ap.Ad.length<=8/\z.n.down.length<=8/\z.n.up.length=z.n.down.length/\(∀q∈z.n.down++z.n.up,q.length<=6)/\Q0 z.n/\z.n.Ab.Aa.Al.length<=1000)/\Hm (B+9000) z.s) (fun z=>.agg z.cs.toArray)
   (fun z=>[.isv Pe (.agg z.cs.toArray) z.n z.F,.row g 61 0 [] [ab F.a F.By.length F.c,aa (z.s.k:Nat),.int .u64 z.s.Ha] []]):=by
 refine enter func56 rfl ntmps56 fun w0=>?_;refine go ?_;intros;refine Be (Amr B g F s ok EY) fun t ht=>?_;obtain ⟨ht1,ht2⟩:=ht;refine go ?_;refine Be (Ud _ g F t.s ht2 EY) fun m hm=>?_;obtain ⟨hm1,hm2⟩:=hm;refine go ?_;refine Be (Dr _ g F 6 m.2 hm2 EY EY) fun y hy=>?_;obtain ⟨k1,s1⟩:=y;obtain ⟨r1,h1⟩:=hy;dsimp only at r1 h1 ⊢;have r1:k1<=5:=EY
 refine Hy ?_;intros;refine Av (E:=Bc) (xs:=t.l) fun Ft=>?_;refine Jm ⟨t.l⟩ ?_;refine go ?_;refine Be (Acm ⟨t.l⟩ m.1 (1+(k1:Nat)) _ _) fun z _=>?_;obtain ⟨en,gn⟩:=Ahn (t:=⟨t.l⟩) (f:=m.1) (y:=1+(k1:Nat)) ht1 hm1.1 hm1.2 EY EY;rw [en];obtain ⟨cs,F0⟩:=z;dsimp only;generalize hN:S8 ⟨t.l⟩ m.1 (1+(k1:Nat))=N at *;refine Oy Y6 fun F0=>?_;refine Fg (x:=N) ?_;rintro b01 d01 G01 b02 d02 G02 b03 d03 G03 b04 d04 G04 b05 d05 G05 b06 d06 G06 b07 d07 G07 ev - - - - - - -;obtain rfl:=Oa ev;clear ev;refine go ?_;intros;rename_i g3;refine Be (Dr _ g F 24 s1 h1 EY EY) fun y hy=>?_
 obtain ⟨r0,s2⟩:=y;obtain ⟨hr0,h2⟩:=hy;dsimp only at hr0 h2 ⊢;have hr0:r0<=23:=EY
 refine go ?_;refine Ca [0,2,3] (fun z:NtW=>[(5,aa (z.i:Nat))]) (fun z=>[.row g3 43 0 [] z.cs [],.isv Pe (.agg z.cs.toArray) z.n z.F,.row g 61 0 [] [ab F.a F.By.length F.c,aa (z.s.k:Nat),.int .u64 z.s.Ha] []]) (Bi2 B) (fun z=>z.i) ⟨N,_,_,r0,s2⟩ ⟨gn,hr0,h2.mono (by show _<=B+400+200 * (23 - r0);omega)⟩ fun z hz=>?_;obtain ⟨x,cs,Fx,zi,zs⟩:=z;obtain ⟨z1,z2,z4⟩:=hz;obtain ⟨q2,q8,qd,qu,qe,qt⟩:=Nr z1;have qq:=Adf z1;have hsm:Q0 x:=Ku z1;have hit:x.Ab.Aa.Al.length<=1000:=by have h:x.Ab.Aa.Al.length<=6:=(Kk (Ax.1 z1).s).l;omega
 dsimp only at z1 z2 z4 q2 q8 qd qu qe qt qq ⊢;refine Fg (x:=x) ?_;rintro b1 d1 G1 b2 d2 G2 b3 d3 G3 b4 d4 G4 b5 d5 G5 b6 d6 G6 b7 d7 G7 ev - - - - - - -;obtain rfl:=Oa ev;clear ev;refine go ?_;refine Ay rfl (fun h3=>?_) (fun h3=>?_)
 ·have hi0:0 < zi:=EY
  refine Hy ?_;intros;refine Ar [7] [5,6,7,8,10,11,12] ?_;refine Ze 0 ?_;refine Ze 1 ?_;refine Ze 2 ?_;refine dM 3 9 ?_ ?_
  ·refine oC ?_;refine Be (Amk _ g F _ x _ _ EY EY EY EY qq z4 EY) fun t ht=>?_;obtain ⟨t1,t2,t3⟩:=ht;refine dk ?_;refine dM 4 9 ?_ ?_
   ·refine oC ?_;refine Be (Vq x t.t _ _ FT t2 z1 t1) fun y _=>?_;obtain ⟨ys,yF,ya,yc,yG⟩:=y;dsimp only;refine Fg (x:=(Bm x t.t).1) ?_;rintro e1 f1 K1 e2 f2 K2 e3 f3 K3 e4 f4 K4 e5 f5 K5 e6 f6 K6 e7 f7 K7 ev - - - - - - -;obtain rfl:=Oa ev;clear ev;refine dk ?_;refine P0 5 ?_;refine P0 6 ?_;refine P0 7 ?_;refine P0 8 ?_;refine dN 9 ?_;apply Cn;rfl;intro _;refine dk ?_;refine dN 10 ?_;refine oS ?_;refine Nm ?_;refine P0 11 ?_;refine P0 12 ?_;refine dd ?_;rename_i g6;cases eb:(Bm x t.t).2.2
    ·exact AW
    ·exact AS
   ·apply Cn;rfl;intro _;refine dk ?_;refine dN 4 ?_;refine oC ?_;refine Be (Vq x t.t _ _ FT t2 z1 t1) fun y _=>?_;obtain ⟨ys,yF,ya,yc,yG⟩:=y;dsimp only;refine Fg (x:=(Bm x t.t).1) ?_;rintro e1 f1 K1 e2 f2 K2 e3 f3 K3 e4 f4 K4 e5 f5 K5 e6 f6 K6 e7 f7 K7 ev - - - - - - -;obtain rfl:=Oa ev;clear ev;refine dk ?_;refine P0 5 ?_;refine P0 6 ?_;refine P0 7 ?_;refine P0 8 ?_;refine dN 10 ?_;refine oS ?_;refine Nm ?_;refine P0 11 ?_;refine P0 12 ?_;refine dd ?_;rename_i g6;cases eb:(Bm x t.t).2.2
    ·exact AW
    ·exact AS
  ·apply Cn;rfl;intro _;refine dk ?_;refine dN 3 ?_;refine oC ?_;refine Be (Amk _ g F _ x _ _ EY EY EY EY qq z4 EY) fun t ht=>?_;obtain ⟨t1,t2,t3⟩:=ht;refine dk ?_;refine dN 4 ?_;refine oC ?_;refine Be (Vq x t.t _ _ FT t2 z1 t1) fun y _=>?_;obtain ⟨ys,yF,ya,yc,yG⟩:=y;dsimp only;refine Fg (x:=(Bm x t.t).1) ?_;rintro e1 f1 K1 e2 f2 K2 e3 f3 K3 e4 f4 K4 e5 f5 K5 e6 f6 K6 e7 f7 K7 ev - - - - - - -;obtain rfl:=Oa ev;clear ev;refine dk ?_;refine P0 5 ?_;refine P0 6 ?_;refine P0 7 ?_;refine P0 8 ?_;refine dN 10 ?_;refine oS ?_;refine Nm ?_;refine P0 11 ?_
   refine P0 12 ?_;refine dd ?_;rename_i g6;cases eb:(Bm x t.t).2.2
   ·exact AW
   ·exact AS
 refine go ?_;refine Be (Dr _ g F 32 zs z4 EY EY) fun y hy=>?_;obtain ⟨r6,s6⟩:=y;obtain ⟨hr6,h6⟩:=hy;dsimp only at hr6 h6 ⊢;have hr6:r6<=31:=EY
 refine go ?_;refine Ay rfl (fun e0=>?_) (fun e0=>?_)
 ·refine go ?_;refine Be (Baq _ g F s6 h6 EY) fun y hy=>?_;obtain ⟨hy1,hy2,hy3⟩:=hy;refine Hc (x:=y.y) ?_;rintro a2 c2 L2 a3 c3 L3 ev - -;simp only [Value.agg.injEq,Array.mk.injEq,List.cons.injEq,Value.slice.injEq,cM,cO] at ev;obtain ⟨⟨rfl,rfl⟩,rfl,rfl⟩:=ev;refine go ?_;refine E8 ⟨x.Ap,y.y,x.Af,x.Ac,x.down,x.up⟩ (a1:=b1) (a2:=y.a) (a3:=y.a2) (a4:=b4) (a5:=b5) (a6:=b6) (a7:=b7) ?_
  refine ret ⟨⟨x.Ap,y.y,x.Af,x.Ac,x.down,x.up⟩,_,_,y.s⟩ ⟨⟨q2,q8,qd,qu,qq,{ hsm with i:=by show y.y.Aa.Al.length<=_;omega,h:=by show y.y.holds.length<=_;omega },by show y.y.Aa.Al.length<=1000;omega⟩,hy3.mono EY⟩ rfl
 refine go ?_;refine Ay rfl (fun e1=>?_) (fun e1=>?_)
 ·refine go ?_;refine Be (Amr _ g F s6 h6 EY) fun y hy=>?_;obtain ⟨hy1,hy2⟩:=hy;refine Av (E:=Bc) (xs:=y.l) fun Ft=>?_;refine go ?_;refine E8 ⟨⟨y.l⟩,x.Ab,x.Af,x.Ac,x.down,x.up⟩ (a1:=y.a) (a2:=b2) (a3:=b3) (a4:=b4) (a5:=b5) (a6:=b6) (a7:=b7) ?_;refine ret ⟨⟨⟨y.l⟩,x.Ab,x.Af,x.Ac,x.down,x.up⟩,_,_,y.s⟩ ⟨⟨hy1.n0,hy1.n1,qd,qu,qq,{ hsm with t:=by have:=hy1.n1;show y.l.length<=_;omega },hit⟩,hy2.mono EY⟩ rfl
 refine go ?_;refine Ay rfl (fun e2=>?_) (fun e2=>?_)
 ·refine Af2 (Bdm Ak EZ) (xs:=x.up) (m:=1) rfl fun ys Fy Gy hyl hym=>?_;refine Hy ?_;intros;refine C3 (EC 1) ?_;refine go ?_;apply wO;refine N5 (ys:=ys) (Ql 1) (Ik 1) (fun a7 c7 F7=>?_) (hn:=hyl.symm) (h63:=KR) (hby:=KR);rw [aZ];refine go ?_;have h1u:1 < ys.length:=EY
  obtain ⟨v9,e9⟩:∃v,ys[1]=[v]:=List.length_eq_one_iff.1 (hym _ (aB h1u));refine Q4 (E:=EC 1) (xs:=ys) (m:=1) (Ik 1) 1 ?_ FC rfl h1u;rintro _ gq A cq Bq rfl k2 k3 hH;obtain ⟨k4, -, -⟩:=k3 w0;rw [e9] at k4;subst k4;dsimp only [List.append];refine Hy ?_;intros;refine Ar [11] [6] ?_;refine Dh 0 1 ?_;refine dt 2 ?_;refine dN 3 ?_;refine oC ?_;refine Be (Ang _ g F s6 h6 EY) fun p hp=>?_;obtain ⟨hp1,hp2⟩:=hp;refine dk ?_;refine dN 4 ?_;apply I1;rfl;rfl;rfl;rfl;exact Iy;exact Ir;intro _;rename_i gp
  refine Dy (E:=Ak) (xs:=[p.1]) (De p.1 hp1) ?_ FA;refine Av (E:=Ak) (xs:=[p.1]) fun Fp=>?_;refine dk ?_;refine dt 5 ?_;refine dN 6 ?_;refine oS ?_;refine Nm ?_;refine dd ?_;refine P8 (E:=EC 1) (xs:=ys) [ab (some ⟨gp,0,none⟩) 1 1] hH (fun w=>⟨rfl,⟨rfl,FO⟩,rfl⟩) ?_;refine Aba (E:=Ak) (x:=[p.1]) EZ ?_;refine Re (E:=O7 Ak EZ) (ys:=ys) (xs:=x.up) (x:=[p.1]) 1 rfl hym EY fun G'=>?_;refine Av (E:=EC 1) (xs:=ys.set 1 [ab (some ⟨gp,0,none⟩) 1 1]) fun F8=>?_
  refine Qq (E:=O7 Ak EZ) (m:=1) (ys:=ys.set 1 [ab (some ⟨gp,0,none⟩) 1 1]) (xs:=x.up.set 1 [p.1]) rfl HS rfl fun F9=>?_;rw [show ys.length=(x.up.set 1 [p.1]).length by simp [hyl]];refine go ?_;refine E8 ⟨x.Ap,x.Ab,x.Af,x.Ac,x.down,x.up.set 1 [p.1]⟩ (a1:=b1) (a2:=b2) (a3:=b3) (a4:=b4) (a5:=b5) (a6:=b6) ?_
  refine ret ⟨⟨x.Ap,x.Ab,x.Af,x.Ac,x.down,x.up.set 1 [p.1]⟩,_,_,p.2⟩ ⟨⟨q2,q8,qd,by show (x.up.set 1 [p.1]).length=x.down.length;rw [bG];exact qu,Ban qq,{ hsm with uq:=fun q hq=>(bC hq).elim (fun hq=>hsm.uq q hq) (fun e=>by rw [e];exact (by decide:1<=1048576)),u:=by show (x.up.set 1 [p.1]).length<=_;rw [bG];exact hsm.u },hit⟩,hp2.mono EY⟩ rfl
 refine go ?_;refine Ay rfl (fun e3=>?_) (fun e3=>?_)
 ·refine Af2 Al9 (xs:=x.Af) (m:=2) rfl fun ys Fy Gy hyl hym=>?_;refine Hy ?_;intros;refine C3 (EC 2) ?_;refine go ?_;apply wO;refine N5 (ys:=ys) (Ql 2) (Ik 2) (fun a7 c7 F7=>?_) (hn:=hyl.symm) (h63:=KR) (hby:=KR);rw [aZ];refine go ?_;have h1u:1 < ys.length:=EY
  obtain ⟨v9,u9,e9⟩:∃v u,ys[1]=[v,u]:=by
   have h2:=hym _ (aB h1u)
   match hY:ys[1],h2 with
   | [v,u],_=>exact ⟨v,u,rfl⟩
  refine Q4 (E:=EC 2) (xs:=ys) (m:=2) (Ik 2) 1 ?_ FC rfl h1u;rintro _ gq A cq Bq rfl k2 k3 hH;obtain ⟨k4, -, -⟩:=k3 w0;rw [e9] at k4;subst k4;dsimp only [List.append];refine Hy ?_;intros;refine Ar [11] [5] ?_;refine Dh 0 1 ?_;refine dt 2 ?_;refine dN 3 ?_;refine oC ?_;refine Be (Aql _ g F s6 h6 EY) fun p hp=>?_;obtain ⟨hp1,hp3,hp2⟩:=hp;refine dk ?_;refine dt 4 ?_;refine dN 5 ?_;refine oS ?_;refine Nm ?_;refine dd ?_
  refine P8 (E:=EC 2) (xs:=ys) [aa p.y.Ai,ab p.a p.y.Ah.length p.c] hH (fun w=>⟨rfl,⟨rfl,FO⟩,rfl⟩) ?_;refine Re (E:=Bz) (ys:=ys) (xs:=x.Af) (x:=p.y) 1 rfl hym EY fun G'=>?_;refine Av (E:=EC 2) (xs:=ys.set 1 [aa p.y.Ai,ab p.a p.y.Ah.length p.c]) fun F8=>?_;refine Qq (E:=Bz) (m:=2) (ys:=ys.set 1 [aa p.y.Ai,ab p.a p.y.Ah.length p.c]) (xs:=x.Af.set 1 p.y) rfl HS rfl fun F9=>?_;rw [show ys.length=(x.Af.set 1 p.y).length by simp [hyl]];refine go ?_
  refine E8 ⟨x.Ap,x.Ab,x.Af.set 1 p.y,x.Ac,x.down,x.up⟩ (a1:=b1) (a2:=b2) (a3:=b3) (a5:=b5) (a6:=b6) (a7:=b7) ?_;refine ret ⟨⟨x.Ap,x.Ab,x.Af.set 1 p.y,x.Ac,x.down,x.up⟩,_,_,p.s⟩ ⟨⟨q2,q8,qd,qu,qq,{ hsm with e:=by show (x.Af.set 1 p.y).length<=_;rw [bG];exact hsm.e,e1:=fun e he=>(bC he).elim (fun he=>hsm.e1 e he) (fun h=>by rw [h];omega),e2:=fun e he f hf=>(bC he).elim (fun he=>hsm.e2 e he f hf) (fun h=>by rw [h] at hf;have:=hp3 f hf;omega) },hit⟩,hp2.mono EY⟩ rfl
 refine go ?_;refine E8 x (a1:=b1) (a2:=b2) (a3:=b3) (a4:=b4) (a5:=b5) (a6:=b6) (a7:=b7) ?_;refine ret ⟨x,_,_,s6⟩ ⟨⟨q2,q8,qd,qu,qq,hsm,hit⟩,h6.mono EY⟩ rfl
structure L28 where
 g:Nat
 a:aj
 c:Nat
 F:aq
structure L2S where
 k:Nat
 a:aj
 c:Nat
 F:aq
def Ayw (n:Dx) (v:Value) (F:aq) (hs:Q0 n):Fn prog 75 [v] [.isv Pe v n F] [] (fun (_:U6)=>True) (fun z=>.agg z.cs.toArray) (fun z=>[.isv Pe (.agg z.cs.toArray) n z.F]):=by
 have hs1:=hs.t;have hs2:=hs.i;have hs3:=hs.h;have hs4:=hs.e;have hs5:=hs.rl;have hs6:=hs.d;have hs7:=hs.u;refine enter func75 rfl ntmps75 fun w0=>?_;refine Fg ?_;rintro a1 c1 F1 a2 c2 F2 a3 c3 F3 a4 c4 F4 a5 c5 F5 a6 c6 F6 a7 c7 F7 rfl l1 l2 l3 l4 l5 l6 l7;refine go ?_;intros;refine Dv [1,2] [0,1,2,3,4,5,6,7,8,9] (fun w:L28=>[(3,Gj w.g 0 0)]) (fun w=>[.row w.g 35 0 [] [aa n.Ab.Aa.Am,aa n.Ab.Aa.size,ab w.a n.Ab.Aa.Al.length w.c] [],.ow A9 9 (ab w.a n.Ab.Aa.Al.length w.c) n.Ab.Aa.Al w.F]) (fun _=>True) ?_ fun w _=>?_
 ·skip
  refine Ar [1] [] ?_;refine C4 0 1 2 3 ?_;refine C4 4 5 6 7 ?_;refine C4 9 10 11 12 ?_;refine dM 8 15 ?_ ?_
  ·apply Kt;rfl;intro _;refine C3 A9 ?_;refine dk ?_;refine dM 13 15 ?_ ?_
   ·refine N5 (E:=A9) (xs:=[]) D7 Ie fun a9 c9 F9=>?_;rw [aZ];refine dk ?_;refine dt 14 ?_;refine dN 15 ?_;apply Cn;rfl;intro _;refine dk ?_;refine dN 16 ?_;refine oS ?_;refine dk ?_;refine dd ?_;refine Bk (⟨_,a9,c9,F9⟩:L28) trivial
   ·apply Cn;rfl;intro _;exact CK
  ·apply Cn;rfl;intro _;refine dk ?_;refine dN 8 ?_;apply Kt;rfl;intro _;refine C3 A9 ?_;exact CK
 refine go ?_;refine cn (fun w2 st=>Zk _ n.Ap.Ad F1 w2 (st.get (p:=.sl _ _ _ _) FD).2 EY) fun b1 d1 G1=>?_;refine go ?_;intros;rename_i g4;refine Ar [2,5] [] ?_;refine C4 0 1 2 3 ?_;refine C4 4 5 6 8 ?_;refine Dh 9 10 ?_;refine dN 7 ?_;apply Kt;rfl;intro _;refine C3 Bv ?_;refine dk ?_;refine dN 11 ?_;refine N5 (E:=Bv) (xs:=[]) I9 Lf fun b3 d3 G3=>?_;rw [aZ];refine dk ?_;refine Dh 12 13 ?_;refine dN 14 ?_;refine oS ?_;refine dk ?_;refine dd ?_;refine Bt Cc 111 ?_;refine go ?_
 refine Ca [1,2,4] (fun z:L2S=>[(5,aa (z.k:Nat))]) (fun z=>[.row g4 43 0 [] [ab b1 n.Ap.Ad.length d1,aa n.Ab.Aa.Am,aa n.Ab.Aa.size,ab w.a n.Ab.Aa.Al.length w.c,aa n.Ab.Ai,aa n.Ab.quiet,ab b3 n.Ab.holds.length d3,.slice z.a (n.Af.take z.k).length z.c,ab none 0 0,ab none 0 0,ab none 0 0] [],.ow Cc 111 (.slice z.a (n.Af.take z.k).length z.c) (n.Af.take z.k) z.F]) (fun z=>z.k<=n.Af.length) (fun z=>n.Af.length - z.k) ⟨0,none,0,[]⟩ (aD _) fun z hz=>?_;obtain ⟨k,za,zc,zF⟩:=z;dsimp only at hz ⊢
 have t4:(n.Af.take k).length<=n.Af.length:=GD
 refine go ?_;refine Ay rfl (fun h1=>?_) (fun h1=>?_)
 ·have hk3:k < n.Af.length:=EY
  refine Oo (xs:=n.Af) k ?_;rintro hi4 b4 o4 a8 c8 F8 e4 l8;rw [e4];refine E5 n.Af[k] ?_;refine Hy ?_;intros;refine Ar [1,3,10] [11] ?_;refine C4 0 1 2 3 ?_;refine Dh 4 5 ?_;refine dt 6 ?_;refine dN 7 ?_;refine oC ?_;refine cv (fun w2 st=>Yh _ n.Af[k] F8 w2 (st.get (p:=.isv _ _ _ _) FD) (by have:=hs.e1 _ (aB hk3);omega) (fun x hx=>by have:=hs.e2 _ (aB hk3) x hx;omega)) fun v9 F9=>?_;refine Ih (x:=n.Af[k]) ?_;rintro a9 c9 F10 rfl l9;refine Hi n.Af[k] ?_;refine dk ?_;refine dN 8 ?_;apply I1;rfl;rfl;rfl;rfl;exact Iy;exact Ir;intro _;refine dk ?_
  refine dN 9 ?_;refine Ac5 S9 n.Af[k] rfl fun x4 d4 G4=>?_;refine dk ?_;refine dt 10 ?_;refine dN 11 ?_;refine oS ?_;refine Nm ?_;refine dd ?_;rw [<-aR hk3];refine go ?_;rw [show ((k:Nat):Int)+1=((k+1:Nat):Int) by omega];refine Ce ⟨k+1,x4,d4,G4⟩ hk3 (by show n.Af.length - (k+1) < n.Af.length - k;omega)
 rw [show n.Af.take k=n.Af from aV EY];generalize za=y4;generalize zc=v4;generalize zF=V4;refine Bt B4 118 ?_;refine go ?_
 refine Ca [1,2,4] (fun z:L2S=>[(6,aa (z.k:Nat))]) (fun z=>[.row g4 43 0 [] [ab b1 n.Ap.Ad.length d1,aa n.Ab.Aa.Am,aa n.Ab.Aa.size,ab w.a n.Ab.Aa.Al.length w.c,aa n.Ab.Ai,aa n.Ab.quiet,ab b3 n.Ab.holds.length d3,ab y4 n.Af.length v4,.slice z.a (n.Ac.take z.k).length z.c,ab none 0 0,ab none 0 0] [],.ow B4 118 (.slice z.a (n.Ac.take z.k).length z.c) (n.Ac.take z.k) z.F]) (fun z=>z.k<=n.Ac.length) (fun z=>n.Ac.length - z.k) ⟨0,none,0,[]⟩ (aD _) fun z hz=>?_;obtain ⟨k,za,zc,zF⟩:=z;dsimp only at hz ⊢
 have t4:(n.Ac.take k).length<=n.Ac.length:=GD
 refine go ?_;refine Ay rfl (fun h1=>?_) (fun h1=>?_)
 ·have hk3:k < n.Ac.length:=EY
  refine Jl (xs:=n.Ac) k ?_;rintro hi5 b5 o5 a11 c11 F11 a12 c12 F12 e5 l11 l12;rw [e5];refine D5 n.Ac[k] ?_;refine Hy ?_;intros;refine Ar [1,4,12] [11] ?_;refine C4 0 1 2 3 ?_;refine Dh 4 5 ?_;refine dt 6 ?_;refine dN 7 ?_;refine oC ?_;refine Be (T4 n.Ac[k] _ _ (by have:=hs.r _ (aB hk3);omega) (by have:=hs.r _ (aB hk3);omega)) fun s9 _=>?_;refine I2 (x:=n.Ac[k]) ?_;rintro a9 c9 G9 a10 c10 G10 e9 l9 l10;rw [e9];refine Kw n.Ac[k] ?_;refine dk ?_;refine dN 8 ?_;apply I1;rfl;rfl;rfl;rfl;exact Iy;exact Ir;intro _;refine dk ?_;refine dN 9 ?_
  refine Ac5 Rl n.Ac[k] rfl fun x4 d4 G4=>?_;refine dk ?_;refine dt 10 ?_;refine dN 11 ?_;refine oS ?_;refine Nm ?_;refine dd ?_;rw [<-aR hk3];refine go ?_;rw [show ((k:Nat):Int)+1=((k+1:Nat):Int) by omega];refine Ce ⟨k+1,x4,d4,G4⟩ hk3 (by show n.Ac.length - (k+1) < n.Ac.length - k;omega)
 rw [show n.Ac.take k=n.Ac from aV EY];generalize za=y5;generalize zc=v5;generalize zF=V5;refine Bt (J0 Ak 159) 120 ?_;refine go ?_
 refine Ca [1,2,4] (fun z:L2S=>[(7,aa (z.k:Nat))]) (fun z=>[.row g4 43 0 [] [ab b1 n.Ap.Ad.length d1,aa n.Ab.Aa.Am,aa n.Ab.Aa.size,ab w.a n.Ab.Aa.Al.length w.c,aa n.Ab.Ai,aa n.Ab.quiet,ab b3 n.Ab.holds.length d3,ab y4 n.Af.length v4,ab y5 n.Ac.length v5,.slice z.a (n.down.take z.k).length z.c,ab none 0 0] [],.ow (J0 Ak 159) 120 (.slice z.a (n.down.take z.k).length z.c) (n.down.take z.k) z.F]) (fun z=>z.k<=n.down.length) (fun z=>n.down.length - z.k) ⟨0,none,0,[]⟩ (aD _) fun z hz=>?_;obtain ⟨k,za,zc,zF⟩:=z;dsimp only at hz ⊢
 have t4:(n.down.take k).length<=n.down.length:=GD
 refine go ?_;refine Ay rfl (fun h1=>?_) (fun h1=>?_)
 ·have hk3:k < n.down.length:=EY
  have hq9:=hs.dq _ (aB hk3);refine Ms (E:=Ak) (hz:=EZ) (xs:=n.down) k ?_;rintro hi6 b6 o6 a13 c13 F13 e6 l13;rw [e6];refine Hy ?_;intros;refine Ar [0,2,11] [12] ?_;refine C4 0 1 3 4 ?_;refine Dh 5 6 ?_;refine dt 7 ?_;refine dN 2 ?_;apply Kt;rfl;intro _;refine C3 Ak ?_;refine dk ?_;refine dN 8 ?_;refine N5 (E:=Ak) (xs:=[]) H9 Jz fun a9 c9 F9=>?_;rw [aZ];refine Kx n.down[k] ?_;refine dk ?_;refine dN 9 ?_;apply I1;rfl;rfl;rfl;rfl;exact Iy;exact Ir;intro _;refine dk ?_;refine dN 10 ?_;refine Ac5 (Vu) n.down[k] rfl fun x4 d4 G4=>?_;refine dk ?_;refine dt 11 ?_
  refine dN 12 ?_;refine oS ?_;refine Nm ?_;refine dd ?_;rw [<-aR hk3];refine go ?_;rw [show ((k:Nat):Int)+1=((k+1:Nat):Int) by omega];refine Ce ⟨k+1,x4,d4,G4⟩ hk3 (by show n.down.length - (k+1) < n.down.length - k;omega)
 rw [show n.down.take k=n.down from aV EY];generalize za=y6;generalize zc=v6;generalize zF=V6;refine Bt (J0 Ak 159) 120 ?_;refine go ?_
 refine Ca [1,2,4] (fun z:L2S=>[(8,aa (z.k:Nat))]) (fun z=>[.row g4 43 0 [] [ab b1 n.Ap.Ad.length d1,aa n.Ab.Aa.Am,aa n.Ab.Aa.size,ab w.a n.Ab.Aa.Al.length w.c,aa n.Ab.Ai,aa n.Ab.quiet,ab b3 n.Ab.holds.length d3,ab y4 n.Af.length v4,ab y5 n.Ac.length v5,ab y6 n.down.length v6,.slice z.a (n.up.take z.k).length z.c] [],.ow (J0 Ak 159) 120 (.slice z.a (n.up.take z.k).length z.c) (n.up.take z.k) z.F]) (fun z=>z.k<=n.up.length) (fun z=>n.up.length - z.k) ⟨0,none,0,[]⟩ (aD _) fun z hz=>?_;obtain ⟨k,za,zc,zF⟩:=z;dsimp only at hz ⊢
 have t4:(n.up.take k).length<=n.up.length:=GD
 refine go ?_;refine Ay rfl (fun h1=>?_) (fun h1=>?_)
 ·have hk3:k < n.up.length:=EY
  have hq9:=hs.uq _ (aB hk3);refine Ms (E:=Ak) (hz:=EZ) (xs:=n.up) k ?_;rintro hi6 b6 o6 a13 c13 F13 e6 l13;rw [e6];refine Hy ?_;intros;refine Ar [0,2,12] [12] ?_;refine C4 0 1 3 4 ?_;refine Dh 5 6 ?_;refine dt 7 ?_;refine dN 2 ?_;apply Kt;rfl;intro _;refine C3 Ak ?_;refine dk ?_;refine dN 8 ?_;refine N5 (E:=Ak) (xs:=[]) H9 Jz fun a9 c9 F9=>?_;rw [aZ];refine Kx n.up[k] ?_;refine dk ?_;refine dN 9 ?_;apply I1;rfl;rfl;rfl;rfl;exact Iy;exact Ir;intro _;refine dk ?_;refine dN 10 ?_;refine Ac5 (Vu) n.up[k] rfl fun x4 d4 G4=>?_;refine dk ?_;refine dt 11 ?_
  refine dN 12 ?_;refine oS ?_;refine Nm ?_;refine dd ?_;rw [<-aR hk3];refine go ?_;rw [show ((k:Nat):Int)+1=((k+1:Nat):Int) by omega];refine Ce ⟨k+1,x4,d4,G4⟩ hk3 (by show n.up.length - (k+1) < n.up.length - k;omega)
 rw [show n.up.take k=n.up from aV EY];generalize za=y7;generalize zc=v7;generalize zF=V7;refine Nl n ?_;refine go ?_;refine Oy Y6 fun F9=>?_;exact AF
def Aog (x:Cj) (v:Value) (F:aq) (hs:Q0 x.Bh):Fn prog 42 [v] [.isv Ec v x F] [] (fun (_:U6)=>True) (fun z=>.agg z.cs.toArray) (fun z=>[.isv Ec (.agg z.cs.toArray) x z.F]):=by
 refine enter func42 rfl ntmps42 fun w0=>?_;refine B9 ?_;rintro a1 c1 F1 a2 c2 F2 a3 c3 F3 a4 c4 F4 a5 c5 F5 a6 c6 F6 a7 c7 F7 rfl s1 s2 l1 l2 l3 l4 l5 l6 l7;refine E8 x.Bh (a1:=a1) (a2:=a2) (a3:=a3) (a4:=a4) (a5:=a5) (a6:=a6) (a7:=a7) ?_;refine Hy ?_;intros;refine Ar [1] [6] ?_;refine C4 0 1 3 4 ?_;refine dN 2 ?_;refine oC ?_;refine Be (Ayw x.Bh _ _ hs) fun z _=>?_;obtain ⟨cs,zF⟩:=z;dsimp only;refine Fg (x:=x.Bh) (v:=.agg cs.toArray) ?_;rintro b1 d1 G1 b2 d2 G2 b3 d3 G3 b4 d4 G4 b5 d5 G5 b6 d6 G6 b7 d7 G7 ev - - - - - - -;obtain rfl:=Oa ev;clear ev;refine dk ?_;refine dt 5 ?_;refine dN 6 ?_
 refine oS ?_;refine Nm ?_;refine dd ?_;refine go ?_;refine Cg x s1 s2 (a1:=b1) (a2:=b2) (a3:=b3) (a4:=b4) (a5:=b5) (a6:=b6) (a7:=b7) ?_;exact AF
end Go.Proofs.YtmppejmafbfhlaaGreatDoor
namespace Go.Proofs.YtmppejmafbfhlaaGreatDoor

open Go.RowKit
end Go.Proofs.YtmppejmafbfhlaaGreatDoor
namespace Go.Proofs.YtmppejmafbfhlaaGreatDoor
open Go.RowKit
structure DqS where
 x:NE
 b:Bool
 cs:am
 F:aq
 a:aj
 c:Nat
 Fe:aq
structure DqK where
 k:Nat
 cs:am
 F:aq
 a:aj
 c:Nat
 Fe:aq
def Ajw (w:World):∀xs:ar,Cw Bc w (xs.map (Value.int .i64)) xs []
 | []=>⟨rfl,rfl⟩
 | x::r=>⟨[.int .i64 x],r.map (Value.int .i64),[],[],rfl,rfl,⟨rfl,rfl⟩,Ajw w r⟩
def Apa {n:Dx} {s:Js} (e:Bo n s=none):Bm n s=(Rh,[],false):=by
 unfold Bm
 split
 ·rw [e]
 ·rfl
def Apb {n:Dx} {s:Js} {r:NE} (g1:At n=true) (g2:Dq s=true) (e:Bo n s=some r):Bm n s=(r.1,r.2,true):=by unfold Bm;rw [g1,g2,e];rfl
def Aqz (n:Dx) (v:Value) (F FT:aq) (hg:At n=true):Fn prog 126 [v] [.isv Pe v n F,Ga FT] [] (fun (_:StZ)=>True) (fun z=>.tuple #[.agg z.cs.toArray,.slice z.a (Q2 n).2.length z.c]) (fun z=>[.isv Pe (.agg z.cs.toArray) (Q2 n).1 z.F,.ow A9 9 (.slice z.a (Q2 n).2.length z.c) (Q2 n).2 z.Fe]):=by
 have hwn:=Bbp hg;refine enter func126 rfl ntmps126 fun w0=>?_;refine Fg ?_;rintro a1 c1 F1 a2 c2 F2 a3 c3 F3 a4 c4 F4 a5 c5 F5 a6 c6 F6 a7 c7 F7 rfl l1 l2 l3 l4 l5 l6 l7;refine go ?_;intros;refine Be (Aof n _ F hg) fun z _=>?_;obtain ⟨w,y⟩:=z;dsimp only;refine Av (E:=Bc) (xs:=n.Ap.Ad) fun Ft=>?_;refine Af3 Kr (xs:=n.Af) fun He=>?_;refine Af3 Rn (xs:=n.Ac) fun Hr=>?_;refine Af3 (Qr (M9.refl Ak) EZ _) (xs:=n.down) fun Hd=>?_;refine Af3 (Qr (M9.refl Ak) EZ _) (xs:=n.up) fun Hu=>?_;refine Hc (x:=n.Ab) ?_;rintro b2 d2 G2 b3 d3 G3 ev - -
 simp only [Value.agg.injEq,Array.mk.injEq,List.cons.injEq,Value.slice.injEq,cM,cO] at ev;obtain ⟨⟨rfl,rfl⟩,rfl,rfl⟩:=ev;refine E8 n (a1:=w.a1) (c1:=w.c1) (a2:=w.s.a) (c2:=w.s.c) (a3:=w.s.a2) (c3:=w.s.c2) (a4:=y.a4) (c4:=y.c4) (a5:=y.a5) (c5:=y.c5) (a6:=y.a6) (c6:=y.c6) (a7:=y.a7) (c7:=y.c7) ?_;refine go ?_;intros;rename_i g4 g5;refine C3 A9 ?_;refine go ?_
 refine Ca [2,4] (fun s:DqS=>[(5,ab s.a s.x.2.length s.c),(6,.bool s.b)]) (fun s=>[.row g4 43 0 [] s.cs [],.isv Pe (.agg s.cs.toArray) s.x.1 s.F,.ow A9 9 (ab s.a s.x.2.length s.c) s.x.2 s.Fe]) (fun s=>Wb (n,[]) s.x/\(if s.b then drE s.x else s.x)=Q2 n) (fun s=>if s.b then wN s.x.1+1 else 0) ⟨(n,[]),true,_,_,_,_,_⟩ ⟨.refl hg,rfl⟩ fun s hs0=>?_;obtain ⟨x,b,cs,Fx,ea,ec,eF⟩:=s;obtain ⟨fx,hR⟩:=hs0;dsimp only at fx hR ⊢;refine Fg (x:=x.1) ?_;rintro b1 d1 G1 b2 d2 G2 b3 d3 G3 b4 d4 G4 b5 d5 G5 b6 d6 G6 b7 d7 G7 ev - - - - - - -;obtain rfl:=Oa ev;clear ev;cases b
 ·rw [aC EZ] at hR;rw [hR];refine go ?_;refine ret (⟨_,Fx,ea,ec,eF⟩:StZ) trivial rfl
 rw [aH rfl] at hR;have hG:=Ax.1 fx.g;have h8:=Hl hG.t;have hn8:=h8.n1;have hn2:=h8.n0;have hev:=fx.e;simp only [aY] at hev;refine go ?_;refine Ca [2,4] (fun s:DqK=>[(5,.slice s.a (Ib x s.k).2.length s.c),(6,.bool (Q7 x s.k)),(7,aa ((s.k+1:Nat):Int))]) (fun s=>[.row g4 43 0 [] s.cs [],.isv Pe (.agg s.cs.toArray) (Ib x s.k).1 s.F,.ow A9 9 (.slice s.a (Ib x s.k).2.length s.c) (Ib x s.k).2 s.Fe]) (fun s=>s.k+1<=x.1.Ap.Ad.length) (fun s=>x.1.Ap.Ad.length - s.k) ⟨0,_,_,_,_,_⟩ (by show 0+1<=_;omega) fun s hs0=>?_;obtain ⟨k,cs,Fx,ya,yc,yF⟩:=s;dsimp only at hs0 ⊢
 have rf:=Pv fx.g k hs0;have fX:=fx.trans rf.1;have hXt:(Ib x k).1.Ap.Ad.length=x.1.Ap.Ad.length:=by rw [rf.1.t]
 generalize hX:Ib x k=X at fX hXt ⊢;generalize hM:Q7 x k=M;refine Fg (x:=X.1) ?_;rintro b1 d1 G1 b2 d2 G2 b3 d3 G3 b4 d4 G4 b5 d5 G5 b6 d6 G6 b7 d7 G7 ev - - - - - - -;obtain rfl:=Oa ev;clear ev;refine go ?_;refine Ay rfl (fun h1=>?_) (fun h1=>?_)
 rotate_left
 ·have hk:x.1.Ap.Ad.length - 1=k:=EY
  have hXr:W9 x=X:=by rw [<-hX,<-hk];rfl
  have hmi:=Ahk fx.g;rw [hk,hM] at hmi;refine go ?_;refine Ce ⟨X,M,_,_,ya,yc,yF⟩ ⟨fX,?_⟩ ?_
  ·cases M
   ·have hz:=hmi.1 rfl;show X=Q2 n;rw [<-hR,Abr hz,<-hXr,Ark fx.g hz]
   ·have hz:¬Yr x.1=0:=fun h=>by cases hmi.2 h
    show drE X=Q2 n;rw [<-hR,Agr fx.g hz,hXr]
  ·cases M
   ·show 0 < wN x.1+1;omega
   ·have hz:¬Yr x.1=0:=fun h=>by cases hmi.2 h
    have:=(M6 fx.g).2 hz;rw [hXr] at this;show wN X.1+1 < wN x.1+1;omega
 have hj:k+1 < x.1.Ap.Ad.length:=EY
 refine go ?_;intros;refine Dy (E:=Bc) (xs:=[2,5]) (fun w=>Ajw w _) ?_ EZ;refine Av (E:=Bc) (xs:=[2,5]) fun Fk=>?_;refine go ?_;refine Ca [2,4,7,25,26] (fun s:DqK=>[(5,.slice s.a (T0 X (k+1) s.k).2.length s.c),(6,.bool (Aeq M X (k+1) s.k)),(27,aa (s.k:Nat))]) (fun s=>[.row g4 43 0 [] s.cs [],.isv Pe (.agg s.cs.toArray) (T0 X (k+1) s.k).1 s.F,.ow A9 9 (.slice s.a (T0 X (k+1) s.k).2.length s.c) (T0 X (k+1) s.k).2 s.Fe]) (fun s=>s.k<=2) (fun s=>2 - s.k) ⟨0,_,_,_,_,_⟩ (aD _) fun s hs1=>?_;obtain ⟨m,cs,Fx,ya,yc,yF⟩:=s;dsimp only at hs1 ⊢
 have fY:=fX.trans (Auk fX.g (i:=k+1) EY EY m hs1);have hYe:=fY.e;simp only [aY] at hYe;generalize hY:T0 X (k+1) m=Y at fY hYe ⊢;generalize hB:Aeq M X (k+1) m=B;refine Fg (x:=Y.1) ?_;rintro b1 d1 G1 b2 d2 G2 b3 d3 G3 b4 d4 G4 b5 d5 G5 b6 d6 G6 b7 d7 G7 ev - - - - - - -;obtain rfl:=Oa ev;clear ev;refine go ?_;refine Ay rfl (fun h2=>?_) (fun h2=>?_)
 ·have hm:m < 2:=EY
  have ok:Dq (kst m (k+1))=true:=Bji EY EY hm;refine Im (xs:=[2,5]) m ?_;rintro hi b9 o9 e9;rw [e9,show ([2,5]:ar)[m]=(kst m (k+1)).Ct by rcases (show m=0\/m=1 by omega) with rfl|rfl <;> rfl];have gY:=fY.g;refine go ?_;refine Be (Vq Y.1 (kst m (k+1)) _ _ FT (aD _) gY ok) fun z _=>?_;cases e:Bo Y.1 (kst m (k+1)) with
  | none =>
   rw [Apa e];have hnY:T0 X (k+1) (m+1)=Y:=by show Nd (T0 X (k+1) m) (kst m (k+1))=Y;rw [hY];exact Kd e
   have hnB:Aeq M X (k+1) (m+1)=B:=by show (Aeq M X (k+1) m || (Bo (T0 X (k+1) m).1 (kst m (k+1))).isSome)=B;rw [hY,hB,e];exact Bool.or_false B
   refine Fg (x:=Rh) ?_;rintro f1 t1 G1 f2 t2 G2 f3 t3 G3 f4 t4 G4 f5 t5 G5 f6 t6 G6 f7 t7 G7 ez - - - - - - -;rw [ez];refine go ?_;intros;refine Ce ⟨m+1,_,_,ya,yc,yF⟩ (by show m+1<=2;omega) (by show 2 - (m+1) < 2 - m;omega) (by dsimp only;rw [hnY,hnB];exact frE) (by dsimp only;rw [hnY];exact hsE)
  | some r =>
   rw [Apb gY ok e];have hnY:T0 X (k+1) (m+1)=(r.1,Y.2++r.2):=by show Nd (T0 X (k+1) m) (kst m (k+1))=_;rw [hY];exact Zv e
   have hnB:Aeq M X (k+1) (m+1)=true:=by show (Aeq M X (k+1) m || (Bo (T0 X (k+1) m).1 (kst m (k+1))).isSome)=true;rw [hY,hB,e];exact gG B
   have hr:=Apl gY ok e;refine Fg (x:=r.1) ?_;rintro f1 t1 G1 f2 t2 G2 f3 t3 G3 f4 t4 G4 f5 t5 G5 f6 t6 G6 f7 t7 G7 ez - - - - - - -;rw [ez];refine Av (E:=A9) (xs:=r.2) fun F8=>?_;refine go ?_;intros;apply wO;refine N5 (E:=A9) (xs:=Y.2) (ys:=r.2) D7 Ie fun a9 c9 F9=>?_;refine go ?_;refine Ce ⟨m+1,_,z.F,a9,c9,F9⟩ (by show m+1<=2;omega) (by show 2 - (m+1) < 2 - m;omega) (by dsimp only;rw [hnY,hnB];exact frE) (by dsimp only;rw [hnY];exact hsE)
 ·obtain rfl:m=2:=EY
  refine go ?_;refine Ce ⟨k+1,_,_,ya,yc,yF⟩ JL (by show x.1.Ap.Ad.length - (k+1) < x.1.Ap.Ad.length - k;omega) (by dsimp only;rw [Aop,hX,hM,hB,Acg,hX,hY];exact frE) (by dsimp only;rw [Acg,hX,hY];exact hsE)
def Aig (n:Dx) (v:Value) (F:aq):FV 130 [v] [.isv Pe v n F] (.tuple #[.bool (Gn n).1,.bool (Gn n).2]):=by
 refine enter func130 rfl ntmps130 fun w0=>?_;refine Fg ?_;rintro a1 c1 F1 a2 c2 F2 a3 c3 F3 a4 c4 F4 a5 c5 F5 a6 c6 F6 a7 c7 F7 rfl l1 l2 l3 l4 l5 l6 l7;refine go ?_;intros;refine Be (Adp n _ F) fun _ _=>?_;cases g:At n
 ·refine go ?_;refine ret () trivial ?_;unfold Gn;rw [g];rfl
 obtain ⟨-,e2,e3,e4⟩:=If g;obtain ⟨q2,q8,qn,qu,qe,qt⟩:=Nr g;have hG:=Ax.1 g;obtain ⟨-,qr, -, -⟩:=Bn.1 hG.l;have hS1:=(Kk hG.s).l;have hW:=Du.1 (Ep.1 hG.s).1;refine Hy ?_;intros;refine Jm n.Ap (a1:=a1) ?_;refine go ?_;refine Dl [1,2,3] (fun k:Nat=>[(4,aa (k:Nat))]) (fun k=>1<=k/\k<=n.Ap.Ad.length/\∀j,1<=j->j < k->(n.down.getD j []).length=0/\(n.up.getD j []).length=0/\(Et n.Ap.Ad ((j:Nat):Int)=true->Adg n j=true)) (fun k=>n.Ap.Ad.length - k) 1 ⟨aK _,EY,fun j a b=>by omega⟩ fun k hk=>?_;obtain ⟨hk1,hk2,hal⟩:=hk;refine go ?_;refine Ay rfl (fun h3=>?_) (fun h3=>?_)
 ·have hk3:k < n.Ap.Ad.length:=EY
  have h5:k < n.Ac.length:=EY
  have hd5:k < n.down.length:=EY
  have hu5:k < n.up.length:=EY
  have m8:=(C8 (e3 _ (aB hd5))).1;have m9:=(C8 (e4 _ (aB hu5))).1;have gd:(n.down.getD k [])=n.down[k]:=Qg hd5 _;have gu:(n.up.getD k [])=n.up[k]:=Qg hu5 _;refine Ms (E:=Ak) (hz:=EZ) (xs:=n.down) k ?_;rintro hi1 g1 o1 a8 c8 F8 ea l8;refine Ms (E:=Ak) (hz:=EZ) (xs:=n.up) k ?_;rintro hi2 g2 o2 a9 c9 F9 eb l9;rw [ea,eb];refine Hy ?_;intros;refine Ar [0,2,5] [] ?_;refine C4 0 1 2 3 ?_;refine C4 4 5 6 7 ?_;refine C4 8 9 10 11 ?_;refine Dh 12 13 ?_;refine dd ?_;refine go ?_;refine Ay rfl (fun h4=>?_) (fun h4=>?_)
  ·refine go ?_;refine ret () trivial ?_;unfold Gn;rw [g];rw [aH rfl,Baw (fun h0=>by
    have hd:=Abw (l:=n.down) (i:=k) JV;have hu:=Abw (l:=n.up) (i:=k) JV;rw [gd] at hd;rw [gu] at hu;omega)]
   rfl
  refine Jl (xs:=n.Ac) k ?_;rintro h5b b5 o5 a10 c10 F10 a11 c11 F11 e5 l10 l11;rw [e5];have hr:=El.1 (e2 _ (aB h5));have hr1:=(Lc hr.w).1;have hr2:=(Dj.1 hr.q).2.1;cases hlf:Et n.Ap.Ad ((k:Nat):Int)
  ·refine Hy ?_;intros;refine Ar [0,9] [] ?_;refine Dh 0 1 ?_;refine dt 2 ?_;refine dN 3 ?_;refine oC ?_;refine Be (Ot n.Ap _ _ F1 (Hl hG.t) EY) fun _ _=>?_;rw [hlf];refine dk ?_;refine dt 4 ?_;refine ds 5 ?_;refine ds 6 ?_;refine ds 7 ?_;refine ds 8 ?_;refine dsu 9 ?_;refine dsu 10 ?_;refine dsu 11 ?_;refine dsu 12 ?_;refine dsu 13 ?_;refine dsu 14 ?_;refine dsu 15 ?_;refine dsu 16 ?_;refine dsu 17 ?_;refine ds 18 ?_;refine ds 19 ?_;refine dsu 20 ?_;refine dsu 21 ?_;refine dsu 22 ?_;refine dsu 23 ?_;refine dsu 24 ?_;refine dsu 25 ?_;refine dsu 26 ?_;refine dsu 27 ?_;refine ds 28 ?_
   refine dt 29 ?_;refine dd ?_;refine go ?_;rw [show ((k:Nat):Int)+1=((k+1:Nat):Int) by omega];refine Ce (k+1) ⟨EY,hk3,fun j hj0 hj=>?_⟩ EY;by_cases hjk:j=k
   ·subst hjk;exact ⟨by rw [gd];omega,by rw [gu];omega,fun h=>absurd h JW⟩
   ·exact hal j hj0 EY
  cases hst0:n.Ac[k].Bg
  ·have hst:Afo n.Ac[k]=false:=by unfold Afo;rw [hst0];rfl
   try rw [hst0]
   refine Hy ?_;intros;refine Ar [0,9] [] ?_;refine Dh 0 1 ?_;refine dt 2 ?_;refine dN 3 ?_;refine oC ?_;refine Be (Ot n.Ap _ _ F1 (Hl hG.t) EY) fun _ _=>?_;rw [hlf];refine dk ?_;refine dt 4 ?_;refine Dg 5 ?_;refine Dg 6 ?_;refine Dg 7 ?_;refine Dg 8 ?_;refine ds 9 ?_;refine ds 10 ?_;refine ds 11 ?_;refine ds 12 ?_;refine ds 13 ?_;refine ds 14 ?_;refine ds 15 ?_;refine ds 16 ?_;refine ds 17 ?_;refine Dg 18 ?_;refine Dg 19 ?_;refine ds 20 ?_;refine ds 21 ?_;refine ds 22 ?_;refine ds 23 ?_;refine ds 24 ?_;refine ds 25 ?_;refine ds 26 ?_;refine ds 27 ?_;refine Dg 28 ?_;refine dt 29 ?_
   exact ED
  ·by_cases hz:n.Ac[k].An.length+n.Ac[k].Aa.Ao.length=0
   rotate_left
   ·have hst:Afo n.Ac[k]=false:=by
     unfold Afo;by_cases hz1:((n.Ac[k].An.length:Int)=0)
     ·rw [ay (show ¬((n.Ac[k].Aa.Ao.length:Int)=0) by omega),bZ]
     ·rw [ay hz1,bZ,cJ]
    try rw [hst0]
    refine Hy ?_;intros;refine Ar [0,9] [] ?_;refine Dh 0 1 ?_;refine dt 2 ?_;refine dN 3 ?_;refine oC ?_;refine Be (Ot n.Ap _ _ F1 (Hl hG.t) EY) fun _ _=>?_;rw [hlf];refine dk ?_;refine dt 4 ?_;refine Dg 5 ?_;refine Dg 6 ?_;refine Dg 7 ?_;refine Dg 8 ?_;refine Dg 9 ?_;refine Dg 10 ?_;refine Dg 11 ?_;refine Dg 12 ?_;refine Dg 13 ?_;refine Dg 14 ?_;refine Dg 15 ?_;refine Dg 16 ?_;refine Dg 17 ?_;rw [show decide ((0:Int) < ((n.Ac[k].An.length:Int)+(n.Ac[k].Aa.Ao.length:Int)))=true from av EY];refine Dg 18 ?_;refine Dg 19 ?_;refine ds 20 ?_;refine ds 21 ?_
    refine ds 22 ?_;refine ds 23 ?_;refine ds 24 ?_;refine ds 25 ?_;refine ds 26 ?_;refine ds 27 ?_;refine Dg 28 ?_;refine dt 29 ?_;exact ED
   ·have hst:Afo n.Ac[k]=true:=by
     unfold Afo;rw [hst0,av (show ((n.Ac[k].Aa.Ao.length:Int)=0) by omega),av (show ((n.Ac[k].An.length:Int)=0) by omega)];rfl
    try rw [hst0]
    refine Hy ?_;intros;refine Ar [0,9] [] ?_;refine Dh 0 1 ?_;refine dt 2 ?_;refine dN 3 ?_;refine oC ?_;refine Be (Ot n.Ap _ _ F1 (Hl hG.t) EY) fun _ _=>?_;rw [hlf];refine dk ?_;refine dt 4 ?_;refine Dg 5 ?_;refine Dg 6 ?_;refine Dg 7 ?_;refine Dg 8 ?_;refine Dg 9 ?_;refine Dg 10 ?_;refine Dg 11 ?_;refine Dg 12 ?_;refine Dg 13 ?_;refine Dg 14 ?_;refine Dg 15 ?_;refine Dg 16 ?_;refine Dg 17 ?_;rw [show decide ((0:Int) < ((n.Ac[k].An.length:Int)+(n.Ac[k].Aa.Ao.length:Int)))=false from ay EY];refine Dg 18 ?_;refine Dg 19 ?_;refine Dg 20 ?_;refine Dg 21 ?_
    refine Dg 22 ?_;refine Dg 23 ?_;refine Dg 24 ?_;refine Dg 25 ?_;refine d1g 26 ?_;apply On.h;refine oC ?_;refine cb (fun w s=>T6 n.Ab.Aa.Am n.Ab.Aa.size _ n.Ab.Aa.Al.length _ w hW.1.1 hW.1.2 EY) ?_;refine dk ?_;refine Dg 27 ?_;refine Dg 28 ?_;refine dt 29 ?_;refine dd ?_;refine go ?_;refine Ay rfl (fun h6=>?_) (fun h6=>?_)
    ·refine go ?_;refine ret () trivial ?_;unfold Gn;rw [g];rw [aH rfl,Aij hk3 hlf (by unfold Adg;rw [Hf h5,ay h6,bZ])];rfl
    ·refine go ?_;rw [show ((k:Nat):Int)+1=((k+1:Nat):Int) by omega];refine Ce (k+1) ⟨EY,hk3,fun j hj0 hj=>?_⟩ EY;by_cases hjk:j=k
     ·subst hjk;exact ⟨by rw [gd];omega,by rw [gu];omega,fun h=>by unfold Adg;rw [Hf h5,hst,av (cL.1 h6)];rfl⟩
     ·exact hal j hj0 EY
 ·have hk3:k=n.Ap.Ad.length:=EY
  have hst:Z5 n=true:=by
   refine Apm ?_ fun i hi hl=>?_
   ·have d0:=Ab6 g;have a1:qd n.down=0:=Azx fun i hi=>by
     rw [<-Qg hi []];by_cases h0:i=0
     ·subst h0;exact d0.1
     ·exact (hal i EY EY).1
    have a2:qd n.up=0:=Azx fun i hi=>by
     rw [<-Qg hi []];by_cases h0:i=0
     ·subst h0;exact d0.2
     ·exact (hal i EY EY).2.1
    unfold Yr;omega
   ·by_cases h0:i=0
    ·subst h0;rw [Bd2 (Hl hG.t)] at hl;cases hl
    ·exact (hal i EY EY).2.2 hl
  refine go ?_;refine ret () trivial ?_;unfold Gn;rw [g,aH rfl,hst];rfl
def Ai7 (x:A8) (v:Value) (F:aq):Fn prog 202 [v] [.isv Cb v x F] [] (fun (_:OwR)=>True) (fun s=>.tuple #[.slice s.a (Fb x).1.length s.c,.bool (Fb x).2]) (fun s=>[.ow Bc 3 (.slice s.a (Fb x).1.length s.c) (Fb x).1 s.F]):=by
 refine enter func202 rfl ntmps202 fun w0=>?_;refine Fm (v:=v) (x:=x) (F:=F) ?_;rintro a1 c1 F1 a2 c2 F2 rfl l1 l2;unfold maxLen at l1 l2;refine go ?_;intros;rename_i g0;refine Be (Akb x _ F) fun _ _=>?_;refine C3 Bc ?_;cases g1:Bw x
 ·rw [show Fb x=([],false) by unfold Fb;rw [g1];rfl];exact BC
 have g5:=El.1 g1;have hq8:=(Dj.1 g5.q).2.1;rw [show Fb x=(x.An.map (·.Ae),true) by unfold Fb;rw [g1];rfl];refine go ?_;refine Ca [1,2,3] (fun s:AwS=>[(5,aa (s.i:Nat)),(4,.slice s.a ((x.An.take s.i).map (·.Ae)).length s.c)]) (fun s=>[.ow Bc 3 (.slice s.a ((x.An.take s.i).map (·.Ae)).length s.c) ((x.An.take s.i).map (·.Ae)) s.F]) (fun s=>s.i<=x.An.length) (fun s=>x.An.length - s.i) ⟨0,some ⟨g0,0,none⟩,0,[g0]⟩ (aD _) fun s hs=>?_;obtain ⟨i,a3,c3,F3⟩:=s;dsimp only at hs ⊢;have hl3:((x.An.take i).map (·.Ae)).length<=i:=FF
 refine go ?_;refine Ay rfl (fun h4=>?_) (fun h4=>?_)
 ·have hi:i < x.An.length:=EY
  have eo:(x.An.take (i+1)).map (·.Ae)=(x.An.take i).map (·.Ae)++[x.An[i].Ae]:=by rw [cy,aE hi,bB];rfl
  exact CA
 have hi:i=x.An.length:=EY
 subst hi;rw [bj];exact BC
def rsC (x:Cj) (o:Option NR):Cj × au:=match o with
 | some r=>(⟨r.1,x.Gm⟩,r.2)
 | none=>(x,⟨#[63]⟩)
def Ah7 {x:Cj} {r:Option au}:rsC x (Qs x.Bh r)=(x,r.getD ⟨#[63]⟩):=by cases r <;> rfl
def Bfx {n:Dx} {s:Js} {y:NE} (hg:At n=true) (hs:Dq s=true) (e:Bo n s=some y):y.2.length<=900000000000/\∀e∈y.2,e.size<=100:=by
 have:=Ash hg hs;rw [e] at this;exact this
def Q5 (x:Cj) (s:Js) (b:Bool) (v:Value) (F FT:aq) (hg:At x.Bh=true) (hss:s.data.size<=maxLen) (hb:b=decide (s.Ct=2\/s.Ct=4)):Fn prog 80 [v,.agg #[aa s.Ct,aa s.node,af s.data],.bool b] [.isv Ec v x F,Ga FT] [] (fun (_:U6)=>True) (fun u=>.tuple #[.agg u.cs.toArray,af (rsC x (Km x.Bh s)).2]) (fun u=>[.isv Ec (.agg u.cs.toArray) (rsC x (Km x.Bh s)).1 u.F]):=by
 refine enter func80 rfl ntmps80 fun w0=>?_;refine B9 ?_;rintro a1 c1 F1 a2 c2 F2 a3 c3 F3 a4 c4 F4 a5 c5 F5 a6 c6 F6 a7 c7 F7 rfl s1 s2 l1 l2 l3 l4 l5 l6 l7;refine E8 x.Bh (a1:=a1) (a2:=a2) (a3:=a3) (a4:=a4) (a5:=a5) (a6:=a6) (a7:=a7) ?_;refine go ?_;intros;refine Be (Au5 s hss) fun _ _=>?_;cases hk:Dq s
 ·have e:Km x.Bh s=none:=by unfold Km;rw [hk];rfl
  rw [e];exact DM
 refine go ?_;refine Be (Vq x.Bh s _ _ FT hss hg hk) fun z _=>?_;cases es:Bo x.Bh s with
 | none =>
  have e:Km x.Bh s=none:=by unfold Km;rw [hk,es];rfl
  rw [e,Apa es];refine Fg (x:=Rh) ?_;rintro f1 t1 G1 f2 t2 G2 f3 t3 G3 f4 t4 G4 f5 t5 G5 f6 t6 G6 f7 t7 G7 ez - - - - - - -;rw [ez];refine go ?_;intros;exact AF
 | some y =>
  have e:Km x.Bh s=some (y.1,if s.Ct=2\/s.Ct=4 then X8 y.2 else bz wOk):=by unfold Km;rw [hk,es];rfl
  have hE:=Bfx hg hk es;rw [e,Apb hg hk es];obtain ⟨m,E⟩:=y;dsimp only at hE ⊢;refine Fg (x:=m) ?_;rintro f1 t1 G1 f2 t2 G2 f3 t3 G3 f4 t4 G4 f5 t5 G5 f6 t6 G6 f7 t7 G7 ez - - - - - - -;rw [ez];refine Av (E:=A9) (xs:=E) fun F8=>?_;refine go ?_;intros;refine Cg (⟨m,x.Gm⟩:Cj) s1 s2 (a1:=f1) (c1:=t1) (a2:=f2) (c2:=t2) (a3:=f3) (c3:=t3) (a4:=f4) (c4:=t4) (a5:=f5) (c5:=t5) (a6:=f6) (c6:=t6) (a7:=f7) (c7:=t7) ?_;cases b
  ·rw [aC (by simpa using hb.symm)];exact DM
  rw [aH (by simpa using hb.symm)];exact BV
def Wa (n:Dx) (line:au):Option NR :=
 if line.data.toList=Ait then Km n ⟨1,0,⟨#[]⟩⟩
 else if line.data.toList=Alb then Km n ⟨4,0,⟨#[]⟩⟩
 else if line.data.toList=Xh then some ((Q2 n).1,X8 (Q2 n).2)
 else Qs n (Le n line.data.toList)
def Bbr {line:au} (h:(Gh line).length=1):Gh line=[line.data.toList]:=by
 unfold Gh at h ⊢;obtain ⟨r,hr,hi⟩:=Se 32 line.data.toList;rw [hr,aU] at h;have hb:=hi.1 (bu.1 EY);exact V2 fun c hc e=>hb (e▸hc)
def Bah {n:Dx} {line:au} (h:(Gh line).length=1):Pm n line=Wa n line:=by
 have hw:=Bbr h;have h0:atW (Gh line) 0=line.data.toList:=by rw [hw];rfl
 unfold Wa
 split
 ·rename_i e;exact Acj (by unfold Jf;rw [h0];exact aH ⟨e,h⟩)
 ·rename_i e1
  split
  ·rename_i e;exact Acj (by unfold Jf;rw [h0,aC (fun c=>e1 c.1),aC (fun c=>e1 c.1)];exact aH ⟨e,h⟩)
  ·rename_i e2;have hs:Jf (Gh line)=none:=by
    unfold Jf;rw [h0,aC (fun c=>e1 c.1),aC (fun c=>e1 c.1),aC (fun c=>e2 c.1)];exact aH EY
   unfold Pm;rw [hs];dsimp only
   split
   ·rfl
   ·first|rfl|rw [aH h]
def Avb (x:Cj) (line:au) (v:Value) (F FT:aq) (hg:At x.Bh=true):Fn prog 79 [v,af line] [.isv Ec v x F,Ga FT] [] (fun (_:U6)=>True) (fun u=>.tuple #[.agg u.cs.toArray,af (rsC x (Wa x.Bh line)).2]) (fun u=>[.isv Ec (.agg u.cs.toArray) (rsC x (Wa x.Bh line)).1 u.F]):=by
 refine enter func79 rfl ntmps79 fun w0=>?_;refine B9 ?_;rintro a1 c1 F1 a2 c2 F2 a3 c3 F3 a4 c4 F4 a5 c5 F5 a6 c6 F6 a7 c7 F7 rfl s1 s2 l1 l2 l3 l4 l5 l6 l7;refine E8 x.Bh (a1:=a1) (a2:=a2) (a3:=a3) (a4:=a4) (a5:=a5) (a6:=a6) (a7:=a7) ?_;refine go ?_;intros;refine Ay rfl (fun h1=>?_) (fun h1=>?_)
 ·rw [show Wa x.Bh line=Km x.Bh ⟨1,0,⟨#[]⟩⟩ by unfold Wa;rw [aH (show line.data.toList=Ait from D0.1 h1)]];have hP:=fun v F=>Q5 x ⟨1,0,⟨#[]⟩⟩ false v F FT hg (aD _) EZ;generalize rsC x (Km x.Bh ⟨1,0,⟨#[]⟩⟩)=R at hP ⊢;refine go ?_;refine Be (hP _ _) fun u _=>?_;refine B9 (x:=R.1) ?_;rintro f1 t1 G1 f2 t2 G2 f3 t3 G3 f4 t4 G4 f5 t5 G5 f6 t6 G6 f7 t7 G7 ez s3 s4 - - - - - - -;rw [ez];refine go ?_;refine Cg R.1 s3 s4 (a1:=f1) (c1:=t1) (a2:=f2) (c2:=t2) (a3:=f3) (c3:=t3) (a4:=f4) (c4:=t4) (a5:=f5) (c5:=t5) (a6:=f6) (c6:=t6) (a7:=f7) (c7:=t7) ?_
  exact AF
 refine go ?_;refine Ay rfl (fun h2=>?_) (fun h2=>?_)
 ·rw [show Wa x.Bh line=Km x.Bh ⟨4,0,⟨#[]⟩⟩ by unfold Wa;rw [aC (show ¬line.data.toList=Ait from fun e=>h1 (D0.2 e)),aH (show line.data.toList=Alb from D0.1 h2)]];have hP:=fun v F=>Q5 x ⟨4,0,⟨#[]⟩⟩ true v F FT hg (aD _) EZ;generalize rsC x (Km x.Bh ⟨4,0,⟨#[]⟩⟩)=R at hP ⊢;refine go ?_;refine Be (hP _ _) fun u _=>?_;refine B9 (x:=R.1) ?_;rintro f1 t1 G1 f2 t2 G2 f3 t3 G3 f4 t4 G4 f5 t5 G5 f6 t6 G6 f7 t7 G7 ez s3 s4 - - - - - - -;rw [ez];refine go ?_
  exact BB
 refine go ?_;refine Ay rfl (fun h3=>?_) (fun h3=>?_)
 ·rw [show Wa x.Bh line=some ((Q2 x.Bh).1,X8 (Q2 x.Bh).2) by unfold Wa;rw [aC (show ¬line.data.toList=Ait from fun e=>h1 (D0.2 e)),aC (show ¬line.data.toList=Alb from fun e=>h2 (D0.2 e)),aH (show line.data.toList=Xh from D0.1 h3)]];have hP:=fun v F=>Aqz x.Bh v F FT hg;have hE:(Q2 x.Bh).2.length<=900000000000/\∀e∈(Q2 x.Bh).2,e.size<=100:=⟨by have:=Ase hg;omega,fun e he=>by have:=(Zf (Bfu hg e he)).2;omega⟩;generalize Q2 x.Bh=y at hP hE ⊢;obtain ⟨m,E⟩:=y;dsimp only at hP hE ⊢;refine go ?_;refine Be (hP _ _) fun z _=>?_;refine Fg (x:=m) ?_
  rintro f1 t1 G1 f2 t2 G2 f3 t3 G3 f4 t4 G4 f5 t5 G5 f6 t6 G6 f7 t7 G7 ez - - - - - - -;rw [ez];refine Av (E:=A9) (xs:=E) fun F8=>?_;refine go ?_;intros;refine Cg (⟨m,x.Gm⟩:Cj) s1 s2 (a1:=f1) (c1:=t1) (a2:=f2) (c2:=t2) (a3:=f3) (c3:=t3) (a4:=f4) (c4:=t4) (a5:=f5) (c5:=t5) (a6:=f6) (c6:=t6) (a7:=f7) (c7:=t7) ?_;exact BV
 have eW:Wa x.Bh line=Qs x.Bh (Le x.Bh line.data.toList):=by unfold Wa;rw [aC (show ¬line.data.toList=Ait from fun e=>h1 (D0.2 e)),aC (show ¬line.data.toList=Alb from fun e=>h2 (D0.2 e)),aC (show ¬line.data.toList=Xh from fun e=>h3 (D0.2 e))]
 rw [eW,Ah7];obtain ⟨e1,e2,e3,e4⟩:=If hg;obtain ⟨q2,q8,qn,qu,qe,qt⟩:=Nr hg;have hG:=Ax.1 hg;have hS:=Kk hG.s;have hW:=Du.1 (Ep.1 hG.s).1;have hS1:=hS.l;have hb1:=Ou (fun q hq=>(C8 (e3 q hq)).1) x.Bh.down.length;have hb2:=Ou (fun q hq=>(C8 (e4 q hq)).1) x.Bh.up.length;rw [bj] at hb1 hb2;have z1:=Ab1 (k:=qd x.Bh.down) EY;have z2:=Ab1 (k:=qd x.Bh.up) EY;have hld:=Ab4 x.Bh.Ab.Aa;unfold Lw at hld;refine go ?_;refine Ay rfl (fun h4=>?_) (fun h4=>?_)
 ·rw [show Le x.Bh line.data.toList=some (bz (Lib.itoa (Lw x.Bh.Ab.Aa))) by unfold Le;rw [aH (show line.data.toList=Acu from D0.1 h4)]];refine Hy ?_;intros;refine Ar [1] [7,8] ?_;refine C4 0 1 2 3 ?_;refine dt 4 ?_;refine dN 5 ?_;refine oC ?_;refine cb (fun w2 s=>T6 x.Bh.Ab.Aa.Am x.Bh.Ab.Aa.size _ x.Bh.Ab.Aa.Al.length _ w2 hW.1.1 hW.1.2 EY) ?_;refine dk ?_;refine dN 6 ?_;refine oC ?_;refine cb (fun w2 st=>Ww (Cf x.Bh.Ab.Aa.Am x.Bh.Ab.Aa.Al.length) EY EY w2) ?_;refine dk ?_;refine dN 7 ?_;refine oS ?_;refine Nm ?_;refine P0 8 ?_;refine dd ?_;refine go ?_
  exact AF
 refine go ?_;refine Ay rfl (fun h5=>?_) (fun h5=>?_)
 ·rw [show Le x.Bh line.data.toList=some (bz (Lib.itoa ((qd x.Bh.down:Nat):Int))++⟨#[32]⟩++bz (Lib.itoa ((qd x.Bh.up:Nat):Int))) by unfold Le;rw [aC (show ¬line.data.toList=Acu from fun e=>h4 (D0.2 e)),aH (show line.data.toList=Xi from D0.1 h5)]];refine go ?_;have hP:=fun v F=>Ai8 x.Bh v F;simp only [show Ra x.Bh=(((qd x.Bh.down:Nat):Int),((qd x.Bh.up:Nat):Int),true) by unfold Ra;rw [hg];rfl] at hP;refine Be (hP _ _) fun _ _=>?_;refine Hy ?_;intros;refine Ar [1] [] ?_;refine Dh 0 1 ?_;refine dt 4 ?_;refine dN 2 ?_;refine oC ?_
  refine cb (fun w2 st=>Ww ((qd x.Bh.down:Nat):Int) EY EY w2) ?_;refine dk ?_;refine dt 3 ?_ (hy:=Hh rfl rfl (by show _+1<=9223372036854775807;omega));refine dN 5 ?_;refine oC ?_;refine cb (fun w2 st=>Ww ((qd x.Bh.up:Nat):Int) EY EY w2) ?_;refine dk ?_;refine dt 6 ?_ (hy:=Hh rfl rfl (by rw [aN];show _+1+_<=9223372036854775807;omega));refine dN 7 ?_;refine oS ?_;refine dk ?_;refine dt 8 ?_;refine dd ?_;exact DM
 refine go ?_;refine Ay rfl (fun h6=>?_) (fun h6=>?_)
 ·rw [show Le x.Bh line.data.toList=some (if Z5 x.Bh then bz Bek else bz wNo) by unfold Le;rw [aC (show ¬line.data.toList=Acu from fun e=>h4 (D0.2 e)),aC (show ¬line.data.toList=Xi from fun e=>h5 (D0.2 e)),aH (show line.data.toList=Y5 from D0.1 h6)]];refine go ?_;have hP:=fun v F=>Aig x.Bh v F;simp only [show Gn x.Bh=(Z5 x.Bh,true) by unfold Gn;rw [hg];rfl] at hP;refine Be (hP _ _) fun _ _=>?_;cases hst:Z5 x.Bh
  ·exact DM
  ·exact DM
 ·rw [show Le x.Bh line.data.toList=none by unfold Le;rw [aC (show ¬line.data.toList=Acu from fun e=>h4 (D0.2 e)),aC (show ¬line.data.toList=Xi from fun e=>h5 (D0.2 e)),aC (show ¬line.data.toList=Y5 from fun e=>h6 (D0.2 e))]];exact DM
structure Ajd (n:Dx):Prop where
 h2:2<=n.Ap.Ad.length
 h8:n.Ap.Ad.length<=8
 hd:n.down.length<=8
 hu:n.up.length=n.down.length
 hq:∀q∈n.down++n.up,q.length<=6
 hi:n.Ab.Aa.Al.length<=1000
def Agn {n:Dx} (h:At n=true):Ajd n:=by
 obtain ⟨q2,q8,qd,qu, -, -⟩:=Nr h;have h6:n.Ab.Aa.Al.length<=6:=(Kk (Ax.1 h).s).l;exact ⟨q2,q8,qd,qu,Adf h,EY⟩
def Awc {s:Js} (h:Dq s=true):0<=s.node/\s.node<=7:=by
 unfold Dq at h
 split at h
 ·simp only [aw,aF] at h;omega
 ·split at h
  ·simp only [aw,aF] at h;omega
  ·unfold Pj Ff at h;simp only [aw,aF] at h;omega
def Adz {n:Int} (h0:-1<=n) (h1:n<=65536):(bz (Lib.itoa n)).size<=7:=by
 rw [Ho];by_cases h:0<=n
 ·rw [Ps h];have:=Ea 5 n.natAbs IG;omega
 ·rw [Ab2 EY,aU];have:=Ea 5 n.natAbs IG;omega
def Zc (B g:Nat) (F:CuF) (s:N4) (x:Cj) (v:Value) (Fx:aq) (hc:Ajd x.Bh) (ok:Hm B s) (hB:B<=700000000000) :
  Fn prog 21 [Gj g 0 0,v] [.sl Jc (ab F.a F.By.length F.c) F.By F.bs,.isv Ec v x Fx] [.row g 61 0 [] [ab F.a F.By.length F.c,aa (s.k:Nat),.int .u64 s.Ha] []] (fun (z:au × N4)=>z.1.size<=100/\Hm (B+300) z.2) (fun z=>af z.1) (fun z=>[.row g 61 0 [] [ab F.a F.By.length F.c,aa (z.2.k:Nat),.int .u64 z.2.Ha] []]):=by
 refine enter func21 rfl ntmps21 fun w0=>?_;refine B9 ?_;rintro a1 c1 F1 a2 c2 F2 a3 c3 F3 a4 c4 F4 a5 c5 F5 a6 c6 F6 a7 c7 F7 rfl s1 s2 l1 l2 l3 l4 l5 l6 l7;refine E8 x.Bh (a1:=a1) (a2:=a2) (a3:=a3) (a4:=a4) (a5:=a5) (a6:=a6) (a7:=a7) ?_;refine go ?_;intros;refine Be (Amk _ g F s x.Bh _ _ hc.h2 hc.h8 hc.hd hc.hu hc.hq ok EY) fun d hd=>?_;obtain ⟨hd1, -,hd3⟩:=hd;have hn:=Awc hd1;refine go ?_;refine cb (fun w2 st=>Ww d.t.node EY EY w2) ?_;refine go ?_;refine Be (Ab8 _ g F 3 d.s hd3 EY EY) fun p hp=>?_;obtain ⟨b1,s1⟩:=p;obtain ⟨-,h1⟩:=hp;dsimp only at h1 ⊢
 refine go ?_;refine Dv [0,3,4] [1,2,3,4,5,6,7,8,9,10,11] (fun z:au × N4=>[(5,af z.1)]) (fun z=>[.row g 61 0 [] [ab F.a F.By.length F.c,aa (z.2.k:Nat),.int .u64 z.2.Ha] []]) (fun z=>z.1.size<=7/\Hm (B+210) z.2) ?_ fun z hz=>?_
 ·cases b1
  ·refine go ?_;refine Bk (bz (Lib.itoa d.t.node),s1) ⟨Adz EY EY,h1.mono EY⟩
  ·refine go ?_;refine Be (Dr _ g F 9 s1 h1 EY EY) fun p hp=>?_;obtain ⟨r,s2⟩:=p;obtain ⟨hr,h2⟩:=hp;dsimp only at hr h2 ⊢;refine go ?_;refine cb (fun w2 st=>Ww ((r:Nat):Int) EY EY w2) ?_;refine go ?_;refine Bk (bz (Lib.itoa ((r:Nat):Int)),s2) ⟨Adz EY EY,h2.mono EY⟩
 obtain ⟨t,s2⟩:=z;obtain ⟨ht,h2⟩:=hz;dsimp only at ht h2 ⊢;refine go ?_;refine Be (Dr _ g F 14 s2 h2 EY EY) fun p hp=>?_;obtain ⟨r,s3⟩:=p;obtain ⟨hr,h3⟩:=hp;dsimp only at hr h3 ⊢;obtain rfl|rfl|rfl|rfl|rfl|rfl|rfl|rfl|rfl|rfl|rfl|rfl|rfl|rfl:r=0\/r=1\/r=2\/r=3\/r=4\/r=5\/r=6\/r=7\/r=8\/r=9\/r=10\/r=11\/r=12\/r=13:=EY
 ·refine Hy ?_;intros;refine Dy (xs:=[⟨#[97]⟩,⟨#[97,98,99]⟩,⟨#[120]⟩,⟨#[104,101,108,108,111]⟩,⟨#[90]⟩,⟨#[97,98,99,100,101,102,103,104,105]⟩]) (fun w=>Q3 w _ EZ) ?_ EZ;refine Av (E:=A9) fun G2=>?_;refine go ?_;refine Be (Afl _ _ F _ [⟨#[97]⟩,⟨#[97,98,99]⟩,⟨#[120]⟩,⟨#[104,101,108,108,111]⟩,⟨#[90]⟩,⟨#[97,98,99,100,101,102,103,104,105]⟩] _ s3 h3 EY EZ EZ) fun q hq=>?_;obtain ⟨u,s4⟩:=q;obtain ⟨hq,h4⟩:=hq;dsimp only at hq h4 ⊢
  exact AU
 ·refine Hy ?_;intros;refine Dy (xs:=[⟨#[97]⟩,⟨#[97,98,99]⟩,⟨#[120]⟩,⟨#[104,101,108,108,111]⟩,⟨#[90]⟩,⟨#[97,98,99,100,101,102,103,104,105]⟩]) (fun w=>Q3 w _ EZ) ?_ EZ;refine Av (E:=A9) fun G2=>?_;refine go ?_;refine Be (Afl _ _ F _ [⟨#[97]⟩,⟨#[97,98,99]⟩,⟨#[120]⟩,⟨#[104,101,108,108,111]⟩,⟨#[90]⟩,⟨#[97,98,99,100,101,102,103,104,105]⟩] _ s3 h3 EY EZ EZ) fun q hq=>?_;obtain ⟨u,s4⟩:=q;obtain ⟨hq,h4⟩:=hq;dsimp only at hq h4 ⊢
  exact AU
 ·exact AQ
 ·exact AQ
 ·exact AQ
 ·refine go ?_;apply wO;apply oc;rfl;exact Hh rfl rfl (by show 3+_<=9223372036854775807;omega);refine go ?_;refine ret (⟨_,s3⟩:au × N4) ⟨?_,h3.mono EY⟩ rfl;show (⟨#[117,112,32]⟩++t:au).size<=100;rw [aN];show 3+_<=100;omega
 ·refine go ?_;apply wO;apply oc;rfl;exact Hh rfl rfl (by show 5+_<=9223372036854775807;omega);refine go ?_;refine ret (⟨_,s3⟩:au × N4) ⟨?_,h3.mono EY⟩ rfl;show (⟨#[108,111,115,101,32]⟩++t:au).size<=100;rw [aN];show 5+_<=100;omega
 ·refine go ?_;apply wO;apply oc;rfl;exact Hh rfl rfl (by show 4+_<=9223372036854775807;omega);refine go ?_;refine ret (⟨_,s3⟩:au × N4) ⟨?_,h3.mono EY⟩ rfl;show (⟨#[99,117,116,32]⟩++t:au).size<=100;rw [aN];show 4+_<=100;omega
 ·refine go ?_;apply wO;apply oc;rfl;exact Hh rfl rfl JP;refine go ?_;refine ret (⟨_,s3⟩:au × N4) ⟨?_,h3.mono EY⟩ rfl;show (⟨#[97,119,97,105,116,32]⟩++t:au).size<=100;rw [aN];show 6+_<=100;omega
 ·refine go ?_;apply wO;apply oc;rfl;exact Hh rfl rfl JP;refine go ?_;refine ret (⟨_,s3⟩:au × N4) ⟨?_,h3.mono EY⟩ rfl;show (⟨#[115,108,111,116,115,32]⟩++t:au).size<=100;rw [aN];show 6+_<=100;omega
 ·refine Cr x.Bh.Ab.Aa (a1:=a2) ?_;refine go ?_;apply wO;apply oc;rfl;exact Hh rfl rfl JP;refine go ?_;apply wO;apply oc;rfl;exact Hh rfl rfl (by rw [aN];show 6+_+1<=9223372036854775807;omega);refine go ?_;refine Be (Aj4 _ g F s3 x.Bh.Ab.Aa _ F2 h3 EY hc.hi) fun q hq=>?_;obtain ⟨m,s4⟩:=q;obtain ⟨hm,h4⟩:=hq;dsimp only at hm h4 ⊢;have hz:=Adz hm.1 hm.2;refine go ?_;refine cb (fun w2 st=>Ww m EY EY w2) ?_;refine go ?_
  apply wO;apply oc;rfl;exact Hh rfl rfl (by rw [aN,aN];show 6+_+1+_<=9223372036854775807;omega);refine go ?_;refine ret (⟨_,s4⟩:au × N4) ⟨?_,h4.mono EY⟩ rfl;show (⟨#[102,97,99,101,115,32]⟩++t++⟨#[32]⟩++bz (Lib.itoa m):au).size<=100;rw [aN,aN,aN];show 6+_+1+_<=100;omega
 ·refine Hy ?_;intros;refine Dy (xs:=[⟨#[116,105,99,107]⟩,⟨#[100,114,97,105,110]⟩]) (fun w=>Q3 w _ EZ) ?_ EZ;refine Av (E:=A9) fun G2=>?_;refine go ?_;refine Be (Afl _ _ F _ [⟨#[116,105,99,107]⟩,⟨#[100,114,97,105,110]⟩] _ s3 h3 EY EZ EZ) fun q hq=>?_;obtain ⟨u,s4⟩:=q;obtain ⟨hq,h4⟩:=hq;dsimp only at hq h4 ⊢;have hu:u.size<=20:=(by decide:∀y∈([⟨#[116,105,99,107]⟩,⟨#[100,114,97,105,110]⟩]:ai),y.size<=20) u hq;refine go ?_;refine ret (⟨u,s4⟩:au × N4) ⟨by show u.size<=100;omega,h4.mono EY⟩ rfl
 ·refine Hy ?_;intros;refine Dy (xs:=[⟨#[115,101,110,100]⟩,⟨#[116,105,99,107]⟩,⟨#[100,114,97,105,110]⟩,⟨#[108,101,97,100]⟩,⟨#[113,117,101,117,101,100]⟩,⟨#[115,101,116,116,108,101,100]⟩,⟨#[]⟩,⟨#[119,104,97,116]⟩,⟨#[100,111,119,110]⟩,⟨#[100,111,119,110,32,120]⟩,⟨#[115,101,110,100,32,97,32,98]⟩,⟨#[102,97,99,101,115,32,49]⟩,⟨#[102,97,99,101,115,32,49,32,50,32,51]⟩,⟨#[97,64,98]⟩,⟨#[115,101,110,100,32]⟩]) (fun w=>Q3 w _ EZ) ?_ EZ;refine Av (E:=A9) fun G2=>?_;refine go ?_
  refine Be (Afl _ _ F _ [⟨#[115,101,110,100]⟩,⟨#[116,105,99,107]⟩,⟨#[100,114,97,105,110]⟩,⟨#[108,101,97,100]⟩,⟨#[113,117,101,117,101,100]⟩,⟨#[115,101,116,116,108,101,100]⟩,⟨#[]⟩,⟨#[119,104,97,116]⟩,⟨#[100,111,119,110]⟩,⟨#[100,111,119,110,32,120]⟩,⟨#[115,101,110,100,32,97,32,98]⟩,⟨#[102,97,99,101,115,32,49]⟩,⟨#[102,97,99,101,115,32,49,32,50,32,51]⟩,⟨#[97,64,98]⟩,⟨#[115,101,110,100,32]⟩] _ s3 h3 EY EZ EZ) fun q hq=>?_;obtain ⟨u,s4⟩:=q;obtain ⟨hq,h4⟩:=hq;dsimp only at hq h4 ⊢
  exact AL
 ·refine Hy ?_;intros;refine Dy (xs:=[⟨#[115,101,110,100]⟩,⟨#[116,105,99,107]⟩,⟨#[100,114,97,105,110]⟩,⟨#[108,101,97,100]⟩,⟨#[113,117,101,117,101,100]⟩,⟨#[115,101,116,116,108,101,100]⟩,⟨#[]⟩,⟨#[119,104,97,116]⟩,⟨#[100,111,119,110]⟩,⟨#[100,111,119,110,32,120]⟩,⟨#[115,101,110,100,32,97,32,98]⟩,⟨#[102,97,99,101,115,32,49]⟩,⟨#[102,97,99,101,115,32,49,32,50,32,51]⟩,⟨#[97,64,98]⟩,⟨#[115,101,110,100,32]⟩]) (fun w=>Q3 w _ EZ) ?_ EZ;refine Av (E:=A9) fun G2=>?_;refine go ?_
  refine Be (Afl _ _ F _ [⟨#[115,101,110,100]⟩,⟨#[116,105,99,107]⟩,⟨#[100,114,97,105,110]⟩,⟨#[108,101,97,100]⟩,⟨#[113,117,101,117,101,100]⟩,⟨#[115,101,116,116,108,101,100]⟩,⟨#[]⟩,⟨#[119,104,97,116]⟩,⟨#[100,111,119,110]⟩,⟨#[100,111,119,110,32,120]⟩,⟨#[115,101,110,100,32,97,32,98]⟩,⟨#[102,97,99,101,115,32,49]⟩,⟨#[102,97,99,101,115,32,49,32,50,32,51]⟩,⟨#[97,64,98]⟩,⟨#[115,101,110,100,32]⟩] _ s3 h3 EY EZ EZ) fun q hq=>?_;obtain ⟨u,s4⟩:=q;obtain ⟨hq,h4⟩:=hq;dsimp only at hq h4 ⊢
  exact AL
def Xs (n:Dx) (w:Bs) (k:Int):Option NR:=if Qw w≠0 then Km n ⟨Qw w,k,⟨#[]⟩⟩ else Qs n (Ke n w [k])
def Ajg {n:Dx} {w:Bs} {l:ar} (h:Ff 1 (l.getD 0 0) ((n.Ap.Ad.length:Int) - 1)=false):Ke n w l=none:=by unfold Ke;rw [h];rfl
def Atu {n:Dx} {w:Bs} {k:Int} (h:Ff 1 k ((n.Ap.Ad.length:Int) - 1)=true):Ke n w [k] =
  if w=Ais/\T7 n k=true then some (Vt ((Qt n k.toNat).An.map (·.Ae)))
  else if w=Aiu/\T7 n k=true/\(Qt n k.toNat).Bg=true then some (Aaf (Qt n k.toNat).Aa)
  else none:=by
 rw [Vb (l:=[k]) h];by_cases h1:w=Ais/\T7 n k=true
 ·rw [aH h1,aH ⟨h1.1,rfl,h1.2⟩];rfl
 rw [aC h1,aC (fun e=>h1 ⟨e.1,e.2.2⟩)];by_cases h2:w=Aiu/\T7 n k=true/\(Qt n k.toNat).Bg=true
 ·rw [aH h2,aH ⟨h2.1,rfl,h2.2⟩];rfl
 rw [aC h2,aC (fun e=>h2 ⟨e.1,e.2.2⟩),aC (fun e=>by cases e.2.1)]
def Atv {n:Dx} {a b:Int} (h:Ff 1 a ((n.Ap.Ad.length:Int) - 1)=true):Ke n Ny [a,b] =
  if T7 n a=false then (if Cd b then some (Vt (Lo (Qf n a.toNat) b)) else none) else none:=by
 rw [Vb (l:=[a,b]) h,aC (fun e=>by cases e.2.1),aC (fun e=>by cases e.2.1)];by_cases h1:T7 n a=false
 ·rw [aH h1,aH ⟨rfl,rfl,h1⟩];rfl
 ·rw [aC h1,aC (fun e=>h1 e.2.2)]
def Anl {n:Dx} {w:Bs} {l:ar} (h:1 < l.length) (h2:¬(w=Ny/\l.length=2)):Ke n w l=none:=by
 unfold Ke
 split
 ·rw [aC (fun e=>by omega),aC (fun e=>by omega),aC (fun e=>h2 ⟨e.1,e.2.1⟩)]
 ·rfl
def Au9 (x:Cj) (w:au) (k:Int) (v:Value) (F FT:aq) (hg:At x.Bh=true):FV 133 [v,af w,aa k] [.isv Ec v x F,Ga FT] (af ((Ke x.Bh w.data.toList [k]).getD ⟨#[63]⟩)):=by
 refine enter func133 rfl ntmps133 fun w0=>?_;refine B9 ?_;rintro a1 c1 F1 a2 c2 F2 a3 c3 F3 a4 c4 F4 a5 c5 F5 a6 c6 F6 a7 c7 F7 rfl s1 s2 l1 l2 l3 l4 l5 l6 l7;refine Jm x.Bh.Ap (a1:=a1) ?_;obtain ⟨e1,e2,e3,e4⟩:=If hg;obtain ⟨q2,q8,qn,qu,qe,qt⟩:=Nr hg;have hG:=Ax.1 hg;obtain ⟨-,qr, -, -⟩:=Bn.1 hG.l;refine go ?_;intros;refine ce (fun w s=>Kq _ _ _ _) ?_;rw [show (x.Bh.Ac.length:Int)=(x.Bh.Ap.Ad.length:Int) by rw [qr]];cases hb:Ff 1 k ((x.Bh.Ap.Ad.length:Int) - 1)
 ·rw [Ajg (l:=[k]) hb];exact AA
 have hb0:=hb;unfold Ff at hb0;simp only [aw,aF] at hb0;rw [Atu hb];obtain ⟨i,rfl⟩:∃i:Nat,k=(i:Int):=⟨k.toNat,EY⟩;have h5:i < x.Bh.Ac.length:=EY
 have er:Qt x.Bh ((i:Int)).toNat=x.Bh.Ac[i]:=by rw [ba];exact Hf h5
 rw [er];have hR:=El.1 (e2 _ (aB h5));refine go ?_;refine Be (Ot x.Bh.Ap (i:Int) _ F1 (Hl hG.t) EY) fun _ _=>?_;have hLN:T7 x.Bh (i:Int)=Et x.Bh.Ap.Ad (i:Int):=rfl;cases hlf:Et x.Bh.Ap.Ad (i:Int)
 ·rw [aC (fun e=>by rw [hLN,hlf] at e;cases e.2),aC (fun e=>by rw [hLN,hlf] at e;cases e.2.1)];exact AA
 rw [hLN,hlf];refine Jl (xs:=x.Bh.Ac) i ?_;rintro h5b b5 o5 a9 c9 F9 a10 c10 F10 e5 l9 l10;rw [e5];refine D5 x.Bh.Ac[i] ?_;refine go ?_;intros;refine Ay rfl (fun hw=>?_) (fun hw=>?_)
 ·rw [aH ⟨(D0.1 hw:w.data.toList=Ais),rfl⟩];refine go ?_;refine Be (Ai7 x.Bh.Ac[i] _ _) fun z _=>?_;obtain ⟨ra,rc,rF⟩:=z;dsimp only;rw [show Fb x.Bh.Ac[i]=(x.Bh.Ac[i].An.map (·.Ae),true) by unfold Fb;rw [e2 _ (aB h5)];rfl];dsimp only;refine Av (E:=Bc) (xs:=x.Bh.Ac[i].An.map (·.Ae)) fun F8=>?_;refine go ?_;have hN:∀f∈x.Bh.Ac[i].An.map (·.Ae),0<=f/\f<=99999:=fun f hf=>by
   obtain ⟨q,hq,rfl⟩:=bL.1 hf;have:=Ba.1 (Yv hR hq).1;omega
  have hL:(x.Bh.Ac[i].An.map (·.Ae)).length<=1000:=by rw [bf];have:=(Dj.1 hR.q).2.1;omega
  have hP:=Akh (x.Bh.Ac[i].An.map (·.Ae)) ra rc F8 hN hL;refine Be hP fun _ _=>?_;exact AA
 rw [aC (fun e=>hw (D0.2 e.1))];by_cases hw2:w=⟨#[115,108,111,116,115]⟩
 ·have hw3:w.data.toList=Aiu:=D0.1 hw2;refine go ?_;rw [show decide (w=⟨#[115,108,111,116,115]⟩)=true from av hw2];cases hst:x.Bh.Ac[i].Bg
  ·rw [aC (fun e=>by cases e.2.2)];exact AA
  rw [aH ⟨hw3,rfl,rfl⟩];refine Ch x.Bh.Ac[i].Aa (a1:=a9) ?_;refine go ?_;refine Be (Auv x.Bh.Ac[i].Aa _ F9 FT hR.w) fun _ _=>?_;exact AA
 ·rw [aC (fun e=>hw2 (D0.2 e.1))];refine go ?_;rw [show decide (w=⟨#[115,108,111,116,115]⟩)=false from ay hw2];exact AA
def Aq3 (x:Cj) (p q:Int) (v:Value) (F:aq) (hg:At x.Bh=true):FV 83 [v,aa p,aa q] [.isv Ec v x F] (af ((Ke x.Bh Ny [p,q]).getD ⟨#[63]⟩)):=by
 refine enter func83 rfl ntmps83 fun w0=>?_;refine B9 ?_;rintro a1 c1 F1 a2 c2 F2 a3 c3 F3 a4 c4 F4 a5 c5 F5 a6 c6 F6 a7 c7 F7 rfl s1 s2 l1 l2 l3 l4 l5 l6 l7;refine Jm x.Bh.Ap (a1:=a1) ?_;obtain ⟨e1,e2,e3,e4⟩:=If hg;obtain ⟨q2,q8,qn,qu,qe,qt⟩:=Nr hg;have hG:=Ax.1 hg;obtain ⟨-,qr, -, -⟩:=Bn.1 hG.l;refine go ?_;intros;refine ce (fun w s=>Kq _ _ _ _) ?_;rw [show (x.Bh.Af.length:Int)=(x.Bh.Ap.Ad.length:Int) by rw [qe]];cases hb:Ff 1 p ((x.Bh.Ap.Ad.length:Int) - 1)
 ·rw [Ajg (l:=[p,q]) hb];exact AA
 have hb0:=hb;unfold Ff at hb0;simp only [aw,aF] at hb0;rw [Atv hb];obtain ⟨i,rfl⟩:∃i:Nat,p=(i:Int):=⟨p.toNat,EY⟩;have hie:i < x.Bh.Af.length:=EY
 have er:Qf x.Bh ((i:Int)).toNat=x.Bh.Af[i]:=by rw [ba];exact J9 hie
 rw [er];refine go ?_;refine Be (Ot x.Bh.Ap (i:Int) _ F1 (Hl hG.t) EY) fun _ _=>?_;have hLN:T7 x.Bh (i:Int)=Et x.Bh.Ap.Ad (i:Int):=rfl;cases hlf:Et x.Bh.Ap.Ad (i:Int)
 rotate_left
 ·rw [hLN,hlf,aC EZ];exact AA
 rw [hLN,hlf,aH rfl];have hgE:=e1 _ (aB hie);have hfn:=Aju hgE q;refine Oo (xs:=x.Bh.Af) i ?_;rintro h5b b5 o5 a9 c9 F9 e5 l9;rw [e5];refine E5 x.Bh.Af[i] ?_;refine go ?_;refine Be (Aif x.Bh.Af[i] q _ _) fun z _=>?_;obtain ⟨fa,fc,fF⟩:=z;dsimp only;cases hs:Cd q
 ·rw [show Gc x.Bh.Af[i] q=([],false) by unfold Gc;rw [hs,bZ];rfl];exact AA
 rw [show Gc x.Bh.Af[i] q=(Lo x.Bh.Af[i] q,true) by unfold Gc;rw [hs,hgE];rfl] at hfn ⊢;dsimp only at hfn ⊢;refine Av (E:=Bc) (xs:=Lo x.Bh.Af[i] q) fun F8=>?_;refine go ?_;have hP:=Akh (Lo x.Bh.Af[i] q) fa fc F8 hfn.1 hfn.2;refine Be hP fun _ _=>?_;exact AA
def Ava (x:Cj) (w:au) (k:Int) (v:Value) (F FT:aq) (hg:At x.Bh=true):Fn prog 82 [v,af w,aa k] [.isv Ec v x F,Ga FT] [] (fun (_:U6)=>True) (fun u=>.tuple #[.agg u.cs.toArray,af (rsC x (Xs x.Bh w.data.toList k)).2]) (fun u=>[.isv Ec (.agg u.cs.toArray) (rsC x (Xs x.Bh w.data.toList k)).1 u.F]):=by
 refine enter func82 rfl ntmps82 fun w0=>?_;refine B9 ?_;rintro a1 c1 F1 a2 c2 F2 a3 c3 F3 a4 c4 F4 a5 c5 F5 a6 c6 F6 a7 c7 F7 rfl s1 s2 l1 l2 l3 l4 l5 l6 l7;refine E8 x.Bh (a1:=a1) (a2:=a2) (a3:=a3) (a4:=a4) (a5:=a5) (a6:=a6) (a7:=a7) ?_;refine go ?_;intros;refine Ay rfl (fun h1=>?_) (fun h1=>?_)
 ·rw [show Xs x.Bh w.data.toList k=Km x.Bh ⟨2,k,⟨#[]⟩⟩ by rw [(D0.1 h1:w.data.toList=_)];rfl];have hP:=fun v F=>Q5 x ⟨2,k,⟨#[]⟩⟩ true v F FT hg (aD _) (by show _=decide ((2:Int)=2\/(2:Int)=4);decide);generalize rsC x (Km x.Bh ⟨2,k,⟨#[]⟩⟩)=R at hP ⊢;refine go ?_;refine Be (hP _ _) fun u _=>?_;refine B9 (x:=R.1) ?_;rintro f1 t1 G1 f2 t2 G2 f3 t3 G3 f4 t4 G4 f5 t5 G5 f6 t6 G6 f7 t7 G7 ez s3 s4 - - - - - - -;rw [ez];refine go ?_;refine Cg R.1 s3 s4 (a1:=f1) (c1:=t1) (a2:=f2) (c2:=t2) (a3:=f3) (c3:=t3) (a4:=f4) (c4:=t4) (a5:=f5) (c5:=t5) (a6:=f6) (c6:=t6) (a7:=f7) (c7:=t7) ?_
  exact AF
 refine go ?_;refine Ay rfl (fun h2=>?_) (fun h2=>?_)
 ·rw [show Xs x.Bh w.data.toList k=Km x.Bh ⟨5,k,⟨#[]⟩⟩ by rw [(D0.1 h2:w.data.toList=_)];rfl];have hP:=fun v F=>Q5 x ⟨5,k,⟨#[]⟩⟩ false v F FT hg (aD _) (by show _=decide ((5:Int)=2\/(5:Int)=4);decide);generalize rsC x (Km x.Bh ⟨5,k,⟨#[]⟩⟩)=R at hP ⊢;refine go ?_;refine Be (hP _ _) fun u _=>?_;refine B9 (x:=R.1) ?_;rintro f1 t1 G1 f2 t2 G2 f3 t3 G3 f4 t4 G4 f5 t5 G5 f6 t6 G6 f7 t7 G7 ez s3 s4 - - - - - - -;rw [ez];refine go ?_;refine Cg R.1 s3 s4 (a1:=f1) (c1:=t1) (a2:=f2) (c2:=t2) (a3:=f3) (c3:=t3) (a4:=f4) (c4:=t4) (a5:=f5) (c5:=t5) (a6:=f6) (c6:=t6) (a7:=f7) (c7:=t7) ?_
  exact AF
 refine go ?_;refine Ay rfl (fun h3=>?_) (fun h3=>?_)
 ·rw [show Xs x.Bh w.data.toList k=Km x.Bh ⟨3,k,⟨#[]⟩⟩ by rw [(D0.1 h3:w.data.toList=_)];rfl];have hP:=fun v F=>Q5 x ⟨3,k,⟨#[]⟩⟩ false v F FT hg (aD _) (by show _=decide ((3:Int)=2\/(3:Int)=4);decide);generalize rsC x (Km x.Bh ⟨3,k,⟨#[]⟩⟩)=R at hP ⊢;refine go ?_;refine Be (hP _ _) fun u _=>?_;refine B9 (x:=R.1) ?_;rintro f1 t1 G1 f2 t2 G2 f3 t3 G3 f4 t4 G4 f5 t5 G5 f6 t6 G6 f7 t7 G7 ez s3 s4 - - - - - - -;rw [ez];refine go ?_;refine Cg R.1 s3 s4 (a1:=f1) (c1:=t1) (a2:=f2) (c2:=t2) (a3:=f3) (c3:=t3) (a4:=f4) (c4:=t4) (a5:=f5) (c5:=t5) (a6:=f6) (c6:=t6) (a7:=f7) (c7:=t7) ?_
  exact AF
 refine go ?_;refine Ay rfl (fun h4=>?_) (fun h4=>?_)
 ·rw [show Xs x.Bh w.data.toList k=Km x.Bh ⟨6,k,⟨#[]⟩⟩ by rw [(D0.1 h4:w.data.toList=_)];rfl];have hP:=fun v F=>Q5 x ⟨6,k,⟨#[]⟩⟩ false v F FT hg (aD _) (by show _=decide ((6:Int)=2\/(6:Int)=4);decide);generalize rsC x (Km x.Bh ⟨6,k,⟨#[]⟩⟩)=R at hP ⊢;refine go ?_;refine Be (hP _ _) fun u _=>?_;refine B9 (x:=R.1) ?_;rintro f1 t1 G1 f2 t2 G2 f3 t3 G3 f4 t4 G4 f5 t5 G5 f6 t6 G6 f7 t7 G7 ez s3 s4 - - - - - - -;rw [ez];refine go ?_;refine Cg R.1 s3 s4 (a1:=f1) (c1:=t1) (a2:=f2) (c2:=t2) (a3:=f3) (c3:=t3) (a4:=f4) (c4:=t4) (a5:=f5) (c5:=t5) (a6:=f6) (c6:=t6) (a7:=f7) (c7:=t7) ?_
  exact AF
 have eN:Xs x.Bh w.data.toList k=Qs x.Bh (Ke x.Bh w.data.toList [k]):=by
  unfold Xs Qw;rw [aC (show ¬w.data.toList=Apx from fun e=>h1 (D0.2 e)),aC (show ¬w.data.toList=wUp from fun e=>h2 (D0.2 e)),aC (show ¬w.data.toList=Apy from fun e=>h3 (D0.2 e)),aC (show ¬w.data.toList=Bbn from fun e=>h4 (D0.2 e))];rfl
 rw [eN,Ah7];refine Hy ?_;intros;refine Ar [1] [] ?_;refine C4 0 1 2 3 ?_;refine dN 4 ?_;refine oC ?_;refine Be (Au9 x w k _ _ FT hg) fun _ _=>?_;refine dk ?_;refine dN 5 ?_;refine oS ?_;refine dk ?_;refine dt 6 ?_;refine dd ?_;exact DM
def Amf {n:Dx} {line:au} {ws:ai} (hW:wsL ws=Gh line) (h0:1 < ws.length):Pm n line=match Jf (wsL ws) with
  | some s=>Km n s
  | none=>if R7 (ws.drop 1) then Qs n (Ke n (ws[0]).data.toList (Kj (ws.drop 1))) else none:=by
 have hl:(wsL ws).length=ws.length:=by unfold wsL;rw [bf]
 have hd:¬line.data.toList=Xh:=fun e=>by
  have h2:Gh line=[Xh]:=by unfold Gh;rw [e];rfl
  rw [<-hW] at h2;rw [h2] at hl;simp at hl;omega
 have hdr:((wsL ws).drop 1).map bz=ws.drop 1:=by
  unfold wsL;rw [<-List.map_drop,eZ];exact (dX fun x _=>Vd x).trans (f9 _)
 unfold Pm;rw [<-hW];cases Jf (wsL ws) with
 | some s=>rfl
 | none =>
  dsimp only;rw [aC hd,aC EY,hdr,show atW (wsL ws) 0=(ws[0]).data.toList from Sx EY]
def Bag {n:Dx} {line:au} {ws:ai} (hW:wsL ws=Gh line) (h1:1 < ws.length) (h:(ws[0]'EY)=⟨#[115,101,110,100]⟩) (hn:ws.length=2) (he:¬ws[1]=⟨#[]⟩):Pm n line=Km n ⟨1,0,ws[1]⟩:=by
 rw [Amf hW h1,Afa h1 h hn he]
def Bae {n:Dx} {line:au} {ws:ai} (hW:wsL ws=Gh line) (h:3 < ws.length):Pm n line=none:=by
 rw [Amf hW EY,Yz EY (fun _ e=>by omega) EY];dsimp only
 split
 ·rw [Anl (by unfold Kj;rw [bf,aX];omega) (fun e=>by have:=e.2;unfold Kj at this;rw [bf,aX] at this;omega)];rfl
 ·rfl
def As5 {n:Dx} {line:au} {ws:ai} (hW:wsL ws=Gh line) (h1:1 < ws.length) (hn:ws.length=2) (hs:¬((ws[0]'EY)=⟨#[115,101,110,100]⟩/\¬ws[1]=⟨#[]⟩)):Pm n line=if (C5 ws[1]).2=true then Xs n (ws[0]'EY).data.toList (C5 ws[1]).1 else none:=by
 rw [Amf hW h1,Ak3 h1 hn hs]
 match ws,hn with
 | [a,b],_ =>
  show (match (if Qw a.data.toList≠0/\(C5 b).2=true then some (⟨Qw a.data.toList,(C5 b).1,⟨#[]⟩⟩:Js) else none) with
   | some s=>Km n s
   | none=>if R7 [b] then Qs n (Ke n a.data.toList (Kj [b])) else none)=if (C5 b).2=true then Xs n a.data.toList (C5 b).1 else none
  have ho:R7 [b]=(C5 b).2:=by unfold R7;simp
  have hv:Kj [b]=[(C5 b).1]:=rfl;rw [ho,hv];unfold Xs;by_cases hk:Qw a.data.toList≠0
  ·cases hp:(C5 b).2
   ·rw [aC (fun e=>by cases e.2)];rfl
   ·rw [aH ⟨hk,rfl⟩,aH hk];rfl
  ·rw [aC (fun e=>hk e.1),aC hk]
def Aky {n:Dx} {line:au} {ws:ai} (hW:wsL ws=Gh line) (h1:1 < ws.length) (h2:2 < ws.length) (hn:ws.length=3):Pm n line=if (C5 ws[1]).2=true/\(C5 ws[2]).2=true/\(ws[0]'EY).data.toList=Ny then Qs n (Ke n Ny [(C5 ws[1]).1,(C5 ws[2]).1]) else none:=by
 rw [Amf hW h1,Yz EY (fun _ e=>by omega) EY]
 match ws,hn with
 | [a,b,c],_ =>
  show (if R7 [b,c] then Qs n (Ke n a.data.toList (Kj [b,c])) else none)=if (C5 b).2=true/\(C5 c).2=true/\a.data.toList=Ny then Qs n (Ke n Ny [(C5 b).1,(C5 c).1]) else none
  have ho:R7 [b,c]=((C5 b).2 && (C5 c).2):=by unfold R7;simp
  have hv:Kj [b,c]=[(C5 b).1,(C5 c).1]:=rfl;rw [ho,hv];by_cases hf:a.data.toList=Ny
  ·rw [hf];cases (C5 b).2
   ·rw [aC (show ¬(false=true/\(C5 c).2=true/\Ny=Ny) from fun e=>by cases e.1)];rfl
   cases (C5 c).2
   ·rw [aC (show ¬(true=true/\false=true/\Ny=Ny) from fun e=>by cases e.2.1)];rfl
   rw [aH (show true=true/\true=true/\Ny=Ny from ⟨rfl,rfl,rfl⟩)];rfl
  ·rw [aC (show ¬((C5 b).2=true/\(C5 c).2=true/\a.data.toList=Ny) from fun e=>hf e.2.2),Anl FA (fun e=>hf e.1)];cases (C5 b).2 <;> cases (C5 c).2 <;> rfl
def Yw (s:au) (hs:s.size<=1000000000):FV 81 [af s] [] (.tuple #[aa (C5 s).1,.bool (C5 s).2]):=by
 refine enter func81 rfl ntmps81 fun w0=>?_;refine go ?_;refine Be (Ayu s hs) fun _ _=>?_;exact AA
def Ayx (x:Cj) (line:au) (v:Value) (F FT:aq) (hg:At x.Bh=true) (hl:line.size<=900):Fn prog 45 [v,af line] [.isv Ec v x F,Ga FT] [] (fun (_:U6)=>True) (fun u=>.tuple #[.agg u.cs.toArray,af (rsC x (Pm x.Bh line)).2]) (fun u=>[.isv Ec (.agg u.cs.toArray) (rsC x (Pm x.Bh line)).1 u.F]):=by
 obtain ⟨hw0,hwl,hws⟩:=Ald line;refine enter func45 rfl ntmps45 fun w0=>?_;refine B9 ?_;rintro a1 c1 F1 a2 c2 F2 a3 c3 F3 a4 c4 F4 a5 c5 F5 a6 c6 F6 a7 c7 F7 rfl s1 s2 l1 l2 l3 l4 l5 l6 l7;refine E8 x.Bh (a1:=a1) (a2:=a2) (a3:=a3) (a4:=a4) (a5:=a5) (a6:=a6) (a7:=a7) ?_;refine go ?_;intros;refine Be (Adr line 32 EY) fun q _=>?_;obtain ⟨qa,qc,qF⟩:=q;dsimp only;rw [show (Ds 32 line.data.toList).map bz=U5 line from rfl];generalize hwd:U5 line=ws at *;have hWL:wsL ws=Gh line:=by rw [<-hwd];exact Ale line
 refine Av (E:=A9) (xs:=ws) fun F8=>?_;refine go ?_;refine Ay rfl (fun h1=>?_) (fun h1=>?_)
 ·have hr:=Bah (n:=x.Bh) (line:=line) (by rw [<-hWL];unfold wsL;rw [bf];omega);rw [hr];have hP:=fun v F=>Avb x line v F FT hg;generalize rsC x (Wa x.Bh line)=R at hP ⊢;refine go ?_;refine Be (hP _ _) fun u _=>?_;refine B9 (x:=R.1) ?_;rintro f1 t1 G1 f2 t2 G2 f3 t3 G3 f4 t4 G4 f5 t5 G5 f6 t6 G6 f7 t7 G7 ez s3 s4 - - - - - - -;rw [ez];refine go ?_;exact BB
 have hi1:1 < ws.length:=EY
 have hs1:=hws _ (aB hi1);refine Me (xs:=ws) 0 ?_;rintro hi0 b0 o0 rfl s0;refine Me (xs:=ws) 1 ?_;rintro - b1 o1 e9 s9;cases e9;apply Pg;refine Dv [2,4,5,6,7] [0,1,2,3,4,5,6,7,8,9,10,11,12,13,14] (fun b:Bool=>[(24,.bool b)]) (fun _=>[]) (fun b=>b=decide (ws[0]=⟨#[115,101,110,100]⟩/\ws.length=2/\¬ws[1]=⟨#[]⟩)) ?_ fun b hb9=>?_
 ·by_cases hs:ws[0]=⟨#[115,101,110,100]⟩
  ·refine go ?_;rw [show decide (ws[0]=⟨#[115,101,110,100]⟩)=true from av hs];refine go ?_;by_cases hn:ws.length=2
   ·rw [show decide ((ws.length:Int)=2)=true from av EY];refine go ?_;refine Bk (decide (¬ws[1]=⟨#[]⟩)) ?_;simp [hs,hn]
   ·rw [show decide ((ws.length:Int)=2)=false from ay EY];refine go ?_;refine Bk false ?_;simp [hn]
  ·refine go ?_;rw [show decide (ws[0]=⟨#[115,101,110,100]⟩)=false from ay hs];refine go ?_;refine Bk false ?_;simp [hs]
 subst hb9;by_cases hc:ws[0]=⟨#[115,101,110,100]⟩/\ws.length=2/\¬ws[1]=⟨#[]⟩
 ·rw [av hc];rw [Bag hWL hi1 hc.1 hc.2.1 hc.2.2];have hP:=fun v F=>Q5 x ⟨1,0,ws[1]⟩ false v F FT hg (show (ws[1]).size<=maxLen by unfold maxLen;omega) (by show _=decide ((1:Int)=2\/(1:Int)=4);decide);generalize rsC x (Km x.Bh ⟨1,0,ws[1]⟩)=R at hP ⊢;refine Hy ?_;intros;refine Ar [0,4] [] ?_;refine C4 0 1 2 3 ?_;refine dt 4 ?_;refine dN 5 ?_;refine oC ?_;refine Be (hP _ _) fun u _=>?_;refine B9 (x:=R.1) ?_;rintro f1 t1 G1 f2 t2 G2 f3 t3 G3 f4 t4 G4 f5 t5 G5 f6 t6 G6 f7 t7 G7 ez s3 s4 - - - - - - -;rw [ez];refine dk ?_;refine Dh 6 7 ?_;refine dN 8 ?_;refine oS ?_;refine dk ?_
  refine dt 9 ?_;refine dd ?_;refine go ?_;exact BB
 rw [ay hc];refine go ?_;refine Ay rfl (fun h3=>?_) (fun h3=>?_)
 ·rw [Bae hWL EY];exact DM
 refine go ?_;refine Be (Yw ws[1] EY) fun _ _=>?_;cases hp:(C5 ws[1]).2
 ·have hr:Pm x.Bh line=none:=by
   by_cases hn:ws.length=2
   ·rw [As5 hWL hi1 hn (fun e=>hc ⟨e.1,hn,e.2⟩),hp];rfl
   ·rw [Aky hWL hi1 EY EY,hp,aC (fun e=>by cases e.1)]
  rw [hr];exact DM
 refine go ?_;refine Ay rfl (fun h2=>?_) (fun h2=>?_)
 ·have hn:ws.length=2:=EY
  rw [As5 hWL hi1 hn (fun e=>hc ⟨e.1,hn,e.2⟩),hp,aH rfl];have hP:=fun v F=>Ava x ws[0] (C5 ws[1]).1 v F FT hg;generalize rsC x (Xs x.Bh (ws[0]).data.toList (C5 ws[1]).1)=R at hP ⊢;refine Hy ?_;intros;refine Ar [1,4] [] ?_;refine C4 0 1 2 3 ?_;refine dt 4 ?_;refine dN 5 ?_;refine oC ?_;refine Be (hP _ _) fun u _=>?_;refine B9 (x:=R.1) ?_;rintro f1 t1 G1 f2 t2 G2 f3 t3 G3 f4 t4 G4 f5 t5 G5 f6 t6 G6 f7 t7 G7 ez s3 s4 - - - - - - -;rw [ez];refine dk ?_;refine Dh 6 7 ?_;refine dN 8 ?_;refine oS ?_;refine dk ?_;refine dt 9 ?_;refine dd ?_;refine go ?_
  exact BB
 have hn:ws.length=3:=EY
 have hi2:2 < ws.length:=EY
 have hs2:=hws _ (aB hi2);rw [Aky hWL hi1 hi2 hn,hp];refine Me (xs:=ws) 2 ?_;rintro - b2 o2 e9 s8;cases e9;refine go ?_;refine Be (Yw ws[2] EY) fun _ _=>?_;cases hp2:(C5 ws[2]).2
 ·rw [aC (fun e=>by cases e.2.1)];exact DM
 by_cases hf:ws[0]=⟨#[102,97,99,101,115]⟩
 ·rw [aH ⟨rfl,rfl,(D0.1 hf:(ws[0]).data.toList=Ny)⟩,Ah7];refine go ?_;rw [show decide (¬ws[0]=⟨#[102,97,99,101,115]⟩)=false from ay (fun h=>h hf)];refine Hy ?_;intros;refine Ar [5] [] ?_;refine C4 0 1 2 3 ?_;refine dN 4 ?_;refine oC ?_;refine Be (Aq3 x (C5 ws[1]).1 (C5 ws[2]).1 _ _ hg) fun _ _=>?_;refine dk ?_;refine dN 5 ?_;refine oS ?_;refine dk ?_;refine dt 6 ?_;refine dd ?_;exact DM
 ·rw [aC (fun e=>hf (D0.2 e.2.2))];refine go ?_;rw [show decide (¬ws[0]=⟨#[102,97,99,101,115]⟩)=true from av hf];exact DM
def Bd4 {x:Cj} {line:au}:rsC x (Pm x.Bh line)=(⟨Hz x.Bh line,x.Gm⟩,Qo x.Bh line):=by
 unfold rsC Hz Qo;cases Pm x.Bh line <;> rfl
def Av8 (l:Log) (line Fv:au) (w:World) (hv:E4 l.Bd.data.toList l.pending.data.toList l.count=true) (hc:¬l.count=60) (hr:Lg.Bw line Fv=true) (hz:l.Bd.size+l.pending.size<=30000) (h1:line.size<=160) (h2:Fv.size<=200) :
  Calls prog 23 #[.agg #[af l.Bd,af l.pending,aa l.count],.agg #[af line,af Fv]] w (RB (.tuple #[.agg #[af (Sp l line Fv).Bd,af (Sp l line Fv).pending,aa (Sp l line Fv).count],aa 0]) w):=by
 have hcn:=Lg.Uv hv;obtain ⟨k,hk⟩:∃k:Nat,l.count=k:=⟨l.count.toNat,EY⟩;have h:=(Ak1 l.Bd l.pending line Fv k (by rw [<-hk];exact hv) EY hr hz h1 h2).val w nofun;rw [<-hk] at h;unfold Sp;rw [show k=l.count.toNat by omega] at h;exact h
def Om (x:Cj) (line:au) (v:Value) (F FT:aq) (hs:Q0 x.Bh) (hz:x.Gm.Bd.size+x.Gm.pending.size<=1048576) (hl:line.size<=maxLen):Fn prog 20 [v,af line] [.isv Ec v x F,Ga FT] [] (fun (_:U6)=>True) (fun u=>.tuple #[.agg u.cs.toArray,af (Ia x line).2]) (fun u=>[.isv Ec (.agg u.cs.toArray) (Ia x line).1 u.F]):=by
 refine enter func20 rfl ntmps20 fun w0=>?_;refine B9 ?_;rintro a1 c1 F1 a2 c2 F2 a3 c3 F3 a4 c4 F4 a5 c5 F5 a6 c6 F6 a7 c7 F7 rfl s1 s2 l1 l2 l3 l4 l5 l6 l7;refine E8 x.Bh (a1:=a1) (a2:=a2) (a3:=a3) (a4:=a4) (a5:=a5) (a6:=a6) (a7:=a7) ?_;refine go ?_;intros;refine Be (Aog x _ F hs) fun u0 _=>?_;refine B9 (x:=x) ?_;rintro f1 t1 G1 f2 t2 G2 f3 t3 G3 f4 t4 G4 f5 t5 G5 f6 t6 G6 f7 t7 G7 ez - - - - - - - - -;rw [ez];refine go ?_;intros;refine Be (Akg x _ F hz) fun _ _=>?_;unfold Ia;cases hg:Eo x
 ·rw [aC EZ];exact BM
 rw [aH rfl];have hgn:At x.Bh=true:=JJ
 have hgl:E4 x.Gm.Bd.data.toList x.Gm.pending.data.toList x.Gm.count=true:=by unfold Eo at hg;rw [aw] at hg;exact hg.2
 have hsz:=Sy hg;refine go ?_;refine cb (fun w st=>Lg.To line ⟨#[]⟩ w hl (aD _)) ?_;rw [show Lg.Bw line ⟨#[]⟩=Pu line from rfl];cases h1:Pu line
 ·have e:Mg x line=(x,bz Bej):=by unfold Mg;rw [h1];rfl
  rw [e];exact BM
 refine go ?_;refine Ay rfl (fun h2=>?_) (fun h2=>?_)
 ·have e:Mg x line=(x,bz Ate):=by unfold Mg;rw [h1,aH rfl,aH h2]
  rw [e];exact BM
 have hlz:line.size<=160:=by
  have h:=h1;unfold Pu Lg.Bw Ff at h;simp only [aw,aF] at h;have:=h.1.1.1.1.2;omega
 rw [Alv ⟨h1,h2⟩];have ht:=Als (Ame (line:=line) hgn);have hgr:=Wl h1 ht.1 ht.2;have hgm:=Akx (line:=line) hgn;refine Cg x s1 s2 (a1:=f1) (c1:=t1) (a2:=f2) (c2:=t2) (a3:=f3) (c3:=t3) (a4:=f4) (c4:=t4) (a5:=f5) (c5:=t5) (a6:=f6) (c6:=t6) (a7:=f7) (c7:=t7) ?_;refine go ?_;refine Be (Ayx x line _ _ FT hgn EY) fun u _=>?_;rw [Bd4];dsimp only;refine B9 (x:=(⟨Hz x.Bh line,x.Gm⟩:Cj)) ?_;rintro g1 u1 K1 g2 u2 K2 g3 u3 K3 g4 u4 K4 g5 u5 K5 g6 u6 K6 g7 u7 K7 ez - - - - - - - - -;rw [ez];refine go ?_;intros;refine Be (Aog ⟨Hz x.Bh line,x.Gm⟩ _ _ (Ku hgm)) fun u1 _=>?_
 refine B9 (x:=(⟨Hz x.Bh line,x.Gm⟩:Cj)) ?_;rintro b1 d1 L1 b2 d2 L2 b3 d3 L3 b4 d4 L4 b5 d5 L5 b6 d6 L6 b7 d7 L7 ez - - - - - - - - -;rw [ez];refine go ?_;refine Dv [1,2,4,5,6] [0,1,2,3,4,5,6,18,27,28,37,38] (fun _:Unit=>[(8,af (Sh (Qo x.Bh line)))]) (fun _=>[]) (fun _=>True) ?_ fun _ _=>?_
 ·refine Ay rfl (fun h5=>?_) (fun h5=>?_)
  ·have e:Sh (Qo x.Bh line)=bz Bbo:=by unfold Sh;rw [aH EY]
   rw [e];exact CO
  ·have e:Sh (Qo x.Bh line)=Qo x.Bh line:=by unfold Sh;rw [aC EY]
   rw [e];exact CO
 refine go ?_;refine cb (fun w st=>Av8 x.Gm line (Sh (Qo x.Bh line)) w hgl h2 hgr hsz hlz ht.2) ?_;have hcg:=Sy (Ru (line:=line) hg);rw [Alv ⟨h1,h2⟩] at hcg;dsimp only at hcg;refine go ?_;refine Cg (⟨Hz x.Bh line,Sp x.Gm line (Sh (Qo x.Bh line))⟩:Cj) (show (Sp x.Gm line (Sh (Qo x.Bh line))).Bd.size<=maxLen by unfold maxLen;omega) (show (Sp x.Gm line (Sh (Qo x.Bh line))).pending.size<=maxLen by unfold maxLen;omega) (a1:=b1) (c1:=d1) (a2:=b2) (c2:=d2) (a3:=b3) (c3:=d3) (a4:=b4) (c4:=d4) (a5:=b5) (c5:=d5) (a6:=b6) (c6:=d6) (a7:=b7) (c7:=d7) ?_;exact AF
def Zg {c:Cj} {l:au} (hg:Eo c=true):Ia c l=Mg c l:=by unfold Ia;rw [hg,aH rfl]
def Oc {c:Cj} (hg:Eo c=true):At c.Bh=true:=JJ
structure CnD where
 x:Cj
 cs:am
 F:aq
 i:Nat
 s:N4
structure Biw (B:Nat) (z:CnD):Prop where
 k:Ajd z.x.Bh
 n:Q0 z.x.Bh
 l:Mr z.x.Gm=true
 i:z.i<=3
 s:Hm (B+9500+400 * (3 - z.i)) z.s
def Ath:Mr ⟨⟨#[]⟩,⟨#[]⟩,0⟩=true:=EZ
def Atz (B g:Nat) (F:CuF) (s:N4) (FT:aq) (ok:Hm B s) (hB:B<=400000000000) :
  Fn prog 29 [Gj g 0 0] [.sl Jc (ab F.a F.By.length F.c) F.By F.bs,Ga FT] [.row g 61 0 [] [ab F.a F.By.length F.c,aa (s.k:Nat),.int .u64 s.Ha] []] (fun (z:CnD)=>(Ajd z.x.Bh/\Q0 z.x.Bh/\z.x.Gm.Bd.size+z.x.Gm.pending.size<=70000)/\Hm (B+20000) z.s) (fun z=>.agg z.cs.toArray) (fun z=>[.isv Ec (.agg z.cs.toArray) z.x z.F,.row g 61 0 [] [ab F.a F.By.length F.c,aa (z.s.k:Nat),.int .u64 z.s.Ha] []]):=by
 refine enter func29 rfl ntmps29 fun w0=>?_;refine go ?_;intros;rename_i g2;refine Be (Bga _ g F s FT ok EY) fun z hz=>?_;obtain ⟨n,cs,Fx,s1⟩:=z;obtain ⟨⟨n2,n8,nd,nu,nq,nsm,ni⟩,h1⟩:=hz;dsimp only at n2 n8 nd nu nq nsm ni h1 ⊢;refine Fg (x:=n) ?_;rintro b1 d1 G1 b2 d2 G2 b3 d3 G3 b4 d4 G4 b5 d5 G5 b6 d6 G6 b7 d7 G7 ev - - - - - - -;obtain rfl:=Oa ev;clear ev;refine Cg ⟨n,⟨⟨#[]⟩,⟨#[]⟩,0⟩⟩ (aD _) (aD _) (a1:=b1) (c1:=d1) (a2:=b2) (c2:=d2) (a3:=b3) (c3:=d3) (a4:=b4) (c4:=d4) (a5:=b5) (c5:=d5) (a6:=b6) (c6:=d6) (a7:=b7) (c7:=d7) ?_;refine go ?_;intros;rename_i g3
 refine Be (Ab8 _ g F 3 s1 h1 EY EY) fun p hp=>?_;obtain ⟨bb,s2⟩:=p;obtain ⟨-,h2⟩:=hp;dsimp only at h2 ⊢;refine go ?_;refine Dv [0,2,3] [11,12,13] (fun z:CnD=>[]) (fun z=>[.row g3 45 0 [] z.cs [],.isv Ec (.agg z.cs.toArray) z.x z.F,.row g 61 0 [] [ab F.a F.By.length F.c,aa (z.s.k:Nat),.int .u64 z.s.Ha] []]) (fun z=>Ajd z.x.Bh/\Q0 z.x.Bh/\Mr z.x.Gm=true/\Hm (B+9200) z.s) ?_ fun z hz=>?_
 ·cases bb
  ·refine go ?_;refine Bk ⟨⟨n,⟨⟨#[]⟩,⟨#[]⟩,0⟩⟩,_,_,0,s2⟩ ⟨⟨n2,n8,nd,nu,nq,ni⟩,nsm,Ath,h2.mono EY⟩
  ·refine go ?_;refine Be (Amr _ g F s2 h2 EY) fun t ht=>?_;obtain ⟨ht1,ht2⟩:=ht;refine go ?_;refine Be (Ud _ g F t.s ht2 EY) fun m hm=>?_;obtain ⟨hm1,hm2⟩:=hm;refine go ?_;refine Be (Dr _ g F 6 m.2 hm2 EY EY) fun y hy=>?_;obtain ⟨k4,s4⟩:=y;obtain ⟨rk4,h4⟩:=hy;dsimp only at rk4 h4 ⊢;refine Hy ?_;intros;refine Av (E:=Bc) (xs:=t.l) fun Ft=>?_;refine Jm ⟨t.l⟩ ?_;refine go ?_;obtain ⟨en,gn⟩:=Ahn (t:=⟨t.l⟩) (f:=m.1) (y:=1+(k4:Nat)) ht1 hm1.1 hm1.2 EY EY;refine Be (Ox ⟨t.l⟩ m.1 (1+(k4:Nat)) _ _) fun z _=>?_
   have er:Bi ⟨t.l⟩ m.1 (1+(k4:Nat))=(⟨S8 ⟨t.l⟩ m.1 (1+(k4:Nat)),⟨⟨#[]⟩,⟨#[]⟩,0⟩⟩,true):=by unfold Bi;rw [en];rfl
   rw [er];obtain ⟨ccs,F0⟩:=z;dsimp only;generalize S8 ⟨t.l⟩ m.1 (1+(k4:Nat))=N at *;refine Oy Oz fun F0=>?_;refine B9 (x:=⟨N,⟨⟨#[]⟩,⟨#[]⟩,0⟩⟩) ?_;rintro e1 f1 K1 e2 f2 K2 e3 f3 K3 e4 f4 K4 e5 f5 K5 e6 f6 K6 e7 f7 K7 ev q1 q2 - - - - - - -;obtain rfl:=Oa ev;clear ev;refine go ?_;refine Cg ⟨N,⟨⟨#[]⟩,⟨#[]⟩,0⟩⟩ q1 q2 (a1:=e1) (c1:=f1) (a2:=e2) (c2:=f2) (a3:=e3) (c3:=f3) (a4:=e4) (c4:=f4) (a5:=e5) (c5:=f5) (a6:=e6) (c6:=f6) (a7:=e7) (c7:=f7) ?_;refine Bk ⟨⟨N,⟨⟨#[]⟩,⟨#[]⟩,0⟩⟩,_,_,0,s4⟩ ⟨Agn gn,Ku gn,Ath,h4.mono EY⟩
 obtain ⟨x,cs,Fc,i9,s2⟩:=z;obtain ⟨hk,hsn,hlg,h2⟩:=hz;dsimp only at hk hsn hlg h2 ⊢;refine go ?_;refine Be (Dr _ g F 4 s2 h2 EY EY) fun y hy=>?_;obtain ⟨k4,s3⟩:=y;obtain ⟨rk4,h3⟩:=hy;dsimp only at rk4 h3 ⊢;refine go ?_;refine Ca [0,2,3] (fun z:CnD=>[(4,aa (z.i:Nat))]) (fun z=>[.row g3 45 0 [] z.cs [],.isv Ec (.agg z.cs.toArray) z.x z.F,.row g 61 0 [] [ab F.a F.By.length F.c,aa (z.s.k:Nat),.int .u64 z.s.Ha] []]) (Biw B) (fun z=>z.i) ⟨x,_,_,k4,s3⟩ ⟨hk,hsn,hlg,by show k4<=3;omega,h3.mono (by show _<=B+9500+400 * (3 - k4);omega)⟩ fun z hz=>?_
 clear hk hsn hlg h2 h3 rk4;obtain ⟨x,cs,Fc,i0,s3⟩:=z;obtain ⟨hk,hsn,hlg,hi,h3⟩:=hz;dsimp only at hk hsn hlg hi h3 ⊢;have hz3:x.Gm.Bd.size+x.Gm.pending.size<=30000:=Y4 hlg;refine B9 (x:=x) ?_;rintro b1 d1 G1 b2 d2 G2 b3 d3 G3 b4 d4 G4 b5 d5 G5 b6 d6 G6 b7 d7 G7 ev q1 q2 - - - - - - -;obtain rfl:=Oa ev;clear ev;refine Cg x q1 q2 (a1:=b1) (c1:=d1) (a2:=b2) (c2:=d2) (a3:=b3) (c3:=d3) (a4:=b4) (c4:=d4) (a5:=b5) (c5:=d5) (a6:=b6) (c6:=d6) (a7:=b7) (c7:=d7) ?_
 repeat apply Pg
 refine Dv [0,2,3,4] [0,1,2,3,4,5,6,7,8,9,10,11,12,13] (fun b:Bool=>[(28,.bool b)]) (fun z=>[]) (fun b=>b=(decide (0 < i0) && Eo x)) ?_ fun b hb=>?_
 ·refine go ?_;by_cases h0:0 < i0
  ·rw [show decide ((i0:Int) > 0)=true from av EY];refine go ?_;refine Be (Akg x _ _ EY) fun _ _=>?_;refine go ?_;refine Bk (Eo x) (by rw [av h0];rfl)
  ·rw [show decide ((i0:Int) > 0)=false from ay EY];refine go ?_;refine Bk false (by rw [ay h0];rfl)
 cases b
 ·refine go ?_;refine Be (Ab8 _ g F 24 s3 h3 EY EY) fun p hp=>?_;obtain ⟨b2,s4⟩:=p;obtain ⟨-,h4⟩:=hp;dsimp only at h4 ⊢;refine go ?_;cases b2
  ·refine go ?_;refine ret ⟨x,_,_,0,s4⟩ ⟨⟨hk,hsn,by show x.Gm.Bd.size+x.Gm.pending.size<=70000;omega⟩,h4.mono EY⟩ rfl
  ·refine go ?_;refine Be (Axm _ g F s4 h4 EY) fun z hz=>?_;obtain ⟨l,i1,s5⟩:=z;obtain ⟨hl5,h5⟩:=hz;dsimp only at hl5 h5 ⊢;refine go ?_;refine Cg ⟨x.Bh,l⟩ (by show l.Bd.size<=_;unfold maxLen;omega) (by show l.pending.size<=_;unfold maxLen;omega) (a1:=b1) (c1:=d1) (a2:=b2) (c2:=d2) (a3:=b3) (c3:=d3) (a4:=b4) (c4:=d4) (a5:=b5) (c5:=d5) (a6:=b6) (c6:=d6) (a7:=b7) (c7:=d7) ?_;refine ret ⟨⟨x.Bh,l⟩,_,_,0,s5⟩ ⟨⟨hk,hsn,hl5⟩,h5.mono EY⟩ rfl
 ·rw [eq_comm,aw,aF] at hb;obtain ⟨hi0,hgc⟩:=hb;refine Hy ?_;intros;refine Ar [8] [4,5,6,7,8] ?_;refine Ze 0 ?_;refine Ze 1 ?_;refine Ze 2 ?_;refine dN 3 ?_;refine oC ?_;refine Be (Zc _ g F s3 x _ _ hk h3 EY) fun p hp=>?_;obtain ⟨ln,s4⟩:=p;obtain ⟨hl4,h4⟩:=hp;dsimp only at hl4 h4 ⊢;have hP:=fun v F=>Om x ln v F FT hsn EY FE;rw [Zg hgc] at hP;refine dk ?_;refine dN 4 ?_;refine oC ?_;refine Be (hP _ _) fun u _=>?_;obtain ⟨ucs,uF⟩:=u;dsimp only;refine B9 (x:=(Mg x ln).1) ?_
  rintro f1 t1 G1 f2 t2 G2 f3 t3 G3 f4 t4 G4 f5 t5 G5 f6 t6 G6 f7 t7 G7 ev q3 q4 - - - - - - -;obtain rfl:=Oa ev;clear ev;refine Nm ?_;refine P0 5 ?_;refine P0 6 ?_;refine P0 7 ?_;refine dN 8 ?_;refine oS ?_;refine Nm ?_;refine dd ?_;refine Cg (Mg x ln).1 q3 q4 (a1:=f1) (c1:=t1) (a2:=f2) (c2:=t2) (a3:=f3) (c3:=t3) (a4:=f4) (c4:=t4) (a5:=f5) (c5:=t5) (a6:=f6) (c6:=t6) (a7:=f7) (c7:=t7) ?_;refine go ?_;rw [show ((i0:Nat):Int) - 1=((i0 - 1:Nat):Int) by omega];have hg2:=Ru (line:=ln) hgc
  refine Ce ⟨(Mg x ln).1,_,_,i0 - 1,s4⟩ ⟨Agn (Oc hg2),Ku (Oc hg2),Rw hg2,by show i0 - 1<=3;omega,h4.mono (by show _<=B+9500+400 * (3 - (i0 - 1));omega)⟩ (by show i0 - 1 < i0;omega)
end Go.Proofs.YtmppejmafbfhlaaGreatDoor
namespace Go.Proofs.YtmppejmafbfhlaaGreatDoor

open Go.RowKit
end Go.Proofs.YtmppejmafbfhlaaGreatDoor
namespace Go.Proofs.YtmppejmafbfhlaaGreatDoor
open Go.RowKit
structure TxD where
 t:au
 i:Nat
 s:N4
def Ap6 (v:Value) (By:ar) (G FT:aq):Fn prog 8 [v] [.sl Jc v By G,Ga FT] [] (fun (z:CnD × au)=>Ajd z.1.x.Bh/\Q0 z.1.x.Bh/\z.1.x.Gm.Bd.size+z.1.x.Gm.pending.size<=70000/\z.2.size<=600) (fun z=>.tuple #[.agg z.1.cs.toArray,af z.2]) (fun z=>[.isv Ec (.agg z.1.cs.toArray) z.1.x z.1.F]):=by
 refine enter func8 rfl ntmps8 fun w0=>?_;refine Xf (E:=Jc) ?_;rintro a c rfl l1 l2;refine go ?_;intros;rename_i g2 gc;refine Be (Atz 0 _ ⟨By,a,c,G⟩ ⟨0,0⟩ FT ⟨aK _,EZ,EZ⟩ EY) fun z hz=>?_;obtain ⟨x,cs,Fx,i1,s1⟩:=z;obtain ⟨⟨hk,hsn,hlz⟩,h1⟩:=hz;dsimp only at hk hsn hlz h1 ⊢;refine B9 (x:=x) ?_;rintro b1 d1 G1 b2 d2 G2 b3 d3 G3 b4 d4 G4 b5 d5 G5 b6 d6 G6 b7 d7 G7 ev q1 q2 - - - - - - -;obtain rfl:=Oa ev;clear ev;refine Cg x q1 q2 (a1:=b1) (c1:=d1) (a2:=b2) (c2:=d2) (a3:=b3) (c3:=d3) (a4:=b4) (c4:=d4) (a5:=b5) (c5:=d5) (a6:=b6) (c6:=d6) (a7:=b7) (c7:=d7) ?_
 refine go ?_;intros;rename_i g5;refine Be (Zc _ _ ⟨By,a,c,G⟩ s1 x _ _ hk h1 EY) fun p hp=>?_;obtain ⟨t,s2⟩:=p;obtain ⟨ht,h2⟩:=hp;dsimp only at ht h2 ⊢;refine go ?_;refine Be (Dr _ _ ⟨By,a,c,G⟩ 5 s2 h2 EY EY) fun y hy=>?_;obtain ⟨k3,s3⟩:=y;obtain ⟨rk3,h3⟩:=hy;dsimp only at rk3 h3 ⊢;refine go ?_
 refine Ca [2,3,4,5] (fun z:TxD=>[(6,af z.t),(7,aa (z.i:Nat))]) (fun z=>[.row gc 61 0 [] [ab a By.length c,aa (z.s.k:Nat),.int .u64 z.s.Ha] []]) (fun z=>z.t.size+101 * z.i<=504/\z.i<=4/\Hm (21000+400 * (4 - z.i)) z.s) (fun z=>z.i) ⟨t,k3,s3⟩ ⟨by show t.size+101 * k3<=504;omega,by show k3<=4;omega,h3.mono (by show _<=21000+400 * (4 - k3);omega)⟩ fun z hz=>?_;clear h1 h2 h3 ht;obtain ⟨t,i4,s4⟩:=z;obtain ⟨ht,hi,h4⟩:=hz;dsimp only at ht hi h4 ⊢;refine go ?_;refine Ay rfl (fun h5=>?_) (fun h5=>?_)
 ·have hi0:0 < i4:=EY
  refine go ?_;apply wO;apply oc;rfl;exact Hh rfl rfl (by show t.size+1<=9223372036854775807;omega);refine go ?_;refine Be (Zc _ _ ⟨By,a,c,G⟩ s4 x _ _ hk h4 EY) fun p hp=>?_;obtain ⟨u,s5⟩:=p;obtain ⟨hu,h6⟩:=hp;dsimp only at hu h6 ⊢;refine go ?_;apply wO;apply oc;rfl;exact Hh rfl rfl (by rw [aN];show t.size+1+u.size<=9223372036854775807;omega);refine go ?_;rw [show ((i4:Nat):Int) - 1=((i4 - 1:Nat):Int) by omega]
  refine Ce ⟨t++⟨#[10]⟩++u,i4 - 1,s5⟩ ⟨by show (t++⟨#[10]⟩++u:au).size+101 * (i4 - 1)<=504;rw [aN,aN];show t.size+1+u.size+101 * (i4 - 1)<=504;omega,by show i4 - 1<=4;omega,h6.mono (by show _<=21000+400 * (4 - (i4 - 1));omega)⟩ (by show i4 - 1 < i4;omega)
 refine go ?_;refine Be (Ab8 _ _ ⟨By,a,c,G⟩ 20 s4 h4 EY EY) fun p hp=>?_;obtain ⟨bb,s7⟩:=p;obtain ⟨-,h7⟩:=hp;dsimp only at h7 ⊢;refine go ?_;cases bb
 ·refine go ?_;refine ret (⟨x,_,_,0,s7⟩,t) ⟨hk,hsn,hlz,by show t.size<=600;omega⟩ rfl
 ·refine go ?_;refine Be (Dr _ _ ⟨By,a,c,G⟩ 2 s7 h7 EY EY) fun y hy=>?_;obtain ⟨k8,s8⟩:=y;obtain ⟨rk8,h8⟩:=hy;dsimp only at rk8 h8 ⊢;refine go ?_;refine Ca [2,3,5] (fun z:TxD=>[(6,af z.t),(8,aa (z.i:Nat))]) (fun z=>[]) (fun z=>z.t.size+z.i<=30) (fun z=>z.i) ⟨⟨#[]⟩,29+k8,s8⟩ (by show 0+(29+k8)<=30;omega) fun z hz=>?_;refine go ?_;refine Ay rfl (fun h9=>?_) (fun h9=>?_)
  ·refine go ?_;apply wO;apply oc;rfl;exact Hh rfl rfl (by show z.t.size+1<=9223372036854775807;omega);refine go ?_;rw [show ((z.i:Nat):Int) - 1=((z.i - 1:Nat):Int) by omega];refine Ce ⟨z.t++⟨#[10]⟩,z.i - 1,s8⟩ (by show (z.t++⟨#[10]⟩:au).size+(z.i - 1)<=30;rw [aN];show z.t.size+1+(z.i - 1)<=30;omega) GO
  refine go ?_;refine ret (⟨x,_,_,0,s8⟩,z.t) ⟨hk,hsn,hlz,by show z.t.size<=600;omega⟩ rfl
structure Bja (B:Nat) (z:TrD):Prop where
 a:2<=z.l.length
 b:z.l.length<=9
 s:Hm (B+110+10 * z.l.length) z.s
def Att (B g:Nat) (F:CuF) (s:N4) (ok:Hm B s) (hB:B<=600000000000) :
  Fn prog 16 [Gj g 0 0] [.sl Jc (ab F.a F.By.length F.c) F.By F.bs] [.row g 61 0 [] [ab F.a F.By.length F.c,aa (s.k:Nat),.int .u64 s.Ha] []] (fun (z:TrD)=>z.l.length<=9/\Hm (B+300) z.s) (fun z=>.agg #[ab z.a z.l.length z.c])
   (fun z=>[.ow Bc 3 (ab z.a z.l.length z.c) z.l z.F,.row g 61 0 [] [ab F.a F.By.length F.c,aa (z.s.k:Nat),.int .u64 z.s.Ha] []]):=by
 refine enter func16 rfl ntmps16 fun w0=>?_;refine go ?_;intros;refine Be (Amr B g F s ok EY) fun t ht=>?_;obtain ⟨ht1,ht2⟩:=ht;have n0:=ht1.n0;have n1:=ht1.n1;refine go ?_;intros;refine Be (Dr _ g F 24 t.s ht2 EY EY) fun y hy=>?_;obtain ⟨r6,s6⟩:=y;obtain ⟨hr6,h6⟩:=hy;dsimp only at hr6 h6 ⊢;have hr6:r6<=23:=EY
 refine As7 (E:=Bc) (xs:=t.l) (n:=t.l.length) fun tc1 tc2=>?_;refine go ?_;refine Ay rfl (fun e0=>?_) (fun e0=>?_)
 ·refine Hy ?_;intros;refine Ar [1] [6] ?_;refine Dh 0 1 ?_;refine dt 2 ?_;refine dN 3 ?_;refine oC ?_;refine Be (Dr _ g F 2 s6 h6 EY EY) fun y hy=>?_;obtain ⟨k4,s4⟩:=y;obtain ⟨r4,h4⟩:=hy;dsimp only at r4 h4 ⊢;have r4:k4<=1:=EY
  refine dk ?_;refine dt 4 ?_ (hy:=Pd (i:=k4) rfl rfl rfl EY EY);refine Ail (xs:=t.l) k4 fun F5=>?_;obtain ⟨L,hL,hLl⟩:∃L,L=t.l.take k4/\L.length=k4:=⟨_,rfl,GD⟩;rw [<-hL,<-hLl];refine dt 5 ?_;refine dN 6 ?_;refine oS ?_;refine Nm ?_;refine dd ?_;refine go ?_;refine ret ⟨L,t.a,t.c,_,0,s4⟩ ⟨by show L.length<=9;omega,h4.mono EY⟩ rfl
 refine go ?_;refine Ay rfl (fun e1=>?_) (fun e1=>?_)
 ·refine Q4 (m:=1) Eb (xs:=t.l) 0 ?_ FC rfl EY;rintro _ gq A cq Bq e2 - k3 hH;rw [e2];obtain ⟨rfl, -⟩:=k3 w0;refine go ?_;refine P8 (E:=Bc) (xs:=t.l) 0 hH (fun w=>⟨rfl,rfl⟩) ?_;rw [show t.l.length=(t.l.set 0 0).length by rw [bG]];refine go ?_;refine ret ⟨t.l.set 0 0,_,t.c,_,0,s6⟩ ⟨by show (t.l.set 0 0).length<=9;rw [bG];omega,h6.mono EY⟩ rfl
 refine go ?_;refine Ay rfl (fun e2=>?_) (fun e2=>?_)
 ·refine go ?_;refine Be (Dr _ g F (t.l.length - 1) s6 h6 EY EY) fun y hy=>?_;obtain ⟨k8,s8⟩:=y;obtain ⟨r8,h8⟩:=hy;dsimp only at r8 h8 ⊢;have r8:k8<=7:=EY
  refine go ?_;rw [show (1:Int)+(k8:Nat)=((1+k8:Nat):Int) by omega];refine Q4 (m:=1) Eb (xs:=t.l) (1+k8) ?_ FC rfl EY;rintro _ gq A cq Bq e2 - k3 hH;rw [e2];obtain ⟨rfl, -⟩:=k3 w0;refine Hy ?_;intros;refine Ar [2] [] ?_;refine C4 0 1 2 3 ?_;refine Dh 4 5 ?_;refine dt 6 ?_;refine dN 7 ?_;apply I1;rfl;rfl;rfl;rfl;exact Iy;exact Ir;intro _;refine Dy (xs:=[((1+k8:Nat):Int), -1,((1+k8:Nat):Int) - 1,9]) (fun w=>Mu w _) ?_ FA;refine Av (E:=Bc) fun G=>?_;refine dk ?_;refine dN 8 ?_;refine oC ?_
  refine Be (Qc _ g F _ [((1+k8:Nat):Int), -1,((1+k8:Nat):Int) - 1,9] G s8 h8 EY FA FA) fun q hq=>?_;refine dk ?_;refine dt 9 ?_;refine dN 10 ?_;refine oS ?_;refine dk ?_;refine dd ?_;refine P8 (E:=Bc) (xs:=t.l) q.1 hH (fun w=>⟨rfl,rfl⟩) ?_;rw [show t.l.length=(t.l.set (1+k8) q.1).length by rw [bG]];refine go ?_;refine ret ⟨t.l.set (1+k8) q.1,_,t.c,_,0,q.2⟩ ⟨by show (t.l.set (1+k8) q.1).length<=9;rw [bG];omega,hq.2.mono EY⟩ rfl
 refine go ?_;refine Ay rfl (fun e3=>?_) (fun e3=>?_)
 ·refine go ?_;rename_i g3 g2;refine Ca [0,2,3] (fun _:TrD=>[]) (fun z=>[.row g3 26 0 [] [ab z.a z.l.length z.c] [],.ow Bc 3 (ab z.a z.l.length z.c) z.l z.F,.row g 61 0 [] [ab F.a F.By.length F.c,aa (z.s.k:Nat),.int .u64 z.s.Ha] []]) (Bja B) (fun z=>9 - z.l.length) ⟨t.l,_,_,_,0,s6⟩ ⟨n0,by show t.l.length<=9;omega,h6.mono (by show _<=B+110+10 * t.l.length;omega)⟩ fun z hz=>?_;obtain ⟨z1,z2,z3⟩:=hz;refine Hy ?_;intros;refine Ar [0,1] [] ?_;refine C4 0 1 2 3 ?_;refine dN 4 ?_;refine oC ?_;refine Be (Dr _ g F 2 z.s z3 EY EY) fun y hy=>?_;obtain ⟨k5,s5⟩:=y
  obtain ⟨r5,h5⟩:=hy;dsimp only at r5 h5 ⊢;have r5:k5<=1:=EY
  refine dk ?_;refine Dh 5 6 ?_;refine dd ?_;refine go ?_;refine Ay rfl (fun h7=>?_) (fun h7=>?_)
  ·refine go ?_;intros;apply wO;refine N9 (O3 _) C7 fun a9 c9 F9=>?_;refine go ?_;refine Ce ⟨z.l++[1],a9,c9,F9,0,s5⟩ ⟨by show 2<=(z.l++[_]).length;simp;omega,by show (z.l++[_]).length<=9;simp;omega,h5.mono (by show _<=B+110+10 * (z.l++[_]).length;simp;omega)⟩ (by show 9 - (z.l++[_]).length < 9 - z.l.length;simp;omega)
  ·refine go ?_;refine ret ⟨z.l,z.a,z.c,_,0,s5⟩ ⟨EY,h5.mono EY⟩ rfl
 ·refine go ?_;refine ret ⟨t.l,t.a,t.c,_,0,s6⟩ ⟨by show t.l.length<=9;omega,h6.mono EY⟩ rfl
structure NwD where
 l:ar
 a:aj
 c:Nat
 F:aq
 f:Int
 y:Int
structure RpD where
 l:ar
 a:aj
 c:Nat
 F:aq
 f:Int
 y:Int
 g:Log
def Atj (v:Value) (By:ar) (G FT:aq):Fn prog 5 [v] [.sl Jc v By G,Ga FT] [] (fun (z:RpD)=>z.l.length<=9/\z.g.Bd.size+z.g.pending.size<=30000) (fun z=>.tuple #[.agg #[ab z.a z.l.length z.c],aa z.f,aa z.y,.agg #[af z.g.Bd,af z.g.pending,aa z.g.count]]) (fun z=>[.isv Ro (.agg #[ab z.a z.l.length z.c]) ⟨z.l⟩ z.F]):=by
 refine enter func5 rfl ntmps5 fun w0=>?_;refine Xf (E:=Jc) ?_;rintro a c rfl l1 l2;refine go ?_;intros;rename_i gT gL gc;refine Be (Att 0 _ ⟨By,a,c,G⟩ ⟨0,0⟩ ⟨aK _,EZ,EZ⟩ EY) fun z hz=>?_;obtain ⟨hz1,hz2⟩:=hz;refine Av (E:=Bc) (xs:=z.l) fun Ft=>?_;refine Jm ⟨z.l⟩ ?_;refine go ?_;refine Be (Ul _ gc ⟨By,a,c,G⟩ z.s hz2 EY) fun m hm=>?_;refine Hy ?_;intros;refine Dy (xs:=[1,3,6,2,4,7]) (fun w=>Mu w _) ?_ EZ;refine Av (E:=Bc) (xs:=[1,3,6,2,4,7]) fun Gx=>?_;refine go ?_
 refine Be (Qc _ gc ⟨By,a,c,G⟩ _ [1,3,6,2,4,7] Gx m.2 hm EY EZ EZ) fun q hq=>?_;obtain ⟨-,hq2⟩:=hq;refine go ?_;intros;rename_i gT2;have hgood:=M3 (t:=⟨z.l⟩) (f:=m.1) (y:=q.1);refine Be (Ox ⟨z.l⟩ m.1 q.1 _ _) fun u _=>?_;generalize Bi ⟨z.l⟩ m.1 q.1=R at *;obtain ⟨ccs,F0⟩:=u;dsimp only;refine Oy Oz fun F0=>?_;refine B9 (x:=R.1) ?_;rintro e1 f1 K1 e2 f2 K2 e3 f3 K3 e4 f4 K4 e5 f5 K5 e6 f6 K6 e7 f7 K7 ev q5 q6 - - - - - - -;obtain rfl:=Oa ev;clear ev;refine go ?_;intros;rename_i gK
 refine Cg R.1 q5 q6 (a1:=e1) (c1:=f1) (a2:=e2) (c2:=f2) (a3:=e3) (c3:=f3) (a4:=e4) (c4:=f4) (a5:=e5) (c5:=f5) (a6:=e6) (c6:=f6) (a7:=e7) (c7:=f7) ?_;cases hb:R.2
 ·refine go ?_;refine ret ⟨z.l,_,_,_,m.1,q.1,⟨⟨#[]⟩,⟨#[]⟩,0⟩⟩ ⟨hz1,by show (⟨#[]⟩:au).size+(⟨#[]⟩:au).size<=30000;decide⟩ rfl
 have hg0:=hgood hb;refine go ?_;refine Be (Dr _ _ ⟨By,a,c,G⟩ 8 q.2 hq2 EY EY) fun y hy=>?_;obtain ⟨k3,s3⟩:=y;obtain ⟨rk3,h3⟩:=hy;dsimp only at rk3 h3 ⊢;refine go ?_;refine Ca [2,3,4,5,6,7,8,9,10] (fun z:CnD=>[(12,aa (z.i:Nat))]) (fun z=>[.row gK 45 0 [] z.cs [],.isv Ec (.agg z.cs.toArray) z.x z.F,.row gc 61 0 [] [ab a By.length c,aa (z.s.k:Nat),.int .u64 z.s.Ha] []]) (fun z=>Eo z.x=true/\z.i<=7/\Hm (500+400 * (7 - z.i)) z.s) (fun z=>z.i) ⟨R.1,_,_,k3,s3⟩ ⟨hg0,by show k3<=7;omega,h3.mono (by show _<=500+400 * (7 - k3);omega)⟩ fun zz hz=>?_;clear hg0 hgood h3 rk3
 obtain ⟨x,cs,Fc,i0,s3⟩:=zz;obtain ⟨hgc,hi,h3⟩:=hz;dsimp only at hgc hi h3 ⊢;refine B9 (x:=x) ?_;rintro b1 d1 G1 b2 d2 G2 b3 d3 G3 b4 d4 G4 b5 d5 G5 b6 d6 G6 b7 d7 G7 ev q1 q2 - - - - - - -;obtain rfl:=Oa ev;clear ev;refine Cg x q1 q2 (a1:=b1) (c1:=d1) (a2:=b2) (c2:=d2) (a3:=b3) (c3:=d3) (a4:=b4) (c4:=d4) (a5:=b5) (c5:=d5) (a6:=b6) (c6:=d6) (a7:=b7) (c7:=d7) ?_;refine go ?_;refine Ay rfl (fun h9=>?_) (fun h9=>?_)
 ·have hi0:0 < i0:=EY
  refine Hy ?_;intros;refine Ar [8] [4,5,6,7,8] ?_;refine Ze 0 ?_;refine Ze 1 ?_;refine Ze 2 ?_;refine dN 3 ?_;refine oC ?_;refine Be (Zc _ _ ⟨By,a,c,G⟩ s3 x _ _ (Agn (Oc hgc)) h3 EY) fun p hp=>?_;obtain ⟨ln,s4⟩:=p;obtain ⟨hln,h4⟩:=hp;dsimp only at hln h4 ⊢;have hP:=fun v F=>Om x ln v F FT (Ku (Oc hgc)) (by have:=Sy hgc;omega) FE;rw [Zg hgc] at hP;refine dk ?_;refine dN 4 ?_;refine oC ?_;refine Be (hP _ _) fun u _=>?_;obtain ⟨ucs,uF⟩:=u;dsimp only;refine B9 (x:=(Mg x ln).1) ?_
  rintro f1 t1 G1 f2 t2 G2 f3 t3 G3 f4 t4 G4 f5 t5 G5 f6 t6 G6 f7 t7 G7 ev q3 q4 - - - - - - -;obtain rfl:=Oa ev;clear ev;refine Nm ?_;refine P0 5 ?_;refine P0 6 ?_;refine P0 7 ?_;refine dN 8 ?_;refine oS ?_;refine Nm ?_;refine dd ?_;refine Cg (Mg x ln).1 q3 q4 (a1:=f1) (c1:=t1) (a2:=f2) (c2:=t2) (a3:=f3) (c3:=t3) (a4:=f4) (c4:=t4) (a5:=f5) (c5:=t5) (a6:=f6) (c6:=t6) (a7:=f7) (c7:=t7) ?_;refine go ?_;rw [show ((i0:Nat):Int) - 1=((i0 - 1:Nat):Int) by omega]
  refine Ce ⟨(Mg x ln).1,_,_,i0 - 1,s4⟩ ⟨Ru hgc,by show i0 - 1<=7;omega,h4.mono (by show _<=500+400 * (7 - (i0 - 1));omega)⟩ (by show i0 - 1 < i0;omega)
 refine go ?_;intros;rename_i gM;refine Be (Ab8 _ _ ⟨By,a,c,G⟩ 3 s3 h3 EY EY) fun p hp=>?_;obtain ⟨bb,s4⟩:=p;obtain ⟨-,h4⟩:=hp;dsimp only at h4 ⊢;refine go ?_;have hlg:=Rw hgc;refine Dv [2,3,4,5,7,8,9,13] [20,22,24,25] (fun z:Log × N4=>[]) (fun z=>[.row gM 28 0 [] [af z.1.Bd,af z.1.pending,aa z.1.count] [],.row gc 61 0 [] [ab a By.length c,aa (z.2.k:Nat),.int .u64 z.2.Ha] []]) (fun z=>Mr z.1=true) ?_ fun lz hlg2=>?_
 ·cases bb
  ·refine go ?_;refine Bk (x.Gm,s4) hlg
  ·refine Hy ?_;intros;refine Ar [1] [4,5,6,7] ?_;refine Ze 0 ?_;refine Ze 1 ?_;refine dN 2 ?_;refine oC ?_;refine Be (Aey _ _ ⟨By,a,c,G⟩ s4 h4 EY) fun p hp=>?_;obtain ⟨⟨c5,r5⟩,s5⟩:=p;obtain ⟨hc5,hr5,h5⟩:=hp;dsimp only at hc5 hr5 h5 ⊢;refine dk ?_;refine dN 3 ?_;refine oC ?_;refine Be (Aie x.Gm.Bd x.Gm.pending c5 r5 x.Gm.count hlg FE FE) fun p hp=>?_;obtain ⟨p6,k6,e6⟩:=p;dsimp only at hp ⊢;refine dk ?_;refine P0 4 ?_;refine P0 5 ?_;refine P0 6 ?_;refine dN 7 ?_;refine oS ?_;refine Nm ?_;refine dd ?_;refine go ?_
   refine Bk (⟨x.Gm.Bd,p6,k6⟩,s5) hp
 obtain ⟨lg,s6⟩:=lz;dsimp only at hlg2 ⊢;refine Hy ?_;intros;refine Ar [0,2] [] ?_;refine C4 0 1 2 3 ?_;refine dN 4 ?_;refine oS ?_;refine dk ?_;refine Dh 5 6 ?_;refine dN 7 ?_;refine oS ?_;refine dk ?_;refine dd ?_;refine go ?_;refine ret ⟨z.l,_,_,_,m.1,q.1,lg⟩ ⟨hz1,Y4 hlg2⟩ rfl
def Ad8 (l:Log) (v:Value) (F:aq) (hw:Y8 l<=1048576) (hg:Mr l=true):Fn prog 28 [v] [.isv Atk v l F] [] (fun (_:aj × Nat × aq)=>True) (fun s=>.tuple #[.slice s.1 (Lm l).length s.2.1,.bool true]) (fun s=>[.ow Il 71 (.slice s.1 (Lm l).length s.2.1) (Lm l) s.2.2]):=by
 unfold Y8 at hw;refine enter func28 rfl ntmps28 fun w0=>?_;refine Afz (v:=v) (x:=l) ?_;rintro _ rfl s1 s2;refine go ?_;intros;refine Be (T5 l.Bd l.pending l.count EY) fun _ _=>?_;rw [show E4 l.Bd.data.toList l.pending.data.toList l.count=true from hg];refine go ?_;refine Be (Lg.Ads (l.Bd++l.pending) (by rw [aN];omega)) fun z _=>?_;rw [show (A1 (l.Bd++l.pending).data.toList).map Lg.N6=Lm l by unfold Lm;rw [Gp]];exact CB
def Afn (t:Nf) (f y:Int) (l:Log) (v0 v3:Value) (F0 F3 FT:aq) (hw:Y8 l<=1048576):FV 7 [v0,aa f,aa y,v3] [.isv Ro v0 t F0,.isv Atk v3 l F3,Ga FT] (.tuple #[aa (Gs t f y l).1,.bool (Gs t f y l).2]):=by
 have hw2:=hw;unfold Y8 at hw2;refine enter func7 rfl ntmps7 fun w0=>?_;refine Mv (v:=v0) ?_;rintro a0 c0 K0 rfl l0;refine Afz (v:=v3) (x:=l) ?_;rintro _ rfl s1 s2;have hN:=fun v F=>Ox t f y v F;have hgood:=M3 (t:=t) (f:=f) (y:=y);unfold Gs;generalize Bi t f y=R at hN hgood ⊢;refine go ?_;intros;refine Be (hN _ _) fun s _=>?_;obtain ⟨cs,sF⟩:=s;dsimp only;refine Ab9 (x:=R.1) ?_;rintro f1 t1 G1 f2 t2 G2 f3 t3 G3 f4 t4 G4 f5 t5 G5 f6 t6 G6 f7 t7 G7 ez s3 s4 - - - - - - -;rw [ez];refine Mf R.1 s3 s4 ?_;refine Oy Oz fun F9=>?_;cases hr:R.2
 ·rw [cJ,aC EZ];refine go ?_;intros;exact BA
 rw [bQ];refine go ?_;intros;rename_i g;refine Be (T5 l.Bd l.pending l.count EY) fun _ _=>?_;rw [show E4 l.Bd.data.toList l.pending.data.toList l.count=Mr l from rfl];cases hgl:Mr l
 ·rw [aC EZ];exact AA
 rw [aH rfl];dsimp only;refine go ?_;refine Be (Ad8 l _ _ hw hgl) fun z _=>?_;obtain ⟨ra,rc,rF⟩:=z;dsimp only;have hel:(Lm l).length<=1000000:=by
  unfold Lm;rw [bf];have:=(I8 (l.Bd.data.toList++l.pending.data.toList)).2;omega
 generalize Lm l=es at hel ⊢;refine Av (E:=Il) (xs:=es) fun F8=>?_;have hg0:=hgood hr;refine go ?_
 refine Ca [8,9,10,12] (fun z:RpS=>[(15,aa (z.k:Nat))]) (fun z=>[.row g 45 0 [] [ab z.z.a1 z.x.Bh.Ap.Ad.length z.z.c1,aa z.x.Bh.Ab.Aa.Am,aa z.x.Bh.Ab.Aa.size,ab z.z.a2 z.x.Bh.Ab.Aa.Al.length z.z.c2,aa z.x.Bh.Ab.Ai,aa z.x.Bh.Ab.quiet,ab z.z.a3 z.x.Bh.Ab.holds.length z.z.c3,ab z.z.a4 z.x.Bh.Af.length z.z.c4,ab z.z.a5 z.x.Bh.Ac.length z.z.c5,ab z.z.a6 z.x.Bh.down.length z.z.c6,ab z.z.a7 z.x.Bh.up.length z.z.c7,af z.x.Gm.Bd,af z.x.Gm.pending,aa z.x.Gm.count] [],.isv Ec (.agg #[ab z.z.a1 z.x.Bh.Ap.Ad.length z.z.c1,aa z.x.Bh.Ab.Aa.Am,aa z.x.Bh.Ab.Aa.size,ab z.z.a2 z.x.Bh.Ab.Aa.Al.length z.z.c2,aa z.x.Bh.Ab.Ai,aa z.x.Bh.Ab.quiet,ab z.z.a3 z.x.Bh.Ab.holds.length z.z.c3,ab z.z.a4 z.x.Bh.Af.length z.z.c4,ab z.z.a5 z.x.Bh.Ac.length z.z.c5,ab z.z.a6 z.x.Bh.down.length z.z.c6,ab z.z.a7 z.x.Bh.up.length z.z.c7,af z.x.Gm.Bd,af z.x.Gm.pending,aa z.x.Gm.count]) z.x z.F]) (fun z=>z.k<=es.length/\Eo z.x=true/\Ov R.1 es 0=Ov z.x (es.drop z.k) z.k) (fun z=>es.length - z.k) ⟨0,R.1,⟨f1,t1,f2,t2,f3,t3,f4,t4,f5,t5,f6,t6,f7,t7⟩,_⟩ ⟨aD _,hg0,rfl⟩ fun z hz=>?_
 obtain ⟨hk,hgk,hrp⟩:=hz;refine go ?_;refine Ay rfl (fun h1=>?_) (fun h1=>?_)
 ·have hh:z.k < es.length:=EY
  rw [bF hh,Acf] at hrp;refine Aej (xs:=es) z.k ?_;rintro hi0 b0 o0 e0 q1 q2;cases e0;have hP:=fun v F=>Om z.x es[z.k].Ev v F FT (Ku (Oc hgk)) (by have:=Sy hgk;omega) q1;rw [Zg hgk] at hP;refine Hy ?_;intros;refine Ar [0,1] [7,8,9,10,11] ?_;refine C4 0 1 2 3 ?_;refine Dh 4 5 ?_;refine dN 6 ?_;refine oC ?_;refine Be (hP _ _) fun u _=>?_;refine B9 (x:=(Mg z.x es[z.k].Ev).1) ?_;rintro f1 t1 G1 f2 t2 G2 f3 t3 G3 f4 t4 G4 f5 t5 G5 f6 t6 G6 f7 t7 G7 ez p3 p4 - - - - - - -;rw [ez];refine dk ?_;refine P0 7 ?_;refine P0 8 ?_;refine P0 9 ?_;refine dN 10 ?_;refine oS ?_
  refine Nm ?_;refine P0 11 ?_;refine dd ?_;refine Cg (Mg z.x es[z.k].Ev).1 p3 p4 (a1:=f1) (c1:=t1) (a2:=f2) (c2:=t2) (a3:=f3) (c3:=t3) (a4:=f4) (c4:=t4) (a5:=f5) (c5:=t5) (a6:=f6) (c6:=t6) (a7:=f7) (c7:=t7) ?_;refine go ?_;refine Ay rfl (fun h2=>?_) (fun h2=>?_)
  ·rw [aC h2] at hrp;refine go ?_;rw [hrp];exact BA
  ·rw [aH (cL.1 h2)] at hrp;refine go ?_;rw [show ((z.k:Nat):Int)+1=((z.k+1:Nat):Int) by omega];refine Ce ⟨z.k+1,(Mg z.x es[z.k].Ev).1,⟨f1,t1,f2,t2,f3,t3,f4,t4,f5,t5,f6,t6,f7,t7⟩,_⟩ ⟨hh,Ru hgk,hrp⟩ GW
 have hk2:z.k=es.length:=EY
 rw [show es.drop z.k=[] from eD EY,Ae6,hk2] at hrp;refine go ?_;rw [hrp];exact BA
def Ay7 (t:Nf) (f y:Int):∀q∈(Bi t f y).1.Bh.down++(Bi t f y).1.Bh.up,q.length<=6:=by
 cases h:(Bi t f y).2
 ·have:(Bi t f y).1=Bes:=by
   unfold Bi at h ⊢
   split
   ·rename_i h2;rw [aH h2] at h;cases h
   ·rfl
  rw [this];exact fun q hq=>by cases hq
 ·exact Adf (Oc (M3 h))
def Az5 (v:Value) (By:ar) (G FT:aq):FV 3 [v] [.sl Jc v By G,Ga FT] (.bool true):=by
 refine enter func3 rfl ntmps3 fun w0=>?_;refine go ?_;refine cb (fun w st=>(Bgx v By G).val w (I6 (st.get (p:=.sl Jc v By G) FA))) ?_;refine go ?_;refine Ay rfl (fun h=>?_) (fun h=>?_)
 ·exact AA
 refine go ?_;refine Be (Atj v By G FT) fun z hz=>?_;obtain ⟨l,a,c,F0,f,y,lg⟩:=z;obtain ⟨hll,hlz⟩:=hz;dsimp only at hll hlz ⊢;refine Agm lg FE FE ?_;refine go ?_;intros;rename_i gT gM;refine Be (X3 ⟨l⟩ f y lg _ _ _ _ FT (by unfold Y8;omega)) fun _ _=>?_;refine go ?_;refine Be (Afn ⟨l⟩ f y lg _ _ _ _ FT (by unfold Y8;omega)) fun _ _=>?_;refine go ?_;rw [show decide (¬(Gs ⟨l⟩ f y lg).1=(Gs ⟨l⟩ f y lg).1)=false from by simp];refine go ?_;rw [show decide (¬(Gs ⟨l⟩ f y lg).2=(Gs ⟨l⟩ f y lg).2)=false from by simp];refine go ?_
 refine Be (Ap6 v By G FT) fun z hz=>?_;obtain ⟨⟨x,cs,Fx,i1,s1⟩,t⟩:=z;obtain ⟨-, -, -,hln⟩:=hz;dsimp only at hln ⊢;refine B9 (x:=x) ?_;rintro b1 d1 G1 b2 d2 G2 b3 d3 G3 b4 d4 G4 b5 d5 G5 b6 d6 G6 b7 d7 G7 ev q1 q2 - - - - - - -;obtain rfl:=Oa ev;clear ev;refine go ?_;intros;obtain ⟨c0,made,e0⟩:∃c0 made,Bi ⟨l⟩ f y=(c0,made):=⟨_,_,rfl⟩;have hN:=fun v F=>Abl ⟨l⟩ f y v F;have hM:=fun v F=>Ox ⟨l⟩ f y v F;have hq:=Ay7 ⟨l⟩ f y;have hgd:=M3 (t:=⟨l⟩) (f:=f) (y:=y);have hra:=fun h ls=>Ard (t:=⟨l⟩) (f:=f) (y:=y) h ls;have hrp:=fun h ls k=>Ao8 (t:=⟨l⟩) (f:=f) (y:=y) h ls k;rw [e0] at hN hM hq hgd hra hrp
 dsimp only at hN hM hq hgd hra hrp;refine Be (hN _ _) fun u _=>?_;obtain ⟨ucs,uF⟩:=u;dsimp only;refine Oy Oz fun F5=>?_;refine B9 (x:=c0) ?_;rintro e1 k1 K1 e2 k2 K2 e3 k3 K3 e4 k4 K4 e5 k5 K5 e6 k6 K6 e7 k7 K7 ev q3 q4 - - - - - - -;obtain rfl:=Oa ev;clear ev;refine Cg c0 q3 q4 (a1:=e1) (c1:=k1) (a2:=e2) (c2:=k2) (a3:=e3) (c3:=k3) (a4:=e4) (c4:=k4) (a5:=e5) (c5:=k5) (a6:=e6) (c6:=k6) (a7:=e7) (c7:=k7) ?_;refine go ?_;intros;rename_i gC;refine Be (hM _ _) fun u _=>?_;obtain ⟨ucs,uF⟩:=u;dsimp only;refine Oy Oz fun F5=>?_;refine B9 (x:=c0) ?_
 rintro u1 y1 W1 u2 y2 W2 u3 y3 W3 u4 y4 W4 u5 y5 W5 u6 y6 W6 u7 y7 W7 ev q5 q6 - - - - - - -;obtain rfl:=Oa ev;clear ev;refine Cg c0 q5 q6 (a1:=u1) (c1:=y1) (a2:=u2) (c2:=y2) (a3:=u3) (c3:=y3) (a4:=u4) (c4:=y4) (a5:=u5) (c5:=y5) (a6:=u6) (c6:=y6) (a7:=u7) (c7:=y7) ?_;refine go ?_;intros;refine Be (Arz _ _ c0 _ _ fun q9 h9=>bE (hq q9 h9) EZ) fun _ _=>?_;refine go ?_;rw [show decide (¬made=made)=false from by simp];refine go ?_;cases made
 ·exact AA
 have hg0:=hgd rfl;refine go ?_;refine Be (Apg t EY) fun u _=>?_;obtain ⟨la,lc,lF⟩:=u;dsimp only;obtain ⟨hl1,hl2⟩:=Avd t;generalize Ym t=ls at *;refine Av (E:=A9) (xs:=ls) fun F7=>?_;refine go ?_;refine Ca [2,3,4,5,13,17] (fun z:CnD=>[(19,aa (z.i:Nat))]) (fun z=>[.row gC 45 0 [] z.cs [],.isv Ec (.agg z.cs.toArray) z.x z.F]) (fun z=>z.i<=ls.length/\z.x=(Nz c0 (ls.take z.i)).1) (fun z=>ls.length - z.i) ⟨c0,_,_,0,⟨0,0⟩⟩ ⟨aD _,rfl⟩ fun z hz=>?_;obtain ⟨x,cs,Fc,i0,s0⟩:=z;obtain ⟨hi,hx⟩:=hz;dsimp only at hi hx ⊢;have hgx:Eo x=true:=by rw [hx];exact Wk _ hg0
 refine B9 (x:=x) ?_;rintro b1 d1 G1 b2 d2 G2 b3 d3 G3 b4 d4 G4 b5 d5 G5 b6 d6 G6 b7 d7 G7 ev q1 q2 - - - - - - -;obtain rfl:=Oa ev;clear ev;refine Cg x q1 q2 (a1:=b1) (c1:=d1) (a2:=b2) (c2:=d2) (a3:=b3) (c3:=d3) (a4:=b4) (c4:=d4) (a5:=b5) (c5:=d5) (a6:=b6) (c6:=d6) (a7:=b7) (c7:=d7) ?_;refine go ?_;refine Ay rfl (fun h1=>?_) (fun h1=>?_)
 ·
  have hh:i0 < ls.length:=EY
  have hsz:=hl2 _ (aB hh);have hX:=fun v F=>Ac0 x ls[i0] v F FT (Ku (Oc hgx)) (by have:=Sy hgx;omega) FE;rw [Zg hgx] at hX;refine Me (a:=la) (xs:=ls) i0 ?_;rintro hi0 b0 o0 e0 s0;cases e0;refine Hy ?_;intros;refine Ar [0,9] [6,7,8,9] ?_;refine Ze 0 ?_;refine Ze 1 ?_;refine Ze 2 ?_;refine Ze 3 ?_;refine Ze 4 ?_;refine dN 5 ?_;refine oC ?_;refine Be (hX _ _) fun u _=>?_;obtain ⟨ucs,uF⟩:=u;dsimp only;refine Oy Oz fun F9=>?_;refine B9 (x:=(Mg x ls[i0]).1) ?_;rintro h1 t1 J1 h2 t2 J2 h3 t3 J3 h4 t4 J4 h5 t5 J5 h6 t6 J6 h7 t7 J7 ev q7 q8 - - - - - - -
  obtain rfl:=Oa ev;clear ev;refine dk ?_;refine P0 6 ?_;refine P0 7 ?_;refine P0 8 ?_;refine dN 9 ?_;refine oS ?_;refine Nm ?_;refine dd ?_;refine Cg (Mg x ls[i0]).1 q7 q8 (a1:=h1) (c1:=t1) (a2:=h2) (c2:=t2) (a3:=h3) (c3:=t3) (a4:=h4) (c4:=t4) (a5:=h5) (c5:=t5) (a6:=h6) (c6:=t6) (a7:=h7) (c7:=t7) ?_;refine go ?_;rw [show ((i0:Nat):Int)+1=((i0+1:Nat):Int) by omega];refine Ce ⟨(Mg x ls[i0]).1,_,_,i0+1,⟨0,0⟩⟩ ⟨hh,by show (Mg x ls[i0]).1=(Nz c0 (ls.take (i0+1))).1;rw [Ax6 hh,<-hx]⟩ (by show ls.length - (i0+1) < ls.length - i0;omega)
 have hie:i0=ls.length:=EY
 rw [show ls.take i0=ls from aV EY] at hx;have hA:=fun v0 F0 v3 F3=>X3 ⟨l⟩ f y x.Gm v0 v3 F0 F3 FT (by have:=Sy hgx;unfold Y8;omega);rw [hx,hra rfl ls,<-hx] at hA;dsimp only at hA;have hlg:=Rw hgx;have hfit:=Sy hgx;refine Agm x.Gm FE FE ?_;refine go ?_;refine Be (hA _ _ _ _) fun _ _=>?_;refine go ?_;rw [show ((x.Gm.pending.size:Nat):Int) - ((x.Gm.pending.size:Nat):Int) % 7=((x.Gm.pending.size - x.Gm.pending.size % 7:Nat):Int) by omega];have hpr:=hrp rfl ls (x.Gm.pending.size - x.Gm.pending.size % 7);rw [<-hx] at hpr
 refine Be (Bbz x.Gm.Bd x.Gm.pending x.Gm.count (x.Gm.pending.size - x.Gm.pending.size % 7) FT hlg EY) fun _ _=>?_;have hbs:(bz (x.Gm.Bd.data.toList++x.Gm.pending.data.toList.take (x.Gm.pending.size - x.Gm.pending.size % 7))).size<=30000:=by
  rw [Ho,aA,aP,Co,Co];omega
 generalize bz (x.Gm.Bd.data.toList++x.Gm.pending.data.toList.take (x.Gm.pending.size - x.Gm.pending.size % 7))=b at *;refine go ?_;refine Be (Atp b FT hbs) fun _ _=>?_;have hpz:(Sq b).Bd.size<=30000/\(Sq b).pending.size=0:=⟨by show (bz _).size<=30000;rw [Ho];have:=(I8 b.data.toList).1;omega,rfl⟩;have hB:=fun v0 F0 v3 F3=>X3 ⟨l⟩ f y (Sq b) v0 v3 F0 F3 FT (by unfold Y8;omega);rw [hpr] at hB;dsimp only at hB;generalize Sq b=pl at *;refine Agm pl FE FE ?_;refine go ?_;intros;refine Be (hB _ _ _ _) fun _ _=>?_;refine go ?_
 rw [show decide (x.Gm.count=x.Gm.count)=true from by simp];refine go ?_;rw [show decide (pl.count=pl.count)=true from by simp];exact AA
def As6 : "*" ++ "errors.errorString" = "*errors.errorString" := by decide
def Baa:∀u,prog.typeName? 3 u=some "*errors.errorString" -> u=382:=by
 intro u h;exact typeName_ptr_named (nm := "errors.errorString") (by rw [As6];kernel_rfl) FB EZ u (by rw [As6];exact h)
def Bfw {W:World} (hL:laidMetH prog Rows.fnReplayRow.laid W) (hsh:W.ShapedOpen prog):(Ga [1,0,4,5]).P W:=by
 rw [MakeChecks.laidMetH_plain _ _ _ FB] at hL;have h3:=hL.tail.tail;have h5:=hL.tail.tail.tail.tail;have h6:=hL.tail.tail.tail.tail.tail;have e:(Rows.laid_internal_strconv_uint64pow10:DataW Unit)=Lib.tabData .u64 Lib.pow10Tab:=FB
 rw [e] at h3;have ht:Lib.TabIs prog W "internal/strconv.uint64pow10" .u64 Lib.pow10Tab:=Lib.tabIs_of_head (g:=1) (t:=352) (e:=59) (n:=20) FB FB underlying352 underlying59 FB FB h3;have hu:prog.underlying 235=some (.interface (prog.methodsAt 235)):=FB
 obtain ⟨a1,s1,hv1, -, -, -⟩:=laid_sentinel (g:=5) (ti:=235) (tp:=382) (te:=384) (ts:=9) h5 FB FB hu Baa underlying382 underlying384 rfl rfl underlying9 FB FB;obtain ⟨a2,s2,hv2, -, -, -⟩:=laid_sentinel (g:=4) (ti:=235) (tp:=382) (te:=384) (ts:=9) h6 FB FB hu Baa underlying382 underlying384 rfl rfl underlying9 FB FB
 obtain ⟨m,hm⟩:=cell_of_shapedOpen_int (P:=prog) (g:=0) (t:=3) (zero:=#[aa 0]) hsh (dv FB) FB rfl FB FB underlying3;refine ⟨[],rfl,rfl,⟨ht,⟨m,hm⟩,⟨_,_,hv2⟩,⟨_,_,hv1⟩⟩,rfl,?_⟩;have hc:=Lib.TabIs.cell ht (g:=1) FB 0 (by rw [Lib.pow10Tab_length];omega);have b0:=World.block_lt_of_cell? W ⟨1,0,none⟩ hc;intro b hb;simp only [aG,aT,bn] at hb;rcases hb with rfl|rfl|rfl|rfl
 ·exact b0
 ·exact World.block_lt_of_cell? W ⟨0,0,none⟩ hm
 ·exact World.block_lt_of_cell? W ⟨4,0,none⟩ (by simpa using World.var?_cell (show prog.globalNamed "strconv.ErrSyntax" = some 4 by kernel_rfl) hv2 0)
 ·exact World.block_lt_of_cell? W ⟨5,0,none⟩ (by simpa using World.var?_cell (show prog.globalNamed "strconv.ErrRange" = some 5 by kernel_rfl) hv1 0)
end Go.Proofs.YtmppejmafbfhlaaGreatDoor
