/- Part 4 of the proof: 41 texts, one behind the other. -/
import Derived.Lib.ItoaNum
import Derived.Lib.Bytealg
import Derived.Test.YtmppejmafbfhlaaGreatDoorShelf
import Derived.Lib.Strings
import Derived.Lib.LaidTab
import Derived.Lib.ItoaMem
import Derived.WideLaws
import Derived.Lib.SliceRun
import Derived.Test.YtmppejmafbfhlaaGreatDoorM3
open _root_.Go.Proofs.Tryz
set_option maxRecDepth 100000
set_option maxHeartbeats 8000000
set_option linter.all false
set_option linter.unusedVariables false
set_option linter.unusedSimpArgs false
namespace Go.Proofs.YtmppejmafbfhlaaGreatDoor
theorem AD{p:Prop}(h:p:=by refine go ?_;rw [<-eo,<-es,<-el];refine Ce (⟨k+1,_,_,_,_,_,_,_,_,_⟩:TkS) (by show k+1<=l.length;omega) (by show l.length - (k+1) < l.length - k;omega)):p:=h
theorem AP{p:Prop}(h:p:=by refine Be (Jv n.up _ _ F7 (by have:=hs.u;omega) (fun q hq=>by have:=hs.uq q hq;omega)) fun s7 _=>?_;refine dk ?_;refine dt 14 ?_;refine dN 16 ?_;refine oS ?_;refine dk ?_;refine dd ?_;refine Bk (⟨_,b1,d1,G1,b2,d2,G2,b3,d3,G3,_,_,_,_⟩:ClN) trivial):p:=h
theorem CB{p:Prop}(h:p:=by refine go ?_;refine ret z trivial rfl):p:=h
theorem CJ{p:Prop}(h:p:=by apply wO;refine N9 (ys:=[l[k].Ae]) (Tc _) C7 fun a8 c8 F8=>?_;refine go ?_;intros;apply wO;refine N9 (ys:=[(⟨l[k].Ae,2,c+3,l[k].Dw+1⟩:A4)]) (Ob (⟨l[k].Ae,2,c+3,l[k].Dw+1⟩:A4)) Dc fun a7 c7 F7=>?_;exact AD):p:=h
theorem DH{p:Prop}(h:p:=by refine go ?_;refine ret () trivial ?_;rw [show Bw x=decide ((x.An.length:Int)=0) by unfold Bw;rw [g1,hs];unfold Pt;rw [av h1,av (show x.Aa.Ao.length=0 by omega)];simp];rfl):p:=h
theorem DW{p:Prop}(h:p:=by refine go ?_;rw [<-eo];refine Ce (⟨k+1,_,_,_⟩:PkS) (by show k+1<=sn.length;omega) (by show sn.length - (k+1) < sn.length - k;omega)):p:=h
theorem EJ{p:Prop}(h:p:=by apply wO;refine N9 (ys:=[(⟨l[k].Ae,1,c+d,l[k].Dw⟩:A4)]) (Ob (⟨l[k].Ae,1,c+d,l[k].Dw⟩:A4)) Dc fun a7 c7 F7=>?_;exact AD):p:=h
theorem FH{p:Prop}(h:p:=by intro b hb;simp only [Pc.F] at hb ⊢;simp [hb]):p:=h
theorem FM{p:Prop}(h:p:=by obtain ⟨v1,v2,v3,v4,v5,v6,v7,F1,F2,F3,F4,F5,F6,F7,rfl,s1,s2,h1,h2,h3,h4,h5,h6,h7,rfl⟩:=h;exact ⟨v1,v2,v3,v4,v5,v6,v7,F1,F2,F3,F4,F5,F6,F7,rfl,s1,s2,h1.frame fun b hb=>hF b (by simp [hb]),h2.frame fun b hb=>hF b (by simp [hb]),h3.frame fun b hb=>hF b (by simp [hb]),h4.frame fun b hb=>hF b (by simp [hb]),h5.frame fun b hb=>hF b (by simp [hb]),h6.frame fun b hb=>hF b (by simp [hb]),h7.frame fun b hb=>hF b (by simp [hb]),rfl⟩):p:=h
theorem FP{p:Prop}(h:p:=by obtain ⟨v1,v2,v3,v4,v5,v6,v7,F1,F2,F3,F4,F5,F6,F7,rfl,h1,h2,h3,h4,h5,h6,h7,rfl⟩:=h;exact ⟨v1,v2,v3,v4,v5,v6,v7,F1,F2,F3,F4,F5,F6,F7,rfl,h1.frame fun b hb=>hF b (by simp [hb]),h2.frame fun b hb=>hF b (by simp [hb]),h3.frame fun b hb=>hF b (by simp [hb]),h4.frame fun b hb=>hF b (by simp [hb]),h5.frame fun b hb=>hF b (by simp [hb]),h6.frame fun b hb=>hF b (by simp [hb]),h7.frame fun b hb=>hF b (by simp [hb]),rfl⟩):p:=h
theorem GW{p:Prop}(h:p:=by show es.length - (z.k+1) < es.length - z.k;omega):p:=h
theorem HB{p:Prop}(h:p:=by rw [bi];omega):p:=h
theorem HH{p:Prop}(h:p:=by show (0:Nat)<=maxLen;exact aD _):p:=h
theorem IT{p:Prop}(h:p:=by rw [Iw hk];simp [Uu,h5,h6,h7]):p:=h
theorem IU{p:Prop}(h:p:=by rw [Iw hk];simp [U4,h5,h6,h7]):p:=h
theorem IV{p:Prop}(h:p:=by rw [Iw hk];simp [Qy,h5,h6,h7]):p:=h
theorem IW{p:Prop}(h:p:=by obtain ⟨v1,v2,v3,v4,v5,v6,v7,F1,F2,F3,F4,F5,F6,F7,rfl,s1,s2,h1,h2,h3,h4,h5,h6,h7,rfl⟩:=h;rfl):p:=h
theorem JI{p:Prop}(h:p:=by obtain ⟨v1,v2,v3,v4,v5,v6,v7,F1,F2,F3,F4,F5,F6,F7,rfl,h1,h2,h3,h4,h5,h6,h7,rfl⟩:=h;rfl):p:=h
theorem JN{p:Prop}(h:p:=by rw [Ho,Ps (by omega)];exact Ea 5 _ (by have:(10:Nat) ^ (5+1)=1000000:=rfl;omega)):p:=h
theorem JY{p:Prop}(h:p:=by unfold Jb;rw [show gp x.next (Cf x.next k)=k by unfold gp Cf;omega,ba,h]):p:=h
theorem KL{p:Prop}(h:p:=by unfold Lib.itoa;rw [aC (by omega),show v.toNat=v.natAbs by omega]):p:=h
theorem KO{p:Prop}(h:p:=by show n - (j+1) < n - j;omega):p:=h
theorem KT{p:Prop}(h:p:=by simp [hy]):p:=h
end Go.Proofs.YtmppejmafbfhlaaGreatDoor
namespace Go.Proofs.YtmppejmafbfhlaaGreatDoor
open Go.RowKit
structure Dx where
 Ap:Nf
 Ab:Cu
 Af:List Bj
 Ac:List A8
 down:List (List As)
 up:List (List As)
def Pe:B8 Dx where
 sz:=11
 Mj w cs x F:=∃v1 v2 v3 v4 v5 v6 v7 F1 F2 F3 F4 F5 F6 F7,cs=[v1,aa x.Ab.Aa.Am,aa x.Ab.Aa.size,v2,aa x.Ab.Ai,aa x.Ab.quiet,v3,v4,v5,v6,v7]/\Sl Bc w v1 x.Ap.Ad F1/\Sl A9 w v2 x.Ab.Aa.Al F2/\Sl Bv w v3 x.Ab.holds F3/\Sl Bz w v4 x.Af F4/\Sl Cb w v5 x.Ac F5/\Sl (O7 Ak EZ) w v6 x.down F6/\Sl (O7 Ak EZ) w v7 x.up F7/\F=F1++F2++F3++F4++F5++F6++F7
 len h:=JI
 lt h:=by
  obtain ⟨v1,v2,v3,v4,v5,v6,v7,F1,F2,F3,F4,F5,F6,F7,rfl,h1,h2,h3,h4,h5,h6,h7,rfl⟩:=h;intro b hb;simp only [aJ] at hb;rcases hb with (((((hb|hb)|hb)|hb)|hb)|hb)|hb
  ·exact h1.lt EZ b hb
  ·exact h2.lt EZ b hb
  ·exact h3.lt EZ b hb
  ·exact h4.lt EZ b hb
  ·exact h5.lt EZ b hb
  ·exact h6.lt EZ b hb
  ·exact h7.lt EZ b hb
 frame h hF:=FP
def Aam:B8 Dx where
 sz:=11
 Mj w cs x F:=∃v1 v2 v3 v4 v5 v6 v7 F1 F2 F3 F4 F5 F6 F7,cs=[v1,aa x.Ab.Aa.Am,aa x.Ab.Aa.size,v2,aa x.Ab.Ai,aa x.Ab.quiet,v3,v4,v5,v6,v7]/\Ow Bc 3 w v1 x.Ap.Ad F1/\Ow A9 9 w v2 x.Ab.Aa.Al F2/\Ow Bv 165 w v3 x.Ab.holds F3/\Ow Cc 111 w v4 x.Af F4/\Ow B4 118 w v5 x.Ac F5/\Ow (J0 Ak 159) 120 w v6 x.down F6/\Ow (J0 Ak 159) 120 w v7 x.up F7/\F=F1++F2++F3++F4++F5++F6++F7
 len h:=JI
 lt h:=by
  obtain ⟨v1,v2,v3,v4,v5,v6,v7,F1,F2,F3,F4,F5,F6,F7,rfl,h1,h2,h3,h4,h5,h6,h7,rfl⟩:=h;intro b hb;simp only [aJ] at hb;rcases hb with (((((hb|hb)|hb)|hb)|hb)|hb)|hb
  ·exact h1.lt b hb
  ·exact h2.lt b hb
  ·exact h3.lt b hb
  ·exact h4.lt b hb
  ·exact h5.lt b hb
  ·exact h6.lt b hb
  ·exact h7.lt b hb
 frame h hF:=FP
def Y6:M9 Aam Pe:=⟨rfl,fun h=>by
 obtain ⟨v1,v2,v3,v4,v5,v6,v7,F1,F2,F3,F4,F5,F6,F7,rfl,h1,h2,h3,h4,h5,h6,h7,rfl⟩:=h;obtain ⟨G1,g1,k1⟩:=h1.sl (M9.refl _);obtain ⟨G2,g2,k2⟩:=h2.sl (M9.refl _);obtain ⟨G3,g3,k3⟩:=h3.sl (M9.refl _);obtain ⟨G4,g4,k4⟩:=h4.sl Kr;obtain ⟨G5,g5,k5⟩:=h5.sl Rn;obtain ⟨G6,g6,k6⟩:=h6.sl (Qr (M9.refl _) EZ _);obtain ⟨G7,g7,k7⟩:=h7.sl (Qr (M9.refl _) EZ _);refine ⟨G1++G2++G3++G4++G5++G6++G7,?_,v1,v2,v3,v4,v5,v6,v7,G1,G2,G3,G4,G5,G6,G7,rfl,k1,k2,k3,k4,k5,k6,k7,rfl⟩;intro b hb;simp only [aJ] at hb ⊢;rcases hb with (((((hb|hb)|hb)|hb)|hb)|hb)|hb
 ·simp [g1 b hb]
 ·simp [g2 b hb]
 ·simp [g3 b hb]
 ·simp [g4 b hb]
 ·simp [g5 b hb]
 ·simp [g6 b hb]
 ·simp [g7 b hb]⟩
-- markNet: a nested struct with several slices is not written here
section
variable {c:Cx} {fr:Fr} {H:List Pc} {Φ:Gl}
def Fg {v:Value} {x:Dx} {F:aq} (h:∀(a1:aj) (c1:Nat) (F1:aq) (a2:aj) (c2:Nat) (F2:aq) (a3:aj) (c3:Nat) (F3:aq) (a4:aj) (c4:Nat) (F4:aq) (a5:aj) (c5:Nat) (F5:aq) (a6:aj) (c6:Nat) (F6:aq) (a7:aj) (c7:Nat) (F7:aq),v=.agg #[ab a1 x.Ap.Ad.length c1,aa x.Ab.Aa.Am,aa x.Ab.Aa.size,ab a2 x.Ab.Aa.Al.length c2,aa x.Ab.Ai,aa x.Ab.quiet,ab a3 x.Ab.holds.length c3,ab a4 x.Af.length c4,ab a5 x.Ac.length c5,ab a6 x.down.length c6,ab a7 x.up.length c7]->x.Ap.Ad.length<=maxLen->x.Ab.Aa.Al.length<=maxLen->x.Ab.holds.length<=maxLen->x.Af.length<=maxLen->x.Ac.length<=maxLen->x.down.length<=maxLen->x.up.length<=maxLen->T c fr (.sl Bc (ab a1 x.Ap.Ad.length c1) x.Ap.Ad F1::.sl A9 (ab a2 x.Ab.Aa.Al.length c2) x.Ab.Aa.Al F2::.sl Bv (ab a3 x.Ab.holds.length c3) x.Ab.holds F3::.sl Bz (ab a4 x.Af.length c4) x.Af F4::.sl Cb (ab a5 x.Ac.length c5) x.Ac F5::.sl (O7 Ak EZ) (ab a6 x.down.length c6) x.down F6::.sl (O7 Ak EZ) (ab a7 x.up.length c7) x.up F7::H) Φ) (hm:.isv Pe v x F∈H:=by exact Bp):T c fr H Φ:=.mk fun a w s g=>by
 obtain ⟨cs,rfl,v1,v2,v3,v4,v5,v6,v7,G1,G2,G3,G4,G5,G6,G7,rfl,h1,h2,h3,h4,h5,h6,h7,rfl⟩:=s.get hm;obtain ⟨a1,c1,rfl⟩:=h1.slice;have l1:=h1.len;obtain ⟨a2,c2,rfl⟩:=h2.slice;have l2:=h2.len;obtain ⟨a3,c3,rfl⟩:=h3.slice;have l3:=h3.len;obtain ⟨a4,c4,rfl⟩:=h4.slice;have l4:=h4.len;obtain ⟨a5,c5,rfl⟩:=h5.slice;have l5:=h5.len;obtain ⟨a6,c6,rfl⟩:=h6.slice;have l6:=h6.len;obtain ⟨a7,c7,rfl⟩:=h7.slice;have l7:=h7.len;have t7:=s.ro (p:=.sl _ _ _ _) hm rfl rfl ⟨EZ,h7⟩ FH
 have t6:=t7.ro (p:=.sl _ _ _ _) (aQ _ hm) rfl rfl ⟨EZ,h6⟩ FH;have t5:=t6.ro (p:=.sl _ _ _ _) (aQ _ (aQ _ hm)) rfl rfl ⟨EZ,h5⟩ FH;have t4:=t5.ro (p:=.sl _ _ _ _) (aQ _ (aQ _ (aQ _ hm))) rfl rfl ⟨EZ,h4⟩ FH
 have t3:=t4.ro (p:=.sl _ _ _ _) (aQ _ (aQ _ (aQ _ (aQ _ hm)))) rfl rfl ⟨EZ,h3⟩ FH;have t2:=t3.ro (p:=.sl _ _ _ _) (aQ _ (aQ _ (aQ _ (aQ _ (aQ _ hm))))) rfl rfl ⟨EZ,h2⟩ FH
 have t1:=t2.ro (p:=.sl _ _ _ _) (aQ _ (aQ _ (aQ _ (aQ _ (aQ _ (aQ _ hm)))))) rfl rfl ⟨EZ,h1⟩ FH;exact (h a1 c1 G1 a2 c2 G2 a3 c3 G3 a4 c4 G4 a5 c5 G5 a6 c6 G6 a7 c7 G7 rfl  l1 l2 l3 l4 l5 l6 l7).h a w t1 g
def E8 (x:Dx) {a1:aj} {c1:Nat} {F1:aq} {a2:aj} {c2:Nat} {F2:aq} {a3:aj} {c3:Nat} {F3:aq} {a4:aj} {c4:Nat} {F4:aq} {a5:aj} {c5:Nat} {F5:aq} {a6:aj} {c6:Nat} {F6:aq} {a7:aj} {c7:Nat} {F7:aq}  (h:T c fr (.isv Pe (.agg #[ab a1 x.Ap.Ad.length c1,aa x.Ab.Aa.Am,aa x.Ab.Aa.size,ab a2 x.Ab.Aa.Al.length c2,aa x.Ab.Ai,aa x.Ab.quiet,ab a3 x.Ab.holds.length c3,ab a4 x.Af.length c4,ab a5 x.Ac.length c5,ab a6 x.down.length c6,ab a7 x.up.length c7]) x (F1++F2++F3++F4++F5++F6++F7)::H) Φ) (m1:.sl Bc (ab a1 x.Ap.Ad.length c1) x.Ap.Ad F1∈H:=by exact Bp) (m2:.sl A9 (ab a2 x.Ab.Aa.Al.length c2) x.Ab.Aa.Al F2∈H:=by exact Bp) (m3:.sl Bv (ab a3 x.Ab.holds.length c3) x.Ab.holds F3∈H:=by exact Bp) (m4:.sl Bz (ab a4 x.Af.length c4) x.Af F4∈H:=by exact Bp) (m5:.sl Cb (ab a5 x.Ac.length c5) x.Ac F5∈H:=by exact Bp) (m6:.sl (O7 Ak EZ) (ab a6 x.down.length c6) x.down F6∈H:=by exact Bp) (m7:.sl (O7 Ak EZ) (ab a7 x.up.length c7) x.up F7∈H:=by exact Bp):T c fr H Φ:=.mk fun a w s g=>by
 refine h.h a w (s.add (N:=[_]) (Below.refl _ _) (by intro q hq;obtain rfl:=aL.1 hq;exact ⟨_,rfl,_,_,_,_,_,_,_,_,_,_,_,_,_,_,rfl,(s.get m1).2,(s.get m2).2,(s.get m3).2,(s.get m4).2,(s.get m5).2,(s.get m6).2,(s.get m7).2,rfl⟩) ⟨FA,trivial⟩ fun q hq b hb=>?_) g;obtain rfl:=aL.1 hq;simp only [Pc.F,aJ] at hb;rcases hb with (((((hb|hb)|hb)|hb)|hb)|hb)|hb
 ·exact .inr ⟨rfl,_,m1,rfl,hb⟩
 ·exact .inr ⟨rfl,_,m2,rfl,hb⟩
 ·exact .inr ⟨rfl,_,m3,rfl,hb⟩
 ·exact .inr ⟨rfl,_,m4,rfl,hb⟩
 ·exact .inr ⟨rfl,_,m5,rfl,hb⟩
 ·exact .inr ⟨rfl,_,m6,rfl,hb⟩
 ·exact .inr ⟨rfl,_,m7,rfl,hb⟩
def Vv {v:Value} {x:Dx} {F:aq} {S:List Pc} (h:∀(a1:aj) (c1:Nat) (F1:aq) (a2:aj) (c2:Nat) (F2:aq) (a3:aj) (c3:Nat) (F3:aq) (a4:aj) (c4:Nat) (F4:aq) (a5:aj) (c5:Nat) (F5:aq) (a6:aj) (c6:Nat) (F6:aq) (a7:aj) (c7:Nat) (F7:aq),v=.agg #[ab a1 x.Ap.Ad.length c1,aa x.Ab.Aa.Am,aa x.Ab.Aa.size,ab a2 x.Ab.Aa.Al.length c2,aa x.Ab.Ai,aa x.Ab.quiet,ab a3 x.Ab.holds.length c3,ab a4 x.Af.length c4,ab a5 x.Ac.length c5,ab a6 x.down.length c6,ab a7 x.up.length c7]->x.Ap.Ad.length<=maxLen->x.Ab.Aa.Al.length<=maxLen->x.Ab.holds.length<=maxLen->x.Af.length<=maxLen->x.Ac.length<=maxLen->x.down.length<=maxLen->x.up.length<=maxLen->T c fr (.ow Bc 3 (ab a1 x.Ap.Ad.length c1) x.Ap.Ad F1::.ow A9 9 (ab a2 x.Ab.Aa.Al.length c2) x.Ab.Aa.Al F2::.ow Bv 165 (ab a3 x.Ab.holds.length c3) x.Ab.holds F3::.ow Cc 111 (ab a4 x.Af.length c4) x.Af F4::.ow B4 118 (ab a5 x.Ac.length c5) x.Ac F5::.ow (J0 Ak 159) 120 (ab a6 x.down.length c6) x.down F6::.ow (J0 Ak 159) 120 (ab a7 x.up.length c7) x.up F7::S) Φ) (hp:C1 H (.own Aam v x F) S:=by exact Do):T c fr H Φ:=.mk fun a w s g=>by
 obtain ⟨hn,cs,rfl,v1,v2,v3,v4,v5,v6,v7,G1,G2,G3,G4,G5,G6,G7,rfl,h1,h2,h3,h4,h5,h6,h7,rfl⟩:=(s.pick hp).on (.own Aam v x F) FA;obtain ⟨a1,c1,rfl⟩:=h1.slice;have l1:=h1.len;obtain ⟨a2,c2,rfl⟩:=h2.slice;have l2:=h2.len;obtain ⟨a3,c3,rfl⟩:=h3.slice;have l3:=h3.len;obtain ⟨a4,c4,rfl⟩:=h4.slice;have l4:=h4.len;obtain ⟨a5,c5,rfl⟩:=h5.slice;have l5:=h5.len;obtain ⟨a6,c6,rfl⟩:=h6.slice;have l6:=h6.len;obtain ⟨a7,c7,rfl⟩:=h7.slice;have l7:=h7.len
 exact (h a1 c1 G1 a2 c2 G2 a3 c3 G3 a4 c4 G4 a5 c5 G5 a6 c6 G6 a7 c7 G7 rfl  l1 l2 l3 l4 l5 l6 l7).h a w (s.mer (M:=[.own Aam _ x _]) (N:=[.ow Bc _ _ _ G1,.ow A9 _ _ _ G2,.ow Bv _ _ _ G3,.ow Cc _ _ _ G4,.ow B4 _ _ _ G5,.ow (J0 Ak 159) _ _ _ G6,.ow (J0 Ak 159) _ _ _ G7]) (.cons hp .nil) (fun _ _=>⟨Qu ⟨(Ly (Ly (Ly (Ly (Ly (Ly hn)))))),h1⟩ (Qu ⟨Ab5 (Ly (Ly (Ly (Ly (Ly hn))))),h2⟩ (Qu ⟨Ab5 (Ly (Ly (Ly (Ly hn)))),h3⟩ (Qu ⟨Ab5 (Ly (Ly (Ly hn))),h4⟩ (Qu ⟨Ab5 (Ly (Ly hn)),h5⟩ (Qu ⟨Ab5 (Ly hn),h6⟩ (Qu ⟨Ab5 hn,h7⟩ (Asl))))))),FZ⟩) GK) g
def Nl (x:Dx) {a1:aj} {c1:Nat} {F1:aq} {a2:aj} {c2:Nat} {F2:aq} {a3:aj} {c3:Nat} {F3:aq} {a4:aj} {c4:Nat} {F4:aq} {a5:aj} {c5:Nat} {F5:aq} {a6:aj} {c6:Nat} {F6:aq} {a7:aj} {c7:Nat} {F7:aq} {S1 S2 S3 S4 S5 S6 S7:List Pc}  (h:T c fr (.own Aam (.agg #[ab a1 x.Ap.Ad.length c1,aa x.Ab.Aa.Am,aa x.Ab.Aa.size,ab a2 x.Ab.Aa.Al.length c2,aa x.Ab.Ai,aa x.Ab.quiet,ab a3 x.Ab.holds.length c3,ab a4 x.Af.length c4,ab a5 x.Ac.length c5,ab a6 x.down.length c6,ab a7 x.up.length c7]) x (F1++F2++F3++F4++F5++F6++F7)::S7) Φ) (m1:C1 H (.ow Bc 3 (ab a1 x.Ap.Ad.length c1) x.Ap.Ad F1) S1:=by exact Do) (m2:C1 S1 (.ow A9 9 (ab a2 x.Ab.Aa.Al.length c2) x.Ab.Aa.Al F2) S2:=by exact Do) (m3:C1 S2 (.ow Bv 165 (ab a3 x.Ab.holds.length c3) x.Ab.holds F3) S3:=by exact Do) (m4:C1 S3 (.ow Cc 111 (ab a4 x.Af.length c4) x.Af F4) S4:=by exact Do) (m5:C1 S4 (.ow B4 118 (ab a5 x.Ac.length c5) x.Ac F5) S5:=by exact Do) (m6:C1 S5 (.ow (J0 Ak 159) 120 (ab a6 x.down.length c6) x.down F6) S6:=by exact Do) (m7:C1 S6 (.ow (J0 Ak 159) 120 (ab a7 x.up.length c7) x.up F7) S7:=by exact Do)  : T c fr H Φ:=.mk fun a w s g =>
 h.h a w (s.mer (M:=[.ow Bc _ _ _ F1,.ow A9 _ _ _ F2,.ow Bv _ _ _ F3,.ow Cc _ _ _ F4,.ow B4 _ _ _ F5,.ow (J0 Ak 159) _ _ _ F6,.ow (J0 Ak 159) _ _ _ F7]) (N:=[.own Aam _ x (F1++F2++F3++F4++F5++F6++F7)]) (.cons m1 (.cons m2 (.cons m3 (.cons m4 (.cons m5 (.cons m6 (.cons m7 (.nil)))))))) (fun hk hn=>⟨I6 ⟨FZ,_,rfl,_,_,_,_,_,_,_,_,_,_,_,_,_,_,rfl,(Qv hk).2,(Qv (H8 hk)).2,(Qv (H8 (H8 hk))).2,(Qv (H8 (H8 (H8 hk)))).2,(Qv (H8 (H8 (H8 (H8 hk))))).2,(Qv (H8 (H8 (H8 (H8 (H8 hk)))))).2,(Qv (H8 (H8 (H8 (H8 (H8 (H8 hk))))))).2,rfl⟩,FZ⟩) GK) g
end
section
variable {c:Cx} {fr:Fr} {H:List Pc} {Φ:Gl}
def Ms {α:Type} {E:B8 α} {hz:0 < E.sz} {a:aj} {n cp:Nat} {xs:List (List α)} {F:aq} (i:Nat) (h:∀(hi:i < xs.length) (b o:Nat) (a1:aj) (c1:Nat) (F1:aq),a=some ⟨b,o,none⟩->xs[i].length<=maxLen->T c fr (.cel b (o+i * 1) [.slice a1 xs[i].length c1]::.sl E (.slice a1 xs[i].length c1) xs[i] F1::H) Φ) (hm:.sl (O7 E hz) (ab a n cp) xs F∈H:=by exact Bp) (hi:i < xs.length:=by omega):T c fr H Φ:=.mk fun ac w s g=>by
 obtain ⟨b,o,cs,G,ha,hrep,hG,hb,hne,hr⟩:=Xu (s.get hm) i hi;obtain ⟨v1,rfl,h1⟩:=hrep;obtain ⟨a1,c1,rfl⟩:=h1.slice;have l1:=h1.len;have t1:=s.ro (p:=.sl E (.slice a1 xs[i].length c1) xs[i] G) hm rfl rfl ⟨hz,h1⟩ HL;exact (h hi b o a1 c1 G ha l1).h ac w (t1.ro (aQ _ hm) rfl rfl ⟨hne,hr⟩ GF) g
def Zp {α:Type} {O:B8 α} {t:TypeId} {v:Value} {xs:List α} {F:aq} {S:List Pc} (h:∀(a1:aj) (c1:Nat),v=.agg #[ab a1 xs.length c1]->xs.length<=maxLen->T c fr (.ow O t (ab a1 xs.length c1) xs F::S) Φ) (hp:C1 H (.own (J0 O t) v xs F) S:=by exact Do):T c fr H Φ:=.mk fun a w s g=>by
 have z1:=s.pick hp;obtain ⟨hn,cs,rfl,v1,rfl,h1⟩:=z1.on (.own (J0 O t) v xs F) FA;obtain ⟨a1,c1,rfl⟩:=h1.slice;have l1:=h1.len;exact (h a1 c1 rfl l1).h a w (z1.conv rfl ⟨hn,h1⟩ (fun b hb=>hb)) g
def Kx {α:Type} {O:B8 α} {t:TypeId} (xs:List α) {a1:aj} {c1:Nat} {F:aq} {S:List Pc} (h:T c fr (.own (J0 O t) (.agg #[ab a1 xs.length c1]) xs F::S) Φ) (hp:C1 H (.ow O t (ab a1 xs.length c1) xs F) S:=by exact Do):T c fr H Φ:=.mk fun a w s g=>by
 have z1:=s.pick hp;obtain ⟨hn,h1⟩:=z1.on (.ow O t (ab a1 xs.length c1) xs F) FA;exact h.h a w (z1.conv rfl ⟨hn,_,rfl,_,rfl,h1⟩ (fun b hb=>hb)) g
end
def Bgy (v v2:Value) (x:Dx) (F F2:aq) (hs:∀q∈x.down++x.up,q.length<=1000000000):FV 32 [v,v2] [.isv Pe v x F,.isv Pe v2 x F2] (.bool true):=by
 refine enter func32 rfl ntmps32 fun w0=>?_;refine Fg (v:=v) (x:=x) (F:=F) ?_;rintro a1 c1 F1 a2 c2 G2 a3 c3 F3 a4 c4 F4 a5 c5 F5 a6 c6 F6 a7 c7 F7 rfl - - - l4 l5 l6 l7;refine D6 x.Ab (a1:=a2) ?_;refine Fg (v:=v2) (x:=x) (F:=F2) ?_;rintro b1 d1 H1 b2 d2 H2 b3 d3 H3 b4 d4 H4 b5 d5 H5 b6 d6 H6 b7 d7 H7 rfl - - - - - - -;refine D6 x.Ab (a1:=b2) (a2:=b3) ?_;unfold maxLen at l4 l5 l6 l7;refine go ?_;intros;refine Be (Ams _ _ x.Ap.Ad _ _) fun _ _=>?_;refine go ?_;refine Be (Awk _ _ x.Ab _ _) fun _ _=>?_;refine go ?_;refine Dd rfl rfl (fun h=>?_) (fun h=>?_)
 ·exact absurd rfl h
 refine go ?_;refine Dd rfl rfl (fun h=>?_) (fun h=>?_)
 ·exact absurd rfl h
 refine go ?_;refine Dd rfl rfl (fun h=>?_) (fun h=>?_)
 ·exact absurd rfl h
 refine go ?_;refine Ay rfl (fun h=>?_) (fun h=>?_)
 ·exact absurd rfl h
 refine go ?_;refine Dl [2,3,4] (fun k:Nat=>[(5,aa k)]) (fun k=>k<=x.Af.length) (fun k=>x.Af.length - k) 0 (aD _) fun k hk=>?_;refine go ?_;refine Ay rfl (fun h3=>?_) (fun h3=>?_)
 ·have hk3:k < x.Af.length:=EY
  refine Oo (a:=a4) (xs:=x.Af) k ?_;rintro hia ga oa ma da La ea -;rw [ea];refine E5 x.Af[k] ?_;refine Oo (a:=b4) (xs:=x.Af) k ?_;rintro hib gb ob mb db Lb eb -;rw [eb];refine E5 x.Af[k] ?_;refine Hy ?_;intros;refine Ar [1,4,6,7] [] ?_;refine C4 0 1 2 3 ?_;refine C4 4 5 6 7 ?_;refine Dh 8 9 ?_;refine dN 10 ?_;refine oC ?_;refine Be (Ar0 _ _ x.Af[k] _ _) fun _ _=>?_;refine dk ?_;refine dt 11 ?_;exact CV
 refine go ?_;refine Dl [2,3,4] (fun k:Nat=>[(6,aa k)]) (fun k=>k<=x.Ac.length) (fun k=>x.Ac.length - k) 0 (aD _) fun k hk=>?_;refine go ?_;refine Ay rfl (fun h3=>?_) (fun h3=>?_)
 ·have hk3:k < x.Ac.length:=EY
  refine Jl (a:=a5) (xs:=x.Ac) k ?_;rintro hia ga oa ma da La na fa Ma ea - -;rw [ea];refine D5 x.Ac[k] ?_;refine Jl (a:=b5) (xs:=x.Ac) k ?_;rintro hib gb ob mb db Lb nb fb Mb eb - -;rw [eb];refine D5 x.Ac[k] ?_;refine Hy ?_;intros;refine Ar [1,5,8,9] [] ?_;refine C4 0 1 2 3 ?_;refine C4 4 5 6 7 ?_;refine Dh 8 9 ?_;refine dN 10 ?_;refine oC ?_;refine Be (Apu _ _ x.Ac[k] _ _) fun _ _=>?_;refine dk ?_;refine dt 11 ?_;exact CV
 refine go ?_;refine Dl [2,3,4] (fun k:Nat=>[(7,aa k)]) (fun k=>k<=x.down.length) (fun k=>x.down.length - k) 0 (aD _) fun k hk=>?_;refine go ?_;refine Ay rfl (fun h3=>?_) (fun h3=>?_)
 ·have hk3:k < x.down.length:=EY
  refine Ms (E:=Ak) (hz:=EZ) (a:=a6) (xs:=x.down) k ?_;rintro hia ga oa ma da La ea -;rw [ea];refine Ms (E:=Ak) (hz:=EZ) (a:=b6) (xs:=x.down) k ?_;rintro hib gb ob mb db Lb eb -;rw [eb];refine Hy ?_;intros;refine Ar [0,2,4,5] [] ?_;refine C4 0 1 2 3 ?_;refine C4 4 5 6 7 ?_;refine Dh 8 9 ?_;refine dN 10 ?_;refine oC ?_;refine Be (Air ma mb da db x.down[k] _ _ (hs _ (cA _ (aB hk3)))) fun _ _=>?_;refine dk ?_;refine dt 11 ?_;exact CV
 refine go ?_;refine Dl [2,3,4] (fun k:Nat=>[(8,aa k)]) (fun k=>k<=x.up.length) (fun k=>x.up.length - k) 0 (aD _) fun k hk=>?_;refine go ?_;refine Ay rfl (fun h3=>?_) (fun h3=>?_)
 ·have hk3:k < x.up.length:=EY
  refine Ms (E:=Ak) (hz:=EZ) (a:=a7) (xs:=x.up) k ?_;rintro hia ga oa ma da La ea -;rw [ea];refine Ms (E:=Ak) (hz:=EZ) (a:=b7) (xs:=x.up) k ?_;rintro hib gb ob mb db Lb eb -;rw [eb];refine Hy ?_;intros;refine Ar [0,2,4,5] [] ?_;refine C4 0 1 2 3 ?_;refine C4 4 5 6 7 ?_;refine Dh 8 9 ?_;refine dN 10 ?_;refine oC ?_;refine Be (Air ma mb da db x.up[k] _ _ (hs _ (eP _ (aB hk3)))) fun _ _=>?_;refine dk ?_;refine dt 11 ?_;exact CV
 exact AA
structure Cj where
 Bh:Dx
 Gm:Log
def Ec:B8 Cj where
 sz:=14
 Mj w cs x F:=∃v1 v2 v3 v4 v5 v6 v7 F1 F2 F3 F4 F5 F6 F7,cs=[v1,aa x.Bh.Ab.Aa.Am,aa x.Bh.Ab.Aa.size,v2,aa x.Bh.Ab.Ai,aa x.Bh.Ab.quiet,v3,v4,v5,v6,v7,af x.Gm.Bd,af x.Gm.pending,aa x.Gm.count]/\x.Gm.Bd.size<=maxLen/\x.Gm.pending.size<=maxLen/\Sl Bc w v1 x.Bh.Ap.Ad F1/\Sl A9 w v2 x.Bh.Ab.Aa.Al F2/\Sl Bv w v3 x.Bh.Ab.holds F3/\Sl Bz w v4 x.Bh.Af F4/\Sl Cb w v5 x.Bh.Ac F5/\Sl (O7 Ak EZ) w v6 x.Bh.down F6/\Sl (O7 Ak EZ) w v7 x.Bh.up F7/\F=F1++F2++F3++F4++F5++F6++F7
 len h:=IW
 lt h:=by
  obtain ⟨v1,v2,v3,v4,v5,v6,v7,F1,F2,F3,F4,F5,F6,F7,rfl,s1,s2,h1,h2,h3,h4,h5,h6,h7,rfl⟩:=h;intro b hb;simp only [aJ] at hb;rcases hb with (((((hb|hb)|hb)|hb)|hb)|hb)|hb
  ·exact h1.lt EZ b hb
  ·exact h2.lt EZ b hb
  ·exact h3.lt EZ b hb
  ·exact h4.lt EZ b hb
  ·exact h5.lt EZ b hb
  ·exact h6.lt EZ b hb
  ·exact h7.lt EZ b hb
 frame h hF:=FM
def Qa:B8 Cj where
 sz:=14
 Mj w cs x F:=∃v1 v2 v3 v4 v5 v6 v7 F1 F2 F3 F4 F5 F6 F7,cs=[v1,aa x.Bh.Ab.Aa.Am,aa x.Bh.Ab.Aa.size,v2,aa x.Bh.Ab.Ai,aa x.Bh.Ab.quiet,v3,v4,v5,v6,v7,af x.Gm.Bd,af x.Gm.pending,aa x.Gm.count]/\x.Gm.Bd.size<=maxLen/\x.Gm.pending.size<=maxLen/\Ow Bc 3 w v1 x.Bh.Ap.Ad F1/\Ow A9 9 w v2 x.Bh.Ab.Aa.Al F2/\Ow Bv 165 w v3 x.Bh.Ab.holds F3/\Ow Cc 111 w v4 x.Bh.Af F4/\Ow B4 118 w v5 x.Bh.Ac F5/\Ow (J0 Ak 159) 120 w v6 x.Bh.down F6/\Ow (J0 Ak 159) 120 w v7 x.Bh.up F7/\F=F1++F2++F3++F4++F5++F6++F7
 len h:=IW
 lt h:=by
  obtain ⟨v1,v2,v3,v4,v5,v6,v7,F1,F2,F3,F4,F5,F6,F7,rfl,s1,s2,h1,h2,h3,h4,h5,h6,h7,rfl⟩:=h;intro b hb;simp only [aJ] at hb;rcases hb with (((((hb|hb)|hb)|hb)|hb)|hb)|hb
  ·exact h1.lt b hb
  ·exact h2.lt b hb
  ·exact h3.lt b hb
  ·exact h4.lt b hb
  ·exact h5.lt b hb
  ·exact h6.lt b hb
  ·exact h7.lt b hb
 frame h hF:=FM
def Oz:M9 Qa Ec:=⟨rfl,fun h=>by
 obtain ⟨v1,v2,v3,v4,v5,v6,v7,F1,F2,F3,F4,F5,F6,F7,rfl,s1,s2,h1,h2,h3,h4,h5,h6,h7,rfl⟩:=h;obtain ⟨G1,g1,k1⟩:=h1.sl (M9.refl _);obtain ⟨G2,g2,k2⟩:=h2.sl (M9.refl _);obtain ⟨G3,g3,k3⟩:=h3.sl (M9.refl _);obtain ⟨G4,g4,k4⟩:=h4.sl Kr;obtain ⟨G5,g5,k5⟩:=h5.sl Rn;obtain ⟨G6,g6,k6⟩:=h6.sl (Qr (M9.refl _) EZ _);obtain ⟨G7,g7,k7⟩:=h7.sl (Qr (M9.refl _) EZ _);refine ⟨G1++G2++G3++G4++G5++G6++G7,?_,v1,v2,v3,v4,v5,v6,v7,G1,G2,G3,G4,G5,G6,G7,rfl,s1,s2,k1,k2,k3,k4,k5,k6,k7,rfl⟩;intro b hb;simp only [aJ] at hb ⊢;rcases hb with (((((hb|hb)|hb)|hb)|hb)|hb)|hb
 ·simp [g1 b hb]
 ·simp [g2 b hb]
 ·simp [g3 b hb]
 ·simp [g4 b hb]
 ·simp [g5 b hb]
 ·simp [g6 b hb]
 ·simp [g7 b hb]⟩
-- markConsole: a nested struct with several slices is not written here
section
variable {c:Cx} {fr:Fr} {H:List Pc} {Φ:Gl}
def B9 {v:Value} {x:Cj} {F:aq} (h:∀(a1:aj) (c1:Nat) (F1:aq) (a2:aj) (c2:Nat) (F2:aq) (a3:aj) (c3:Nat) (F3:aq) (a4:aj) (c4:Nat) (F4:aq) (a5:aj) (c5:Nat) (F5:aq) (a6:aj) (c6:Nat) (F6:aq) (a7:aj) (c7:Nat) (F7:aq),v=.agg #[ab a1 x.Bh.Ap.Ad.length c1,aa x.Bh.Ab.Aa.Am,aa x.Bh.Ab.Aa.size,ab a2 x.Bh.Ab.Aa.Al.length c2,aa x.Bh.Ab.Ai,aa x.Bh.Ab.quiet,ab a3 x.Bh.Ab.holds.length c3,ab a4 x.Bh.Af.length c4,ab a5 x.Bh.Ac.length c5,ab a6 x.Bh.down.length c6,ab a7 x.Bh.up.length c7,af x.Gm.Bd,af x.Gm.pending,aa x.Gm.count]->x.Gm.Bd.size<=maxLen->x.Gm.pending.size<=maxLen->x.Bh.Ap.Ad.length<=maxLen->x.Bh.Ab.Aa.Al.length<=maxLen->x.Bh.Ab.holds.length<=maxLen->x.Bh.Af.length<=maxLen->x.Bh.Ac.length<=maxLen->x.Bh.down.length<=maxLen->x.Bh.up.length<=maxLen->T c fr (.sl Bc (ab a1 x.Bh.Ap.Ad.length c1) x.Bh.Ap.Ad F1::.sl A9 (ab a2 x.Bh.Ab.Aa.Al.length c2) x.Bh.Ab.Aa.Al F2::.sl Bv (ab a3 x.Bh.Ab.holds.length c3) x.Bh.Ab.holds F3::.sl Bz (ab a4 x.Bh.Af.length c4) x.Bh.Af F4::.sl Cb (ab a5 x.Bh.Ac.length c5) x.Bh.Ac F5::.sl (O7 Ak EZ) (ab a6 x.Bh.down.length c6) x.Bh.down F6::.sl (O7 Ak EZ) (ab a7 x.Bh.up.length c7) x.Bh.up F7::H) Φ) (hm:.isv Ec v x F∈H:=by exact Bp):T c fr H Φ:=.mk fun a w s g=>by
 obtain ⟨cs,rfl,v1,v2,v3,v4,v5,v6,v7,G1,G2,G3,G4,G5,G6,G7,rfl,s1,s2,h1,h2,h3,h4,h5,h6,h7,rfl⟩:=s.get hm;obtain ⟨a1,c1,rfl⟩:=h1.slice;have l1:=h1.len;obtain ⟨a2,c2,rfl⟩:=h2.slice;have l2:=h2.len;obtain ⟨a3,c3,rfl⟩:=h3.slice;have l3:=h3.len;obtain ⟨a4,c4,rfl⟩:=h4.slice;have l4:=h4.len;obtain ⟨a5,c5,rfl⟩:=h5.slice;have l5:=h5.len;obtain ⟨a6,c6,rfl⟩:=h6.slice;have l6:=h6.len;obtain ⟨a7,c7,rfl⟩:=h7.slice;have l7:=h7.len;have t7:=s.ro (p:=.sl _ _ _ _) hm rfl rfl ⟨EZ,h7⟩ FH
 have t6:=t7.ro (p:=.sl _ _ _ _) (aQ _ hm) rfl rfl ⟨EZ,h6⟩ FH;have t5:=t6.ro (p:=.sl _ _ _ _) (aQ _ (aQ _ hm)) rfl rfl ⟨EZ,h5⟩ FH;have t4:=t5.ro (p:=.sl _ _ _ _) (aQ _ (aQ _ (aQ _ hm))) rfl rfl ⟨EZ,h4⟩ FH
 have t3:=t4.ro (p:=.sl _ _ _ _) (aQ _ (aQ _ (aQ _ (aQ _ hm)))) rfl rfl ⟨EZ,h3⟩ FH;have t2:=t3.ro (p:=.sl _ _ _ _) (aQ _ (aQ _ (aQ _ (aQ _ (aQ _ hm))))) rfl rfl ⟨EZ,h2⟩ FH
 have t1:=t2.ro (p:=.sl _ _ _ _) (aQ _ (aQ _ (aQ _ (aQ _ (aQ _ (aQ _ hm)))))) rfl rfl ⟨EZ,h1⟩ FH;exact (h a1 c1 G1 a2 c2 G2 a3 c3 G3 a4 c4 G4 a5 c5 G5 a6 c6 G6 a7 c7 G7 rfl s1 s2 l1 l2 l3 l4 l5 l6 l7).h a w t1 g
def Cg (x:Cj) {a1:aj} {c1:Nat} {F1:aq} {a2:aj} {c2:Nat} {F2:aq} {a3:aj} {c3:Nat} {F3:aq} {a4:aj} {c4:Nat} {F4:aq} {a5:aj} {c5:Nat} {F5:aq} {a6:aj} {c6:Nat} {F6:aq} {a7:aj} {c7:Nat} {F7:aq} (s1:x.Gm.Bd.size<=maxLen) (s2:x.Gm.pending.size<=maxLen) (h:T c fr (.isv Ec (.agg #[ab a1 x.Bh.Ap.Ad.length c1,aa x.Bh.Ab.Aa.Am,aa x.Bh.Ab.Aa.size,ab a2 x.Bh.Ab.Aa.Al.length c2,aa x.Bh.Ab.Ai,aa x.Bh.Ab.quiet,ab a3 x.Bh.Ab.holds.length c3,ab a4 x.Bh.Af.length c4,ab a5 x.Bh.Ac.length c5,ab a6 x.Bh.down.length c6,ab a7 x.Bh.up.length c7,af x.Gm.Bd,af x.Gm.pending,aa x.Gm.count]) x (F1++F2++F3++F4++F5++F6++F7)::H) Φ) (m1:.sl Bc (ab a1 x.Bh.Ap.Ad.length c1) x.Bh.Ap.Ad F1∈H:=by exact Bp) (m2:.sl A9 (ab a2 x.Bh.Ab.Aa.Al.length c2) x.Bh.Ab.Aa.Al F2∈H:=by exact Bp) (m3:.sl Bv (ab a3 x.Bh.Ab.holds.length c3) x.Bh.Ab.holds F3∈H:=by exact Bp) (m4:.sl Bz (ab a4 x.Bh.Af.length c4) x.Bh.Af F4∈H:=by exact Bp) (m5:.sl Cb (ab a5 x.Bh.Ac.length c5) x.Bh.Ac F5∈H:=by exact Bp) (m6:.sl (O7 Ak EZ) (ab a6 x.Bh.down.length c6) x.Bh.down F6∈H:=by exact Bp) (m7:.sl (O7 Ak EZ) (ab a7 x.Bh.up.length c7) x.Bh.up F7∈H:=by exact Bp):T c fr H Φ:=.mk fun a w s g=>by
 refine h.h a w (s.add (N:=[_]) (Below.refl _ _) (by intro q hq;obtain rfl:=aL.1 hq;exact ⟨_,rfl,_,_,_,_,_,_,_,_,_,_,_,_,_,_,rfl,s1,s2,(s.get m1).2,(s.get m2).2,(s.get m3).2,(s.get m4).2,(s.get m5).2,(s.get m6).2,(s.get m7).2,rfl⟩) ⟨FA,trivial⟩ fun q hq b hb=>?_) g;obtain rfl:=aL.1 hq;simp only [Pc.F,aJ] at hb;rcases hb with (((((hb|hb)|hb)|hb)|hb)|hb)|hb
 ·exact .inr ⟨rfl,_,m1,rfl,hb⟩
 ·exact .inr ⟨rfl,_,m2,rfl,hb⟩
 ·exact .inr ⟨rfl,_,m3,rfl,hb⟩
 ·exact .inr ⟨rfl,_,m4,rfl,hb⟩
 ·exact .inr ⟨rfl,_,m5,rfl,hb⟩
 ·exact .inr ⟨rfl,_,m6,rfl,hb⟩
 ·exact .inr ⟨rfl,_,m7,rfl,hb⟩
def Ab9 {v:Value} {x:Cj} {F:aq} {S:List Pc} (h:∀(a1:aj) (c1:Nat) (F1:aq) (a2:aj) (c2:Nat) (F2:aq) (a3:aj) (c3:Nat) (F3:aq) (a4:aj) (c4:Nat) (F4:aq) (a5:aj) (c5:Nat) (F5:aq) (a6:aj) (c6:Nat) (F6:aq) (a7:aj) (c7:Nat) (F7:aq),v=.agg #[ab a1 x.Bh.Ap.Ad.length c1,aa x.Bh.Ab.Aa.Am,aa x.Bh.Ab.Aa.size,ab a2 x.Bh.Ab.Aa.Al.length c2,aa x.Bh.Ab.Ai,aa x.Bh.Ab.quiet,ab a3 x.Bh.Ab.holds.length c3,ab a4 x.Bh.Af.length c4,ab a5 x.Bh.Ac.length c5,ab a6 x.Bh.down.length c6,ab a7 x.Bh.up.length c7,af x.Gm.Bd,af x.Gm.pending,aa x.Gm.count]->x.Gm.Bd.size<=maxLen->x.Gm.pending.size<=maxLen->x.Bh.Ap.Ad.length<=maxLen->x.Bh.Ab.Aa.Al.length<=maxLen->x.Bh.Ab.holds.length<=maxLen->x.Bh.Af.length<=maxLen->x.Bh.Ac.length<=maxLen->x.Bh.down.length<=maxLen->x.Bh.up.length<=maxLen->T c fr (.ow Bc 3 (ab a1 x.Bh.Ap.Ad.length c1) x.Bh.Ap.Ad F1::.ow A9 9 (ab a2 x.Bh.Ab.Aa.Al.length c2) x.Bh.Ab.Aa.Al F2::.ow Bv 165 (ab a3 x.Bh.Ab.holds.length c3) x.Bh.Ab.holds F3::.ow Cc 111 (ab a4 x.Bh.Af.length c4) x.Bh.Af F4::.ow B4 118 (ab a5 x.Bh.Ac.length c5) x.Bh.Ac F5::.ow (J0 Ak 159) 120 (ab a6 x.Bh.down.length c6) x.Bh.down F6::.ow (J0 Ak 159) 120 (ab a7 x.Bh.up.length c7) x.Bh.up F7::S) Φ) (hp:C1 H (.own Qa v x F) S:=by exact Do):T c fr H Φ:=.mk fun a w s g=>by
 obtain ⟨hn,cs,rfl,v1,v2,v3,v4,v5,v6,v7,G1,G2,G3,G4,G5,G6,G7,rfl,s1,s2,h1,h2,h3,h4,h5,h6,h7,rfl⟩:=(s.pick hp).on (.own Qa v x F) FA;obtain ⟨a1,c1,rfl⟩:=h1.slice;have l1:=h1.len;obtain ⟨a2,c2,rfl⟩:=h2.slice;have l2:=h2.len;obtain ⟨a3,c3,rfl⟩:=h3.slice;have l3:=h3.len;obtain ⟨a4,c4,rfl⟩:=h4.slice;have l4:=h4.len;obtain ⟨a5,c5,rfl⟩:=h5.slice;have l5:=h5.len;obtain ⟨a6,c6,rfl⟩:=h6.slice;have l6:=h6.len;obtain ⟨a7,c7,rfl⟩:=h7.slice;have l7:=h7.len
 exact (h a1 c1 G1 a2 c2 G2 a3 c3 G3 a4 c4 G4 a5 c5 G5 a6 c6 G6 a7 c7 G7 rfl s1 s2 l1 l2 l3 l4 l5 l6 l7).h a w (s.mer (M:=[.own Qa _ x _]) (N:=[.ow Bc _ _ _ G1,.ow A9 _ _ _ G2,.ow Bv _ _ _ G3,.ow Cc _ _ _ G4,.ow B4 _ _ _ G5,.ow (J0 Ak 159) _ _ _ G6,.ow (J0 Ak 159) _ _ _ G7]) (.cons hp .nil) (fun _ _=>⟨Qu ⟨(Ly (Ly (Ly (Ly (Ly (Ly hn)))))),h1⟩ (Qu ⟨Ab5 (Ly (Ly (Ly (Ly (Ly hn))))),h2⟩ (Qu ⟨Ab5 (Ly (Ly (Ly (Ly hn)))),h3⟩ (Qu ⟨Ab5 (Ly (Ly (Ly hn))),h4⟩ (Qu ⟨Ab5 (Ly (Ly hn)),h5⟩ (Qu ⟨Ab5 (Ly hn),h6⟩ (Qu ⟨Ab5 hn,h7⟩ (Asl))))))),FZ⟩) GK) g
def Mf (x:Cj) {a1:aj} {c1:Nat} {F1:aq} {a2:aj} {c2:Nat} {F2:aq} {a3:aj} {c3:Nat} {F3:aq} {a4:aj} {c4:Nat} {F4:aq} {a5:aj} {c5:Nat} {F5:aq} {a6:aj} {c6:Nat} {F6:aq} {a7:aj} {c7:Nat} {F7:aq} {S1 S2 S3 S4 S5 S6 S7:List Pc} (s1:x.Gm.Bd.size<=maxLen) (s2:x.Gm.pending.size<=maxLen) (h:T c fr (.own Qa (.agg #[ab a1 x.Bh.Ap.Ad.length c1,aa x.Bh.Ab.Aa.Am,aa x.Bh.Ab.Aa.size,ab a2 x.Bh.Ab.Aa.Al.length c2,aa x.Bh.Ab.Ai,aa x.Bh.Ab.quiet,ab a3 x.Bh.Ab.holds.length c3,ab a4 x.Bh.Af.length c4,ab a5 x.Bh.Ac.length c5,ab a6 x.Bh.down.length c6,ab a7 x.Bh.up.length c7,af x.Gm.Bd,af x.Gm.pending,aa x.Gm.count]) x (F1++F2++F3++F4++F5++F6++F7)::S7) Φ) (m1:C1 H (.ow Bc 3 (ab a1 x.Bh.Ap.Ad.length c1) x.Bh.Ap.Ad F1) S1:=by exact Do) (m2:C1 S1 (.ow A9 9 (ab a2 x.Bh.Ab.Aa.Al.length c2) x.Bh.Ab.Aa.Al F2) S2:=by exact Do) (m3:C1 S2 (.ow Bv 165 (ab a3 x.Bh.Ab.holds.length c3) x.Bh.Ab.holds F3) S3:=by exact Do) (m4:C1 S3 (.ow Cc 111 (ab a4 x.Bh.Af.length c4) x.Bh.Af F4) S4:=by exact Do) (m5:C1 S4 (.ow B4 118 (ab a5 x.Bh.Ac.length c5) x.Bh.Ac F5) S5:=by exact Do) (m6:C1 S5 (.ow (J0 Ak 159) 120 (ab a6 x.Bh.down.length c6) x.Bh.down F6) S6:=by exact Do) (m7:C1 S6 (.ow (J0 Ak 159) 120 (ab a7 x.Bh.up.length c7) x.Bh.up F7) S7:=by exact Do)  : T c fr H Φ:=.mk fun a w s g =>
 h.h a w (s.mer (M:=[.ow Bc _ _ _ F1,.ow A9 _ _ _ F2,.ow Bv _ _ _ F3,.ow Cc _ _ _ F4,.ow B4 _ _ _ F5,.ow (J0 Ak 159) _ _ _ F6,.ow (J0 Ak 159) _ _ _ F7]) (N:=[.own Qa _ x (F1++F2++F3++F4++F5++F6++F7)]) (.cons m1 (.cons m2 (.cons m3 (.cons m4 (.cons m5 (.cons m6 (.cons m7 (.nil)))))))) (fun hk hn=>⟨I6 ⟨FZ,_,rfl,_,_,_,_,_,_,_,_,_,_,_,_,_,_,rfl,s1,s2,(Qv hk).2,(Qv (H8 hk)).2,(Qv (H8 (H8 hk))).2,(Qv (H8 (H8 (H8 hk)))).2,(Qv (H8 (H8 (H8 (H8 hk))))).2,(Qv (H8 (H8 (H8 (H8 (H8 hk)))))).2,(Qv (H8 (H8 (H8 (H8 (H8 (H8 hk))))))).2,rfl⟩,FZ⟩) GK) g
end
def Arz (v v2:Value) (x:Cj) (F F2:aq) (hs:∀q∈x.Bh.down++x.Bh.up,q.length<=1000000000):FV 11 [v,v2] [.isv Ec v x F,.isv Ec v2 x F2] (.bool true):=by
 refine enter func11 rfl ntmps11 fun w0=>?_;refine B9 (x:=x) (v:=v) ?_;rintro b1 d1 G1 b2 d2 G2 b3 d3 G3 b4 d4 G4 b5 d5 G5 b6 d6 G6 b7 d7 G7 rfl - - - - - - - - -;refine E8 x.Bh (a1:=b1) (c1:=d1) (a2:=b2) (c2:=d2) (a3:=b3) (c3:=d3) (a4:=b4) (c4:=d4) (a5:=b5) (c5:=d5) (a6:=b6) (c6:=d6) (a7:=b7) (c7:=d7) ?_;refine B9 (x:=x) (v:=v2) ?_;rintro e1 f1 K1 e2 f2 K2 e3 f3 K3 e4 f4 K4 e5 f5 K5 e6 f6 K6 e7 f7 K7 rfl - - - - - - - - -;refine E8 x.Bh (a1:=e1) (c1:=f1) (a2:=e2) (c2:=f2) (a3:=e3) (c3:=f3) (a4:=e4) (c4:=f4) (a5:=e5) (c5:=f5) (a6:=e6) (c6:=f6) (a7:=e7) (c7:=f7) ?_;refine go ?_;intros
 refine Be (Bgy _ _ x.Bh _ _ hs) fun _ _=>?_;refine go ?_;apply wO;apply oc;rfl;exact Bel (a:=x.Gm) (b:=x.Gm) rfl rfl;rw [show At4 x.Gm x.Gm=true from Ax3.2 rfl];exact AA
structure Bhn where
 Bic:Int
 got:Int
 Bid:Int
 Bjr:Int
abbrev Bs:=List UInt8
def Eh (b:UInt8) (l:Bs):Bs:=l.takeWhile (· != b)
def Mt (b:UInt8) (l:Bs):Bs:=(l.dropWhile (· != b)).drop 1
def Af5 {b:UInt8} {x r:Bs} (h:∀c∈x,c≠b):Eh b (x++b::r)=x:=by
 unfold Eh;rw [fq FI];simp
def Atd {b:UInt8} {x:Bs} (h:∀c∈x,c≠b):Eh b x=x:=by
 have:=fq (p:=(· != b)) (l₁:=x) (l₂:=[]) FI;simpa [Eh] using this
def Ajh {b:UInt8} {x r:Bs} (h:∀c∈x,c≠b):Mt b (x++b::r)=r:=by
 unfold Mt;rw [fu FI];simp
def Aji {b:UInt8} {x:Bs} (h:∀c∈x,c≠b):Mt b x=[]:=by
 have:=fu (p:=(· != b)) (l₁:=x) (l₂:=[]) FI;simp only [bc,List.dropWhile_nil] at this;simp [Mt,this]
def Acs {b:UInt8} {l:Bs}:∀c∈Eh b l,c≠b:=by
 unfold Eh
 induction l with
 | nil=>simp
 | cons d l ih =>
  intro c hc;rw [gE] at hc
  split at hc
  ·rename_i h;rcases aG.1 hc with rfl|hc
   ·simpa using h
   ·exact ih c hc
  ·simp at hc
def Po (b:UInt8) (l:Bs):(b∈l/\l=Eh b l++b::Mt b l)\/(b ∉ l/\Eh b l=l/\Mt b l=[]):=by
 by_cases h:b∈l
 ·left;refine ⟨h,?_⟩;unfold Eh Mt
  induction l with
  | nil=>cases h
  | cons c l ih =>
   by_cases hc:c=b
   ·subst hc;simp
   ·have hm:b∈l:=by
     rcases aG.1 h with e|e
     ·exact absurd e.symm hc
     ·exact e
    simp only [gE,fe,bne_iff_ne,ne_eq,hc,not_false_eq_true,if_true,bY];rw [<-ih hm]
 ·right;exact ⟨h,Atd fun c hc e=>h (e▸hc),Aji fun c hc e=>h (e▸hc)⟩
def Cy:Bs->List Bs
 | []=>[]
 | b::r=>if b == 10 then [10]::Cy r else match Cy r with
  | []=>[[b]]
  | x::xs=>(b::x)::xs
def Qj:∀l:Bs,(Cy l).flatten=l
 | []=>rfl
 | b::r=>by
  have ih:=Qj r;unfold Cy
  split
  ·rename_i h;simp at h;subst h;simp [ih]
  ·cases h:Cy r with
   | nil=>rw [h] at ih;simp at ih;subst ih;simp
   | cons x xs=>rw [h] at ih;simp at ih;simp [ih]
def T8:∀{x:Bs} (r:Bs),(∀c∈x,c≠10)->Cy (x++10::r)=(x++[10])::Cy r
 | [],r,_=>by simp [Cy]
 | b::x,r,h=>by
  have ih:=T8 (x:=x) r fun c hc=>h c JK;have hb:(b == 10)=false:=by simpa using h b FA
  simp only [bY,Cy,hb,ih];simp
def S0:∀{x:Bs},x≠[]->(∀c∈x,c≠10)->Cy x=[x]
 | [b],_,h=>by
  have hb:(b == 10)=false:=by simpa using h b FA
  simp [Cy,hb]
 | b::c::x,_,h=>by
  have ih:=S0 (x:=c::x) FA fun c hc=>h c JK;have hb:(b == 10)=false:=by simpa using h b FA
  rw [Cy,hb,ih];simp
def Wt:∀{l:Bs} {x:Bs},x∈Cy l->x≠[]
 | b::r,x,h=>by
  unfold Cy at h
  split at h
  ·rcases aG.1 h with rfl|h
   ·simp
   ·exact Wt h
  ·cases h2:Cy r with
   | nil=>rw [h2] at h;simp at h;simp [h]
   | cons y ys =>
    rw [h2] at h;rcases aG.1 h with rfl|h
    ·simp
    ·exact Wt (l:=r) (by rw [h2];simp [h])
def Whole (x:Bs):Prop:=∃y,x=y++[10]/\∀c∈y,c≠10
def Yl:∀{xs:List Bs} (r:Bs),(∀x∈xs,Whole x)->Cy (xs.flatten++r)=xs++Cy r
 | [],_,_=>rfl
 | x::xs,r,h=>by
  obtain ⟨y,rfl,hy⟩:=h x FA;have ih:=Yl (xs:=xs) r fun z hz=>h z JB;simp only [bP,aM,bY,aZ];rw [T8 _ hy,ih]
def Pz:∀(u:Nat) (c:UInt8),c∈Lib.decDigits u->48<=c.toNat/\c.toNat<=57:=by
 intro u
 induction u using Nat.strongRecOn with
 | ind u ih =>
  intro c hc;rw [Lib.decDigits] at hc;have hd:∀d:Nat,d < 10->48<=(UInt8.ofNat (48+d)).toNat/\(UInt8.ofNat (48+d)).toNat<=57:=fun d hd=>by
   rw [UInt8.toNat_ofNat'];omega
  split at hc
  ·simp only [aL] at hc;subst hc;exact hd _ EY
  ·rcases aJ.1 hc with h|h
   ·exact ih _ EY c h
   ·simp only [aL] at h;subst h;exact hd _ EY
def Anp {u:Nat} {b:UInt8} (hb:b.toNat < 48\/57 < b.toNat):∀c∈Lib.decDigits u,c≠b:=fun c hc e=>by
 have:=Pz u c hc;subst e;omega
def Ea:∀(n u:Nat),u < 10 ^ (n+1)->(Lib.decDigits u).length<=n+1
 | 0,u,h=>by rw [Lib.decDigits,ei FI];simp
 | n+1,u,h=>by
  rw [Lib.decDigits]
  split
  ·simp
  ·have:=Ea n (u / 10) (by rw [ed] at h;omega);simp;omega
def Zd (u:Nat):1<=(Lib.decDigits u).length:=by
 rw [Lib.decDigits];split <;> simp
def Aco (h:Nat) (c:UInt8):Nat:=(41 * h+c.toNat+1) % 999979
def Tg (l:Bs):Nat:=l.foldl Aco 7
def Acn (l:Bs):Tg l < 999979:=by
 have h:∀(l:Bs) (n:Nat),n < 999979->l.foldl Aco n < 999979:=by
  intro l
  induction l with
  | nil=>intro n hn;simpa using hn
  | cons c l ih=>intro n hn;rw [dZ];exact ih _ (by unfold Aco;omega)
 exact h l 7 EY
def Awe (l:Bs) (c:UInt8):Tg (l++[c])=Aco (Tg l) c:=by simp [Tg]
def O5 (l:Bs):Bs:=l++35::Lib.decDigits (Tg l)
def Ad5 (l:Bs):(O5 l).length<=l.length+7:=by
 have:=Ea 5 (Tg l) (by have:=Acn l;omega);simp [O5];omega
def Lk (k:Nat) (c r:Bs):Bs:=Lib.decDigits k++32::(c++64::r)
def Kl (k:Nat) (c r:Bs):Bs:=O5 (Lk k c r)++[10]
def Aeo (c r:Bs):Bool:=Ff 1 c.length 160 && decide ((r.length:Int)<=200) && I7 c && I7 r && !Ki 64 c
def Aex {b:UInt8}:Qk b=true↔(32<=b.toNat/\b.toNat<=126)/\b≠35:=by
 simp [Qk,Ff];omega
def Aez {l:Bs} (h:I7 l=true):∀c∈l,(32<=c.toNat/\c.toNat<=126)/\c≠35:=fun c hc=>by
 unfold I7 at h;exact Aex.1 (aW.1 h c hc)
structure X0 (c r:Bs):Prop where
 c0:1<=c.length
 c1:c.length<=160
 r1:r.length<=200
 ct:∀b∈c,(32<=b.toNat/\b.toNat<=126)/\b≠35
 rt:∀b∈r,(32<=b.toNat/\b.toNat<=126)/\b≠35
 ca:∀b∈c,b≠64
def I5 {c r:Bs} (h:Aeo c r=true):X0 c r:=by
 unfold Aeo Ff at h;simp only [aw,aF,bw] at h;obtain ⟨⟨⟨⟨⟨h1,h2⟩,h3⟩,h4⟩,h5⟩,h6⟩:=h;refine ⟨EY,EY,EY,Aez h4,Aez h5,fun b hb e=>?_⟩;unfold Ki at h6;have:=cB.1 h6 b hb;simp [e] at this
def R6 {a b:UInt8} (h:a.toNat≠b.toNat):a≠b:=fun e=>h (by rw [e])
def Tl {k:Nat} {c r:Bs} (h:X0 c r):∀b∈Lk k c r,(32<=b.toNat/\b.toNat<=126)/\b≠35:=by
 intro b hb;unfold Lk at hb;simp only [aJ,aG] at hb;rcases hb with hb|rfl|hb|rfl|hb
 ·have:=Pz k b hb;exact ⟨EY,R6 FF⟩
 ·decide
 ·exact h.ct b hb
 ·decide
 ·exact h.rt b hb
def Aol {k:Nat} {c r:Bs} (h:X0 c r):Whole (Kl k c r):=by
 refine ⟨O5 (Lk k c r),rfl,fun b hb=>?_⟩;unfold O5 at hb;simp only [aJ,aG] at hb;rcases hb with hb|rfl|hb
 ·have:=Tl h b hb;exact R6 FF
 ·decide
 ·exact Anp FA b hb
def Ac7 {k:Nat} {c r:Bs} (hk:k<=59) (h:X0 c r):(Lk k c r).length<=364:=by
 have:=Ea 1 k EY;have:=h.c1;have:=h.r1;simp [Lk];omega
def Adv {k:Nat} {c r:Bs} (hk:k<=59) (h:X0 c r):(Kl k c r).length<=372:=by
 have:=Ac7 hk h;have:=Ad5 (Lk k c r);simp [Kl];omega
def Afi (k:Int) (c r:Bs):Option Bs:=if Ff 0 k 59 && Aeo c r then some (Kl k.toNat c r) else none
def At2 {k:Int} {c r x:Bs} (h:Afi k c r=some x):(0<=k/\k<=59)/\X0 c r/\x=Kl k.toNat c r:=by
 unfold Afi at h
 split at h
 ·rename_i h2;simp only [aw,Ff,aF] at h2;exact ⟨h2.1,I5 h2.2,by simpa using h.symm⟩
 ·cases h
def Aim (x:Bs):Bs:=Mt 32 (Eh 35 x)
def Afg (x:Bs):Bs:=Eh 64 (Aim x)
def Afm (x:Bs):Bs:=Mt 64 (Aim x)
def Ak7 {k:Nat} {c r s:Bs} (h:X0 c r):Aim (Lk k c r++35::s)=c++64::r:=by
 unfold Aim;rw [Af5 fun b hb=>(Tl h b hb).2];exact Ajh (Anp FA)
def Aok (k:Nat) (c r:Bs):Kl k c r=Lk k c r++35::(Lib.decDigits (Tg (Lk k c r))++[10]):=by simp [Kl,O5]
def Abp {k:Nat} {c r:Bs} (h:X0 c r):Afg (Kl k c r)=c:=by
 unfold Afg;rw [Aok,Ak7 h];exact Af5 h.ca
def Ace {k:Nat} {c r:Bs} (h:X0 c r):Afm (Kl k c r)=r:=by
 unfold Afm;rw [Aok,Ak7 h];exact Ajh h.ca
def Zo (k:Nat) (x:Bs):Bool:=Afi k (Afg x) (Afm x) == some x
def Ur {k:Nat} {x:Bs}:Zo k x=true↔∃c r,k<=59/\Aeo c r=true/\x=Kl k c r:=by
 unfold Zo;rw [eU];constructor
 ·intro h;have h2:=At2 h;refine ⟨Afg x,Afm x,EY,?_,by simpa using h2.2.2⟩;unfold Afi at h
  split at h
  ·rename_i h3;simp only [aw] at h3;exact h3.2
  ·cases h
 ·rintro ⟨c,r,hk,hg,rfl⟩;have hG:=I5 hg;rw [Abp hG,Ace hG];unfold Afi;rw [aH (by simp [hg,Ff];omega)];simp
def Akn {k:Nat} {x:Bs} (h:Zo k x=true):Whole x:=by
 obtain ⟨c,r,_,hg,rfl⟩:=Ur.1 h;exact Aol (I5 hg)
def Bdi {k:Nat} {x:Bs} (h:Zo k x=true):x.length<=372:=by
 obtain ⟨c,r,hk,hg,rfl⟩:=Ur.1 h;exact Adv hk (I5 hg)
def acc:Nat->List Bs->List Bs
 | _,[]=>[]
 | k,x::r=>if Zo k x then x::acc (k+1) r else []
def Alm:∀(k:Nat) (xs:List Bs),acc k xs <+: xs
 | _,[]=>List.prefix_rfl
 | k,x::r=>by
  unfold acc
  split
  ·exact (List.cons_prefix_cons).2 ⟨rfl,Alm (k+1) r⟩
  ·exact List.nil_prefix
def All:∀(k:Nat) (xs:List Bs),∀x∈acc k xs,∃j,Zo j x=true
 | _,[],x,h=>by simp [acc] at h
 | k,y::r,x,h=>by
  unfold acc at h
  split at h
  ·rename_i hy;rcases aG.1 h with rfl|h
   ·exact ⟨k,hy⟩
   ·exact All (k+1) r x h
  ·cases h
def Asa:∀(k:Nat) (xs:List Bs),k<=60->k+(acc k xs).length<=60
 | _,[],hk=>by simpa [acc] using hk
 | k,x::r,hk=>by
  unfold acc
  split
  ·rename_i h;obtain ⟨c,r',h2,_⟩:=Ur.1 h;have:=Asa (k+1) r EY;simp;omega
  ·simpa using hk
def Axj (k:Nat) (xs:List Bs):(acc k xs).flatten.length<=372 * (acc k xs).length:=by
 have h:=All k xs;revert h;generalize acc k xs=ys;intro h
 induction ys with
 | nil=>simp
 | cons y ys ih =>
  obtain ⟨j,hj⟩:=h y FA;have h1:=Bdi hj;have h2:=ih fun x hx=>h x IJ;simp only [bP,aA,aU];omega
def Afr:∀(k:Nat) (xs:List Bs) (m:Nat),acc k ((acc k xs).take m)=(acc k xs).take m
 | _,[],m=>by simp [acc]
 | k,x::r,m=>by
  by_cases h:Zo k x=true
  ·have e:acc k (x::r)=x::acc (k+1) r:=by simp [acc,h]
   rw [e];cases m with
   | zero=>simp [acc]
   | succ m=>simp [acc,h,Afr (k+1) r m]
  ·simp [acc,h]
def Wd:∀(k:Nat) (xs ys:List Bs),acc k xs=xs->acc k (xs++ys)=xs++acc (k+xs.length) ys
 | _,[],_,_=>by simp
 | k,x::r,ys,h=>by
  unfold acc at h
  split at h
  ·rename_i hx;have h2:=Wd (k+1) r ys FI;simp only [bY,acc,hx,if_true,h2,aU];rw [show k+1+r.length=k+(r.length+1) by omega]
  ·cases h
def A1 (s:Bs):List Bs:=acc 0 (Cy s)
def Ahq (s:Bs):(A1 s).flatten <+: s:=by
 obtain ⟨t,ht⟩:=Alm 0 (Cy s);have:=Qj s;rw [<-ht,cN] at this;exact ⟨_,this⟩
def Yp {s:Bs} (h:(A1 s).flatten.length=s.length):A1 s=Cy s:=by
 obtain ⟨t,ht⟩:=Alm 0 (Cy s);have h2:=Qj s;rw [<-ht,cN] at h2;have h3:t.flatten=[]:=by
  have:=congrArg List.length h2;rw [aA] at this;have h4:(acc 0 (Cy s)).flatten.length=s.length:=h;exact bD EY
 have h4:t=[]:=by
  cases t with
  | nil=>rfl
  | cons x t =>
   have:=Wt (l:=s) (x:=x) (by rw [<-ht];simp);simp at h3;exact absurd h3.1 this
 unfold A1;rw [h4] at ht;simpa using ht
def Vw {s:Bs} (h:(A1 s).flatten.length=s.length):(A1 s).flatten=s:=by rw [Yp h,Qj]
def I8 (s:Bs):(A1 s).flatten.length<=22320/\(A1 s).length<=60:=by
 have h1:=Axj 0 (Cy s);have h2:=Asa 0 (Cy s) EY;unfold A1;omega
def Qm {xs:List Bs} (h:acc 0 xs=xs) (r:Bs):A1 (xs.flatten++r)=xs++acc xs.length (Cy r):=by
 unfold A1;rw [Yl r (fun x hx=>by rw [<-h] at hx;obtain ⟨j,hj⟩:=All 0 _ x hx;exact Akn hj),Wd 0 xs _ h];simp
def Kc:Nat->List Bs->aq
 | n,[]=>[n]
 | n,x::r=>n::Kc (n+x.length) r
def Ajp {m:Nat}:∀{n:Nat} {xs:List Bs},m∈Kc n xs↔∃j,j<=xs.length/\m=n+(xs.take j).flatten.length
 | n,[]=>by simp [Kc]
 | n,x::r=>by
  unfold Kc;rw [aG,Ajp];constructor
  ·rintro (rfl|⟨j,hj,rfl⟩)
   ·exact ⟨0,FA,FA⟩
   ·exact ⟨j+1,HE,FF⟩
  ·rintro ⟨j,hj,rfl⟩;cases j with
   | zero=>left;simp
   | succ j=>right;exact ⟨j,HE,FF⟩
def Wh:∀{n:Nat} {xs:List Bs},(Kc n xs).getLast?=some (n+xs.flatten.length)
 | n,[]=>by simp [Kc]
 | n,x::r=>by
  have ih:=Wh (n:=n+x.length) (xs:=r);unfold Kc;rw [List.getLast?_cons];rw [ih];simp;omega
def Oq:∀{n:Nat} {xs:List Bs},(Kc n xs).length=xs.length+1
 | n,[]=>rfl
 | n,x::r=>by simp [Kc,Oq]
def Agv:∀{n:Nat} {xs:List Bs} {x:Bs},Kc n (xs++[x])=Kc n xs++[n+xs.flatten.length+x.length]
 | n,[],x=>by simp [Kc]
 | n,y::r,x=>by
  have:=Agv (n:=n+y.length) (xs:=r) (x:=x);simp only [bY,Kc,this];simp;omega
def Ar1 (d p:Bs) (n:Int):Bool:=decide ((A1 (d++p)).flatten.length=d.length+p.length) && (Kc 0 (A1 (d++p))).contains d.length && decide (n=(A1 (d++p)).length)
def E4 (d p:Bs) (n:Int):Bool:=decide (d.length+p.length<=30000) && (decide ((A1 (d++p)).flatten.length=d.length+p.length) && decide ((A1 d).flatten.length=d.length) && decide (((A1 (d++p)).length:Int)=n))
def Ajb {d p:Bs} (h:(A1 (d++p)).flatten.length=d.length+p.length):d.length∈Kc 0 (A1 (d++p))↔(A1 d).flatten.length=d.length:=by
 rw [Ajp];have hA:(A1 (d++p)).flatten=d++p:=Vw (by rw [h];simp);constructor
 ·rintro ⟨j,hj,e⟩;rw [cH] at e;have hd:((A1 (d++p)).take j).flatten=d:=by
   have h1:((A1 (d++p)).take j).flatten++((A1 (d++p)).drop j).flatten=d++p:=by rw [<-cN,bo,hA]
   exact (eX h1 e.symm).1
  have h2:=Qm (xs:=(A1 (d++p)).take j) (Afr 0 _ j) [];rw [bc,hd] at h2;rw [h2];simp [Cy,acc,hd]
 ·intro hd;have hf:=Yp hd;have hD:(A1 d).flatten=d:=Vw hd;have h2:=Qm (xs:=A1 d) (by rw [hf];exact hf) p;rw [hD] at h2;refine ⟨(A1 d).length,by rw [h2];simp,?_⟩;rw [h2];simp [hD]
def Bbk (d p:Bs) (n:Int):Ar1 d p n=E4 d p n:=by
 unfold Ar1 E4;by_cases h:(A1 (d++p)).flatten.length=d.length+p.length
 ·have h1:=I8 (d++p);have h2:=Ajb h;have h3:decide (d.length+p.length<=30000)=true:=FF
  have h4:(Kc 0 (A1 (d++p))).contains d.length=decide ((A1 d).flatten.length=d.length):=by
   rw [cD,fw,List.contains_iff_mem];exact h2
  rw [h3,h4];have h5:decide (n=((A1 (d++p)).length:Int))=decide (((A1 (d++p)).length:Int)=n):=by
   rw [cD];simp [eq_comm]
  rw [h5];cases decide ((A1 d).flatten.length=d.length) <;> simp [h]
 ·rw [ay h];simp
def Hx (k:Nat):Bs:=Lib.decDigits k++[32]
def Ua (s:Bs) (k:Nat):(Bs × Bs) × Bool :=
 let text:=Eh 35 s
 if text.length < (Hx k).length\/text.take (Hx k).length≠Hx k then (([],[]),false)
 else
  let rest:=text.drop (Hx k).length
  if (Eh 64 rest).length=rest.length then (([],[]),false)
  else ((Eh 64 rest,rest.drop ((Eh 64 rest).length+1)),Aeo (Eh 64 rest) (rest.drop ((Eh 64 rest).length+1)) && (Kl k (Eh 64 rest) (rest.drop ((Eh 64 rest).length+1)) == s++[10]))
def Ao5 {k:Nat} {s:Bs} (hk:k<=59):(Ua s k).2=Zo k (s++[10]):=by
 rw [cD,Ur];constructor
 ·intro h;unfold Ua at h;dsimp only at h
  split at h
  ·cases h
  ·split at h
   ·cases h
   ·simp only [aw,eU] at h;exact ⟨_,_,hk,h.1,h.2.symm⟩
 ·rintro ⟨c,r,_,hg,e⟩;have hG:=I5 hg;have e2:s=Lk k c r++35::Lib.decDigits (Tg (Lk k c r)):=by
   unfold Kl at e;exact (List.append_cancel_right e)
  have ht:Eh 35 s=Lk k c r:=by rw [e2];exact Af5 fun b hb=>(Tl hG b hb).2
  have hb:Lk k c r=Hx k++(c++64::r):=by simp [Lk,Hx]
  unfold Ua;simp only [ht,hb,aA,bU,dF,ne_eq,not_true_eq_false,bn];rw [aC FA,Af5 hG.ca,aC FA];have hd:(c++64::r).drop (c.length+1)=r:=by
   rw [<-cw];simp
  simp only [hd,hg,bQ];rw [e];simp
def Avz {k:Nat} {s:Bs} (h:(Ua s k).2=true):(Ua s k).1=(Afg (s++[10]),Afm (s++[10])):=by
 unfold Ua at h ⊢;dsimp only at h ⊢
 split at h
 ·cases h
 ·rename_i h1;rw [aC h1]
  split at h
  ·cases h
  ·rename_i h2;rw [aC h2];simp only [aw,eU] at h;have hG:=I5 h.1;rw [<-h.2,Abp hG,Ace hG]
def bz (l:Bs):au:=⟨l.toArray⟩
def Hn (l:Bs):(bz l).data.toList=l:=by simp [bz]
def Vd (s:au):bz s.data.toList=s:=by simp [bz]
def Ho (l:Bs):(bz l).size=l.length:=by simp [bz,ByteArray.size]
def Co (s:au):s.data.toList.length=s.size:=FA
def Bfp (a b:Bs):bz a++bz b=bz (a++b):=by apply fz;simp [bz,dp]
def Gp (s t:au):(s++t).data.toList=s.data.toList++t.data.toList:=by simp [dp]
def Zq {a b:au} (h:a=b):Ending.returned (af a)=.returned (af b):=by rw [h]
def Aaq (w:World) (k:Nat) (os:Array Obj):Below w.heap.size w (Go.Sort.grow (w.drewN k) os):=by
 refine ⟨rfl,rfl,rfl,?_,fun i hi=>?_⟩
 ·simp [Go.Sort.grow,World.drewN]
 ·simp [Go.Sort.grow,World.drewN,dW hi]
def Bix:B8 Unit where
 sz:=0
 Mj w cs _ F:=cs=[]/\(Lib.TabIs prog w "internal/strconv.uint64pow10" .u64 Lib.pow10Tab/\(∃m,w.cell? ⟨0,0,none⟩=some (aa m))/\(∃tp p,w.var? prog "strconv.ErrSyntax" = some #[.iface tp p])/\(∃tp p,w.var? prog "strconv.ErrRange" = some #[.iface tp p]))/\F=[1,0,4,5]/\∀b∈F,b < w.heap.size
 len h:=IX
 lt h:=h.2.2.2
 frame h hF:=by
  obtain ⟨h1,⟨h2,h3,h4,h5⟩,rfl,h6⟩:=h;have e0:=hF 1 FA;have e1:=hF 0 FA;have e2:=hF 4 FA;have e3:=hF 5 FA;refine ⟨h1,⟨?_,?_,?_,?_⟩,rfl,fun b hb=>?_⟩
  ·unfold Lib.TabIs World.var? at h2 ⊢;rw [show prog.globalNamed "internal/strconv.uint64pow10" = some 1 by kernel_rfl] at h2 ⊢;simp only [dg] at h2 ⊢;rw [e0];exact h2
  ·obtain ⟨m,hm⟩:=h3;refine ⟨m,?_⟩;unfold World.cell? at hm ⊢;rw [e1];exact hm
  ·obtain ⟨tp,p,hm⟩:=h4;refine ⟨tp,p,?_⟩;unfold World.var? at hm ⊢;rw [show prog.globalNamed "strconv.ErrSyntax" = some 4 by kernel_rfl] at hm ⊢;simp only [dg] at hm ⊢;rw [e2];exact hm
  ·obtain ⟨tp,p,hm⟩:=h5;refine ⟨tp,p,?_⟩;unfold World.var? at hm ⊢;rw [show prog.globalNamed "strconv.ErrRange" = some 5 by kernel_rfl] at hm ⊢;simp only [dg] at hm ⊢;rw [e3];exact hm
  ·have e:=hF b hb;have:=h6 b hb;rw [dz this] at e;exact (bJ.1 e).1
def Ac8:∀n:Nat,n < 10->(⟨#[48,49,50,51,52,53,54,55,56,57]⟩:au).extract n (n+1)=⟨#[UInt8.ofNat (48+n)]⟩:=EZ
def Ws:∀(k n:Nat) (w:World),n < 10 ^ (k+1)->n<=999999999999999999 ->
  Calls prog 46 #[aa (n:Int)] w fun e w'=>e=.returned (af (bz (Lib.decDigits n)))/\∃j,w'=w.drewN j:=by
 intro k
 induction k with
 | zero =>
  intro n w h1 h2;have h3:n < 10:=HY
  have hd:=Lib.hid (Ac8 n h3);have hn:¬((n:Int) < 0):=EY
  go_enter func46,ntmps46
  go_wp2_with fail
  go_ret
  refine ⟨Zq ?_,0,rfl⟩;rw [hd.out,Lib.decDigits,ei h3];rfl
 | succ k ih =>
  intro n w h1 h2;by_cases h3:n < 10
  ·have hd:=Lib.hid (Ac8 n h3);have hn:¬((n:Int) < 0):=EY
   go_enter func46,ntmps46
   go_wp2_with fail
   go_ret
   refine ⟨Zq ?_,0,rfl⟩;rw [hd.out,Lib.decDigits,ei h3];rfl
  ·have h4:n / 10 < 10 ^ (k+1):=by rw [ed] at h1;omega
   have hc:=fun w=>ih (n / 10) w h4 EY;rw [show ((n / 10:Nat):Int)=(n:Int) / 10 from by omega] at hc;have hn:¬((n:Int) < 0):=EY
   have h5:¬((n:Int) < 10):=EY
   have hd:=Lib.hid (Ac8 (n % 10) EY);have b0:(0:Int)<=(n:Int) % 10:=EY
   have b1:(n:Int) % 10<=9:=EY
   have e0:IntKind.i64.wrap ((n:Int) / 10)=(n:Int) / 10:=by rw [IntKind.wrap_i64];omega
   have e1:IntKind.i64.wrap ((n:Int) % 10)=(n:Int) % 10:=by rw [IntKind.wrap_i64];omega
   have e2:IntKind.i64.wrap ((n:Int) % 10+1)=(n:Int) % 10+1:=by rw [IntKind.wrap_i64];omega
   have e3:((n:Int) % 10).toNat=n % 10:=EY
   have e4:((n:Int) % 10+1).toNat=n % 10+1:=EY
   have e5:(n:Int).tmod 10=(n:Int) % 10:=fD EY;have e6:(n:Int).tdiv 10=(n:Int) / 10:=fG EY;have hsl:∀wx,(Instr.slice 9 (af ⟨#[48,49,50,51,52,53,54,55,56,57]⟩) (some (aa ((n:Int) % 10))) (some (aa ((n:Int) % 10+1))) none).run prog wx=.ok (af ⟨#[UInt8.ofNat (48+n % 10)]⟩) wx:=fun wx=>by
    have h6:=run_slice_string (P:=prog) wx 9 ⟨#[48,49,50,51,52,53,54,55,56,57]⟩ .i64 .i64 ((n:Int) % 10) ((n:Int) % 10+1) underlying9 EY EY (by show _<=((10:Nat):Int);omega);rw [h6,e3,e4,hd.out]
   have hD:(bz (Lib.decDigits (n / 10))).size<=18:=by rw [Ho];exact Ea 17 _ EY
   have hd1:(⟨#[UInt8.ofNat (48+n % 10)]⟩:au).size<=1:=by simp [ByteArray.size]
   have hR:Hid (bz (Lib.decDigits (n / 10))++⟨#[UInt8.ofNat (48+n % 10)]⟩=bz (Lib.decDigits n)):=by
    refine Lib.hid ?_
    conv=>rhs;rw [Lib.decDigits,dif_neg EY,<-Bfp]
    rfl
   generalize bz (Lib.decDigits (n / 10))=D at *;generalize (⟨#[UInt8.ofNat (48+n % 10)]⟩:au)=d at *;clear ih h1 e3 e4
   go_enter func46,ntmps46
   go_wp2_with fail
   go_quiet ((go_at_call 46;exact Calls.quiet_of (v:=af D) (hc (World.drewN _ _))))
   go_wp2_with fail
   go_ret
   refine ⟨Zq ?_,_,rfl⟩;exact hR.out
def Ga (FT:aq):Pc:=.isv Bix (.agg #[]) () FT
def Ga.env {w:World} {FT:aq} (h:(Ga FT).P w):Lib.TabIs prog w "internal/strconv.uint64pow10" .u64 Lib.pow10Tab/\(∃m,w.cell? ⟨0,0,none⟩=some (aa m))/\(∃tp p,w.var? prog "strconv.ErrSyntax" = some #[.iface tp p])/\(∃tp p,w.var? prog "strconv.ErrRange" = some #[.iface tp p]):=by
 obtain ⟨cs,_,h⟩:=h;exact h.2.1
def Aaz (n:Int) (h0:-9223372036854775808<=n) (h1:n<=9223372036854775807) (FT:aq) (w:World) (hT:(Ga FT).P w) :
  Calls prog 104 #[aa n] w (RB (af (bz (Lib.itoa n))) w):=by
 refine (Tryz.strconv_Itoa n h0 h1 w (Ga.env hT).1).mono ?_;rintro e w' ⟨rfl,k,os,rfl⟩;exact ⟨rfl,Aaq w k os⟩
def Ajy {w:World}:∀{l:ai},(∀s∈l,s.size<=maxLen)->Cw A9 w (l.map Value.string) l []
 | [],_=>⟨rfl,rfl⟩
 | s::l,h=>⟨[.string s],l.map Value.string,[],[],FA,FA,⟨rfl,h s FA,rfl⟩,Ajy fun t ht=>h t (by simp [ht])⟩
def Tf (sep:au) (n:Nat):∀(k:Nat) (s:au),s.size<=n->∀t∈Lib.splitB sep 0 k s,t.size<=n
 | 0,s,h,t,ht=>by rw [Lib.splitB_zero,aL] at ht;subst ht;exact h
 | k+1,s,h,t,ht=>by
  unfold Lib.splitB at ht
  split at ht
  ·rw [aL] at ht;subst ht;exact h
  ·rcases aG.1 ht with rfl|ht
   ·simp [cg];omega
   ·exact Tf sep n k _ (by simp [cg];omega) t ht
def Bd8 (s sep:au) (hs:s.size<=1000000000) (h1:1<=sep.size) (FT:aq) (w:World) (hT:(Ga FT).P w) :
  Calls prog 94 #[af s,af sep] w (X4 A9 9 (Lib.splitB sep 0 (Lib.countB s sep) s) w):=by
 obtain ⟨m,hm⟩:=(Ga.env hT).2.1;refine (Tryz.strings_Split s sep m w EY hm h1).mono ?_;rintro e w2 ⟨rfl,rfl⟩;have hl:=Lib.splitB_all sep h1 0 (Lib.countB s sep) s rfl;have hc:=Lib.countB_le sep h1 s.size s (aK _);have hb:Below w.heap.size w (w.alloc (.cells ((Lib.splitB sep 0 (Lib.countB s sep) s).map Value.string).toArray 9)):=Um _ _
 refine ⟨_,[w.heap.size],rfl,.inr ⟨w.heap.size,Lib.countB s sep+1,(Lib.splitB sep 0 (Lib.countB s sep) s).map Value.string,[],[],by rw [hl],by rw [bc];exact Ip.made _ _ _,EY,FE,by simp [hl,A9],Ajy fun t ht=>?_,rfl⟩,FA,FA,hb⟩;have:=Tf sep s.size _ s (aK _) t ht;unfold maxLen;omega
def Be7 (n:Nat) (hn:n<=999999) (w:World):Calls prog 46 #[aa (n:Int)] w (RB (af (bz (Lib.decDigits n))) w):=by
 refine (Ws 5 n w EY EY).mono ?_;rintro e w2 ⟨rfl,j,rfl⟩;exact ⟨rfl,Eu (Below.refl _ _) j⟩
def Ayj (b:UInt8) (r:Bs):∀x:Bs,(∀c∈x,c≠b)->Lib.index (x++b::r) [b]=x.length
 | [],_=>by simp [Lib.index]
 | c::x,h=>by
  have ih:=Ayj b r x (fun d hd=>h d (by simp [hd]));have hc:¬b=c:=fun e=>h c FA e.symm;rw [bY,Lib.index,aC JK,ih,aC GP];simp
def Ano (l:Bs) (b:UInt8) (d:Nat) (hb:Lib.digitVal b=some d):∀acc n,Lib.decFrom acc l=some n->Lib.decFrom acc (l++[b])=some (n * 10+d):=by
 induction l with
 | nil=>intro acc n h;simp [Lib.decFrom] at h ⊢;subst h;rw [hb]
 | cons a l ih =>
  intro acc n h;simp only [bY,Lib.decFrom] at h ⊢;cases ha:Lib.digitVal a with
  | none=>rw [ha] at h;cases h
  | some x =>
   have h2:Lib.decFrom (acc * 10+x) l=some n:=by simpa [ha] using h
   exact ih _ _ h2
def Alt:∀d:Nat,d < 10->Lib.digitVal (UInt8.ofNat (48+d))=some d:=EZ
def Agp:∀(k u:Nat),u < 10 ^ (k+1)->Lib.decFrom 0 (Lib.decDigits u)=some u
 | 0,u,h=>by
  have h3:u < 10:=FI
  rw [Lib.decDigits,ei h3,Lib.decFrom,Alt u h3];simp [Lib.decFrom]
 | k+1,u,h=>by
  by_cases h3:u < 10
  ·rw [Lib.decDigits,ei h3,Lib.decFrom,Alt u h3];simp [Lib.decFrom]
  ·have ih:=Agp k (u / 10) (by rw [ed] at h;omega);rw [Lib.decDigits,dif_neg h3,Ano _ _ _ (Alt (u % 10) EY) _ _ ih]
   congr 1;omega
def Atw (u:Nat) (h:u < 10000000):Lib.atoiAll (Lib.decDigits u)=.ok (u:Int):=by
 have hl:=Ea 6 u EY;have hp:=Zd u;rw [Lib.atoiAll_short _ EY];have:Lib.atoi (Lib.decDigits u)=some (u:Int):=by
  have hb:=Agp 6 u EY;cases hd:Lib.decDigits u with
  | nil=>rw [hd] at hp;simp at hp
  | cons b r =>
   have hm:=Pz u b (by rw [hd];simp);have h45:(45:UInt8).toNat=45:=rfl;have h43:(43:UInt8).toNat=43:=rfl;rw [Lib.atoi,aC (by simp;intro e;subst e;omega),aC (by simp;intro e;subst e;omega)];unfold Lib.decNat;rw [aC FA,<-hd,hb];rfl
 rw [this];rfl
def Ds (b:UInt8):Bs->List Bs
 | []=>[[]]
 | c::r=>if c == b then []::Ds b r else match Ds b r with
  | []=>[[c]]
  | x::xs=>(c::x)::xs
def Zs {b:UInt8}:∀{x:Bs} (r:Bs),(∀c∈x,c≠b)->Ds b (x++b::r)=x::Ds b r
 | [],r,_=>by simp [Ds]
 | c::x,r,h=>by
  have ih:=Zs (b:=b) (x:=x) r fun d hd=>h d (by simp [hd]);have hb:(c == b)=false:=by simpa using h c FA
  simp only [bY,Ds,hb,ih];simp
def V2 {b:UInt8}:∀{x:Bs},(∀c∈x,c≠b)->Ds b x=[x]
 | [],_=>rfl
 | c::x,h=>by
  have ih:=V2 (b:=b) (x:=x) fun d hd=>h d (by simp [hd]);have hb:(c == b)=false:=by simpa using h c FA
  simp only [Ds,hb,ih];simp
def Se (b:UInt8) (l:Bs):∃r,Ds b l=Eh b l::r/\(r=[]↔b ∉ l):=by
 rcases Po b l with ⟨h,h2⟩|⟨h,h2,_⟩
 ·refine ⟨Ds b (Mt b l),?_,?_⟩
  ·conv=>lhs;rw [h2]
   exact Zs _ Acs
  ·refine ⟨fun e=>?_,fun e=>absurd h e⟩;have:∀l:Bs,Ds b l≠[]:=by
    intro l;cases l with
    | nil=>simp [Ds]
    | cons c r =>
     unfold Ds
     split
     ·simp
     ·split <;> simp
   exact absurd e (this _)
 ·exact ⟨[],by rw [V2 fun c hc e=>h (by rw [<-e];exact hc),h2],JT⟩
def Aqj {l:Bs} {f k:Nat} (hf:f<=k) (hk:k < l.length):l.drop f=(l.drop f).take (k - f)++l[k]::l.drop (k+1):=by
 have h1:(l.drop f).drop (k - f)=l.drop k:=by rw [cw];congr 1;omega
 conv=>lhs;rw [<-bo (k - f) (l.drop f),h1,bF hk]
def Awg {l:Bs} {f k:Nat} (hf:f<=k) (hk:k < l.length):(l.drop f).take (k+1 - f)=(l.drop f).take (k - f)++[l[k]]:=by
 rw [show k+1 - f=(k - f)+1 by omega,aR JX]
 congr 2
 rw [dK];congr 1;omega
def Axs (s:au) (k:Nat) (h:k < s.size):s.data.toList[k]'FI=s[k]:=rfl
def Bhy (s:au) (f k:Nat):s.extract f k=bz ((s.data.toList.drop f).take (k - f)):=Lib.extract_eq s f k
def Zh (s:au) (f:Nat):s.extract f s.size=bz (s.data.toList.drop f):=by
 rw [Lib.extract_eq];unfold bz;rw [aV FA]
def Bar (b:UInt8):∀(l:Bs),Lib.splitB ⟨#[b]⟩ 0 (l.count b) (bz l)=(Ds b l).map bz:=by
 intro l
 induction hn:l.length using Nat.strongRecOn generalizing l with
 | ind n ih =>
  subst hn;rcases Po b l with ⟨h,h2⟩|⟨h, -, -⟩
  ·obtain ⟨u,r,hm,e⟩:∃u r:Bs,(∀c∈u,c≠b)/\l=u++b::r:=⟨_,_,Acs,h2⟩;subst e;clear h h2;have hc0:u.count b=0:=List.count_eq_zero.2 fun hc=>hm b hc rfl;have hcnt:(u++b::r).count b=r.count b+1:=by rw [List.count_append,List.count_cons_self,hc0];omega
   have hi:Lib.indexB (bz (u++b::r)) ⟨#[b]⟩=(u.length:Int):=by
    unfold Lib.indexB;rw [Hn];exact Ayj b r u hm
   have e1:(bz (u++b::r)).extract 0 (u.length+0)=bz u:=by
    rw [<-Vd (ByteArray.extract _ _ _),Lib.extract_from_zero,Hn,bT,gi]
   have e2:(bz (u++b::r)).extract (u.length+(⟨#[b]⟩:au).size) (bz (u++b::r)).size=bz r:=by
    rw [<-Vd (ByteArray.extract _ _ _)]
    congr 1
    rw [Lib.extract_data,Hn,Ho,show (⟨#[b]⟩:au).size=1 from rfl,show u++b::r=(u++[b])++r by simp,dF FA];exact aV FF
   rw [hcnt,Lib.splitB_hit _ _ _ _ _ hi,e1,e2,ih _ FF _ rfl,Zs _ hm];rfl
  ·have hc0:l.count b=0:=List.count_eq_zero.2 h;rw [hc0,Lib.splitB_zero,V2 fun c hc e=>h (by subst e;exact hc)];rfl
def Yx (b:UInt8) (s:au):Lib.splitB ⟨#[b]⟩ 0 (Lib.countB s ⟨#[b]⟩) s=(Ds b s.data.toList).map bz:=by
 have h:=Bar b s.data.toList;rw [Vd] at h;rw [<-h]
 congr 1
 have:=Lib.count_one b s.data.toList;unfold Lib.countB;exact this
section
variable {P:Program} {n:Nat} {fr:Fr} {H:List Pc} {ty:TypeId} {x:Operand} {t t2:TypeId}
def Bhe (hx:ev fr x=some .nilIface) (hu:P.underlying t=some (.interface (P.methodsAt t))):Yd P n fr H (.binOp .neq t x (.const .nilIface) t2) ty (.bool false):=.mk fun c w d pos Cf gd hA _=>by
 have e:binOp .neq t .nilIface .nilIface=(do pure (.bool (!(<-Op.equal t .nilIface .nilIface)))):=rfl;have eg:eqGuard .neq t x (.const .nilIface) .nilIface .nilIface=pure ():=by unfold eqGuard;simp
 have ec:c.eval (.const .nilIface)=.nilIface:=rfl;simp only [execOp,hA.ev hx,ec,eg,e,Sem.run_bind,Sem.run_pure,Result.andThen_ok,run_equal_nil_nil w t hu];rfl
def Bbu {u:TypeId} {p:Value} (hx:ev fr x=some (.iface u p)) (hu:P.underlying t=some (.interface (P.methodsAt t))):Yd P n fr H (.binOp .neq t x (.const .nilIface) t2) ty (.bool true):=.mk fun c w d pos Cf gd hA _=>by
 have e:binOp .neq t (.iface u p) .nilIface=(do pure (.bool (!(<-Op.equal t (.iface u p) .nilIface)))):=rfl;have eg:eqGuard .neq t x (.const .nilIface) (.iface u p) .nilIface=pure ():=by unfold eqGuard;simp
 have ec:c.eval (.const .nilIface)=.nilIface:=rfl;simp only [execOp,hA.ev hx,ec,eg,e,Sem.run_bind,Sem.run_pure,Result.andThen_ok,run_equal_held_nil w t u p hu];rfl
end
section
variable {c:Cx} {fr:Fr} {H:List Pc} {d:Nat} {Φ:Gl}
def cx {f:Nat} {vs:am} (V:Value->Prop) (hc:∀w,St c.G c.D c.w0 H w->Calls c.P f vs.toArray w fun e w'=>∃v,V v/\e=.returned v/\Below w.heap.size w w') (h:∀v,V v->T c ((d,v)::fr) H Φ):Cl c fr H d f vs Φ :=
 Abo hc fun w e w' s ⟨v,hv,he,hB⟩=>⟨v,he,fun a g=>(h v hv).h a w' (s.below hB) g⟩
end
def C5 (s:au):Int × Bool:=match Lib.atoiAll s.data.toList with
 | .ok v=>if Ff (-999999) v 999999 && decide (bz (Lib.itoa v)=s) then (v,true) else (0,false)
 | _=>(0,false)
def Agd (s:au) (FT:aq) (hs:s.size<=1000000000):FV 146 [af s] [Ga FT] (.tuple #[aa (C5 s).1,.bool (C5 s).2]):=by
 have hu:prog.underlying 235=some (.interface (prog.methodsAt 235)):=FB
 refine enter func146 rfl ntmps146 fun w0=>?_;refine go ?_;have bad:(∀v,Lib.atoiAll s.data.toList≠.ok v)->C5 s=(0,false):=fun h=>by
  unfold C5;cases h2:Lib.atoiAll s.data.toList with
  | ok v=>exact absurd h2 (h v)
  | _=>rfl
 match h:Lib.atoiAll s.data.toList with
 | Lib.NumEnd.ok v =>
  obtain ⟨b0,b1⟩:=Lib.atoiAll_bounds h;refine cb (fun w st=>(Tryz.strconv_Atoi_ok s EY v h w).mono fun e w' hh=>⟨hh.1,?_⟩) ?_
  ·rcases hh.2 with rfl|⟨t,rfl⟩
   ·exact Below.refl _ _
   ·exact Lib.bytesWorld_below _ _ _
  refine go ?_;apply wO;apply oc;rfl;exact Bhe rfl hu;refine go ?_;refine ce (fun w s=>Hw _ _ _ _) ?_;cases g1:Ff (-999999) v 999999
  ·refine go ?_;rw [show C5 s=(0,false) by unfold C5;rw [h];simp [g1]];exact BA
  refine go ?_;refine cb (fun w st=>Aaz v EY EY FT w (st.get (p:=Ga FT) FA)) ?_;refine go ?_;by_cases g2:bz (Lib.itoa v)=s
  ·rw [ay (by simpa using g2)];refine go ?_;rw [show C5 s=(v,true) by unfold C5;rw [h];simp [g1,g2]];exact BA
  ·rw [av g2];refine go ?_;rw [show C5 s=(0,false) by unfold C5;rw [h];simp [g2]];exact BA
 | Lib.NumEnd.syntax =>
  rw [bad JT];refine cx (fun v=>∃n u p,v=.tuple #[aa n,.iface u p]) (fun w st=>?_) ?_
  ·obtain ⟨tp,p,hv⟩:=(Ga.env (st.get (p:=Ga FT) FA)).2.2.1;refine (Tryz.strconv_Atoi_syntax_var s EY h tp p w hv).mono ?_;rintro e w' ⟨N,rfl, -, -,hB⟩;exact ⟨_,⟨_,_,_,rfl⟩,rfl,hB⟩
  rintro _ ⟨n,u,p,rfl⟩;refine go ?_;apply wO;apply oc;rfl;exact Bbu rfl hu;exact AA
 | Lib.NumEnd.range =>
  rw [bad JT];refine cx (fun v=>∃n u p,v=.tuple #[aa n,.iface u p]) (fun w st=>?_) ?_
  ·obtain ⟨tp,p,hv⟩:=(Ga.env (st.get (p:=Ga FT) FA)).2.2.2;refine (Tryz.strconv_Atoi_range_var s EY h tp p w hv).mono ?_;rintro e w' ⟨N,rfl, -, -,hB⟩;exact ⟨_,⟨_,_,_,rfl⟩,rfl,hB⟩
  rintro _ ⟨n,u,p,rfl⟩;refine go ?_;apply wO;apply oc;rfl;exact Bbu rfl hu;exact AA
def Arh (u:Nat) (h:u<=999999):C5 (bz (Lib.decDigits u))=((u:Int),true):=by
 unfold C5;rw [Hn,Atw u EY];have e:Lib.itoa (u:Int)=Lib.decDigits u:=by unfold Lib.itoa;rw [aC EY];simp
 simp only [e];rw [show Ff (-999999) (u:Int) 999999=true by unfold Ff;rw [av EY,av EY];rfl];simp
def Aqg (n:Int):Bs:=Lib.decDigits n.toNat
def atW (ws:List Bs) (i:Nat):Bs:=ws.getD i []
def Bck {n:Int} (h:n<=1000000):(Aqg n).length<=7:=Ea 6 _ EY
section
variable {c:Cx} {fr:Fr} {H:List Pc} {Φ:Gl}
end
def Aym {n:Int} (h:0<=n):Lib.itoa n=Aqg n:=by unfold Lib.itoa Aqg;rw [aC EY]
def Azb (n:Int) (h0:0<=n) (h1:n<=1000000) (w:World):Calls prog 46 #[aa n] w (RB (af (bz (Aqg n))) w):=by
 obtain ⟨k,rfl⟩:∃k:Nat,n=k:=⟨n.toNat,EY⟩;refine (Ws 6 k w EY EY).mono ?_;rintro e w2 ⟨rfl,j,rfl⟩;exact ⟨rfl,Eu (Below.refl _ _) j⟩
structure Bhs where
 o:List Bs
 f:Nat
 k:Nat
 a:aj
 c:Nat
 F:aq
structure Bhr (b:UInt8) (s:au) (z:Bhs):Prop where
 k:z.k<=s.size
 f:z.f<=z.k
 l:z.o.length<=z.f
 e:Ds b s.data.toList=z.o++Ds b (s.data.toList.drop z.f)
 n:∀x∈(s.data.toList.drop z.f).take (z.k - z.f),x≠b
def Adr (s:au) (b:UInt8) (hs:s.size<=16777216):Fn prog 33 [af s,.int .u8 (b.toNat:Int)] [] [] (fun (_:aj × Nat × aq)=>True) (fun z=>.slice z.1 ((Ds b s.data.toList).map bz).length z.2.1) (fun z=>[.ow A9 9 (.slice z.1 ((Ds b s.data.toList).map bz).length z.2.1) ((Ds b s.data.toList).map bz) z.2.2]):=by
 refine enter func33 rfl ntmps33 fun w0=>?_;refine go ?_;intros;refine C3 A9 ?_;refine go ?_;refine Ca [0,1,4] (fun z:Bhs=>[(5,.slice z.a (z.o.map bz).length z.c),(6,aa (z.f:Nat)),(7,aa (z.k:Nat))]) (fun z=>[.ow A9 9 (.slice z.a (z.o.map bz).length z.c) (z.o.map bz) z.F]) (Bhr b s) (fun z=>s.size - z.k) ⟨[],0,0,_,_,_⟩ ⟨aD _,aK _,aK _,rfl,FA⟩ fun z hz=>?_;obtain ⟨z1,z2,z3,z4,z5⟩:=hz;have hml:(z.o.map bz).length=z.o.length:=bf ..;refine go ?_;refine Ay rfl (fun h1=>?_) (fun h1=>?_)
 ·have hk:z.k < s.size:=EY
  have hkl:z.k < s.data.toList.length:=by rw [Co];exact hk
  refine go ?_;refine Ay rfl (fun h2=>?_) (fun h2=>?_)
  ·have hb:s[z.k]=b:=UInt8.toNat_inj.1 (by have:((s[z.k]).toNat:Int)=(b.toNat:Int):=h2;omega);have h3:=Aqj (l:=s.data.toList) z2 hkl;rw [Axs s z.k hk,hb] at h3;have h4:Ds b (s.data.toList.drop z.f)=(s.data.toList.drop z.f).take (z.k - z.f)::Ds b (s.data.toList.drop (z.k+1)):=by rw [h3,Zs _ z5,<-h3]
   have hx:(s.extract z.f z.k).size<=maxLen:=by unfold maxLen;simp;omega
   refine Hy ?_;intros;apply wO;apply oc;rfl;exact Bhk rfl rfl rfl EY EY EY;refine Hy ?_;intros;rw [show s.extract ((z.f:Nat):Int).toNat ((z.k:Nat):Int).toNat=s.extract z.f z.k from rfl];apply wO;refine N9 (Ah0 hx) D7 fun a9 c9 F9=>?_;refine go ?_;have e9:z.o.map bz++[s.extract z.f z.k]=(z.o++[(s.data.toList.drop z.f).take (z.k - z.f)]).map bz:=by rw [bB,Bhy s z.f z.k];rfl
   rw [e9];refine Ce ⟨z.o++[(s.data.toList.drop z.f).take (z.k - z.f)],z.k+1,z.k+1,a9,c9,F9⟩ ⟨by show z.k+1<=s.size;omega,aK _,by show (z.o++[_]).length<=z.k+1;simp;omega,by show _=(z.o++[_])++Ds b (s.data.toList.drop (z.k+1));rw [z4,h4];simp,by show ∀x∈(s.data.toList.drop (z.k+1)).take (z.k+1 - (z.k+1)),x≠b;simp⟩ (by show s.size - (z.k+1) < s.size - z.k;omega)
  ·refine go ?_;refine Ce ⟨z.o,z.f,z.k+1,z.a,z.c,z.F⟩ ⟨by show z.k+1<=s.size;omega,by show z.f<=z.k+1;omega,z3,z4,by
    show ∀x∈(s.data.toList.drop z.f).take (z.k+1 - z.f),x≠b;rw [Awg z2 hkl,Axs s z.k hk];intro x hx;rcases aJ.1 hx with hx|hx
    ·exact z5 x hx
    ·rw [aL] at hx;subst hx;intro e;exact h2 (by show ((s[z.k]).toNat:Int)=(b.toNat:Int);rw [e])⟩ (by show s.size - (z.k+1) < s.size - z.k;omega)
 ·have hke:z.k=s.size:=EY
  have h4:Ds b s.data.toList=z.o++[s.data.toList.drop z.f]:=by
   rw [z4,V2];rw [aV FF] at z5;exact z5
  have hx:(s.extract z.f s.size).size<=maxLen:=by unfold maxLen;simp;omega
  refine Hy ?_;intros;apply wO;apply oc;rfl;exact Xk rfl rfl EY EY;refine Hy ?_;intros;rw [show s.extract ((z.f:Nat):Int).toNat s.size=s.extract z.f s.size from rfl];apply wO;refine N9 (Ah0 hx) D7 fun a9 c9 F9=>?_;refine go ?_;have e9:z.o.map bz++[s.extract z.f s.size]=(Ds b s.data.toList).map bz:=by rw [h4,bB,Zh s z.f];rfl
  rw [e9];refine ret (a9,c9,F9) trivial rfl
def Ae3 (l:ar) (i:Nat):Bool:=match l[i]? with
 | some p=>if i=0 then decide (p=-1) else Ff 0 p ((i:Int) - 1)
 | none=>true
def Gb (t:Nf):Bool:=Ff 2 (t.Ad.length:Int) 8 && Pr (Ae3 t.Ad) t.Ad.length
def Q8 {l:ar} (h:0 < l.length):Ae3 l 0=decide (l[0]=-1):=by unfold Ae3;rw [aE h];rfl
def Tr {l:ar} {i:Nat} (h:i < l.length) (h0:0 < i):Ae3 l i=Ff 0 l[i] ((i:Int) - 1):=by
 unfold Ae3;rw [aE h];show (if i=0 then _ else _)=_;rw [aC EY]
structure Px (l:ar):Prop where
 n0:2<=l.length
 n1:l.length<=8
 z:∀h:0 < l.length,l[0]=-1
 p:∀i (h:i < l.length),0 < i->0<=l[i]/\l[i] < i
def Hl {t:Nf} (h:Gb t=true):Px t.Ad:=by
 unfold Gb at h;rw [aw] at h;obtain ⟨h1,h2⟩:=h;unfold Ff at h1;simp only [aw,aF] at h1;refine ⟨EY,EY,fun h=>?_,fun i h h0=>?_⟩
 ·have:=J8 h2 0 h;rw [Q8 h] at this;exact dv this
 ·have:=J8 h2 i h;rw [Tr h h0] at this;unfold Ff at this;simp only [aw,aF] at this;omega
def Aud {t:Nf} (h:Ff 2 (t.Ad.length:Int) 8=false):Gb t=false:=by unfold Gb;rw [h];rfl
def Abx {t:Nf} {i:Nat} (hi:i < t.Ad.length) (h:Ae3 t.Ad i=false):Gb t=false:=by unfold Gb;rw [Md hi h,bZ]
def Ko (l:ar) (node:Int) (k:Nat):ar:=((List.range k).filter fun i=>decide (l[i]?=some node)).map fun (i:Nat)=>((i:Nat):Int)
def I0 (l:ar) (node:Int):ar:=Ko l node l.length
def Aqv {l:ar} {node:Int} {k:Nat} (h:k < l.length) (e:l[k]=node):Ko l node (k+1)=Ko l node k++[(k:Int)]:=by
 unfold Ko;rw [dC,cj,bB];simp [aE h,e]
def Aus {l:ar} {node:Int} {k:Nat} (h:k < l.length) (e:¬l[k]=node):Ko l node (k+1)=Ko l node k:=by
 unfold Ko;rw [dC,cj,bB];simp [aE h,e]
def Ag9 (l:ar) (node:Int) (k:Nat):(Ko l node k).length<=k:=by
 unfold Ko;rw [bf];exact bE (bN _ _) FA
def Aod {l:ar} {node x:Int} (h:x∈I0 l node):∃i,∃hi:i < l.length,x=(i:Int)/\l[i]=node:=by
 unfold I0 Ko at h;obtain ⟨i,hi,rfl⟩:=bL.1 h;obtain ⟨h1,h2⟩:=bR.1 hi;have h3:=cR.1 h1;have h4:=dv h2;rw [aE h3] at h4;exact ⟨i,h3,rfl,Option.some.inj h4⟩
def Et (l:ar) (node:Int):Bool:=!decide (node∈l)
def Avc (l:ar) (node:Int):Et l node=decide (I0 l node=[]):=by
 unfold Et;by_cases h:node∈l
 ·obtain ⟨i,hi,rfl⟩:=bl h;have:(i:Int)∈I0 l l[i]:=by
   unfold I0 Ko;exact bL.2 ⟨i,bR.2 ⟨cR.2 hi,by simp [aE hi]⟩,rfl⟩
  rw [av h,ay fun e=>by rw [e] at this;cases this];rfl
 ·have:I0 l node=[]:=eV.2 fun x hx=>by
   obtain ⟨i,hi, -,e⟩:=Aod hx;exact h (e▸aB hi)
  rw [ay h,av this];rfl
def Up (l:ar) (node:Int) (k:Nat):ar:=((List.range k).filter fun i=>decide (l[i+1]?=some node)).map fun (i:Nat)=>((i+1:Nat):Int)
def Aes (l:ar) (node:Int) (k:Nat):Ko l node (k+1)=Ko l node k++if l[k]?=some node then [(k:Int)] else []:=by
 unfold Ko;rw [dC,cj,bB]
 split <;> simp_all
def Aa1 (l:ar) (node:Int) (k:Nat):Up l node (k+1)=Up l node k++if l[k+1]?=some node then [((k+1:Nat):Int)] else []:=by
 unfold Up;rw [dC,cj,bB]
 split <;> simp_all
def Aoc {l:ar} {node:Int} (hz:Ko l node 1=[]):∀k,Ko l node (k+1)=Up l node k
 | 0=>by rw [hz];rfl
 | k+1=>by rw [Aes,Aoc hz k,Aa1]
def Aj8 {l:ar} {node:Int} (hz:Ko l node 1=[]) {k:Nat} (hk:k+1=l.length):Up l node k=I0 l node:=by
 rw [<-Aoc hz];unfold I0;rw [hk]
def Aur {l:ar} {node:Int} {k:Nat} (h:k+1 < l.length) (e:l[k+1]=node):Up l node (k+1)=Up l node k++[((k+1:Nat):Int)]:=by
 rw [Aa1,aE h,e,aH rfl]
def Ayr {l:ar} {node:Int} {k:Nat} (h:k+1 < l.length) (e:¬l[k+1]=node):Up l node (k+1)=Up l node k:=by
 rw [Aa1,aE h,aC KB,bc]
def Aj9 (l:ar) (node:Int) (k:Nat):(Up l node k).length<=k:=by
 unfold Up;rw [bf];exact bE (bN _ _) FA
def Tn {l:ar} {node:Int} (hz:∀h:0 < l.length,l[0]=-1) (h:0<=node):Ko l node 1=[]:=by
 rw [Aes];by_cases h0:0 < l.length
 ·have:=hz h0;rw [aE h0,aC FF];rfl
 ·rw [bp EY];rfl
def Ane (n:Int) (j:Nat):Cf (Cf n 1) j=Cf n ((j+1:Nat):Int):=HG
def Tj {n:Int} (h0:0<=n) (h1:n<=65535):Cf n ((0:Nat):Int)=n:=HG
def Acc:∀(l:List Ig) (n:Int),0<=n->n<=65535->(rel n l).1=Cf n ((rel n l).2.2.length:Nat)
 | [],n,h0,h1=>(Tj h0 h1).symm
 | s::r,n,h0,h1=>by
  have ih:=Acc r (Cf n 1) (Jk _ _).1 (Jk _ _).2;unfold rel
  split
  ·dsimp only;rw [ih,Ane,aU]
  ·exact (Tj h0 h1).symm
def Aj1:∀(k:Nat) (x:Aj),0<=x.next->x.next<=65535->(Jd k x).next=Cf x.next (k:Nat)/\0<=(Jd k x).next/\(Jd k x).next<=65535
 | 0,x,h0,h1=>⟨(Tj h0 h1).symm,h0,h1⟩
 | k+1,x,h0,h1=>by
  obtain ⟨a,b,c⟩:=Aj1 k (Z4 x) (Jk _ _).1 (Jk _ _).2;unfold Jd;exact ⟨by rw [a];show Cf (Cf x.next 1) k=_;rw [Ane],b,c⟩
def Afs (n:Int) (i j:Nat):Cf (Cf n i) j=Cf n ((i+j:Nat):Int):=HG
def Aen (k:Nat) (x:Aj) (h0:0<=x.next) (h1:x.next<=65535):(P7 (Jd k x)).next=Cf x.next ((O1 k x++Sb (Jd k x)).length:Nat):=by
 obtain ⟨a,b,c⟩:=Aj1 k x h0 h1;have d:(P7 (Jd k x)).next=Cf (Jd k x).next ((Sb (Jd k x)).length:Nat):=Acc (Jd k x).Ao (Jd k x).next b c
 have e:∀(k:Nat) (x:Aj),(O1 k x).length=k:=by
  intro k
  induction k with
  | zero=>intro x;rfl
  | succ k ih=>intro x;unfold O1;rw [aU,ih]
 rw [d,a,Afs,aA,e]
def Bf0 (n:Int) (j:Nat) (hj:j<=65535):gp n (Cf n j)=j:=by unfold gp Cf;omega
def Yt:∀(l:List Ig) (n:Int),(rel n l).2.1=l.drop (rel n l).2.2.length/\Ka (rel n l).2.1 0=false
 | [],n=>⟨rfl,rfl⟩
 | s::r,n=>by
  have ih:=Yt r (Cf n 1);unfold rel
  split
  ·dsimp only;rw [aU,List.drop_succ_cons];exact ih
  ·rename_i h;exact ⟨rfl,by simpa [Ka] using h⟩
def Tz:∀(k:Nat) (x:Aj),(Jd k x).Ao=x.Ao.drop k
 | 0,_=>rfl
 | k+1,x=>by unfold Jd;rw [Tz k (Z4 x)];simp [Z4,Nat.add_comm]
def Wo (l:List Ig) (m i:Nat):Ka (l.drop m) i=Ka l (m+i):=by unfold Ka;rw [dH]
def Aem (k:Nat) (x:Aj) (hg:Cz x=true):Cz (P7 (Jd k x))=true:=by
 have g:=Sz hg;unfold Cz at hg;simp only [aw,aF] at hg;obtain ⟨⟨⟨h1,h2⟩,h3⟩,h4⟩:=hg;obtain ⟨d1,d2⟩:=Yt (Jd k x).Ao (Jd k x).next
 rw [Tz,cw] at d1;have hs:(P7 (Jd k x)).Ao=x.Ao.drop (k+(rel (Jd k x).next (x.Ao.drop k)).2.2.length):=by
  unfold P7;dsimp only;rw [Tz,d1]
 have hn:=Aen k x g.n0 g.n1;generalize k+(rel (Jd k x).next (x.Ao.drop k)).2.2.length=m at hs;have h0:Ka (P7 (Jd k x)).Ao 0=false:=d2;rw [hs] at h0;have e1:Cd (P7 (Jd k x)).next=true:=by rw [hn];exact Qb _ _
 have e2:(x.Ao.drop m).all Hq=true:=aW.2 fun z hz=>aW.1 h3 z (br hz);have e3:Xw (x.Ao.drop m)=true:=by
  unfold Xw;by_cases hz:(x.Ao.drop m).length=0
  ·rw [av hz];rfl
  ·rw [ay hz,h0,Wo];unfold Xw at h4;rw [aX] at hz ⊢;rw [ay (show ¬x.Ao.length=0 by omega)] at h4;simp only [fC,aw] at h4;rw [show m+(x.Ao.length - m - 1)=x.Ao.length - 1 by omega,h4.2];rfl
 unfold Cz;rw [e1,hs,e2,e3,av FF];rfl
def Aqs {x:Aj} (hg:Cz x=true):Ka x.Ao 0=false:=by
 unfold Cz Xw at hg;simp only [aw,bX,aF,bw] at hg;rcases hg.2 with h|h
 ·exact Rx EY
 ·exact h.1
def As2 (x:Aj):(Sb x).length<=x.Ao.length:=by
 unfold Sb;have:∀(l:List Ig) n,(rel n l).2.2.length<=l.length:=by
  intro l
  induction l with
  | nil=>intro n;exact aK _
  | cons s r ih =>
   intro n;unfold rel
   split
   ·dsimp only;rw [aU,aU];exact Nat.succ_le_succ (ih _)
   ·exact aD _
 exact this _ _
def Aj3 (l:List Ig) (k i:Nat) (s:Ig) (hk:k < l.length):Ka (l.set k s) i=if i=k then s.Uz else Ka l i:=by
 unfold Ka;rw [List.getElem?_set];by_cases h:k=i
 ·subst h;simp [hk]
 ·rw [aC h,aC (fun e=>h e.symm)]
def Ao1 (x:Aj) (k:Nat) (s:Ig):(Mp x k s).length=max x.Ao.length (k+1):=by
 unfold Mp;rw [bG,Pk];omega
def Asz (x:Aj) (k:Nat) (s:Ig):Ka (Mp x k s) k=s.Uz:=by
 unfold Mp;rw [Aj3 _ _ _ _ (by rw [Pk];omega),aH rfl]
def Azt (x:Aj) (k:Nat) (s:Ig):(Mp x k s)[k]?=some s:=by
 unfold Mp;rw [eG (by rw [Pk];omega)]
def Bdr {x:Aj} {k:Nat} {s:Ig} (hx:x.Ao.all Hq=true) (hs:Hq s=true):(Mp x k s).all Hq=true:=by
 rw [aW] at hx ⊢;intro z hz;unfold Mp at hz;rcases bC hz with h|rfl
 ·unfold Mw at h;rcases aJ.1 h with h|h
  ·exact hx z h
  ·rw [(fv.1 h).2];decide
 ·exact hs
def Avv {x:Aj} {k:Nat} {s:Ig} (hx:Xw x.Ao=true) (hs:s.Uz=true):Ka (Mp x k s) ((Mp x k s).length - 1)=true:=by
 rw [Ao1];by_cases h:x.Ao.length<=k+1
 ·rw [show max x.Ao.length (k+1) - 1=k by omega,Asz];exact hs
 ·unfold Mp;rw [Aj3 _ _ _ _ (by rw [Pk];omega),aC EY];unfold Xw at hx;rw [ay EY] at hx;simp only [fC,aw] at hx;rw [show max x.Ao.length (k+1) - 1=x.Ao.length - 1 by omega];unfold Mw;rw [show k+1 - x.Ao.length=0 by omega];simpa using hx.2
def Az1 {n:Int} {L:List Ig} (hn:Cd n=true) (ho:L.all Hq=true) (hl:L.length<=8) (he:Ka L (L.length - 1)=true\/L=[]):Cz (P7 ⟨n,L⟩)=true:=by
 obtain ⟨d1,d2⟩:=Yt L n;have hs:(P7 ⟨n,L⟩).Ao=L.drop (rel n L).2.2.length:=d1;obtain ⟨p0,p1⟩:=Ba.1 hn;have hnx:(P7 ⟨n,L⟩).next=Cf n ((rel n L).2.2.length:Nat):=Acc L n p0 p1
 generalize (rel n L).2.2.length=m at hs hnx;have h0:Ka (P7 ⟨n,L⟩).Ao 0=false:=d2;rw [hs] at h0;have e1:Cd (P7 ⟨n,L⟩).next=true:=by rw [hnx];exact Qb _ _
 have e2:(L.drop m).all Hq=true:=aW.2 fun z hz=>aW.1 ho z (br hz);have e3:Xw (L.drop m)=true:=by
  unfold Xw;by_cases hz:(L.drop m).length=0
  ·rw [av hz];rfl
  ·rw [ay hz,h0,Wo];rw [aX] at hz ⊢;rcases he with he|he
   ·rw [show m+(L.length - m - 1)=L.length - 1 by omega,he];rfl
   ·subst he;simp at hz
 unfold Cz;rw [e1,hs,e2,e3,av FF];rfl
def Ay0 (x:Aj) (n:Int) (s:au):(Kb x n s).2.2=true->Cz x=true/\Cd n=true/\Cz (Kb x n s).1=true/\gp x.next (Kb x n s).1.next=((Kb x n s).2.1.length:Nat)/\Hg (Kb x n s).1 n=true/\(n=x.next->∃r,(Kb x n s).2.1=Ahv s::r)/\(Kb x n s).2.1.length<=8/\s.size<=8:=by
 unfold Kb
 split
 rotate_left
 ·intro h;cases h
 rename_i h;intro _;unfold Wx at h;simp only [aw] at h;obtain ⟨⟨⟨h1,h2⟩,h3⟩,h4⟩:=h;have g:=Sz h1;have p0:=g.n0;have p1:=g.n1;have pl:=g.l;obtain ⟨n0,n1⟩:=Ba.1 h2;refine ⟨h1,h2,?_⟩;dsimp only;cases ht:Hg x n with
 | true =>
  have eW:Mm x n s=x:=by unfold Mm;rw [ht];rfl
  have eE:L9 x n s=[]:=by unfold L9;rw [ht];rfl
  rw [eW,eE];refine ⟨h1,?_,ht,fun e=>?_,FA,Vn h3⟩
  ·unfold gp;simp
  ·subst e;exfalso;unfold Hg at ht;rw [bX] at ht;rcases ht with h|h
   ·unfold Ug gp at h;simp at h;exact absurd h EZ
   ·unfold Jb at h;rw [show gp x.next x.next=0 by unfold gp;omega] at h;rw [show (0:Int).toNat=0 from rfl,Aqs h1] at h;cases h
 | false =>
  have hk8:gp x.next n < 8:=by unfold Nx at h4;rw [ht] at h4;simpa using h4
  have hgb:=Lt x.next n
  obtain ⟨k,hk⟩:∃k:Nat,gp x.next n=k:=⟨(gp x.next n).toNat,EY⟩
  have eW:Mm x n s=P7 ⟨x.next,Mp x k ⟨true,s⟩⟩:=by unfold Mm;rw [ht,av hk8];unfold Z3;rw [hk,ba];rfl
  have eE:L9 x n s=(rel x.next (Mp x k ⟨true,s⟩)).2.2:=by unfold L9;rw [ht,av hk8];unfold Z3;rw [hk,ba];rfl
  have hx:x.Ao.all Hq=true/\Xw x.Ao=true:=by
   unfold Cz at h1;simp only [aw] at h1;exact ⟨h1.1.2,h1.2⟩
  have hos:Hq ⟨true,s⟩=true:=by unfold Hq;rw [h3];rfl
  have hL:=Ao1 x k ⟨true,s⟩;have hat:=Asz x k ⟨true,s⟩;have hget:=Azt x k ⟨true,s⟩;have ho:=Bdr (k:=k) hx.1 hos;have hla:=Avv (k:=k) (s:=⟨true,s⟩) hx.2 rfl;rw [eW,eE];generalize Mp x k ⟨true,s⟩=L at *;have hl8:L.length<=8:=EY
  have hrl:(rel x.next L).2.2.length<=L.length:=by
   have:=As2 ⟨x.next,L⟩;unfold Sb at this;dsimp only at this;omega
  obtain ⟨d1,d2⟩:=Yt L x.next
  have hnx:=Acc L x.next p0 p1
  have hn:n=Cf x.next (k:Nat):=by rw [<-hk];unfold gp Cf;omega
  refine ⟨Az1 (Ba.2 ⟨p0,p1⟩) ho hl8 (.inl hla),?_,?_,?_,EY,Vn h3⟩
  ·show gp x.next (rel x.next L).1=_
   rw [hnx];exact Bf0 _ _ EY
  ·unfold Hg;show (Ug n (rel x.next L).1 || Ka (rel x.next L).2.1 (gp (rel x.next L).1 n).toNat)=true;rw [hnx,d1];generalize (rel x.next L).2.2.length=m at *;by_cases hkm:k < m
   ·rw [show Ug n (Cf x.next (m:Nat))=true by rw [hn];unfold Ug Ff gp Cf;rw [aw];simp only [aF];omega];rfl
   ·rw [show gp (Cf x.next (m:Nat)) n=((k - m:Nat):Int) by rw [hn];unfold gp Cf;omega,ba,Wo,show m+(k - m)=k by omega,hat];simp
  ·intro e;have hk0:k=0:=by rw [e] at hk;unfold gp at hk;omega
   subst hk0;cases L with
   | nil=>simp at hget
   | cons z r =>
    simp at hget;subst hget;exact ⟨(rel (Cf x.next 1) r).2.2,by simp [rel]⟩
def O2 (x:Aj) (n:Nat):ar:=(Sd x.next n).filter fun k=>!Jb x k
def Akm {t k:Int} {n:Nat} (h:k∈Sd t n):0<=k/\k<=65535:=by
 unfold Sd at h;obtain ⟨i, -,rfl⟩:=bL.1 h;unfold Cf;omega
def Am7 (x:Aj) (k:Int) (n:Nat) (v:Value) (F:aq) (h0:0<=x.next) (h1:x.next<=65535) (h2:0<=k) (h3:k<=65535) (hn:gp x.next k=n) :
  Fn prog 381 [v,aa k] [.isv Bx v x F] [] (fun (_:aj × Nat × aq)=>True) (fun s=>.slice s.1 (O2 x n).length s.2.1) (fun s=>[.ow Bc 3 (.slice s.1 (O2 x n).length s.2.1) (O2 x n) s.2.2]):=by
 have hg:=Lt x.next k
 refine enter func381 rfl ntmps381 fun w0=>?_;refine Cq ?_;rintro a1 c1 F1 rfl l1;refine go ?_;intros;refine Ar [0] [] ?_;refine C4 0 1 2 3 ?_;refine Dh 4 7 ?_;refine dt 8 ?_ (hy:=Bg5 Wj Wj);refine dN 5 ?_;refine oC ?_;refine ce (fun w s=>P3 _ _ _ EY EY EY EY) ?_;refine dk ?_;refine dN 6 ?_;refine oC ?_;rw [hn];refine Be (Bgs x.next n EY EY EY) fun s _=>?_;refine dk ?_;refine dN 9 ?_;refine oC ?_
 refine cf (Am0 253 [_] [] [.isv Bx (.agg #[aa x.next,ab a1 x.Ao.length c1]) x F] rfl (Sd x.next n) s.1 s.2.1 s.2.2 (fun k=>Jb x k) rfl (by rw [Ad7];omega) (fun k hk w hw=>?_)) fun q _=>?_;exact (Abm x k _ F h0 h1 (Akm hk).1 (Akm hk).2).val w hw;refine Pp ?_;refine dk ?_;refine dt 10 ?_;refine dd ?_;refine go ?_;refine ret q trivial rfl
def Avl {x:Aj} {k:Nat} (hk:k<=65535) (h:Ka x.Ao k=true):O2 x (k+1)=O2 x k:=by
 have e:Jb x (Cf x.next k)=true:=JY
 unfold O2;rw [Abc,cj,fV];simp [e]
def Aoo {x:Aj} {k:Nat} (hk:k<=65535) (h:Ka x.Ao k=false):O2 x (k+1)=O2 x k++[Cf x.next k]:=by
 have e:Jb x (Cf x.next k)=false:=JY
 unfold O2;rw [Abc,cj,fV];simp [e]
def Adx (x:Aj) (k:Nat):(O2 x k).length<=k:=by
 unfold O2;have:=bN (fun k=>!Jb x k) (Sd x.next k);rw [Ad7] at this;exact this
def Al0 (x:Aj) (k:Int) (n:Nat) (v:Value) (F:aq) (h0:0<=x.next) (h1:x.next<=65535) (h2:0<=k) (h3:k<=65535) (hn:gp x.next k=n) :
  Fn prog 353 [v,aa k] [.isv Bx v x F] [] (fun (_:aj × Nat × aq)=>True) (fun s=>.slice s.1 (O2 x n).length s.2.1) (fun s=>[.ow Bc 3 (.slice s.1 (O2 x n).length s.2.1) (O2 x n) s.2.2]):=by
 have hg:=Lt x.next k
 refine enter func353 rfl ntmps353 fun w0=>?_;refine Cq ?_;rintro a1 c1 F1 rfl l1;unfold maxLen at l1;refine Hy ?_;intros;refine C3 Bc ?_;refine go ?_;refine Ca [1,2,4] (fun s:SpS=>[(5,.slice s.a (O2 x s.k).length s.c),(6,aa (s.k:Nat))]) (fun s=>[.ow Bc 3 (.slice s.a (O2 x s.k).length s.c) (O2 x s.k) s.F]) (fun s=>s.k<=n) (fun s=>n - s.k) ⟨0,_,_,_⟩ (aD _) fun s hs=>?_;obtain ⟨j,a,c,F5⟩:=s;dsimp only at hs ⊢;have hlk:=Adx x j;refine go ?_;refine ce (fun w s=>Jw _ _ _ EY EY) ?_;rw [hn];refine go ?_;refine Ay rfl (fun h4=>?_) (fun h4=>?_)
 ·refine go ?_;refine Dd rfl rfl (fun h5=>?_) (fun h5=>?_)
  ·refine go ?_;refine ce (fun w s=>Id _ _ _ EY EY) ?_;refine go ?_;intros;apply wO;refine N9 (Tc _) C7 fun a2 c2 F2=>?_;refine go ?_;rw [<-Aoo EY (Rx EY)];refine Ce ⟨j+1,a2,c2,F2⟩ (by show j+1<=n;omega) KO
  ·refine O9 (xs:=x.Ao) j ?_;rintro hi2 b2 o2 e s1;rw [e];refine go ?_;cases g2:x.Ao[j].Uz
   ·refine go ?_;refine ce (fun w s=>Id _ _ _ EY EY) ?_;refine go ?_;intros;apply wO;refine N9 (Tc _) C7 fun a2 c2 F2=>?_;refine go ?_;rw [<-Aoo EY (by rw [Lu hi2];exact g2)];refine Ce ⟨j+1,a2,c2,F2⟩ (by show j+1<=n;omega) KO
   ·refine go ?_;rw [<-Avl (x:=x) (k:=j) EY (by rw [Lu hi2];exact g2)];refine Ce ⟨j+1,a,c,F5⟩ (by show j+1<=n;omega) KO
 ·obtain rfl:j=n:=EY
  refine go ?_;refine ret (a,c,F5) trivial rfl
def Ayl (d:Int):Bool:=Ff 1 d 8
def Nh (base:Int) (r:A4):Bool:=Cd r.Ae && decide (gp base r.Ae < 8) && Ff 1 r.state 3 && Ff 0 r.Cm 10007 && Ff 0 r.Dw 3
def Ai1 (l:List A4) (base:Int) (i:Nat):Bool:=match l[i]? with
 | none=>true
 | some r=>Nh base r && (decide (i=0) || match l[i - 1]? with|none=>true|some p=>!decide (gp base r.Ae<=gp base p.Ae))
def Wg {l:List A4} {base:Int} {i:Nat} (h:i < l.length):Ai1 l base i=(Nh base l[i] && (decide (i=0) || !decide (gp base l[i].Ae<=gp base (l[i - 1]'EY).Ae))):=by
 unfold Ai1;rw [aE h,aE (show i - 1 < l.length by omega)]
def Mo (l:List A4) (base:Int):Bool:=Cd base && decide ((l.length:Int)<=8) && (List.range l.length).all (Ai1 l base)
def Asc {l:List A4} {base:Int} {i:Nat} (h:i < l.length) (hc:Ai1 l base i=false):Mo l base=false:=by
 have:(List.range l.length).all (Ai1 l base)=false:=cS.2 ⟨i,FI,JK⟩;simp [Mo,this]
def Anj {l:List A4} {base:Int} (h1:Cd base=true) (h2:(l.length:Int)<=8) (h:∀j,j < l.length->Ai1 l base j=true):Mo l base=true:=by
 unfold Mo;rw [h1,av h2,aW.2 fun j hj=>h j HE];rfl
def Dj {l:List A4} {base:Int}:Mo l base=true↔Cd base=true/\l.length<=8/\(∀r∈l,Nh base r=true)/\l.Pairwise fun a b=>gp base a.Ae < gp base b.Ae:=by
 unfold Mo;simp only [aw,aW,cR,aF];constructor
 ·rintro ⟨⟨h1,h2⟩,h4⟩;refine ⟨h1,EY,fun r hr=>?_,?_⟩
  ·obtain ⟨i,hi,rfl⟩:=bl hr;have:=h4 i hi;rw [Wg hi] at this;simp only [aw] at this;exact this.1
  ·have step:∀i (hi:i+1 < l.length),gp base l[i].Ae < gp base l[i+1].Ae:=fun i hi=>by
    have:=h4 (i+1) hi;rw [Wg hi] at this;simp only [aw,bX,aF,bw,bS] at this;have h:=this.2;rcases h with h|h
    ·omega
    ·simpa using h
   refine bh.2 fun i j hi hj hij=>?_;obtain ⟨d,rfl⟩:∃d,j=i+1+d:=⟨j - i - 1,EY⟩;clear hij
   induction d with
   | zero=>exact step i hj
   | succ d ih=>exact gI (ih EY) (step (i+1+d) hj)
 ·rintro ⟨h1,h2,h4,h5⟩;refine ⟨⟨h1,EY⟩,fun i hi=>?_⟩;rw [Wg hi,h4 l[i] (aB hi)];simp only [bQ,bX,aF,bw,bS];rcases co i with h0|h0
  ·exact .inl h0
  ·have:=bh.1 h5 (i - 1) i EY hi EY;right;omega
structure Axa (base:Int) (r:A4):Prop where
 n:Cd r.Ae=true
 g:gp base r.Ae < 8
 s0:1<=r.state
 s1:r.state<=3
 u0:0<=r.Cm
 u1:r.Cm<=10007
 t0:0<=r.Dw
 t1:r.Dw<=3
def Ew {base:Int} {r:A4}:Nh base r=true↔Axa base r:=by
 unfold Nh Ff;simp only [aw,aF];exact ⟨fun ⟨⟨⟨⟨a,b⟩,c,d⟩,e,f⟩,g,h⟩=>⟨a,b,c,d,e,f,g,h⟩,fun ⟨a,b,c,d,e,f,g,h⟩=>⟨⟨⟨⟨a,b⟩,c,d⟩,e,f⟩,g,h⟩⟩
def Pt (r:A8):Bool:=decide (r.Aa.next=0) && decide (r.Aa.Ao.length=0) && decide (r.An.length=0)
def Aj0 (r:A8):Bool:=r.An.all fun q=>!Jb r.Aa q.Ae
def Bw (r:A8):Bool:=Ld r.Ai && (if r.Bg then Cz r.Aa && Mo r.An r.Aa.next && Aj0 r else Pt r)
def Uu (c d:Int) (r:A4):Option A4:=if c < r.Cm then some r else if r.Dw=3 then none else if r.state=1 then some ⟨r.Ae,2,c+3,r.Dw+1⟩ else some ⟨r.Ae,1,c+d,r.Dw⟩
def Qy (c:Int) (r:A4):Option Int:=if c < r.Cm then none else if r.Dw=3 then none else if r.state=1 then some r.Ae else none
def U4 (c:Int) (r:A4):Option Int:=if c < r.Cm then none else if r.Dw=3 then some r.Ae else none
def pkR (n k:Int):As:=⟨3,k,n,n,⟨#[]⟩⟩
def Dm (l:ar):Int:=Cf (l.getLastD 0) 1
def Jq (w:Aj) (t:Int):Aj:=P7 (Jd (Ez w.next t) w)
def Jp (w:Aj) (t:Int):ai:=O1 (Ez w.next t) w++Sb (Jd (Ez w.next t) w)
def Aab (l:List A4) (n:Int):List A4:=l.filter fun q=>!Ug q.Ae n
def Ej (l:List A4) (w:Aj):List A4:=l.filter fun q=>!(Ug q.Ae w.next || Jb w q.Ae) && decide (gp w.next q.Ae < 8)
def N3 (r:A8) (d:Int):List A4:=r.An.filterMap (Uu (r.Ai+1) d)
def Da (r:A8):ar:=r.An.filterMap (U4 (r.Ai+1))
def C2 (r:A8) (d:Int):A8:=if Da r=[] then ⟨r.Bg,r.Ai+1,r.Aa,N3 r d⟩ else ⟨r.Bg,r.Ai+1,Jq r.Aa (Dm (Da r)),Aab (N3 r d) (Jq r.Aa (Dm (Da r))).next⟩
def Fh (r:A8):List As:=(r.An.filterMap (Qy (r.Ai+1))).map (pkR r.Aa.next)
def Hv (r:A8):ai:=if Da r=[] then [] else Jp r.Aa (Dm (Da r))
def Awv:A8:=⟨false,0,⟨0,[]⟩,[]⟩
structure Mk (r:A8):Prop where
 k0:0<=r.Ai
 k1:r.Ai<=9999
 w:Cz r.Aa=true
 q:Mo r.An r.Aa.next=true
 f:∀z∈r.An,Jb r.Aa z.Ae=false
 z:r.Bg=false->r.Aa=⟨0,[]⟩/\r.An=[]
def El {r:A8}:Bw r=true↔Mk r:=by
 have hc:Ld r.Ai=true↔0<=r.Ai/\r.Ai<=9999:=by unfold Ld Ff;simp
 have hf:Aj0 r=true↔∀z∈r.An,Jb r.Aa z.Ae=false:=by unfold Aj0;simp
 have hz:Pt r=true↔r.Aa=⟨0,[]⟩/\r.An=[]:=by
  unfold Pt;obtain ⟨st,ck,⟨n,s⟩,q⟩:=r;simp [and_assoc]
 unfold Bw;constructor
 ·intro h;rw [aw,hc] at h;obtain ⟨⟨c0,c1⟩,h⟩:=h;cases hs:r.Bg
  ·rw [hs] at h;obtain ⟨e1,e2⟩:=hz.1 FI;refine ⟨c0,c1,by rw [e1];decide,by rw [e1,e2];decide,by rw [e2];simp,fun _=>⟨e1,e2⟩⟩
  ·rw [hs] at h;simp only [if_true,aw] at h;exact ⟨c0,c1,h.1.1,h.1.2,hf.1 h.2,fun h'=>by rw [hs] at h';cases h'⟩
 ·rintro ⟨c0,c1,h1,h2,h3,h4⟩;rw [aw,hc];refine ⟨⟨c0,c1⟩,?_⟩;cases hs:r.Bg
  ·simpa using hz.2 (h4 hs)
  ·simp [h1,h2,hf.2 h3]
def Fj (l:List As):Bool:=decide (l.length<=6) && l.all Br
def upQ (l:List As):Bool:=l.all fun p=>decide (p.Ct=3)
def M7 (e:Bj):Bool:=decide (e.Ai=0) && decide (e.Ah.length=0)
def Uf (r:A8):Bool:=!r.Bg && decide (r.Ai=0) && Pt r
def Rb (par:ar) (clk:Int) (i:Nat) (e:Bj) (r:A8) (d u:List As):Bool:=Fj d && Fj u && upQ u &&
 (if i=0 then M7 e && Uf r && decide (d.length=0) && decide (u.length=0)
  else if Et par i then M7 e && Bw r && decide (r.Ai=clk) else Bb e && decide (e.Ai=clk) && Uf r)
def Tv (n:Dx) (i:Nat):Bool:=match n.Af[i]?,n.Ac[i]?,n.down[i]?,n.up[i]? with
 | some e,some r,some d,some u=>Rb n.Ap.Ad n.Ab.Ai i e r d u
 | _,_,_,_=>true
def Lx (n:Dx):Bool:=decide (n.Af.length=n.Ap.Ad.length) && decide (n.Ac.length=n.Ap.Ad.length) && decide (n.down.length=n.Ap.Ad.length) && decide (n.up.length=n.Ap.Ad.length)
def At (n:Dx):Bool:=Gb n.Ap && Cp n.Ab && Lx n && Pr (Tv n) n.Ap.Ad.length
def Vc {n:Dx} {i:Nat} (h1:i < n.Af.length) (h2:i < n.Ac.length) (h3:i < n.down.length) (h4:i < n.up.length):Tv n i=Rb n.Ap.Ad n.Ab.Ai i n.Af[i] n.Ac[i] n.down[i] n.up[i]:=by
 unfold Tv;rw [aE h1,aE h2,aE h3,aE h4]
def Bn {n:Dx}:Lx n=true↔n.Af.length=n.Ap.Ad.length/\n.Ac.length=n.Ap.Ad.length/\n.down.length=n.Ap.Ad.length/\n.up.length=n.Ap.Ad.length:=by
 unfold Lx;simp only [aw,aF];exact ⟨fun ⟨⟨⟨a,b⟩,c⟩,d⟩=>⟨a,b,c,d⟩,fun ⟨a,b,c,d⟩=>⟨⟨⟨a,b⟩,c⟩,d⟩⟩
def Uo {n:Dx}:At n=true↔Gb n.Ap=true/\Cp n.Ab=true/\Lx n=true/\∀i,i < n.Ap.Ad.length->Tv n i=true:=by
 unfold At;simp only [aw];exact ⟨fun ⟨⟨⟨a,b⟩,c⟩,d⟩=>⟨a,b,c,J8 d⟩,fun ⟨a,b,c,d⟩=>⟨⟨⟨a,b⟩,c⟩,Ks d⟩⟩
def Ag0 {n:Dx} {i:Nat} (hi:i < n.Ap.Ad.length) (h:Tv n i=false):At n=false:=by unfold At;rw [Md hi h,bZ]
def Ap3 {r:A8} (h:Bw r=true):Uf r=(!r.Bg && decide (r.Ai=0)):=by
 unfold Uf;cases hs:r.Bg
 ·unfold Bw at h;rw [hs] at h;simp only [aw,d9,if_false] at h;rw [h.2,fE]
 ·rfl
def Wn {r:A8} (h:Uf r=true):Bw r=true:=by
 unfold Uf at h;simp only [aw,bw,aF] at h;unfold Bw;rw [h.1.1,h.2,h.1.2];rfl
def Wm {e:Bj} (h:M7 e=true):Bb e=true:=by
 unfold M7 at h;simp only [aw,aF] at h;unfold Bb;rw [h.1,h.2];rfl
def Ah6 (par:ar) (clk:Int) (i:Nat) (e:Bj) (r:A8) (d u:List As):Bool:=Bb e && Bw r && Fj d && (Fj u && upQ u) &&
 (if i=0 then M7 e && (!r.Bg && decide (r.Ai=0)) && decide (d.length+u.length=0)
  else if Et par i then M7 e && decide (r.Ai=clk) else (!r.Bg && decide (r.Ai=0)) && decide (e.Ai=clk))
def Ad4 (par:ar) (clk:Int) (i:Nat) (e:Bj) (r:A8) (d u:List As):Ah6 par clk i e r d u=Rb par clk i e r d u:=by
 have hz:(decide (d.length+u.length=0))=(decide (d.length=0) && decide (u.length=0)):=by
  by_cases a:d.length=0 <;> by_cases b:u.length=0 <;> simp [a,b]
 unfold Ah6 Rb;rw [hz];cases gq:Fj d <;> cases gu:Fj u <;> cases gk:upQ u <;> simp only [bZ,cJ,fE,bQ]
 split
 ·cases he:M7 e
  ·simp
  ·rw [Wm he];cases hr:Bw r
   ·cases hr2:Uf r
    ·simp
    ·rw [Wn hr2] at hr;cases hr
   ·rw [Ap3 hr];simp [Bool.and_assoc]
 ·split
  ·cases he:M7 e
   ·simp
   ·rw [Wm he];simp
  ·cases hr:Bw r
   ·cases hr2:Uf r
    ·simp
    ·rw [Wn hr2] at hr;cases hr
   ·rw [Ap3 hr];cases Bb e <;> cases (!r.Bg && decide (r.Ai=0)) <;> simp
def Vy (q:List As) (p:As):List As:=if q.length < 6 then q++[p] else q
def Ht (q ps:List As):List As:=q++ps.take (6 - q.length)
def Ao3 (q:List As):Ht q []=q:=by unfold Ht;simp
def Avw (q:List As) (p:As) (ps:List As):Ht (Vy q p) ps=Ht q (p::ps):=by
 unfold Ht Vy;by_cases h:q.length < 6
 ·rw [aH h,show 6 - q.length=(6 - (q.length+1))+1 by omega,ff];simp
 ·rw [aC h,show 6 - q.length=0 by omega];simp
def Azu (q:List As) (p:As):Ht q [p]=Vy q p:=by rw [<-Avw,Ao3]
def Ao2 (q ps:List As):(Ht q ps).length<=q.length+ps.length/\(q.length<=6->(Ht q ps).length<=6):=by
 unfold Ht;rw [aA,aP];omega
def Ad2 {q ps:List As} (hq:Fj q=true) (hp:∀p∈ps,Br p=true):Fj (Ht q ps)=true:=by
 unfold Fj at *;simp only [aw,aF] at hq ⊢;refine ⟨(Ao2 q ps).2 hq.1,?_⟩;unfold Ht;rw [dY,hq.2,bQ,aW];exact fun p h=>hp p (bK h)
def Dt (d:List (List As)) (nodes:ar) (ps:List As):List (List As):=nodes.foldl (fun d x=>d.modify x.toNat fun q=>Ht q ps) d
def Abd (ps:List As):∀(nodes:ar) (d:List (List As)),(Dt d nodes ps).length=d.length
 | [],_=>rfl
 | x::r,d=>by
  show (Dt (d.modify x.toNat fun q=>Ht q ps) r ps).length=d.length;rw [Abd ps r,dD]
def Aph (d:List (List As)) (nodes:ar) (x:Int) (ps:List As):Dt d (nodes++[x]) ps=(Dt d nodes ps).modify x.toNat fun q=>Ht q ps:=by
 unfold Dt;rw [eC];rfl
def Mq (f:Nat->Nat):Nat->List (List As)->Nat
 | _,[]=>0
 | k,x::r=>x.length * f k+Mq f (k+1) r
def Aiv (f:Nat->Nat):∀(l:List (List As)) (k i:Nat) (h:i < l.length) (x:List As),Mq f k (l.set i x)+l[i].length * f (k+i)=Mq f k l+x.length * f (k+i)
 | [],_,_,h,_=>absurd h FA
 | y::r,k,0,_,x=>by
  show x.length * f k+Mq f (k+1) r+y.length * f k=y.length * f k+Mq f (k+1) r+x.length * f k;omega
 | y::r,k,i+1,h,x=>by
  have hr:i < r.length:=FI
  have ih:=Aiv f r (k+1) i hr x;show y.length * f k+Mq f (k+1) (r.set i x)+r[i].length * f (k+(i+1))=y.length * f k+Mq f (k+1) r+x.length * f (k+(i+1));rw [show k+(i+1)=k+1+i by omega];omega
def In {l:List (List As)} {i:Nat} {g:List As->List As} (h:i < l.length):l.modify i g=l.set i (g l[i]):=by
 refine du fun j=>?_;rw [gv,List.getElem?_set];by_cases e:i=j
 ·subst e;simp [h]
 ·simp [e]
def Aa6 {l:List (List As)} {i:Nat} {g:List As->List As} (h:¬i < l.length):l.modify i g=l:=by
 refine du fun j=>?_;rw [gv];by_cases e:i=j
 ·subst e;simp [bp (show l.length<=i by omega)]
 ·simp [e]
def Ap0 (f:Nat->Nat) (l:List (List As)) (i:Nat) (ps:List As):Mq f 0 (l.modify i fun q=>Ht q ps)<=Mq f 0 l+ps.length * f i:=by
 by_cases h:i < l.length
 ·have h1:=Aiv f l 0 i h (Ht l[i] ps);have h2:=cF (f i) (Ao2 l[i] ps).1;rw [cH,cC] at *;rw [In h];omega
 ·rw [Aa6 h];omega
def Abf (f:Nat->Nat) (nodes:ar):Nat:=(nodes.map fun x=>f x.toNat).sum
def Uw (f:Nat->Nat) (ps:List As):∀(nodes:ar) (d:List (List As)),Mq f 0 (Dt d nodes ps)<=Mq f 0 d+ps.length * Abf f nodes
 | [],d=>by show Mq f 0 d<=_;omega
 | x::r,d=>by
  have ih:=Uw f ps r (d.modify x.toNat fun q=>Ht q ps);have h1:=Ap0 f d x.toNat ps;show Mq f 0 (Dt (d.modify x.toNat fun q=>Ht q ps) r ps)<=Mq f 0 d+ps.length * (f x.toNat+Abf f r);rw [gN];omega
def Bbs (f:Nat->Nat) (l:List (List As)) (i:Nat) (h:i < l.length) (h0:0 < l[i].length):Mq f 0 (l.set i (l[i].drop 1))+f i=Mq f 0 l:=by
 have h1:=Aiv f l 0 i h (l[i].drop 1);rw [aX,cH] at h1;have h2:l[i].length * f i=(l[i].length - 1) * f i+f i:=by
  obtain ⟨m,hm⟩:∃m,l[i].length=m+1:=⟨l[i].length - 1,EY⟩;rw [hm,gH,dG]
 omega
def Alc (f:Nat->Nat) (b:Nat):∀nodes:ar,(∀x∈nodes,f x.toNat<=b)->Abf f nodes<=nodes.length * b
 | [],_=>by simp [Abf]
 | x::r,h=>by
  have ih:=Alc f b r fun y hy=>h y KT;have:=h x FA;show f x.toNat+Abf f r<=(r.length+1) * b;rw [gH];omega
def Lv {l:ar} (hg:Px l) {i:Nat} {x:Int} (h:x∈I0 l (i:Int)):i < x.toNat/\x.toNat < l.length/\0<=x:=by
 obtain ⟨j,hj,rfl,e⟩:=Aod h;rcases co j with rfl|h0
 ·have:=hg.z hj;omega
 ·have:=(hg.p j hj h0).2;simp only [ba];omega
def Vp (l:ar) (node:Int):(I0 l node).length<=l.length:=Ag9 l node l.length
def Ni (i:Nat) (e:au):au:=bz (Lib.itoa ((i:Nat):Int))++⟨#[32]⟩++e
def U3 (i:Nat) (es:ai):ai:=es.map (Ni i)
def Nn (i:Nat):Int:=1+((i:Nat):Int) % 3
def Qg {α:Type} {l:List α} {i:Nat} (h:i < l.length) (x:α):l.getD i x=l[i]:=by rw [bt,aE h];rfl
def Ady (d:List (List As)) (i:Nat) (p:As) (a:aj) (n c:Nat) (F:aq) (hn:n=d.length) (hi:i < d.length) (hs:p.data.size<=maxLen):Fn prog 211 [ab a n c,aa (i:Nat),.agg #[aa (p).Ct,aa (p).Ae,aa (p).Am,aa (p).Es,af (p).data]] [] [.ow (J0 Ak 159) 120 (ab a n c) d F] (fun (_:aq)=>True) (fun _=>.tuple #[]) (fun G=>[.ow (J0 Ak 159) 120 (ab a n c) (d.set i (Vy d[i] p)) G]):=by
 refine enter func211 rfl ntmps211 fun w0=>?_;refine Adc (m:=1) i ?_ rfl hi;rintro _ g A cs B k1 k2 G1 Gi G2 rfl - hc hH;refine Zp ?_;rintro a5 c5 ev l5;obtain rfl:=Oa ev;refine go ?_;intros;refine Ay rfl (fun h1=>?_) (fun h1=>?_)
 ·have h6:d[i].length < 6:=EY
  rw [show Vy d[i] p=d[i]++[p] by unfold Vy;rw [aH h6]];refine go ?_;refine Ar [0,2] [10] ?_;refine C4 0 1 2 3 ?_;refine Dh 4 5 ?_;refine dt 6 ?_;refine dN 7 ?_;apply I1;rfl;rfl;rfl;rfl;exact Iy;exact Ir;intro _;refine dk ?_;refine dN 8 ?_;refine N9 (ys:=[p]) (De p hs) H9 fun a7 c7 F7=>?_;refine dk ?_;refine dt 9 ?_;refine dN 10 ?_;refine oS ?_;refine Nm ?_;refine dd ?_;refine Kx (d[i]++[p]) ?_;refine go ?_;refine Xg _ hH rfl fun F6=>?_;refine Xe ?_;refine ret F6 trivial rfl
 ·rw [show Vy d[i] p=d[i] by unfold Vy;rw [aC EY]];refine go ?_;refine Kx d[i] ?_;refine Xg _ hH rfl fun F6=>?_;refine Xe ?_;refine ret F6 trivial rfl
def Akt (q l:List As) (p:As):Ht q (l++[p])=Vy (Ht q l) p:=by
 unfold Ht Vy;by_cases h:l.length < 6 - q.length
 ·rw [aV (by rw [aA];simp;omega),aV EY,aH IS,aM]
 ·have e:(l++[p]).take (6 - q.length)=l.take (6 - q.length):=by rw [cZ EY]
  rw [e,aC (by rw [aA,aP];omega)]
def Sa (s:List (List As)) (i:Nat) (ps:List As):List (List As):=s.modify i fun q=>Ht q ps
def Akr (s:List (List As)) (i:Nat) (ps:List As):(Sa s i ps).length=s.length:=dD ..
def Aks (s:List (List As)) (i:Nat):Sa s i []=s:=by
 unfold Sa;by_cases h:i < s.length
 ·rw [In h,Ao3,bv]
 ·exact Aa6 h
def Ahw {s:List (List As)} {i j:Nat} {ps:List As} (hi:i < s.length) (hj:j < ps.length) (h:i < (Sa s i (ps.take j)).length):(Sa s i (ps.take j)).set i (Vy (Sa s i (ps.take j))[i] ps[j])=Sa s i (ps.take (j+1)):=by
 unfold Sa;simp only [In hi];rw [eQ,List.set_set,aR hj,Akt]
def Ae9 {d:List (List As)} {nodes:ar} {ps:List As} {k:Nat} (hk:k < nodes.length):Dt d (nodes.take (k+1)) ps=Sa (Dt d (nodes.take k) ps) nodes[k].toNat ps:=by rw [aR hk,Aph];rfl
structure KF where
 k:Nat
 F:aq
def Aau (d:List (List As)) (nodes:ar) (ps:List As) (g:Nat) (v0 v1 v2 v3 v4 v5 v6 v7 v8 v10:Value) (a:aj) (n c:Nat) (F:aq) (an:aj) (cn:Nat) (Fn_:aq) (ap:aj) (cp:Nat) (Fp:aq) (hn:n=d.length) (hx:∀x∈nodes,0<=x/\x.toNat < d.length) :
  Fn prog 149 [Gj g 0 0,ab an nodes.length cn,ab ap ps.length cp] [.sl Bc (ab an nodes.length cn) nodes Fn_,.sl Ak (ab ap ps.length cp) ps Fp] [.row g 43 0 [] [v0,v1,v2,v3,v4,v5,v6,v7,v8,ab a n c,v10] [],.ow (J0 Ak 159) 120 (ab a n c) d F] (fun (_:aq)=>True) (fun _=>.tuple #[]) (fun G=>[.row g 43 0 [] [v0,v1,v2,v3,v4,v5,v6,v7,v8,ab a n c,v10] [],.ow (J0 Ak 159) 120 (ab a n c) (Dt d nodes ps) G]):=by
 refine enter func149 rfl ntmps149 fun w0=>?_;refine Xf (E:=Bc) (xs:=nodes) ?_;rintro _ _ e0 hn1 hn2;refine Xf (E:=Ak) (xs:=ps) ?_;rintro _ _ e3 hp1 hp2;refine Amm (E:=Ak) (fun p:As=>p.data.size<=maxLen) (fun w cs x F h=>by obtain ⟨_,h,_⟩:=h;exact h) ?_;intro hz;cases e0;cases e3;refine go ?_;refine Ca [0,2,10,11] (fun z:KF=>[(12,aa (z.k:Nat))]) (fun z=>[.ow (J0 Ak 159) 120 (ab a n c) (Dt d (nodes.take z.k) ps) z.F]) (fun z=>z.k<=nodes.length) (fun z=>nodes.length - z.k) ⟨0,_⟩ (aD _) fun z hz0=>?_;have hsl:=Abd ps (nodes.take z.k) d;refine go ?_
 refine Ay rfl (fun h1=>?_) (fun h1=>?_)
 ·have hk:z.k < nodes.length:=EY
  obtain ⟨x0,x1⟩:=hx _ (aB hk);obtain ⟨i,hi⟩:∃i:Nat,nodes[z.k]=((i:Nat):Int):=⟨nodes[z.k].toNat,EY⟩;have hil:i < (Dt d (nodes.take z.k) ps).length:=EY
  have hst:=Ae9 (d:=d) (ps:=ps) hk;rw [show nodes[z.k].toNat=i by omega] at hst;refine Im (xs:=nodes) z.k ?_;rintro hi2 b o e1;rw [e1,hi];refine go ?_;rw [show Dt d (nodes.take z.k) ps=Sa (Dt d (nodes.take z.k) ps) i (ps.take 0) by rw [fl,Aks]];refine Ca [0,2,7,10,11,12,13,14,15,16,17] (fun y:KF=>[(18,aa (y.k:Nat))]) (fun y=>[.ow (J0 Ak 159) 120 (ab a n c) (Sa (Dt d (nodes.take z.k) ps) i (ps.take y.k)) y.F]) (fun y=>y.k<=ps.length) (fun y=>ps.length - y.k) ⟨0,z.F⟩ (aD _) fun y hy0=>?_;have hpl:=Akr (Dt d (nodes.take z.k) ps) i (ps.take y.k);refine go ?_
  refine Ay rfl (fun h2=>?_) (fun h2=>?_)
  ·have hj:y.k < ps.length:=EY
   refine Pf (xs:=ps) y.k ?_;rintro hi3 b3 o3 e3 s3;rw [e3];refine go ?_;intros;refine Ar [0,4] [] ?_;refine C4 0 1 2 3 ?_;refine Dh 4 5 ?_;refine dN 6 ?_;refine oC ?_;refine Be (Ady (Sa (Dt d (nodes.take z.k) ps) i (ps.take y.k)) i ps[y.k] a n c y.F EY EY s3) fun f1 _=>?_;rw [Ahw hil hj];refine dk ?_;refine dd ?_;refine go ?_;refine Ce ⟨y.k+1,f1⟩ hj (by show ps.length - (y.k+1) < ps.length - y.k;omega)
  ·rw [show ps.take y.k=ps from aV EY,<-hst];refine go ?_;refine Ce ⟨z.k+1,y.F⟩ hk (by show nodes.length - (z.k+1) < nodes.length - z.k;omega)
 ·rw [show nodes.take z.k=nodes from aV EY];refine go ?_;refine Xe ?_;refine ret z.F trivial rfl
def Amv {P:Program} {n:Nat} {fr:Fr} {H:List Pc} {ty t':TypeId} {x:Operand} {t e m:Nat} [hS:SlC P t e m] {a:aj} {l c:Nat} (hx:ev fr x=some (ab a l c)):Yd P n fr H (.binOp .eql t x (.const (ab none 0 0)) t') ty (.bool a.isNone):=.mk fun ac w d pos Cf gd hA _=>by
 have he:ac.eval (.const (ab none 0 0))=ab none 0 0:=rfl;have eg:eqGuard .eql t x (.const (ab none 0 0)) (ab a l c) (ab none 0 0)=pure ():=by unfold eqGuard;simp
 simp only [execOp,hA.ev hx,he,eg,Sem.run_bind,Sem.run_pure,Result.andThen_ok,Lib.run_eql_slice_nil w t e a l c 0 0 hS.u]
def Ba2 {c:Cx} {fr:Fr} {H:List Pc} {Φ:Gl} {α:Type} {E:B8 α} {n cp:Nat} {xs:List α} {F:aq} (h:xs=[]->T c fr H Φ) (hm:.sl E (ab none n cp) xs F∈H:=by exact Bp):T c fr H Φ:=.mk fun ac w s g=>by
 obtain ⟨-,a,cap,hv, -,⟨rfl, -, -⟩|⟨b,off,F',rfl, -⟩⟩:=s.get hm
 ·exact (h rfl).h ac w s g
 ·cases hv
def Ui (xs:List A4) (a:aj) (c:Nat) (F:aq) (hl:xs.length<=1000000000) :
  Fn prog 144 [ab a xs.length c] [.sl Az (ab a xs.length c) xs F] [] (fun (_:aj × Nat × aq)=>True) (fun z=>ab z.1 xs.length z.2.1) (fun z=>[.ow Az 195 (ab z.1 xs.length z.2.1) xs z.2.2]):=by
 refine enter func144 rfl ntmps144 fun w0=>?_;refine go ?_;cases a with
 | none =>
  refine Ba2 (xs:=xs) fun h0=>?_;subst h0;apply wO;apply oc;rfl;exact Amv rfl;refine Bt Az 195 ?_;refine go ?_;refine ret (none,0,[]) trivial rfl
 | some ad =>
  apply wO;apply oc;rfl;exact Amv rfl;refine go ?_;intros;refine C3 Az ?_;apply wO;refine N5 Dc D8 fun a2 c2 F2=>?_;rw [aZ];exact DL
section
variable {c:Cx} {fr:Fr} {H:List Pc} {k:List It} {Φ:Gl} {ops:Array Oper} {o:Op} {ty:TypeId} {pos:String} {Cf:Array Edge} {H0:List Pc} {X:aq} {f:Nat} {listed:Array Bool}
def E7.many {P:Program} {md:Region.Mode} {Q:Exit->Act->World->Prop} {S:World->Prop} {Y:Nat->Bool} {a:Act} {w:World} (hne:(Region.ready md ops listed).isEmpty=false)
  (h:∀i∈Region.ready md ops listed,∃oi,ops[i]?=some oi/\∀K':Act->World->Prop,Shut (∀a w,(Y i=false->S w)->E7 P md ops Q S Y f (listed.setIfInBounds i true) a w->K' a w)->if Region.wanted oi (yielded ops a.tmps)=true then Oper.wp P oi a w K' Q else K' (a.put oi.dst undef) w) :
  E7 P md ops Q S Y (f+1) listed a w:=by
 refine ⟨fun h0=>(by rw [h0] at hne;cases hne),fun j hj=>?_⟩;obtain ⟨oi,ho,hh⟩:=h j hj;exact wpOp_step ho (fun K' hK=>hh K' (fun a w hS hW=>hK a w ⟨hS,hW⟩))
def dP (L:aq) (hr:(Region.ready .any ops listed).all (fun i=>L.contains i)=true) (hne:(Region.ready .any ops listed).isEmpty=false)
  (h:∀i∈L,listed.getD i true=false->∃o,ops[i]?=some o/\o.guard=none/\Ef c fr H o (.dk i k H0 X ops f (listed.setIfInBounds i true))):T c fr H (.dx k H0 X ops (f+1) listed):=.mk fun a w s g =>
 E7.many hne fun i hi=>by
  obtain ⟨o,ho,hg,he⟩:=h i (by simpa using aW.1 hr i hi) (by have:=(bR.1 hi).2;simp only [aw,bw] at this;exact this.1);refine ⟨o,ho,fun K hK=>?_⟩;rw [aH (by simp [Region.wanted,hg])];exact Oper.wp_mono (fun a' w' h'=>hK a' w' h'.1 h'.2) (he.h _ a w s g)
def dE (i:Nat) {od:Option Tmp} (ho:ops[i]?=some ⟨od,o,ty,pos,Cf,none⟩) (h:On c fr H od o ty Φ):∃o,ops[i]?=some o/\o.guard=none/\Ef c fr H o Φ:=⟨_,ho,rfl,h.h _ _ _⟩
def Wv (z:am) (n:Nat):madeCells z.toArray (n * z.length)=((List.replicate n z).flatten).toArray:=by
 have:=Oi z.toArray n;rw [fM] at this;rw [<-Array.toArray_toList (xs:=madeCells z.toArray (n * z.length)),this]
def Be6 {b:Bool} (h:b=false) (h2:b=true):False:=by rw [h2] at h;cases h
end
def zP:As:=⟨0,0,0,0,⟨#[]⟩⟩
def Nw (q:List As):As:=q.headD zP
def Yq {q:List As} (h:0 < q.length):Nw q=q[0]:=by
 cases q with
 | nil=>cases h
 | cons p r=>rfl
def Bfh (xs:List As) (n i:Nat) (j:Int) (a:aj) (c:Nat) (F:aq) (hn:n=xs.length) (hi:i < xs.length) (hj:j=(i:Int)+1) (hl:xs.length<=1048576) :
  Fn prog 288 [ab a n c,aa i,aa j] [] [.ow Ak 159 (ab a n c) xs F] (fun (_:aj × Nat × aq)=>True)
   (fun z=>.slice z.1 (xs.take i++xs.drop (i+1)).length z.2.1) (fun z=>[.ow Ak 159 (.slice z.1 (xs.take i++xs.drop (i+1)).length z.2.1) (xs.take i++xs.drop (i+1)) z.2.2]):=by
 subst hn;refine enter func288 rfl ntmps288 fun w0=>?_;refine Amn (xs:=xs) Jz (by rintro rfl;simp at hi) ?_;rintro g rfl rfl - hc1 hc2;refine go ?_;apply wO;refine Aos (i:=i) (j:=i+1) (l:=xs.length) rfl rfl rfl rfl rfl rfl EY rfl EY EY hc1 (fun _=>?_);refine go ?_;refine Ay rfl (fun h=>absurd h EY) (fun _=>?_);refine go ?_;refine Ar [] [] ?_;refine Dh 0 1 ?_;refine dt 2 ?_ (hy:=Pd (i:=i) rfl rfl rfl EY EY);refine Dh 3 4 ?_;refine dt 5 ?_ (hy:=Bbw (i:=i+1) rfl rfl EY EY hc1);refine dN 6 ?_
 refine Azd (m:=5) (i:=i) (j:=i+1) (q:=if c=i+1 then 0 else 0+(i+1) * 5) (g:=g) (cp:=c) (n:=xs.length) Jz H9 rfl rfl rfl rfl (fun h=>by rw [aC EY];omega) EY EY rfl FC ?_;refine dk ?_;refine dt 7 ?_;refine dd ?_;refine go ?_;apply wO;apply oc;rfl;exact Atg (i:=i+(xs.length - (i+1))) (j:=xs.length) rfl rfl rfl rfl rfl EY EY hc1;refine go ?_;apply wO
 refine Asu (xs:=xs.take i++xs.drop (i+1)++xs.drop (i+(xs.length - (i+1)))) (z0:=zP) (n:=xs.length) (cp:=c) (i:=i+(xs.length - (i+1))) (g:=g) Jz (fun w=>⟨rfl,aD _,rfl⟩) EZ rfl rfl EY GV FC ?_;have hk:(xs.take i++xs.drop (i+1)).length=i+(xs.length - (i+1)):=GV
 refine Ail (xs:=(xs.take i++xs.drop (i+1)++xs.drop (i+(xs.length - (i+1)))).take (i+(xs.length - (i+1)))++List.replicate (xs.length - (i+(xs.length - (i+1)))) zP) (i+(xs.length - (i+1))) (fun F2=>?_) GV;rw [bU (by rw [bU hk,hk]),bU hk,<-hk];refine go ?_;refine ret (_,c,F2) trivial rfl
def Bhm (xs:List As) (a:aj) (c:Nat) (F:aq) (hl:xs.length<=1000000000) :
  Fn prog 141 [ab a xs.length c] [.sl Ak (ab a xs.length c) xs F] [] (fun (_:aj × Nat × aq)=>True) (fun z=>ab z.1 xs.length z.2.1) (fun z=>[.ow Ak 159 (ab z.1 xs.length z.2.1) xs z.2.2]):=by
 refine enter func141 rfl ntmps141 fun w0=>?_;refine go ?_;cases a with
 | none =>
  refine Ba2 (xs:=xs) fun h0=>?_;subst h0;apply wO;apply oc;rfl;exact Amv rfl;refine Bt Ak 159 ?_;refine go ?_;refine ret (none,0,[]) trivial rfl
 | some ad =>
  apply wO;apply oc;rfl;exact Amv rfl;refine go ?_;intros;refine C3 Ak ?_;apply wO;refine N5 H9 Jz fun a2 c2 F2=>?_;rw [aZ];exact DL
def Ahm (d:List (List As)) (i:Nat) (a:aj) (n c:Nat) (F:aq) (hn:n=d.length) (hi:i < d.length) (h6:d[i].length<=6):Fn prog 219 [ab a n c,aa (i:Nat)] [] [.ow (J0 Ak 159) 120 (ab a n c) d F] (fun (_:aq)=>True) (fun _=>.tuple #[.agg #[aa (Nw d[i]).Ct,aa (Nw d[i]).Ae,aa (Nw d[i]).Am,aa (Nw d[i]).Es,af (Nw d[i]).data],.bool (decide (0 < d[i].length))]) (fun G=>[.ow (J0 Ak 159) 120 (ab a n c) (d.set i (d[i].drop 1)) G]):=by
 refine enter func219 rfl ntmps219 fun w0=>?_;refine Adc (m:=1) i ?_ rfl hi;rintro _ g A cs B k1 k2 G1 Gi G2 rfl - hc hH;refine Zp ?_;rintro a5 c5 ev l5;obtain rfl:=Oa ev;refine go ?_;intros;refine Ay rfl (fun h1=>?_) (fun h1=>?_)
 ·have h0:d[i]=[]:=bu.1 EY;rw [h0];refine go ?_;refine Kx [] ?_;refine Xg _ hH rfl fun F6=>?_;refine ret F6 trivial rfl
 ·have h0:0 < d[i].length:=EY
  rw [av h0,Yq h0];refine Aua (xs:=d[i]) 0 ?_;rintro _ g2 A2 B2 rfl rfl sz hH2;refine Hy ?_;intros;refine P8 d[i][0] hH2 (fun w=>⟨rfl,sz,rfl⟩) ?_;rw [bv];refine go ?_;refine Be (Bfh d[i] d[i].length 0 1 _ c5 _ rfl h0 rfl EY) fun z _=>?_;rw [show d[i].take 0++d[i].drop (0+1)=d[i].drop 1 by simp];refine go ?_;refine Kx (d[i].drop 1) ?_;refine Xg _ hH rfl fun F6=>?_;refine ret F6 trivial rfl
def X9 (l:List (List As)) (k:Nat):List (List As):=l.take k++List.replicate (l.length - k) []
def At8 {l:List (List As)} {k:Nat} (h:k<=l.length):(X9 l k).length=l.length:=by unfold X9;simp;omega
def At9 {l:List (List As)} {k:Nat} (h:k < l.length):(X9 l k).set k l[k]=X9 l (k+1):=by
 unfold X9;have e:List.replicate (l.length - k) ([]:List As)=[]::List.replicate (l.length - (k+1)) []:=by rw [show l.length - k=(l.length - (k+1))+1 by omega,cU]
 have hl:(l.take k).length=k:=GD
 rw [e,eO _ _ EY,hl,Nat.sub_self,bm,aR h,aM];rfl
def Jv (l:List (List As)) (a:aj) (c:Nat) (F:aq) (hl:l.length<=1048576) (hq:∀q∈l,q.length<=1000000000):Fn prog 91 [ab a l.length c] [.sl (O7 Ak EZ) (ab a l.length c) l F] [] (fun (_:Nat × aq)=>True) (fun z=>ab (some ⟨z.1,0,none⟩) l.length l.length) (fun z=>[.ow (J0 Ak 159) 120 (ab (some ⟨z.1,0,none⟩) l.length l.length) l z.2]):=by
 refine enter func91 rfl ntmps91 fun w0=>?_;refine go ?_;apply wO;refine Aho l.length (cs:=(List.replicate l.length ([ab none 0 0]:am)).flatten) rfl rfl rfl (Wv _ _) EY EY fun g=>?_;refine Dy (E:=J0 Ak 159) (xs:=List.replicate l.length []) (fun w=>Cw.rep0 (E:=J0 Ak 159) (w:=w) (zs:=[ab none 0 0]) (z:=([]:List As)) ⟨_,rfl,.inl ⟨rfl,rfl,rfl⟩⟩ _) ?_ HB;rw [bi,show List.replicate l.length ([]:List As)=X9 l 0 by unfold X9;simp];refine go ?_
 refine Ca [2,3,9,10] (fun z:KF=>[(11,aa (z.k:Nat))]) (fun z=>[.ow (J0 Ak 159) 120 (ab (some ⟨g,0,none⟩) l.length l.length) (X9 l z.k) z.F]) (fun z=>z.k<=l.length) (fun z=>l.length - z.k) ⟨0,_⟩ (aD _) fun z hz0=>?_;have hfl:=At8 hz0;refine go ?_;refine Ay rfl (fun h1=>?_) (fun h1=>?_)
 ·have hk:z.k < l.length:=EY
  refine Ms (E:=Ak) (hz:=EZ) (xs:=l) z.k ?_;rintro hi6 b6 o6 a11 c11 F11 rfl l11;refine Adc (xs:=X9 l z.k) (m:=1) z.k ?_ rfl EY;rintro _ g2 A cs B k1 k2 G1 Gi G2 e2 - hc hH;cases e2;refine Zp ?_;rintro a5 c5 ev l5;obtain rfl:=Oa ev;refine go ?_;refine Be (Bhm l[z.k] a11 c11 F11 (hq _ (aB hk))) fun y _=>?_;refine go ?_;refine Kx l[z.k] ?_;refine Xg _ hH rfl fun F6=>?_;rw [At9 hk];refine go ?_;refine Ce ⟨z.k+1,F6⟩ hk (by show l.length - (z.k+1) < l.length - z.k;omega)
 ·rw [show X9 l z.k=l by unfold X9;rw [show z.k=l.length by omega];simp];refine go ?_;refine ret (g,z.F) trivial rfl
def Zu {a t:Int}:Ez a t<=(gp a t).toNat:=by unfold Ez;split <;> omega
def Vs {w:Aj} {t:Int} (hg:Cz w=true):(Jq w t).next=Cf w.next ((Jp w t).length:Nat)/\(Jq w t).Ao=w.Ao.drop (Jp w t).length/\(Jp w t).length<=Ez w.next t+8/\Ez w.next t<=(Jp w t).length:=by
 obtain ⟨h0,h1⟩:0<=w.next/\w.next<=65535:=by
  unfold Cz at hg;simp only [aw] at hg;exact Ba.1 hg.1.1.1
 have hl:w.Ao.length<=8:=by
  unfold Cz at hg;simp only [aw,aF] at hg;have:=hg.1.1.2;omega
 have e1:∀k (x:Aj),(O1 k x).length=k:=by
  intro k
  induction k with
  | zero=>intro x;rfl
  | succ k ih=>intro x;simp [O1,ih]
 have h2:=Aen (Ez w.next t) w h0 h1;have h3:=Yt (Jd (Ez w.next t) w).Ao (Jd (Ez w.next t) w).next
 have h4:=Tz (Ez w.next t) w;have h5:=As2 (Jd (Ez w.next t) w);rw [h4,aX] at h5;refine ⟨h2,?_,?_,?_⟩
 ·have e:(Jq w t).Ao=(Jd (Ez w.next t) w).Ao.drop (Sb (Jd (Ez w.next t) w)).length:=h3.1;rw [e,h4,cw];unfold Jp;rw [aA,e1]
 ·unfold Jp;rw [aA,e1];omega
 ·unfold Jp;rw [aA,e1];omega
def Ask (w:Aj) (n:Int):Jb w n=Ka w.Ao (gp w.next n).toNat:=rfl
def Bde {w:Aj} {t n:Int} (hg:Cz w=true) (ht:gp w.next t<=8) (hn:Cd n=true) (h8:gp w.next n < 8) (hh:Jb w n=false) :
  (Ug n (Jq w t).next=true/\gp w.next n < ((Jp w t).length:Nat))\/(Ug n (Jq w t).next=false/\Jb (Jq w t) n=false/\gp w.next n=((Jp w t).length:Nat)+gp (Jq w t).next n):=by
 obtain ⟨e1,e2,e3, -⟩:=Vs (t:=t) hg;have hs:=@Zu w.next t
 obtain ⟨n0,n1⟩:=Ba.1 hn;obtain ⟨w0,w1⟩:0<=w.next/\w.next<=65535:=by
  unfold Cz at hg;simp only [aw] at hg;exact Ba.1 hg.1.1.1
 have hm:(Jp w t).length<=16:=EY
 have hb:=Lt w.next n
 rw [Ask,e1,e2,Wo];rw [Ask] at hh;generalize hM:(Jp w t).length=m at *;clear e1 e2 e3 hs hM hg ht;by_cases hc:gp w.next n < (m:Nat)
 ·left;refine ⟨?_,hc⟩;unfold Ug Ff gp Cf at *;simp only [aw,aF];omega
 ·right;have e:gp w.next n=m+gp (Cf w.next m) n:=by unfold gp Cf at *;omega
  refine ⟨?_,?_,e⟩
  ·have:¬(1<=gp n (Cf w.next m)/\gp n (Cf w.next m)<=32767):=by unfold gp Cf at *;omega
   unfold Ug Ff;exact EV
  ·have hb2:=Lt (Cf w.next m) n;rw [show m+(gp (Cf w.next m) n).toNat=(gp w.next n).toNat by omega];exact hh
def Al6 {w:Aj} {t:Int} (hg:Cz w=true) (ht:gp w.next t<=8) {l:List A4} (hl:∀q∈l,Cd q.Ae=true/\gp w.next q.Ae < 8/\Jb w q.Ae=false):Ej l (Jq w t)=Aab l (Jq w t).next:=by
 unfold Ej Aab;refine ex fun q hq=>?_;obtain ⟨a,b,c⟩:=hl q hq;rcases Bde hg ht a b c with ⟨h, -⟩|⟨h,h2,h3⟩
 ·simp [h]
 ·have:=Lt (Jq w t).next q.Ae
  simp [h,h2,show gp (Jq w t).next q.Ae < 8 by omega]
def Amq {c d:Int} {r q:A4} (h:Uu c d r=some q):q.Ae=r.Ae:=by
 unfold Uu at h
 split at h
 ·cases h;rfl
 ·split at h
  ·cases h
  ·split at h <;> cases h <;> rfl
def Bed {c:Int} {r:A4} {n:Int} (h:U4 c r=some n):n=r.Ae:=by
 unfold U4 at h
 split at h
 ·cases h
 ·split at h <;> cases h <;> rfl
def Yv {r:A8} (hg:Mk r) {q:A4} (hq:q∈r.An):Cd q.Ae=true/\gp r.Aa.next q.Ae < 8/\Jb r.Aa q.Ae=false:=by
 obtain ⟨-, -,h3, -⟩:=Dj.1 hg.q;have:=Ew.1 (h3 q hq);exact ⟨this.n,this.g,hg.f q hq⟩
def Acq {r:A8} {d:Int} (hg:Mk r) {q:A4} (hq:q∈N3 r d):Cd q.Ae=true/\gp r.Aa.next q.Ae < 8/\Jb r.Aa q.Ae=false:=by
 obtain ⟨q',hq',h⟩:=eh.1 hq;rw [Amq h];exact Yv hg hq'
def Aed {r:A8} (hg:Mk r) {n:Int} (hn:n∈Da r):Cd n=true/\gp r.Aa.next n < 8:=by
 obtain ⟨q',hq',h⟩:=eh.1 hn;rw [Bed h];exact ⟨(Yv hg hq').1,(Yv hg hq').2.1⟩
def Iu {w:Aj} (hg:Cz w=true):0<=w.next/\w.next<=65535:=by
 unfold Cz at hg;simp only [aw] at hg;exact Ba.1 hg.1.1.1
def Afw {r:A8} (hg:Mk r) (h:Da r≠[]):gp r.Aa.next (Dm (Da r))<=8/\Cd (Dm (Da r))=true:=by
 unfold Dm;have hm:(Da r).getLastD 0∈Da r:=by
  rw [fP,List.getLast?_eq_some_getLast h];exact List.getLast_mem h
 obtain ⟨a,b⟩:=Aed hg hm;refine ⟨?_,Qb _ _⟩;obtain ⟨n0,n1⟩:=Ba.1 a;obtain ⟨w0,w1⟩:=Iu hg.w;unfold gp Cf at *;omega
def Afd {r:A8} {d:Int} (hg:Mk r) (h:Da r≠[]):Ej (N3 r d) (Jq r.Aa (Dm (Da r)))=Aab (N3 r d) (Jq r.Aa (Dm (Da r))).next :=
 Al6 hg.w (Afw hg h).1 fun _ hq=>Acq hg hq
def Ba1 {P:Program} {f:FuncId} {α:Type} {E:B8 α} {v:Value} {xs:List α} {F:aq} {rest:am} {A M:List Pc} {σ:Type} {C:σ->Prop} {w:σ->Value} {N:σ->List Pc} (h:∀a c,Fn P f (ab a xs.length c::rest) (.sl E (ab a xs.length c) xs F::A) M C w N):Fn P f (v::rest) (.sl E v xs F::A) M C w N:=fun w0 hH hS=>by
 obtain ⟨-,hs⟩:=hH (.sl E v xs F) FA;obtain ⟨a,c,rfl⟩:=hs.slice;exact h a c w0 hH hS
def Auo (d:Int):FV 389 [aa d] [] (.bool (Ayl d)):=by
 refine enter func389 rfl ntmps389 fun w0=>?_;refine go ?_;refine ce (fun w s=>Hw _ _ _ _) ?_;exact AA
def Ye (r:A4) (base:Int) (b0:0<=base) (b1:base<=65535):FV 311 [.agg #[aa r.Ae,aa r.state,aa r.Cm,aa r.Dw],aa base] [] (.bool (Nh base r)):=by
 refine enter func311 rfl ntmps311 fun w0=>?_;refine go ?_;intros;refine ce (fun w s=>Jj _ _) ?_;cases g1:Cd r.Ae
 ·refine go ?_;refine ret () trivial ?_;simp [Nh,g1,Uh]
 obtain ⟨n0,n1⟩:=Ba.1 g1;refine go ?_;refine ce (fun w s=>P3 _ _ _ EY EY EY EY) ?_;refine go ?_;refine Dd rfl rfl (fun g2=>?_) (fun g2=>?_)
 rotate_left
 ·refine go ?_;refine ret () trivial ?_;simp [Nh,g2,Uh]
 refine go ?_;refine ce (fun w s=>Hw _ _ _ _) ?_;cases g3:Ff 1 r.state 3
 ·refine go ?_;refine ret () trivial ?_;simp [Nh,g3,Uh]
 refine go ?_;refine ce (fun w s=>Hw _ _ _ _) ?_;cases g4:Ff 0 r.Cm 10007
 ·refine go ?_;refine ret () trivial ?_;simp [Nh,g4,Uh]
 refine go ?_;refine ce (fun w s=>Hw _ _ _ _) ?_;refine go ?_;refine ret () trivial ?_;simp [Nh,g1,g2,g3,g4,Uh]
def Ri (l:List A4) (base:Int) (v:Value) (F:aq):FV 250 [v,aa base] [.sl Az v l F] (.bool (Mo l base)):=by
 refine Ba1 (fun a c=>?_);refine enter func250 rfl ntmps250 fun w0=>?_;refine go ?_;refine ce (fun w s=>Jj _ _) ?_;cases g1:Cd base
 ·refine go ?_;refine ret () trivial ?_;simp [Mo,g1,Uh]
 obtain ⟨b0,b1⟩:=Ba.1 g1;refine go ?_;refine Ay rfl (fun g2=>?_) (fun g2=>?_)
 ·refine go ?_;refine ret () trivial ?_;rw [show Mo l base=false by unfold Mo;rw [ay EY];simp];rfl
 refine go ?_;refine Dl [0,1,4,15,16] (fun k:Nat=>[(17,aa (k:Nat))]) (fun k=>k<=l.length/\∀j,j < k->Ai1 l base j=true) (fun k=>l.length - k) 0 ⟨aD _,fun j h=>by omega⟩ fun k hk=>?_;obtain ⟨hk1,hk2⟩:=hk;refine go ?_;refine Ay rfl (fun h3=>?_) (fun h3=>?_)
 ·have hk3:k < l.length:=EY
  have bad:Ai1 l base k=false->Mo l base=false:=fun h=>Asc hk3 h;have hck:=Wg (base:=base) hk3;refine Iq (xs:=l) k ?_;rintro hi b o e;rw [e];have p4:0 < k->∃h:k - 1 < l.length,Axa base l[k - 1]:=fun h0=>by
   have hk4:k - 1 < l.length:=EY
   have hp:=hk2 (k - 1) EY;rw [Wg hk4] at hp;simp only [aw] at hp;exact ⟨hk4,Ew.1 hp.1⟩
  refine go ?_;intros;cases g4:Nh base l[k]
  ·skip
   refine Ar [0] [] ?_;refine Dh 0 1 ?_;refine dN 2 ?_;refine oC ?_;refine Be (Ye l[k] base b0 b1) fun _ _=>?_;rw [g4];refine dk ?_;refine Dh 3 4 ?_;refine ds 5 ?_;refine ds 6 ?_;refine ds 7 ?_;refine dsu 8 ?_;refine dsu 9 ?_;refine dsu 10 ?_;refine dsu 11 ?_;refine dsu 12 ?_;refine dsu 13 ?_;refine dsu 14 ?_;refine dsu 15 ?_;refine dsu 16 ?_;refine dsu 17 ?_;refine dsu 18 ?_;refine dsu 19 ?_;refine dsu 20 ?_;refine ds 21 ?_;refine dt 22 ?_;refine dd ?_;exact DY
  obtain ⟨q0,q1⟩:=Ba.1 (Ew.1 g4).n;by_cases hk0:0 < k
  ·obtain ⟨hk4,p5⟩:=p4 hk0;obtain ⟨p0,p1⟩:=Ba.1 p5.n;rw [<-e];refine Iq (xs:=l) (k - 1) ?_;rintro hi5 b5 o5 e5;rw [e5];refine Ar [0,1] [] ?_;refine Dh 0 1 ?_;refine dN 2 ?_;refine oC ?_;refine Be (Ye l[k] base b0 b1) fun _ _=>?_;rw [g4];refine dk ?_;refine Dh 3 4 ?_;refine Dg 5 ?_;refine Dg 6 ?_;rw [av (show (0:Int) < k by omega)];refine Dg 7 ?_;refine Dg 8 ?_;refine Dg 9 ?_;refine Dg 10 ?_;refine Dg 11 ?_;rw [show (k:Int) - 1=((k - 1:Nat):Int) by omega];refine Dg 12 ?_;refine Dg 13 ?_;refine Dg 14 ?_;refine Dg 16 ?_;refine Dg 17 ?_;refine Dg 18 ?_;refine d1g 15 ?_;apply On.h
   refine oC ?_;refine ce (fun w s=>P3 _ _ _ EY EY EY EY) ?_;refine dk ?_;refine d1g 19 ?_;apply On.h;refine oC ?_;refine ce (fun w s=>P3 _ _ _ EY EY EY EY) ?_;refine dk ?_;refine Dg 20 ?_;refine Dg 21 ?_;refine dt 22 ?_;refine dd ?_;refine go ?_;refine Ay rfl (fun h6=>?_) (fun h6=>?_)
   ·exact BT
   ·refine go ?_;refine Ce (k+1) ⟨EY,fun j hj=>?_⟩ EY;rcases be (bA.1 hj) with h|rfl
    ·exact hk2 j h
    ·rw [hck,g4,ay h6];simp
  ·have hz:k=0:=EY
   refine Ar [0] [] ?_;refine Dh 0 1 ?_;refine dN 2 ?_;refine oC ?_;refine Be (Ye l[k] base b0 b1) fun _ _=>?_;rw [g4];refine dk ?_;refine Dh 3 4 ?_;refine Dg 5 ?_;refine Dg 6 ?_;rw [ay (show ¬(0:Int) < k by omega)];refine Dg 7 ?_;refine ds 8 ?_;refine ds 9 ?_;refine ds 10 ?_;refine ds 11 ?_;refine ds 12 ?_;refine ds 13 ?_;refine ds 14 ?_;refine ds 15 ?_;refine ds 16 ?_;refine ds 17 ?_;refine ds 18 ?_;refine ds 19 ?_;refine ds 20 ?_;refine Dg 21 ?_;refine dt 22 ?_;refine dd ?_;refine go ?_;refine Ce (k+1) ⟨EY,fun j hj=>?_⟩ EY
   rcases be (bA.1 hj) with h|rfl
   ·exact hk2 j h
   ·rw [hck,g4,av hz];simp
 have hkl:k=l.length:=EY
 refine go ?_;refine ret () trivial ?_;rw [Anj g1 EY (hkl▸hk2)];rfl
def Au0 (l:List A4) (base:Int) (v:Value) (F:aq):FV 263 [v,aa base] [.sl Az v l F] (.bool (Mo l base)):=by
 refine Ba1 (fun a c=>?_);refine enter func263 rfl ntmps263 fun w0=>?_;refine go ?_;refine ce (fun w s=>Oh _ _) ?_;cases g1:Cd base
 ·refine go ?_;refine ret () trivial ?_;simp [Mo,g1,Uh]
 obtain ⟨b0,b1⟩:=Ba.1 g1;refine go ?_;refine Ay rfl (fun g2=>?_) (fun g2=>?_)
 ·refine go ?_;refine ret () trivial ?_;rw [show Mo l base=false by unfold Mo;rw [ay EY];simp];rfl
 refine go ?_;refine Dl [0,1,4] (fun k:Nat=>[(5,aa (k:Nat))]) (fun k=>k<=l.length/\∀j,j < k->Ai1 l base j=true) (fun k=>l.length - k) 0 ⟨aD _,fun j h=>by omega⟩ fun k hk=>?_;obtain ⟨hk1,hk2⟩:=hk;refine go ?_;refine Ay rfl (fun h3=>?_) (fun h3=>?_)
 ·have hk3:k < l.length:=EY
  have bad:Ai1 l base k=false->Mo l base=false:=fun h=>Asc hk3 h;have hck:=Wg (base:=base) hk3;refine Iq (xs:=l) k ?_;rintro hi b o e;rw [e];have p4:0 < k->∃h:k - 1 < l.length,Axa base l[k - 1]:=fun h0=>by
   have hk4:k - 1 < l.length:=EY
   have hp:=hk2 (k - 1) EY;rw [Wg hk4] at hp;simp only [aw] at hp;exact ⟨hk4,Ew.1 hp.1⟩
  refine go ?_;intros;refine ce (fun w s=>Oh _ _) ?_;cases g5:Cd l[k].Ae
  ·refine go ?_;refine ret () trivial ?_;rw [bad (by rw [hck,show Nh base l[k]=false by unfold Nh;simp [g5]];rfl)];rfl
  obtain ⟨q0,q1⟩:=Ba.1 g5;refine go ?_;refine ce (fun w s=>Jw _ _ _ EY EY) ?_;refine go ?_;refine Dd rfl rfl (fun g6=>?_) (fun g6=>?_)
  ·refine go ?_;refine ret () trivial ?_;rw [bad (by rw [hck,show Nh base l[k]=false by unfold Nh;rw [ay EY];simp];rfl)];rfl
  refine go ?_;refine ce (fun w s=>Kq _ _ _ _) ?_;cases g7:Ff 1 l[k].state 3
  ·refine go ?_;refine ret () trivial ?_;rw [bad (by rw [hck,show Nh base l[k]=false by unfold Nh;simp [g7]];rfl)];rfl
  refine go ?_;refine ce (fun w s=>Kq _ _ _ _) ?_;cases g8:Ff 0 l[k].Cm 10007
  ·refine go ?_;refine ret () trivial ?_;rw [bad (by rw [hck,show Nh base l[k]=false by unfold Nh;simp [g8]];rfl)];rfl
  refine go ?_;refine ce (fun w s=>Kq _ _ _ _) ?_;cases g9:Ff 0 l[k].Dw 3
  ·refine go ?_;refine ret () trivial ?_;rw [bad (by rw [hck,show Nh base l[k]=false by unfold Nh;simp [g9]];rfl)];rfl
  refine go ?_;have g4:Nh base l[k]=true:=by unfold Nh;rw [g5,g7,g8,g9,av EY];rfl
  by_cases hk0:0 < k
  ·obtain ⟨hk4,p5⟩:=p4 hk0;obtain ⟨p0,p1⟩:=Ba.1 p5.n;rw [<-e];refine Iq (xs:=l) (k - 1) ?_;rintro hi5 b5 o5 e5;rw [e5];refine Ar [1,0] [] ?_;refine Dh 0 1 ?_;rw [av (show (0:Int) < k by omega)];refine dt 2 ?_;refine Dg 3 ?_;refine Dg 4 ?_;refine Dg 5 ?_;refine Dg 6 ?_;rw [show (k:Int) - 1=((k - 1:Nat):Int) by omega];refine Dg 7 ?_;refine Dg 8 ?_;refine Dg 9 ?_;refine Dg 11 ?_;refine Dg 12 ?_;refine Dg 13 ?_;refine d1g 10 ?_;apply On.h;refine oC ?_;refine ce (fun w s=>Jw _ _ _ EY EY) ?_;refine dk ?_;refine d1g 14 ?_;apply On.h;refine oC ?_
   refine ce (fun w s=>Jw _ _ _ EY EY) ?_;refine dk ?_;refine Dg 15 ?_;refine dt 16 ?_;refine dd ?_;refine go ?_;refine Ay rfl (fun h6=>?_) (fun h6=>?_)
   ·exact BT
   ·refine go ?_;refine Ce (k+1) ⟨EY,fun j hj=>?_⟩ EY;rcases be (bA.1 hj) with h|rfl
    ·exact hk2 j h
    ·rw [hck,g4,ay h6];simp
  ·have hz:k=0:=EY
   refine Ar [0] [] ?_;refine Dh 0 1 ?_;rw [ay (show ¬(0:Int) < k by omega)];refine dt 2 ?_;refine ds 3 ?_;refine ds 4 ?_;refine ds 5 ?_;refine ds 6 ?_;refine ds 7 ?_;refine ds 8 ?_;refine ds 9 ?_;refine ds 10 ?_;refine ds 11 ?_;refine ds 12 ?_;refine ds 13 ?_;refine ds 14 ?_;refine ds 15 ?_;refine dt 16 ?_;refine dd ?_;refine go ?_;refine Ce (k+1) ⟨EY,fun j hj=>?_⟩ EY;rcases be (bA.1 hj) with h|rfl
   ·exact hk2 j h
   ·rw [hck,g4,av hz];simp
 have hkl:k=l.length:=EY
 refine go ?_;refine ret () trivial ?_;rw [Anj g1 EY (hkl▸hk2)];rfl
def Am2 (fid:FuncId) (bd caps:am) (A:List Pc) (hA:A.all (fun p=>!p.mu)=true) (xs:List A4) (a:aj) (c:Nat) (F:aq) (p:A4->Bool) (hb:Rr prog fid=true) (hl:xs.length<=1000000000)
  (hp:∀x∈xs,∀w,O8 A w->Calls prog fid (bd++[(.agg #[aa (x).Ae,aa (x).state,aa (x).Cm,aa (x).Dw]:Value)]++caps).toArray w (RB (.bool (p x)) w)) :
  Fn prog 312 [ab a xs.length c,.func (.func fid) bd.toArray caps.toArray] (.sl Az (ab a xs.length c) xs F::A) [] (fun (_:Unit)=>True) (fun _=>aa (Si p xs)) (fun _=>[]):=by
 refine enter func312 rfl ntmps312 (fun w0=>?_) rfl GA .nil;refine go ?_;refine Dl [0,1,4,7] (fun k:Nat=>[(8,aa (k:Nat))]) (fun k=>k<=xs.length/\∀j (_:j < k) (hj:j < xs.length),p xs[j]=false) (fun k=>xs.length - k) 0 ⟨aD _,fun j h=>by omega⟩ fun k hk=>?_;obtain ⟨hk1,hk2⟩:=hk;refine go ?_;refine Ay rfl (fun h5=>?_) (fun h5=>?_)
 ·have hh:k < xs.length:=EY
  refine go ?_;refine Iq (xs:=xs) k ?_;rintro hi b o e;rw [e];refine go ?_;apply wO;refine Ab7 rfl rfl hb Wj ?_;refine cb (fun w st=>hp xs[k] (aB hh) w (fun q hq=>st.on q GB)) ?_;cases hpk:p xs[k]
  ·refine go ?_;refine Xd ?_;refine Ce (hH:=Lq _) (k+1) ⟨hh,fun j hj h=>?_⟩ EY;rcases be (bA.1 hj) with h2|rfl
   ·exact hk2 j h2 h
   ·exact hpk
  ·refine go ?_;refine ret () trivial ?_;rw [Pi hh hk2 hpk];rfl
 ·obtain rfl:k=xs.length:=EY
  exact BU
structure Aw0 where
 i:Nat
 j:Nat
 zs:List A4
def Am1 (fid:FuncId) (bd caps:am) (A:List Pc) (hA:A.all (fun p=>!p.mu)=true) (xs:List A4) (a:aj) (c:Nat) (F:aq) (p:A4->Bool) (hb:Rr prog fid=true) (hl:xs.length<=1000000000)
  (hp:∀x∈xs,∀w,O8 A w->Calls prog fid (bd++[(.agg #[aa (x).Ae,aa (x).state,aa (x).Cm,aa (x).Dw]:Value)]++caps).toArray w (RB (.bool (p x)) w)) :
  Fn prog 329 [ab a xs.length c,.func (.func fid) bd.toArray caps.toArray] A [.ow Az 195 (ab a xs.length c) xs F] (fun (_:aj × Nat × aq)=>True)
   (fun z=>.slice z.1 (xs.filter fun x=>!p x).length z.2.1) (fun z=>[.ow Az 195 (.slice z.1 (xs.filter fun x=>!p x).length z.2.1) (xs.filter fun x=>!p x) z.2.2]):=by
 refine enter func329 rfl ntmps329 (fun w0=>?_) rfl GA (.cons .nil);refine go ?_;refine cb (fun w st=>by
  obtain ⟨Fw, -,hw⟩:=(st.get (p:=.ow Az 195 (ab a xs.length c) xs F) FA).2.read;refine (Am2 fid bd caps A hA xs a c Fw p hb hl hp).val w ?_ GA;intro q hq;rcases aG.1 hq with rfl|hq
  ·exact ⟨EZ,hw⟩
  ·exact st.on q GB) ?_
 by_cases hany:xs.any p=true
 ·obtain ⟨i0,hi0,hfx,hpi,hfl⟩:=Zi hany;rw [hfx];refine Amn (xs:=xs) D8 (by rintro rfl;simp at hi0) ?_;rintro g rfl rfl - hc1 hc2;refine go ?_;refine Ca [0,1,4] (fun s:Aw0=>[(5,aa (s.i:Nat)),(6,aa (s.j:Nat))]) (fun s=>[.ow Az 195 (ab (some ⟨g,0,none⟩) xs.length c) s.zs [g]]) (fun s=>s.zs.length=xs.length/\s.j<=xs.length/\s.i < s.j/\s.zs.take s.i=(xs.take s.j).filter (fun x=>!p x)/\s.zs.drop s.j=xs.drop s.j) (fun s=>xs.length - s.j) ⟨i0,i0+1,xs⟩ ⟨rfl,hi0,Nat.lt_succ_self _,by rw [Db hi0 (by simp [hpi]),hfl],rfl⟩ fun s hs=>?_;obtain ⟨i,j,zs⟩:=s;obtain ⟨h1,h2,h3,h4,h5⟩:=hs
  dsimp only at h1 h2 h3 h4 h5 ⊢;refine go ?_;refine Ay rfl (fun h6=>?_) (fun h6=>?_)
  ·have hj:j < xs.length:=EY
   have hjz:j < zs.length:=EY
   have hx:zs[j]=xs[j]:=by
    have a1:=bF hjz;have a2:=bF hj;rw [h5,a2] at a1;exact (List.cons.inj a1).1.symm
   have hdz:zs.drop (j+1)=xs.drop (j+1):=by
    rw [<-cw,h5,cw]
   refine go ?_;refine Q4 (m:=4) D8 j ?_ FC rfl hjz;rintro _ g2 A2 cs2 B2 e1 e2 hc3 hh;cases e1;obtain ⟨rfl, -⟩:=hc3 w0;refine go ?_;intros;refine P8 zs[j] hh hc3 ?_;rw [bv,hx];apply wO;refine Ab7 rfl rfl hb Wj ?_;refine cb (fun w st=>hp xs[j] (aB hj) w (fun q hq=>st.on q GB)) ?_;cases hpj:p xs[j]
   ·refine go ?_;refine Q4 (m:=4) D8 i ?_ FC rfl EY;rintro _ g3 A3 cs3 B3 e1 e2 hc4 hh3;cases e1;obtain ⟨rfl, -⟩:=hc4 w0;refine go ?_;refine P8 xs[j] hh3 (fun w=>⟨rfl,rfl⟩) ?_;refine Ce (hH:=.cons .here (Adh _)) (⟨i+1,j+1,zs.set i xs[j]⟩:Aw0) ⟨by simp [h1],hj,Nat.succ_lt_succ h3,?_,?_⟩ HX
    ·dsimp only;rw [Hj hj (by simp [hpj]),<-h4,cy,eG EY,gA (aK _)];rfl
    ·dsimp only;rw [gD EY,hdz]
   ·refine go ?_;refine Ce (hH:=.cons .here (Adh _)) (⟨i,j+1,zs⟩:Aw0) ⟨h1,hj,Nat.lt_succ_of_lt h3,?_,hdz⟩ HX;dsimp only;rw [Db hj (by simp [hpj]),h4]
  ·obtain rfl:j=xs.length:=EY
   have h4':zs.take i=xs.filter fun x=>!p x:=by rw [h4,bj]
   have hil:(xs.filter fun x=>!p x).length=i:=by rw [<-h4',aP];omega
   refine go ?_;apply wO;apply oc;rfl;exact Li (i:=i) rfl rfl rfl EY EY EY;refine go ?_;apply wO;refine Asu (z0:=⟨0,0,0,0⟩) (n:=xs.length) (cp:=c) (i:=i) (g:=g) D8 (fun w=>⟨rfl,rfl⟩) EZ rfl rfl h3 h1.symm FC ?_;refine go ?_;refine Ail (xs:=zs.take i++List.replicate (xs.length - i) ⟨0,0,0,0⟩) i (fun F2=>?_) (by rw [aA,aP,bi];omega);rw [bU GD,h4'];apply wO;apply oc;rfl;exact Pd (i:=i) rfl rfl rfl EY EY
   refine go ?_;subst hil;refine ret (_,c,F2) trivial rfl
 ·obtain ⟨hfx,hfl⟩:=Abv hany;rw [hfx,hfl];refine go ?_;refine ret (a,c,F) trivial rfl
def Awx (fid:FuncId) (bd caps:am) (A:List Pc) (hA:A.all (fun p=>!p.mu)=true) (xs:List A4) (a:aj) (c:Nat) (F:aq) (p:A4->Bool) (hb:Rr prog fid=true) (hl:xs.length<=1000000000)
  (hp:∀x∈xs,∀w,O8 A w->Calls prog fid (bd++[(.agg #[aa (x).Ae,aa (x).state,aa (x).Cm,aa (x).Dw]:Value)]++caps).toArray w (RB (.bool (p x)) w)) :
  Fn prog 251 [ab a xs.length c,.func (.func fid) bd.toArray caps.toArray] (.sl Az (ab a xs.length c) xs F::A) [] (fun (_:Unit)=>True) (fun _=>.bool (xs.any p)) (fun _=>[]):=by
 refine enter func251 rfl ntmps251 (fun w0=>?_) rfl GA .nil;refine go ?_;refine cb (fun w st=>(Am2 fid bd caps A hA xs a c F p hb hl hp).val w (fun q hq=>st.on q (by simpa using hq)) GA) ?_;refine go ?_;refine ret () trivial ?_;rw [Ty];rfl
def Bdy (x:Aj) (r:A4) (g:Nat) (b:Bool) (ck:Int) (q:Value) (a1:aj) (c1:Nat) (F:aq) (h0:0<=x.next) (h1:x.next<=65535) (n0:0<=r.Ae) (n1:r.Ae<=65535):FV 252 [.agg #[aa r.Ae,aa r.state,aa r.Cm,aa r.Dw],Gj g 0 0] [.cel g 0 [.bool b,aa ck,aa x.next,ab a1 x.Ao.length c1,q],.isv Bx (.agg #[aa x.next,ab a1 x.Ao.length c1]) x F] (.bool (Jb x r.Ae)):=by
 refine enter func252 rfl ntmps252 fun w0=>?_;refine go ?_;intros;refine Be (Abm x r.Ae _ F h0 h1 n0 n1) fun _ _=>?_;exact AA
def Uj (x:A8) (v:Value) (F:aq):FV 194 [v] [.isv Cb v x F] (.bool (Bw x)):=by
 refine enter func194 rfl ntmps194 fun w0=>?_;refine Fm ?_;rintro a1 c1 F1 a2 c2 F2 rfl l1 l2;unfold maxLen at l1 l2;refine Ch x.Aa ?_;generalize F1=F3;refine go ?_;intros;refine ce (fun w s=>Tm _ _) ?_;cases g1:Ld x.Ai
 ·refine go ?_;refine ret () trivial ?_;simp [Bw,g1,Uh]
 refine go ?_;cases hs:x.Bg
 ·have nog:Pt x=false->Bw x=false:=fun h=>by unfold Bw;rw [g1,hs];simpa using h
  refine go ?_;refine Dd rfl rfl (fun h1=>?_) (fun h1=>?_)
  rotate_left
  ·refine go ?_;refine ret () trivial ?_;rw [nog (by unfold Pt;rw [ay h1];rfl)];rfl
  refine go ?_;refine Dd rfl rfl (fun h2=>?_) (fun h2=>?_)
  rotate_left
  ·refine go ?_;refine ret () trivial ?_;rw [nog (by unfold Pt;rw [ay (show ¬x.Aa.Ao.length=0 by omega)];simp)];rfl
  exact DH
 rename_i g;refine Amo (cs:=[.bool true,aa x.Ai,aa x.Aa.next,ab a1 x.Aa.Ao.length c1,ab a2 x.An.length c2]) ?_ FA;refine go ?_;refine Be (Axb x.Aa _ F3) fun _ _=>?_;cases g2:Cz x.Aa
 ·refine go ?_;refine ret () trivial ?_;simp [Bw,g1,g2,hs,Uh]
 obtain ⟨w0_,w1_⟩:=Iu g2;refine go ?_;refine Be (Ri x.An x.Aa.next _ F2) fun _ _=>?_;cases g3:Mo x.An x.Aa.next
 ·refine go ?_;refine ret () trivial ?_;simp [Bw,g1,g2,g3,hs,Uh]
 obtain ⟨-,q1,q2, -⟩:=Dj.1 g3;refine go ?_;refine cb (fun w st=>(Awx 252 [] [Gj g 0 0] [.cel g 0 [.bool true,aa x.Ai,aa x.Aa.next,ab a1 x.Aa.Ao.length c1,ab a2 x.An.length c2],.isv Bx (.agg #[aa x.Aa.next,ab a1 x.Aa.Ao.length c1]) x.Aa F3] rfl x.An a2 c2 F2 (fun z=>Jb x.Aa z.Ae) FB EY (fun z hz w hA=>by
  obtain ⟨n0,n1⟩:=Ba.1 (Ew.1 (q2 z hz)).n;exact (Bdy x.Aa z g true x.Ai _ a1 c1 F3 w0_ w1_ n0 n1).val w hA)).val w (fun q hq=>by
   simp only [aG,aT,bn] at hq;rcases hq with rfl|rfl|rfl <;> exact st.get FD)) ?_
 refine go ?_;refine ret () trivial ?_;rw [show Bw x = !(x.An.any fun z=>Jb x.Aa z.Ae) by unfold Bw Aj0;rw [g1,g2,g3,hs,ew];simp];rfl
def Ayd {x:A8} {k:Nat} (h:k < x.An.length) (hh:Jb x.Aa x.An[k].Ae=true):Aj0 x=false:=cS.2 ⟨_,aB h,by simp [hh]⟩
def Ayh {w:Aj} {n:Int} (hw:Cz w=true) (hn:Cd n=true) (h8:gp w.next n < 8):(Ug n w.next || Jb w n)=Jb w n:=by
 obtain ⟨w0,w1⟩:=Iu hw;obtain ⟨n0,n1⟩:=Ba.1 hn;have:Ug n w.next=false:=by
  have:¬(1<=gp n w.next/\gp n w.next<=32767):=by unfold gp at *;omega
  unfold Ug Ff;exact EV
 rw [this];rfl
def Akb (x:A8) (v:Value) (F:aq):FV 199 [v] [.isv Cb v x F] (.bool (Bw x)):=by
 refine enter func199 rfl ntmps199 fun w0=>?_;refine Fm ?_;rintro a1 c1 F1 a2 c2 F2 rfl l1 l2;unfold maxLen at l1 l2;refine Ch x.Aa ?_;generalize F1=F3;refine go ?_;intros;refine ce (fun w s=>Aa2 _ _) ?_;cases g1:Ld x.Ai
 ·refine go ?_;refine ret () trivial ?_;simp [Bw,g1,Uh]
 refine go ?_;refine Be (Aut x.Aa _ F3) fun _ _=>?_;cases g2:Cz x.Aa
 ·refine go ?_;refine ret () trivial ?_;cases hg:Bw x
  ·rfl
  ·rw [(El.1 hg).w] at g2;cases g2
 obtain ⟨w0_,w1_⟩:=Iu g2;refine go ?_;refine Be (Au0 x.An x.Aa.next _ F2) fun _ _=>?_;cases g3:Mo x.An x.Aa.next
 ·refine go ?_;refine ret () trivial ?_;cases hg:Bw x
  ·rfl
  ·rw [(El.1 hg).q] at g3;cases g3
 obtain ⟨-,q1,q2, -⟩:=Dj.1 g3;refine go ?_;cases hs:x.Bg
 ·have nog:Pt x=false->Bw x=false:=fun h=>by unfold Bw;rw [g1,hs];simpa using h
  refine go ?_;refine Dd rfl rfl (fun h1=>?_) (fun h1=>?_)
  rotate_left
  ·refine go ?_;refine ret () trivial ?_;rw [nog (by unfold Pt;rw [ay h1];rfl)];rfl
  refine go ?_;refine Dd rfl rfl (fun h2=>?_) (fun h2=>?_)
  rotate_left
  ·refine go ?_;refine ret () trivial ?_;rw [nog (by unfold Pt;rw [ay (show ¬x.Aa.Ao.length=0 by omega)];simp)];rfl
  exact DH
 refine go ?_;refine Dl [1,2] (fun k:Nat=>[(3,aa (k:Nat))]) (fun k=>k<=x.An.length/\∀j (_:j < k) (h:j < x.An.length),Jb x.Aa x.An[j].Ae=false) (fun k=>x.An.length - k) 0 ⟨aD _,fun j h=>by omega⟩ fun k hk=>?_;obtain ⟨hk1,hk2⟩:=hk;refine go ?_;refine Ay rfl (fun h3=>?_) (fun h3=>?_)
 ·have hk3:k < x.An.length:=EY
  have hq:=Ew.1 (q2 _ (aB hk3));obtain ⟨n0,n1⟩:=Ba.1 hq.n;refine Iq (xs:=x.An) k ?_;rintro hi b o e;rw [e];refine go ?_;refine Ar [0,1] [] ?_;refine C4 0 1 2 3 ?_;refine C4 4 5 6 7 ?_;refine dN 8 ?_;refine oC ?_;refine Be (Adl x.Aa x.An[k].Ae _ F3 w0_ w1_ n0 n1) fun _ _=>?_;refine dk ?_;refine dd ?_;rw [show Hg x.Aa x.An[k].Ae=Jb x.Aa x.An[k].Ae from Ayh g2 hq.n hq.g];cases g5:Jb x.Aa x.An[k].Ae
  ·refine go ?_;refine Ce (k+1) ⟨EY,fun j hj h=>?_⟩ EY;rcases be (bA.1 hj) with h'|rfl
   ·exact hk2 j h' h
   ·exact g5
  ·refine go ?_;refine ret () trivial ?_;rw [show Bw x=false by unfold Bw;rw [g1,g2,g3,hs,Ayd hk3 g5];rfl];rfl
 have hkl:k=x.An.length:=EY
 refine go ?_;refine ret () trivial ?_;rw [show Bw x=true by
  unfold Bw Aj0;rw [g1,g2,g3,hs,aW.2 fun z hz=>?_];rfl;obtain ⟨i,hi,rfl⟩:=bl hz;rw [hk2 i EY hi];rfl];rfl
def Iw {α β:Type} {f:α->Option β} {l:List α} {k:Nat} (h:k < l.length):(l.take (k+1)).filterMap f=(l.take k).filterMap f++(f l[k]).toList:=by
 rw [cy,aE h,List.filterMap_append];cases hf:f l[k] <;> simp [hf]
def Adb {α β:Type} (f:α->Option β) (l:List α) (k:Nat):((l.take k).filterMap f).length<=k:=by
 have:=cX f (l.take k);rw [aP] at this;omega
structure TkS where
 k:Nat
 a:aj
 c:Nat
 F:aq
 a2:aj
 c2:Nat
 F2:aq
 a3:aj
 c3:Nat
 F3:aq
def Aip (l:List A4) (c d:Int) (a0:aj) (c0:Nat) (F:aq) (hl:l.length<=1000000) (ht:∀r∈l,0<=r.Dw/\r.Dw<=3) (c0_:0<=c) (c1_:c<=1000000) (d0_:-1000000<=d) (d1_:d<=1000000) :
  Fn prog 285 [ab a0 l.length c0,aa c,aa d] [.sl Az (ab a0 l.length c0) l F] [] (fun (_:TkS)=>True) (fun s=>.tuple #[.slice s.a (l.filterMap (Uu c d)).length s.c,.slice s.a2 (l.filterMap (Qy c)).length s.c2,.slice s.a3 (l.filterMap (U4 c)).length s.c3]) (fun s=>[.ow Az 195 (.slice s.a (l.filterMap (Uu c d)).length s.c) (l.filterMap (Uu c d)) s.F,.ow Bc 3 (.slice s.a2 (l.filterMap (Qy c)).length s.c2) (l.filterMap (Qy c)) s.F2,.ow Bc 3 (.slice s.a3 (l.filterMap (U4 c)).length s.c3) (l.filterMap (U4 c)) s.F3]):=by
 refine enter func285 rfl ntmps285 fun w0=>?_;refine go ?_;refine Bt Az 195 ?_;refine Bt Bc 3 ?_;refine Bt Bc 3 ?_
 refine Ca [1,2,6,7,8,14,15] (fun s:TkS=>[(16,aa (s.k:Nat)),(9,.slice s.a ((l.take s.k).filterMap (Uu c d)).length s.c),(10,.slice s.a2 ((l.take s.k).filterMap (Qy c)).length s.c2),(11,.slice s.a3 ((l.take s.k).filterMap (U4 c)).length s.c3)]) (fun s=>[.ow Az 195 (.slice s.a ((l.take s.k).filterMap (Uu c d)).length s.c) ((l.take s.k).filterMap (Uu c d)) s.F,.ow Bc 3 (.slice s.a2 ((l.take s.k).filterMap (Qy c)).length s.c2) ((l.take s.k).filterMap (Qy c)) s.F2,.ow Bc 3 (.slice s.a3 ((l.take s.k).filterMap (U4 c)).length s.c3) ((l.take s.k).filterMap (U4 c)) s.F3]) (fun s=>s.k<=l.length) (fun s=>l.length - s.k) ⟨0,_,_,_,_,_,_,_,_,_⟩ (aD _) fun s hs=>?_
 obtain ⟨k,a4,c4,F4,a5,c5,F5,a6,c6,F6⟩:=s;dsimp only at hs ⊢;have h1:=Adb (Uu c d) l k;have h2:=Adb (Qy c) l k;have h3:=Adb (U4 c) l k;refine go ?_;refine Ay rfl (fun h4=>?_) (fun h4=>?_)
 ·have hk:k < l.length:=EY
  obtain ⟨t0,t1⟩:=ht _ (aB hk);refine Iq (xs:=l) k ?_;rintro hi b o e;rw [e];refine go ?_;intros;refine Ay rfl (fun h5=>?_) (fun h5=>?_)
  ·have h5':c < l[k].Cm:=EY
   refine go ?_;intros;have eo:((l.take (k+1)).filterMap (Uu c d))=((l.take k).filterMap (Uu c d))++[l[k]]:=by rw [Iw hk];simp [Uu,h5']
   have es:((l.take (k+1)).filterMap (Qy c))=((l.take k).filterMap (Qy c)):=by rw [Iw hk];simp [Qy,h5']
   have el:((l.take (k+1)).filterMap (U4 c))=((l.take k).filterMap (U4 c)):=by rw [Iw hk];simp [U4,h5']
   apply wO;refine N9 (ys:=[l[k]]) (Ob l[k]) Dc fun a7 c7 F7=>?_;exact AD
  refine go ?_;refine Ay rfl (fun h6=>?_) (fun h6=>?_)
  ·refine go ?_;intros;have eo:((l.take (k+1)).filterMap (Uu c d))=((l.take k).filterMap (Uu c d)):=by rw [Iw hk];simp [Uu,h5,h6]
   have es:((l.take (k+1)).filterMap (Qy c))=((l.take k).filterMap (Qy c)):=by rw [Iw hk];simp [Qy,h5,h6]
   have el:((l.take (k+1)).filterMap (U4 c))=((l.take k).filterMap (U4 c))++[l[k].Ae]:=by rw [Iw hk];simp [U4,h5,h6]
   apply wO;refine N9 (ys:=[l[k].Ae]) (Tc _) C7 fun a8 c8 F8=>?_;exact AD
  refine go ?_;refine Ay rfl (fun h7=>?_) (fun h7=>?_)
  ·refine go ?_;intros;have eo:((l.take (k+1)).filterMap (Uu c d))=((l.take k).filterMap (Uu c d))++[(⟨l[k].Ae,2,c+3,l[k].Dw+1⟩:A4)]:=IT
   have es:((l.take (k+1)).filterMap (Qy c))=((l.take k).filterMap (Qy c))++[l[k].Ae]:=IV
   have el:((l.take (k+1)).filterMap (U4 c))=((l.take k).filterMap (U4 c)):=IU
   exact CJ
  ·refine go ?_;intros;have eo:((l.take (k+1)).filterMap (Uu c d))=((l.take k).filterMap (Uu c d))++[(⟨l[k].Ae,1,c+d,l[k].Dw⟩:A4)]:=IT
   have es:((l.take (k+1)).filterMap (Qy c))=((l.take k).filterMap (Qy c)):=IV
   have el:((l.take (k+1)).filterMap (U4 c))=((l.take k).filterMap (U4 c)):=IU
   exact EJ
 ·obtain rfl:k=l.length:=EY
  rw [bj];refine go ?_;refine ret ⟨0,_,_,_,_,_,_,_,_,_⟩ trivial rfl
def Au1 (l:List A4) (c d:Int) (a0:aj) (c0:Nat) (F:aq) (hl:l.length<=1000000) (ht:∀r∈l,0<=r.Dw/\r.Dw<=3) (c0_:0<=c) (c1_:c<=1000000) (d0_:-1000000<=d) (d1_:d<=1000000) :
  Fn prog 301 [ab a0 l.length c0,aa c,aa d] [.sl Az (ab a0 l.length c0) l F] [] (fun (_:TkS)=>True) (fun s=>.tuple #[.slice s.a (l.filterMap (Uu c d)).length s.c,.slice s.a2 (l.filterMap (Qy c)).length s.c2,.slice s.a3 (l.filterMap (U4 c)).length s.c3]) (fun s=>[.ow Az 195 (.slice s.a (l.filterMap (Uu c d)).length s.c) (l.filterMap (Uu c d)) s.F,.ow Bc 3 (.slice s.a2 (l.filterMap (Qy c)).length s.c2) (l.filterMap (Qy c)) s.F2,.ow Bc 3 (.slice s.a3 (l.filterMap (U4 c)).length s.c3) (l.filterMap (U4 c)) s.F3]):=by
 refine enter func301 rfl ntmps301 fun w0=>?_;refine go ?_;intros;refine C3 Bc ?_;refine C3 Bc ?_;refine C3 Az ?_
 refine Ca [0,1,2,6,7,8] (fun s:TkS=>[(12,aa (s.k:Nat)),(9,.slice s.a ((l.take s.k).filterMap (Uu c d)).length s.c),(10,.slice s.a2 ((l.take s.k).filterMap (Qy c)).length s.c2),(11,.slice s.a3 ((l.take s.k).filterMap (U4 c)).length s.c3)]) (fun s=>[.ow Az 195 (.slice s.a ((l.take s.k).filterMap (Uu c d)).length s.c) ((l.take s.k).filterMap (Uu c d)) s.F,.ow Bc 3 (.slice s.a2 ((l.take s.k).filterMap (Qy c)).length s.c2) ((l.take s.k).filterMap (Qy c)) s.F2,.ow Bc 3 (.slice s.a3 ((l.take s.k).filterMap (U4 c)).length s.c3) ((l.take s.k).filterMap (U4 c)) s.F3]) (fun s=>s.k<=l.length) (fun s=>l.length - s.k) ⟨0,_,_,_,_,_,_,_,_,_⟩ (aD _) fun s hs=>?_
 obtain ⟨k,a4,c4,F4,a5,c5,F5,a6,c6,F6⟩:=s;dsimp only at hs ⊢;have h1:=Adb (Uu c d) l k;have h2:=Adb (Qy c) l k;have h3:=Adb (U4 c) l k;refine go ?_;refine Ay rfl (fun h4=>?_) (fun h4=>?_)
 ·have hk:k < l.length:=EY
  obtain ⟨t0,t1⟩:=ht _ (aB hk);refine Iq (xs:=l) k ?_;rintro hi b o e;rw [e];refine go ?_;intros;refine Ay rfl (fun h5=>?_) (fun h5=>?_)
  ·have h5':c < l[k].Cm:=EY
   refine go ?_;intros;have eo:((l.take (k+1)).filterMap (Uu c d))=((l.take k).filterMap (Uu c d))++[l[k]]:=by rw [Iw hk];simp [Uu,h5']
   have es:((l.take (k+1)).filterMap (Qy c))=((l.take k).filterMap (Qy c)):=by rw [Iw hk];simp [Qy,h5']
   have el:((l.take (k+1)).filterMap (U4 c))=((l.take k).filterMap (U4 c)):=by rw [Iw hk];simp [U4,h5']
   apply wO;refine N9 (ys:=[l[k]]) (Ob l[k]) Dc fun a7 c7 F7=>?_;exact AD
  refine go ?_;refine Ay rfl (fun h6=>?_) (fun h6=>?_)
  ·refine go ?_;intros;have eo:((l.take (k+1)).filterMap (Uu c d))=((l.take k).filterMap (Uu c d)):=by rw [Iw hk];simp [Uu,h5,h6]
   have es:((l.take (k+1)).filterMap (Qy c))=((l.take k).filterMap (Qy c)):=by rw [Iw hk];simp [Qy,h5,h6]
   have el:((l.take (k+1)).filterMap (U4 c))=((l.take k).filterMap (U4 c))++[l[k].Ae]:=by rw [Iw hk];simp [U4,h5,h6]
   apply wO;refine N9 (ys:=[l[k].Ae]) (Tc _) C7 fun a8 c8 F8=>?_;exact AD
  refine go ?_;refine Ay rfl (fun h7=>?_) (fun h7=>?_)
  ·refine go ?_;intros;have eo:((l.take (k+1)).filterMap (Uu c d))=((l.take k).filterMap (Uu c d))++[(⟨l[k].Ae,2,c+3,l[k].Dw+1⟩:A4)]:=IT
   have es:((l.take (k+1)).filterMap (Qy c))=((l.take k).filterMap (Qy c))++[l[k].Ae]:=IV
   have el:((l.take (k+1)).filterMap (U4 c))=((l.take k).filterMap (U4 c)):=IU
   exact CJ
  ·refine go ?_;intros;have eo:((l.take (k+1)).filterMap (Uu c d))=((l.take k).filterMap (Uu c d))++[(⟨l[k].Ae,1,c+d,l[k].Dw⟩:A4)]:=IT
   have es:((l.take (k+1)).filterMap (Qy c))=((l.take k).filterMap (Qy c)):=IV
   have el:((l.take (k+1)).filterMap (U4 c))=((l.take k).filterMap (U4 c)):=IU
   exact EJ
 ·obtain rfl:k=l.length:=EY
  rw [bj];refine go ?_;refine ret ⟨0,_,_,_,_,_,_,_,_,_⟩ trivial rfl
def Axe (x:A8) (v:Value) (F:aq) (hl:x.Aa.Ao.length<=1000000000) (hl2:x.An.length<=1000000000):Fn prog 93 [v] [.isv Cb v x F] [] (fun (_:Value × aq)=>True) (fun s=>s.1) (fun s=>[.own B4 s.1 x s.2]):=by
 refine enter func93 rfl ntmps93 fun w0=>?_;refine Fm ?_;rintro a1 c1 F1 a2 c2 F2 rfl l1 l2;refine Ch x.Aa ?_;generalize F1=F3;refine go ?_;intros;refine Be (Ato x.Aa _ F3 EY) fun z _=>?_;refine go ?_;refine Be (Ui x.An a2 c2 F2 hl2) fun q _=>?_;refine go ?_;refine Kw x ?_;exact BL
def Bii (r:A4) (n:Int) (gb:Nat) (h0:Cd r.Ae=true) (h1:0<=n) (h2:n<=65535):FV 330 [.agg #[aa r.Ae,aa r.state,aa r.Cm,aa r.Dw],Gj gb 0 0] [.cel gb 0 [aa n]] (.bool (Ug r.Ae n)):=by
 obtain ⟨n0,n1⟩:=Ba.1 h0;refine enter func330 rfl ntmps330 fun w0=>?_;refine go ?_;intros;refine ce (fun w s=>Od _ _ _ EY EY EY EY) ?_;exact AA
def Afq (l:List A4) (n:Int) (a:aj) (c:Nat) (F:aq) (hl:l.length<=1000000000) (hs:∀q∈l,Cd q.Ae=true) (h1:0<=n) (h2:n<=65535):Fn prog 287 [ab a l.length c,aa n] [.sl Az (ab a l.length c) l F] [] (fun (_:aj × Nat × aq)=>True) (fun z=>.slice z.1 (Aab l n).length z.2.1) (fun z=>[.ow Az 195 (.slice z.1 (Aab l n).length z.2.1) (Aab l n) z.2.2]):=by
 refine enter func287 rfl ntmps287 fun w0=>?_;refine go ?_;intros;rename_i gb;refine Be (Ui l a c F hl) fun q _=>?_;refine Amo (cs:=[aa n]) ?_ FA;refine go ?_;refine Be (Am1 330 [] [Gj gb 0 0] [.cel gb 0 [aa n]] rfl l q.1 q.2.1 q.2.2 (fun z=>Ug z.Ae n) FB hl (fun z hz w hA=>(Bii z n gb (hs z hz) h1 h2).val w hA)) fun z _=>?_;refine go ?_;refine ret (z.1,z.2.1,z.2.2) trivial rfl
def Aee (r:A8) (d:Int):(N3 r d).length<=r.An.length:=cX _ _
def Aiq (r:A8):(Da r).length<=r.An.length:=cX _ _
def Aio {r:A8} {d:Int} (h:Da r=[]):C2 r d=⟨r.Bg,r.Ai+1,r.Aa,N3 r d⟩:=aH h
def Aec {r:A8} {d:Int} (h:Da r≠[]):C2 r d=⟨r.Bg,r.Ai+1,Jq r.Aa (Dm (Da r)),Aab (N3 r d) (Jq r.Aa (Dm (Da r))).next⟩:=aC h
def Apq {r:A8} (h:Da r=[]):Hv r=[]:=aH h
def Ak9 {r:A8} (h:Da r≠[]):Hv r=Jp r.Aa (Dm (Da r)):=aC h
def Akk {l:ar} (h:l≠[]):Dm l=Cf (l[l.length - 1]'(by have:=cT.2 h;omega)) 1:=by
 unfold Dm;rw [fP,dw,aE (by have:=cT.2 h;omega)];rfl
def Lc {x:Aj} (hg:Cz x=true):x.Ao.length<=8/\∀s∈x.Ao,s.Dk.size<=8:=by
 have hg0:=hg;unfold Cz at hg;simp only [aw,aF] at hg;refine ⟨by have:=hg.1.1.2;omega,fun s hs=>?_⟩;have:=aW.1 hg.1.2 s hs;unfold Hq at this;simp only [aw] at this;exact Vn this.1
structure PkS where
 k:Nat
 a:aj
 c:Nat
 F:aq
structure TkR where
 a1:aj
 c1:Nat
 F1:aq
 a2:aj
 c2:Nat
 F2:aq
 a3:aj
 c3:Nat
 F3:aq
 a4:aj
 c4:Nat
 F4:aq
def Bb7 (r:A8) (d:Int) (g t o:Nat) (A B:am) (a1:aj) (c1:Nat) (F1:aq) (a2:aj) (c2:Nat) (F2:aq) (hg:Mk r) (d0:0<=d) (d1:d<=100) :
  Fn prog 216 [Gj g o 0,aa d] [] [.row g t o A [.bool r.Bg,aa r.Ai,aa r.Aa.next,ab a1 r.Aa.Ao.length c1,ab a2 r.An.length c2] B,.ow C0 223 (ab a1 r.Aa.Ao.length c1) r.Aa.Ao F1,.ow Az 195 (ab a2 r.An.length c2) r.An F2] (fun (_:TkR)=>True)
   (fun s=>.tuple #[.slice s.a3 (Fh r).length s.c3,.slice s.a4 (Hv r).length s.c4]) (fun s=>[.row g t o A [.bool (C2 r d).Bg,aa (C2 r d).Ai,aa (C2 r d).Aa.next,.slice s.a1 (C2 r d).Aa.Ao.length s.c1,.slice s.a2 (C2 r d).An.length s.c2] B,.ow C0 223 (.slice s.a1 (C2 r d).Aa.Ao.length s.c1) (C2 r d).Aa.Ao s.F1,.ow Az 195 (.slice s.a2 (C2 r d).An.length s.c2) (C2 r d).An s.F2,.ow Ak 159 (.slice s.a3 (Fh r).length s.c3) (Fh r) s.F3,.ow A9 9 (.slice s.a4 (Hv r).length s.c4) (Hv r) s.F4]):=by
 have k0:=hg.k0;have k1:=hg.k1;obtain ⟨-,q1,q2, -⟩:=Dj.1 hg.q;obtain ⟨w0_,w1_⟩:=Iu hg.w;obtain ⟨hw8,hit⟩:=Lc hg.w;have hpl:(r.An.filterMap (Qy (r.Ai+1))).length<=8:=bE (cX _ _) q1;refine enter func216 rfl ntmps216 fun w0=>?_;refine go ?_;refine Av (E:=Az) fun F9=>?_;refine Ar [1] [] ?_;refine C4 0 1 2 3 ?_;refine C4 4 5 6 7 ?_;refine dt 8 ?_;refine dN 9 ?_;refine oC ?_;refine Be (Aip r.An (r.Ai+1) d a2 c2 F9 EY (fun q hq=>⟨(Ew.1 (q2 q hq)).t0,(Ew.1 (q2 q hq)).t1⟩) EY EY EY EY) fun z _=>?_
 rw [show r.An.filterMap (U4 (r.Ai+1))=Da r from rfl,show r.An.filterMap (Uu (r.Ai+1) d)=N3 r d from rfl];refine dk ?_;refine C4 10 11 12 13 ?_;refine Dh 14 15 ?_;refine dt 16 ?_;refine dd ?_;refine Av (E:=Bc) (xs:=r.An.filterMap (Qy (r.Ai+1))) fun G2=>?_;refine Av (E:=Bc) (xs:=Da r) fun G3=>?_;refine Bt Ak 159 ?_;refine go ?_
 refine Ca [0,4,5,6,9,44,45] (fun s:PkS=>[(46,aa (s.k:Nat)),(10,.slice s.a (((r.An.filterMap (Qy (r.Ai+1))).take s.k).map (pkR r.Aa.next)).length s.c)]) (fun s=>[.ow Ak 159 (.slice s.a (((r.An.filterMap (Qy (r.Ai+1))).take s.k).map (pkR r.Aa.next)).length s.c) (((r.An.filterMap (Qy (r.Ai+1))).take s.k).map (pkR r.Aa.next)) s.F]) (fun s=>s.k<=(r.An.filterMap (Qy (r.Ai+1))).length) (fun s=>(r.An.filterMap (Qy (r.Ai+1))).length - s.k) ⟨0,_,_,_⟩ (aD _) fun s hs=>?_;obtain ⟨k,a4,c4,F4⟩:=s;dsimp only at hs ⊢;generalize hsn:r.An.filterMap (Qy (r.Ai+1))=sn at *;refine go ?_
 refine Ay rfl (fun h4=>?_) (fun h4=>?_)
 ·have hk:k < sn.length:=EY
  have hkl:((sn.take k).map (pkR r.Aa.next)).length<=k:=FF
  refine Im (xs:=sn) k ?_;rintro hi b o2 e;rw [e];refine go ?_;intros;have eo:(sn.take (k+1)).map (pkR r.Aa.next)=(sn.take k).map (pkR r.Aa.next)++[pkR r.Aa.next sn[k]]:=by rw [cy,aE hk,bB];rfl
  apply wO;refine N9 (ys:=[pkR r.Aa.next sn[k]]) (De (pkR r.Aa.next sn[k]) HH) H9 fun a7 c7 F7=>?_;exact DW
 have hk:k=sn.length:=EY
 subst hk;rw [bj];have ep:Fh r=sn.map (pkR r.Aa.next):=by unfold Fh;rw [hsn]
 rw [ep];refine go ?_;by_cases hL:Da r=[]
 ·refine Ay rfl (fun _=>?_) (fun h=>absurd (show ((Da r).length:Int)=0 by rw [hL];rfl) h);rw [Aio hL,Apq hL];refine Bt A9 9 ?_;refine go ?_;refine ret ⟨_,_,_,_,_,_,_,_,_,_,_,_⟩ trivial rfl
 ·have hl0:=cT.2 hL;refine Ay rfl (fun h=>absurd h EY) (fun _=>?_);rw [Aec hL,Ak9 hL];obtain ⟨hs8,hsr⟩:=Afw hg hL;have hll8:=Aiq r;obtain ⟨hs0,hs1⟩:=Ba.1 hsr;have hll:=Akk hL;obtain ⟨l0,l1⟩:=Ba.1 (Aed hg (aB (show (Da r).length - 1 < (Da r).length by omega))).1;have hi1:((Da r).length:Int) - 1=(((Da r).length - 1:Nat):Int):=EY
  refine Im (xs:=Da r) ((Da r).length - 1) ?_;rintro hi b o2 e;rw [e];refine As9 [.bool r.Bg,aa (r.Ai+1)] [aa r.Aa.next,ab a1 r.Aa.Ao.length c1] [.slice z.a (N3 r d).length z.c] ?_;refine go ?_;refine Ar [1] [] ?_;refine C4 0 1 2 3 ?_;refine Dh 4 5 ?_;refine dt 6 ?_;rw [hi1];refine Dh 7 8 ?_;refine dN 9 ?_;refine oC ?_;refine ce (fun w s=>Sv _ _ _ EY EY) ?_;rw [<-hll];refine dk ?_;refine dN 10 ?_;refine oC ?_;refine Be (Am6 r.Aa (Dm (Da r)) g t (o+2) (A++[.bool r.Bg,aa (r.Ai+1)]) _ a1 c1 F1 w0_ w1_ hs0 hs1 hw8 hit) fun y hy=>?_;refine dk ?_
  refine dt 11 ?_;refine dd ?_;obtain ⟨hy1,hy2⟩:=hy;have hmv:=Vs (t:=Dm (Da r)) hg.w;have hm0:0<=y.y.next:=by rw [hy1];show 0<=(Jq r.Aa (Dm (Da r))).next;rw [hmv.1];exact (Jk _ _).1
  have hm1:y.y.next<=65535:=by rw [hy1];show (Jq r.Aa (Dm (Da r))).next<=65535;rw [hmv.1];exact (Jk _ _).2
  refine Aik [.bool r.Bg,aa (r.Ai+1)] [aa y.y.next,ab y.a y.y.Ao.length y.c] [.slice z.a (N3 r d).length z.c] ?_;refine Av (E:=Az) (xs:=N3 r d) fun F8=>?_;refine go ?_;refine Ar [1] [13] ?_;refine C4 0 1 2 3 ?_;refine C4 4 5 6 7 ?_;refine Dh 8 9 ?_;refine dN 10 ?_;refine oC ?_;refine Be (Afq (N3 r d) y.y.next z.a z.c F8 (by have:=Aee r d;omega) (fun q hq=>(Acq hg hq).1) hm0 hm1) fun u _=>?_;refine dk ?_;refine Dh 11 12 ?_;refine dN 13 ?_;refine oS ?_;refine Nm ?_;refine dd ?_;refine go ?_
  rw [show Jq r.Aa (Dm (Da r))=y.y from hy1.symm,show Jp r.Aa (Dm (Da r))=y.es from hy2.symm];refine ret ⟨_,_,_,_,_,_,_,_,_,_,_,_⟩ trivial rfl
section
variable {c:Cx} {fr:Fr} {H:List Pc} {Φ:Gl}
def Mv {v:Value} {x:Nf} {F:aq} (h:∀(a1:aj) (c1:Nat) (F1:aq),v=.agg #[ab a1 x.Ad.length c1]->x.Ad.length<=maxLen->T c fr (.sl Bc (ab a1 x.Ad.length c1) x.Ad F1::H) Φ) (hm:.isv Ro v x F∈H:=by exact Bp):T c fr H Φ:=.mk fun a w s g=>by
 exact AI
def Jm (x:Nf) {a1:aj} {c1:Nat} {F1:aq}  (h:T c fr (.isv Ro (.agg #[ab a1 x.Ad.length c1]) x (F1)::H) Φ) (m1:.sl Bc (ab a1 x.Ad.length c1) x.Ad F1∈H:=by exact Bp):T c fr H Φ:=.mk fun a w s g=>by
 exact AE
end
structure Q0 (n:Dx):Prop where
 t:n.Ap.Ad.length<=1048576
 i:n.Ab.Aa.Al.length<=1048576
 h:n.Ab.holds.length<=1048576
 e:n.Af.length<=1048576
 e1:∀x∈n.Af,x.Ah.length<=1048576
 e2:∀x∈n.Af,∀y∈x.Ah,y.Bl.length<=1048576
 rl:n.Ac.length<=1048576
 r:∀x∈n.Ac,x.Aa.Ao.length<=1048576/\x.An.length<=1048576
 d:n.down.length<=1048576
 dq:∀q∈n.down,q.length<=1048576
 u:n.up.length<=1048576
 uq:∀q∈n.up,q.length<=1048576
structure ClN where
 g:Nat
 a1:aj
 c1:Nat
 F1:aq
 a2:aj
 c2:Nat
 F2:aq
 a3:aj
 c3:Nat
 F3:aq
 g6:Nat
 F6:aq
 g7:Nat
 F7:aq
structure NV where
 a1:aj
 c1:Nat
 F1:aq
 a2:aj
 c2:Nat
 F2:aq
 a3:aj
 c3:Nat
 F3:aq
 a4:aj
 c4:Nat
 F4:aq
 a5:aj
 c5:Nat
 F5:aq
 a6:aj
 c6:Nat
 F6:aq
 a7:aj
 c7:Nat
 F7:aq
structure KA where
 k:Nat
 a:aj
 c:Nat
 F:aq
def Am4 (n:Dx) (v:Value) (F:aq) (hs:Q0 n):Fn prog 52 [v] [.isv Pe v n F] [] (fun (_:NV)=>True) (fun z=>.agg #[ab z.a1 n.Ap.Ad.length z.c1,aa n.Ab.Aa.Am,aa n.Ab.Aa.size,ab z.a2 n.Ab.Aa.Al.length z.c2,aa n.Ab.Ai,aa n.Ab.quiet,ab z.a3 n.Ab.holds.length z.c3,ab z.a4 n.Af.length z.c4,ab z.a5 n.Ac.length z.c5,ab z.a6 n.down.length z.c6,ab z.a7 n.up.length z.c7]) (fun z=>[.ow Bc 3 (ab z.a1 n.Ap.Ad.length z.c1) n.Ap.Ad z.F1,.ow A9 9 (ab z.a2 n.Ab.Aa.Al.length z.c2) n.Ab.Aa.Al z.F2,.ow Bv 165 (ab z.a3 n.Ab.holds.length z.c3) n.Ab.holds z.F3,.ow Cc 111 (ab z.a4 n.Af.length z.c4) n.Af z.F4,.ow B4 118 (ab z.a5 n.Ac.length z.c5) n.Ac z.F5,.ow (J0 Ak 159) 120 (ab z.a6 n.down.length z.c6) n.down z.F6,.ow (J0 Ak 159) 120 (ab z.a7 n.up.length z.c7) n.up z.F7]):=by
 refine enter func52 rfl ntmps52 fun w0=>?_;refine Fg ?_;rintro a1 c1 F1 a2 c2 F2 a3 c3 F3 a4 c4 F4 a5 c5 F5 a6 c6 F6 a7 c7 F7 rfl l1 l2 l3 l4 l5 l6 l7;refine D6 n.Ab ?_;refine go ?_;intros
 refine Dv [1,2] [0,1,6,7] (fun z:ClN=>[(3,Gj z.g 0 0)]) (fun z=>[.row z.g 43 0 [] [ab z.a1 n.Ap.Ad.length z.c1,aa n.Ab.Aa.Am,aa n.Ab.Aa.size,ab z.a2 n.Ab.Aa.Al.length z.c2,aa n.Ab.Ai,aa n.Ab.quiet,ab z.a3 n.Ab.holds.length z.c3,ab none 0 0,ab none 0 0,ab (some ⟨z.g6,0,none⟩) n.down.length n.down.length,ab (some ⟨z.g7,0,none⟩) n.up.length n.up.length] [],.ow Bc 3 (ab z.a1 n.Ap.Ad.length z.c1) n.Ap.Ad z.F1,.ow A9 9 (ab z.a2 n.Ab.Aa.Al.length z.c2) n.Ab.Aa.Al z.F2,.ow Bv 165 (ab z.a3 n.Ab.holds.length z.c3) n.Ab.holds z.F3,.ow (J0 Ak 159) 120 (ab (some ⟨z.g6,0,none⟩) n.down.length n.down.length) n.down z.F6,.ow (J0 Ak 159) 120 (ab (some ⟨z.g7,0,none⟩) n.up.length n.up.length) n.up z.F7]) (fun _=>True) ?_ fun z _=>?_
 ·refine Ar [1] [] ?_;refine C4 0 1 2 5 ?_;refine C4 6 8 9 11 ?_;refine dt 12 ?_;refine dM 3 15 ?_ ?_
  ·refine oC ?_;refine cn (fun w st=>Th _ n.Ap.Ad F1 w (st.get (p:=.sl _ _ _ _) FD).2 (by have:=hs.t;omega)) fun b1 d1 G1=>?_;refine dk ?_;refine dt 4 ?_;refine dM 7 15 ?_ ?_
   ·refine oC ?_;refine Be (Age n.Ab _ _ (by have:=hs.i;omega) (by have:=hs.h;omega)) fun s2 _=>?_;refine Yo (x:=n.Ab) ?_;rintro b2 d2 G2 b3 d3 G3 e2 - -;rw [e2];refine dk ?_;refine dM 10 15 ?_ ?_
    ·refine oC ?_;refine Be (Jv n.down _ _ F6 (by have:=hs.d;omega) (fun q hq=>by have:=hs.dq q hq;omega)) fun s6 _=>?_;refine dk ?_;refine dM 13 15 ?_ ?_
     ·refine oC ?_;refine Be (Jv n.up _ _ F7 (by have:=hs.u;omega) (fun q hq=>by have:=hs.uq q hq;omega)) fun s7 _=>?_;refine dk ?_;refine dt 14 ?_;refine dN 15 ?_;apply Cn;rfl;intro _;refine dk ?_;refine dN 16 ?_;refine oS ?_;refine dk ?_;refine dd ?_;refine Bk (⟨_,b1,d1,G1,b2,d2,G2,b3,d3,G3,_,_,_,_⟩:ClN) trivial
     ·apply Cn;rfl;intro _;refine dk ?_;refine dN 13 ?_;refine oC ?_;exact AP
    ·apply Cn;rfl;intro _;refine dk ?_;refine dN 10 ?_;refine oC ?_;refine Be (Jv n.down _ _ F6 (by have:=hs.d;omega) (fun q hq=>by have:=hs.dq q hq;omega)) fun s6 _=>?_;refine dk ?_;refine dN 13 ?_;refine oC ?_;exact AP
   ·apply Cn;rfl;intro _;refine dk ?_;refine dN 7 ?_;refine oC ?_;refine Be (Age n.Ab _ _ (by have:=hs.i;omega) (by have:=hs.h;omega)) fun s2 _=>?_;refine Yo (x:=n.Ab) ?_;rintro b2 d2 G2 b3 d3 G3 e2 - -;rw [e2];refine dk ?_;refine dN 10 ?_;refine oC ?_;refine Be (Jv n.down _ _ F6 (by have:=hs.d;omega) (fun q hq=>by have:=hs.dq q hq;omega)) fun s6 _=>?_;refine dk ?_;refine dN 13 ?_;refine oC ?_;refine Be (Jv n.up _ _ F7 (by have:=hs.u;omega) (fun q hq=>by have:=hs.uq q hq;omega)) fun s7 _=>?_;refine dk ?_;refine dt 14 ?_;refine dN 16 ?_;refine oS ?_;refine dk ?_;refine dd ?_
    refine Bk (⟨_,b1,d1,G1,b2,d2,G2,b3,d3,G3,_,_,_,_⟩:ClN) trivial
  ·apply Cn;rfl;intro _;refine dk ?_;refine dN 3 ?_;refine oC ?_;refine cn (fun w st=>Th _ n.Ap.Ad F1 w (st.get (p:=.sl _ _ _ _) FD).2 (by have:=hs.t;omega)) fun b1 d1 G1=>?_;refine dk ?_;refine dt 4 ?_;refine dN 7 ?_;refine oC ?_;refine Be (Age n.Ab _ _ (by have:=hs.i;omega) (by have:=hs.h;omega)) fun s2 _=>?_;refine Yo (x:=n.Ab) ?_;rintro b2 d2 G2 b3 d3 G3 e2 - -;rw [e2];refine dk ?_;refine dN 10 ?_;refine oC ?_;refine Be (Jv n.down _ _ F6 (by have:=hs.d;omega) (fun q hq=>by have:=hs.dq q hq;omega)) fun s6 _=>?_;refine dk ?_;refine dN 13 ?_;refine oC ?_
   exact AP
 have he:=hs.e;have hr:=hs.rl;refine Bt Cc 111 ?_;refine go ?_
 refine Ca [1,2,3,24,25] (fun y:KA=>[(26,aa (y.k:Nat))]) (fun y=>[.row z.g 43 0 [] [ab z.a1 n.Ap.Ad.length z.c1,aa n.Ab.Aa.Am,aa n.Ab.Aa.size,ab z.a2 n.Ab.Aa.Al.length z.c2,aa n.Ab.Ai,aa n.Ab.quiet,ab z.a3 n.Ab.holds.length z.c3,.slice y.a (n.Af.take y.k).length y.c,ab none 0 0,ab (some ⟨z.g6,0,none⟩) n.down.length n.down.length,ab (some ⟨z.g7,0,none⟩) n.up.length n.up.length] [],.ow Cc 111 (.slice y.a (n.Af.take y.k).length y.c) (n.Af.take y.k) y.F]) (fun y=>y.k<=n.Af.length) (fun y=>n.Af.length - y.k) ⟨0,none,0,[]⟩ (aD _) fun y hy=>?_
 refine go ?_;refine Ay rfl (fun h1=>?_) (fun h1=>?_)
 ·have hk:y.k < n.Af.length:=EY
  have htl:(n.Af.take y.k).length<=1048576:=GD
  refine Oo (xs:=n.Af) y.k ?_;rintro hi4 b4 o4 a8 c8 F8 e4 l8;rw [e4];refine E5 n.Af[y.k] ?_;refine go ?_;intros;refine Ar [0,4] [7] ?_;refine Dh 0 1 ?_;refine dt 2 ?_;refine dN 3 ?_;refine oC ?_;refine cv (fun w st=>Afe _ n.Af[y.k] F8 w (st.get (p:=.isv _ _ _ _) FD) (by have:=hs.e1 _ (aB hk);omega) (fun x hx=>by have:=hs.e2 _ (aB hk) x hx;omega)) fun v9 F9=>?_;refine Ih (x:=n.Af[y.k]) ?_;rintro a9 c9 F10 rfl l9;refine Hi n.Af[y.k] ?_;refine dk ?_;refine dN 4 ?_;apply I1;rfl;rfl;rfl;rfl;exact Iy;exact Ir;intro _;refine dk ?_;refine dN 5 ?_
  refine Ac5 S9 n.Af[y.k] rfl fun a7 c7 F7=>?_;refine dk ?_;refine dt 6 ?_;refine dN 7 ?_;refine oS ?_;refine Nm ?_;refine dd ?_;rw [<-aR hk];refine go ?_;refine Ce ⟨y.k+1,a7,c7,F7⟩ hk (by show n.Af.length - (y.k+1) < n.Af.length - y.k;omega)
 rw [show n.Af.take y.k=n.Af from aV EY];obtain ⟨_,ea,ec,eF⟩:=y;dsimp only;refine Bt B4 118 ?_;refine go ?_
 refine Ca [2,3,39,40] (fun y:KA=>[(41,aa (y.k:Nat))]) (fun y=>[.row z.g 43 0 [] [ab z.a1 n.Ap.Ad.length z.c1,aa n.Ab.Aa.Am,aa n.Ab.Aa.size,ab z.a2 n.Ab.Aa.Al.length z.c2,aa n.Ab.Ai,aa n.Ab.quiet,ab z.a3 n.Ab.holds.length z.c3,ab ea n.Af.length ec,.slice y.a (n.Ac.take y.k).length y.c,ab (some ⟨z.g6,0,none⟩) n.down.length n.down.length,ab (some ⟨z.g7,0,none⟩) n.up.length n.up.length] [],.ow B4 118 (.slice y.a (n.Ac.take y.k).length y.c) (n.Ac.take y.k) y.F]) (fun y=>y.k<=n.Ac.length) (fun y=>n.Ac.length - y.k) ⟨0,none,0,[]⟩ (aD _) fun y hy=>?_
 refine go ?_;refine Ay rfl (fun h2=>?_) (fun h2=>?_)
 ·have hk:y.k < n.Ac.length:=EY
  have htl:(n.Ac.take y.k).length<=1048576:=GD
  refine Jl (xs:=n.Ac) y.k ?_;rintro hi5 b5 o5 a8 c8 F8 a9 c9 F9 e5 l8 l9;rw [e5];refine D5 n.Ac[y.k] ?_;refine go ?_;intros;refine Ar [0,5] [7] ?_;refine Dh 0 1 ?_;refine dt 2 ?_;refine dN 3 ?_;refine oC ?_;refine Be (Axe n.Ac[y.k] _ _ (by have:=(hs.r _ (aB hk)).1;omega) (by have:=(hs.r _ (aB hk)).2;omega)) fun s9 _=>?_;refine I2 (x:=n.Ac[y.k]) ?_;rintro a9 c9 G9 a10 c10 G10 e9 l9 l10;rw [e9];refine Kw n.Ac[y.k] ?_;refine dk ?_;refine dN 4 ?_;apply I1;rfl;rfl;rfl;rfl;exact Iy;exact Ir;intro _;refine dk ?_;refine dN 5 ?_;refine Ac5 Rl n.Ac[y.k] rfl fun a7 c7 F7=>?_
  refine dk ?_;refine dt 6 ?_;refine dN 7 ?_;refine oS ?_;refine Nm ?_;refine dd ?_;rw [<-aR hk];refine go ?_;refine Ce ⟨y.k+1,a7,c7,F7⟩ hk (by show n.Ac.length - (y.k+1) < n.Ac.length - y.k;omega)
 rw [show n.Ac.take y.k=n.Ac from aV EY];refine go ?_;refine ret ⟨z.a1,z.c1,z.F1,z.a2,z.c2,z.F2,z.a3,z.c3,z.F3,ea,ec,eF,y.a,y.c,y.F,_,_,z.F6,_,_,z.F7⟩ trivial rfl
def Ps {v:Int} (h:0<=v):Lib.itoa v=Lib.decDigits v.natAbs:=KL
def Bgb (n:Int) (h0:0<=n) (h1:n<=999999) (w:World):Calls prog 46 #[aa n] w (RB (af (bz (Lib.itoa n))) w):=by
 have:=Be7 n.toNat EY w;rw [show ((n.toNat:Nat):Int)=n by omega,show n.toNat=n.natAbs by omega,<-Ps h0] at this;exact this
def Ajo (i:Nat) (hi:i<=100):FV 217 [aa (i:Nat)] [] (aa (Nn i)):=by
 refine enter func217 rfl ntmps217 fun w0=>?_;exact AA
def Wr (i:Nat) (hi:i<=100):FV 236 [aa (i:Nat)] [] (aa (Nn i)):=by
 refine enter func236 rfl ntmps236 fun w0=>?_;exact AA
def Bba (i:Nat) (es:ai) (a:aj) (c:Nat) (F FT:aq) (hi:i<=100) (hl:es.length<=1000000) (hz:∀e∈es,e.size<=1000000):Fn prog 218 [aa (i:Nat),ab a es.length c] [.sl A9 (ab a es.length c) es F,Ga FT] [] (fun (_:KA)=>True) (fun z=>.slice z.a (U3 i es).length z.c) (fun z=>[.ow A9 9 (.slice z.a (U3 i es).length z.c) (U3 i es) z.F]):=by
 have hs0:(bz (Lib.itoa ((i:Nat):Int))).size<=6:=JN
 refine enter func218 rfl ntmps218 fun w0=>?_;refine Bt A9 9 ?_;refine go ?_;refine Ca [0,4,8,9] (fun z:KA=>[(5,.slice z.a ((es.take z.k).map (Ni i)).length z.c),(10,aa (z.k:Nat))]) (fun z=>[.ow A9 9 (.slice z.a ((es.take z.k).map (Ni i)).length z.c) ((es.take z.k).map (Ni i)) z.F]) (fun z=>z.k<=es.length) (fun z=>es.length - z.k) ⟨0,none,0,[]⟩ (aD _) fun z hz0=>?_;have hml:((es.take z.k).map (Ni i)).length=z.k:=by rw [bf,aP];omega
 refine go ?_;refine Ay rfl (fun h1=>?_) (fun h1=>?_)
 ·have hk:z.k < es.length:=EY
  have hse:=hz _ (aB hk);have z1:(⟨#[32]⟩:au).size=1:=rfl;have zs:(bz (Lib.itoa ((i:Nat):Int))++⟨#[32]⟩).size=_:=aN;have zt:(bz (Lib.itoa ((i:Nat):Int))++⟨#[32]⟩++es[z.k]).size=_:=aN;have hst:((es.take z.k).map (Ni i))++[Ni i es[z.k]]=(es.take (z.k+1)).map (Ni i):=by rw [aR hk,bB];rfl
  have hte:(Ni i es[z.k]).size<=1000010:=by unfold Ni;omega
  refine Me (xs:=es) z.k ?_;rintro hi b o e1 s1;rw [e1];refine go ?_;refine cb (fun w st=>Aaz ((i:Nat):Int) EY EY FT w (st.get (p:=Ga FT) FD)) ?_;refine Hy ?_;intros;apply wO;refine N9 (ys:=[Ni i es[z.k]]) (Ah0 FE) D7 fun a9 c9 F9=>?_;rw [hst];refine go ?_;refine Ce ⟨z.k+1,a9,c9,F9⟩ hk GW
 ·rw [show es.take z.k=es from aV EY];exact CB
def Ake (i:Nat) (es:ai) (a:aj) (c:Nat) (F FT:aq) (hi:i<=100) (hl:es.length<=1000000) (hz:∀e∈es,e.size<=1000000):Fn prog 237 [aa (i:Nat),ab a es.length c] [.sl A9 (ab a es.length c) es F,Ga FT] [] (fun (_:KA)=>True) (fun z=>.slice z.a (U3 i es).length z.c) (fun z=>[.ow A9 9 (.slice z.a (U3 i es).length z.c) (U3 i es) z.F]):=by
 have hs0:(bz (Lib.itoa ((i:Nat):Int))).size<=6:=JN
 refine enter func237 rfl ntmps237 fun w0=>?_;refine go ?_;intros;refine C3 A9 ?_;refine Ca [0,1,4] (fun z:KA=>[(5,.slice z.a ((es.take z.k).map (Ni i)).length z.c),(6,aa (z.k:Nat))]) (fun z=>[.ow A9 9 (.slice z.a ((es.take z.k).map (Ni i)).length z.c) ((es.take z.k).map (Ni i)) z.F]) (fun z=>z.k<=es.length) (fun z=>es.length - z.k) ⟨0,_,0,_⟩ (aD _) fun z hz0=>?_;have hml:((es.take z.k).map (Ni i)).length=z.k:=by rw [bf,aP];omega
 refine go ?_;refine Ay rfl (fun h1=>?_) (fun h1=>?_)
 ·have hk:z.k < es.length:=EY
  have hse:=hz _ (aB hk);have z1:(⟨#[32]⟩:au).size=1:=rfl;have zs:(bz (Lib.itoa ((i:Nat):Int))++⟨#[32]⟩).size=_:=aN;have zt:(bz (Lib.itoa ((i:Nat):Int))++⟨#[32]⟩++es[z.k]).size=_:=aN;have hst:((es.take z.k).map (Ni i))++[Ni i es[z.k]]=(es.take (z.k+1)).map (Ni i):=by rw [aR hk,bB];rfl
  have hte:(Ni i es[z.k]).size<=1000010:=by unfold Ni;omega
  refine Me (xs:=es) z.k ?_;rintro hi b o e1 s1;rw [e1];refine go ?_;refine Ar [0] [] ?_;refine C4 0 1 4 5 ?_;refine Dh 6 7 ?_;refine dN 2 ?_;refine oC ?_;refine cb (fun w st=>Bgb ((i:Nat):Int) EY EY w) ?_;refine dk ?_;refine Dh 3 8 ?_;refine dN 9 ?_;apply I1;rfl;rfl;rfl;rfl;exact Iy;exact Ir;intro _;refine dk ?_;refine dN 10 ?_;refine N9 (ys:=[Ni i es[z.k]]) (Ah0 FE) D7 fun a9 c9 F9=>?_;refine dk ?_;refine dt 11 ?_;refine dd ?_;rw [hst];refine go ?_;refine Ce ⟨z.k+1,a9,c9,F9⟩ hk GW
 ·rw [show es.take z.k=es from aV EY];exact CB
def Be4 {t a b:Int} (ha:Cd a=true) (hb:Cd b=true) (h:gp t a=gp t b):a=b:=by
 obtain ⟨a0,a1⟩:=Ba.1 ha;obtain ⟨b0,b1⟩:=Ba.1 hb;unfold gp at h;omega
def En (base:Int) (l:List A4) (n:Int):Nat:=(l.takeWhile fun r=>decide (gp base r.Ae < gp base n)).length
def Ng (base:Int) (l:List A4) (n:Int):Bool:=match l[En base l n]? with|some r=>decide (r.Ae=n)|none=>false
def Bh6 (n u:Int):A4:=⟨n,1,u,0⟩
def Xy (base:Int) (l:List A4) (n u:Int):List A4:=l.take (En base l n)++Bh6 n u::l.drop (En base l n)
def U8 (base:Int) (l:List A4) (n u:Int):List A4:=if Ng base l n || !decide (gp base n < 8) then l else Xy base l n u
def Rs (base:Int) (l:List A4) (n u:Int):List A4:=match l[En base l n]? with|some r=>if r.Ae=n then l.set (En base l n) ⟨n,3,u,r.Dw⟩ else l|none=>l
def Tu (base:Int) (l:List A4) (n:Int):En base l n<=l.length:=Rm.1
def U9 {base:Int} {l:List A4} {n:Int} (h:En base l n < l.length):Ng base l n=decide (l[En base l n].Ae=n):=by unfold Ng;rw [aE h]
def Ajf {base:Int} {l:List A4} {n:Int} (h:¬En base l n < l.length):Ng base l n=false:=by unfold Ng;rw [bp EY]
def Va {base:Int} {l:List A4} {n:Int} (h:Ng base l n=true):En base l n < l.length:=by
 by_cases h2:En base l n < l.length
 ·exact h2
 ·rw [Ajf h2] at h;cases h
def X6 {base:Int} {l:List A4} {n u:Int} (h:Ng base l n=false):Rs base l n u=l:=by
 unfold Rs;unfold Ng at h;cases hq:l[En base l n]? with
 | none=>rfl
 | some r=>rw [hq] at h;dsimp only at h ⊢;rw [aC FI]
def Ve {base:Int} {l:List A4} {n u:Int} (h:Ng base l n=true):Rs base l n u=l.set (En base l n) ⟨n,3,u,(l[En base l n]'(Va h)).Dw⟩:=by
 have h2:=Va h;rw [U9 h2] at h;unfold Rs;rw [aE h2];dsimp only;rw [aH FI]
def Ajk (base:Int) (l:List A4) (n u:Int):(Rs base l n u).length=l.length:=by
 cases h:Ng base l n
 ·rw [X6 h]
 ·rw [Ve h,bG]
def Bfo {base n:Int} {l:List A4} (hq:Mo l base=true) (hn:Cd n=true) (h:Ng base l n=false):∀r∈l,gp base r.Ae≠gp base n:=by
 obtain ⟨-, -,h3,h4⟩:=Dj.1 hq;obtain ⟨t1,t2,t3⟩:=Rm (p:=fun r:A4=>decide (gp base r.Ae < gp base n)) (xs:=l);intro r hr e;obtain ⟨i,hi,rfl⟩:=bl hr;have e2:=Be4 (Ew.1 (h3 _ hr)).n hn e;have hk:En base l n=i:=Y1 EY (fun j hj h=>by
  have:=bh.1 h4 j i h hi hj;simp only [aF];omega) (fun h=>by simp only [bS];omega)
 rw [U9 EY] at h;simp only [hk] at h;simp [e2] at h
def Bge {base:Int} {l:List A4} (hp:l.Pairwise fun a b=>gp base a.Ae < gp base b.Ae) (h8:∀q∈l,gp base q.Ae < 8):l.length<=8:=by
 have key:∀i (h:i < l.length),(i:Int)<=gp base l[i].Ae:=by
  intro i
  induction i with
  | zero=>intro h;exact (Lt _ _).1
  | succ i ih =>
   intro h;have a:=ih EY;have b:=bh.1 hp i (i+1) EY h EY;omega
 by_cases h:l.length<=8
 ·exact h
 ·have a:=key 8 EY;have b:=h8 _ (aB (show 8 < l.length by omega));omega
def Ayk (base:Int) (l:List A4) (n u:Int):(Xy base l n u).length=l.length+1:=by
 have:=Tu base l n;unfold Xy;rw [aA,aU,aP,aX];omega
def Aj6 {base n u:Int} {l:List A4} (hq:Mo l base=true) (hn:Cd n=true) (h8:gp base n < 8) (u0:0<=u) (u1:u<=10007) (h:Ng base l n=false):Mo (Xy base l n u) base=true:=by
 have hne:=Bfo hq hn h;obtain ⟨h1,h2,h3,h4⟩:=Dj.1 hq;obtain ⟨t1,t2,t3⟩:=Rm (p:=fun r:A4=>decide (gp base r.Ae < gp base n)) (xs:=l);have hle:=Tu base l n;have hok:∀r∈Xy base l n u,Nh base r=true:=by
  intro r hr;unfold Xy at hr;rcases aJ.1 hr with h|h
  ·exact h3 r (bK h)
  ·rcases aG.1 h with rfl|h
   ·exact Ew.2 ⟨hn,h8,by show (1:Int)<=1;decide,by show (1:Int)<=3;decide,u0,u1,by show (0:Int)<=0;decide,by show (0:Int)<=3;decide⟩
   ·exact h3 r (br h)
 have hpw:(Xy base l n u).Pairwise fun a b=>gp base a.Ae < gp base b.Ae:=by
  unfold Xy;rw [dS];refine ⟨h4.sublist (fH _ _),?_,?_⟩
  ·rw [dl];refine ⟨fun b hb=>?_,h4.sublist (fL _ _)⟩;obtain ⟨j,hj,rfl⟩:=bl hb;rw [dK];rw [aX] at hj;have hk:En base l n < l.length:=EY
   have h0:=t3 hk;simp only [bS,Int.not_lt] at h0;have h00:gp base n<=gp base (l[En base l n]'hk).Ae:=h0;have hd:=hne _ (aB hk);show gp base n < _;rcases co j with e|e
   ·subst e;simp only [bT];omega
   ·have h5:=bh.1 h4 (En base l n) (En base l n+j) hk EY EY;omega
  ·intro a ha b hb;obtain ⟨i,hi,rfl⟩:=bl ha;rw [aP] at hi;rw [List.getElem_take];have ha2:=t2 i (by show i < En base l n;omega) EY;simp only [aF] at ha2;rcases aG.1 hb with rfl|hb
   ·exact ha2
   ·obtain ⟨j,hj,rfl⟩:=bl hb;rw [dK];rw [aX] at hj;exact bh.1 h4 i (En base l n+j) EY EY EY
 exact Dj.2 ⟨h1,Bge hpw fun q hq=>(Ew.1 (hok q hq)).g,hok,hpw⟩
def Ats {base n u:Int} {l:List A4} (hq:Mo l base=true) (hn:Cd n=true) (u0:0<=u) (u1:u<=10007):Mo (U8 base l n u) base=true:=by
 unfold U8
 split
 ·exact hq
 ·rename_i h;simp only [bX,bw,not_or,Bool.not_eq_false,Bool.not_eq_true,aF] at h;exact Aj6 hq hn h.2 u0 u1 h.1
def Ay6 {base n u:Int} {l:List A4} {q:A4} (h:q∈U8 base l n u):q∈l\/q.Ae=n:=by
 unfold U8 Xy at h
 split at h
 ·exact .inl h
 ·rcases aJ.1 h with h|h
  ·exact .inl (bK h)
  ·rcases aG.1 h with rfl|h
   ·exact .inr rfl
   ·exact .inl (br h)
def Aqe {base n u:Int} {l:List A4} (hq:Mo l base=true) (u0:0<=u) (u1:u<=10007):Mo (Rs base l n u) base=true:=by
 cases h:Ng base l n
 ·rw [X6 h];exact hq
 obtain ⟨h1,h2,h3,h4⟩:=Dj.1 hq;have hk:=Va h;have hn:l[En base l n].Ae=n:=by rw [U9 hk] at h;simpa using h
 have ho:=Ew.1 (h3 _ (aB hk));rw [Ve h];have hnum:∀i (h:i < (l.set (En base l n) ⟨n,3,u,l[En base l n].Dw⟩).length),(l.set (En base l n) ⟨n,3,u,l[En base l n].Dw⟩)[i].Ae=(l[i]'FI).Ae:=fun i h=>by
  rw [fU]
  split
  ·rename_i e;subst e;exact hn.symm
  ·rfl
 refine Dj.2 ⟨h1,HN,fun r hr=>?_,?_⟩
 ·have gn:=ho.n;have gg:=ho.g;rw [hn] at gn gg;rcases bC hr with h|rfl
  ·exact h3 r h
  ·exact Ew.2 ⟨gn,gg,by show (1:Int)<=3;decide,by show (3:Int)<=3;decide,u0,u1,ho.t0,ho.t1⟩
 ·refine bh.2 fun i j hi hj hij=>?_;rw [hnum i hi,hnum j hj];exact bh.1 h4 i j _ _ hij
def Avk {base n u:Int} {l:List A4} {q:A4} (h:q∈Rs base l n u):∃r∈l,r.Ae=q.Ae:=by
 cases h2:Ng base l n
 ·rw [X6 h2] at h;exact ⟨q,h,rfl⟩
 have hk:=Va h2;have hn:l[En base l n].Ae=n:=by rw [U9 hk] at h2;simpa using h2
 rw [Ve h2] at h;rcases bC h with h|rfl
 ·exact ⟨q,h,rfl⟩
 ·exact ⟨_,aB hk,hn⟩
def Eg (r:A8) (p:As):Aj:=if r.Bg then r.Aa else ⟨if p.Ct=5 then p.Es else p.Ae,r.Aa.Ao⟩
def Gg (r:A8) (p:As):Aj:=if p.Ct=5 then Eg r p else Mm (Eg r p) p.Ae p.data
def Lh (r:A8) (p:As):ai:=if p.Ct=5 then [] else L9 (Eg r p) p.Ae p.data
def O6 (w:Aj) (t:Int):Aj:=if Ug w.next t then (if gp w.next t<=8 then Jq w t else ⟨t,[]⟩) else w
def Pn (w:Aj) (t:Int):ai:=if Ug w.next t then (if gp w.next t<=8 then Jp w t else [⟨#[33]⟩]) else []
def Cv (r:A8) (p:As):Aj:=O6 (Gg r p) p.Am
def M4 (r:A8) (p:As):ai:=Lh r p++Pn (Gg r p) p.Am
def Ln (base u:Int) (l:List A4) (ns:ar):List A4:=ns.foldl (fun l n=>U8 base l n u) l
def Aap (w:Aj) (Es:Int):Nat:=(min (gp w.next Es) 8).toNat
def Qd (w:Aj) (l:List A4) (Es u:Int):List A4:=if Ug w.next Es then Ln w.next u l (O2 w (Aap w Es)) else l
def Ll (r:A8) (p:As) (d:Int):A8:=⟨true,r.Ai,Cv r p,Qd (Cv r p) (Ej r.An (Cv r p)) p.Es (r.Ai+d)⟩
def Mh (p:As):Bool:=decide (p.Ct=1) || decide (p.Ct=2) || decide (p.Ct=5)
def Ann (r:A8) (p:As):A8:=⟨r.Bg,r.Ai,r.Aa,Rs r.Aa.next r.An p.Ae (r.Ai+4)⟩
def Dn (r:A8) (p:As) (d:Int):A8:=if Mh p then Ll r p d else if decide (p.Ct=4) && r.Bg then Ann r p else r
def Is (r:A8) (p:As):ai:=if Mh p then M4 r p else []
def Awf {w:Aj} {n:Int} {s:au} (hg:Cz w=true) (hn:Cd n=true) (hs:P9 s=true):Cz (Mm w n s)=true/\(∃m:Nat,m<=8/\(Mm w n s).next=Cf w.next m)/\(L9 w n s).length<=8:=by
 obtain ⟨w0,w1⟩:=Iu hg;cases ht:Nx w n
 ·have e:(Hg w n || !decide (gp w.next n < 8))=true:=by unfold Nx at ht;simp only [dy] at ht;rw [ht.1,ht.2];rfl
  have e1:Mm w n s=w:=by unfold Mm;rw [aH e]
  have e2:L9 w n s=[]:=by unfold L9;rw [aH e]
  rw [e1,e2];exact ⟨hg,⟨0,EY,(Tj w0 w1).symm⟩,FA⟩
 ·have hok:Wx w n s=true:=by unfold Wx;rw [hg,hn,hs,ht];rfl
  have h:=Ay0 w n s (by unfold Kb;rw [hok];rfl);rw [show Kb w n s=(Mm w n s,L9 w n s,true) by unfold Kb;rw [hok];rfl] at h;obtain ⟨-, -,h3,h4, -, -,h7, -⟩:=h;dsimp only at h3 h4 h7;refine ⟨h3,⟨_,h7,?_⟩,h7⟩;obtain ⟨v0,v1⟩:=Iu h3;rw [<-h4];unfold Cf gp at *;omega
def Rf {r:A8} {p:As} (hg:Mk r) (hp:Br p=true):Cz (Eg r p)=true/\(r.Bg=true->Eg r p=r.Aa):=by
 unfold Eg;unfold Br at hp;simp only [aw] at hp;cases hs:r.Bg
 ·refine ⟨?_,fun h=>by cases h⟩;rw [(hg.z hs).1];simp only [d9,if_false];unfold Cz
  split
  ·rw [hp.1.1.1.2];rfl
  ·rw [hp.1.1.1.1.1.2];rfl
 ·exact ⟨hg.w,fun _=>rfl⟩
def Ue {r:A8} {p:As} (hg:Mk r) (hp:Br p=true):Cz (Gg r p)=true/\(∃m:Nat,m<=8/\(Gg r p).next=Cf (Eg r p).next m)/\(Lh r p).length<=8:=by
 have h1:=(Rf hg hp).1;obtain ⟨w0,w1⟩:=Iu h1;unfold Gg Lh
 split
 ·exact ⟨h1,⟨0,EY,(Tj w0 w1).symm⟩,FA⟩
 ·unfold Br at hp;simp only [aw] at hp;exact Awf h1 hp.1.1.1.1.1.2 hp.1.1.2
def Av7 {w:Aj} {t:Int} (hg:Cz w=true) (ht:Cd t=true):Cz (O6 w t)=true/\(∃m:Nat,m<=32767/\(O6 w t).next=Cf w.next m)/\(Pn w t).length<=16:=by
 obtain ⟨w0,w1⟩:=Iu hg;obtain ⟨t0,t1⟩:=Ba.1 ht;unfold O6 Pn;cases hb:Ug w.next t
 ·exact ⟨hg,⟨0,EY,(Tj w0 w1).symm⟩,FA⟩
 ·simp only [if_true]
  split
  ·obtain ⟨e1,e2,e3,e4⟩:=Vs (t:=t) hg;have:=@Zu w.next t
   exact ⟨Aem _ _ hg,⟨_,EY,e1⟩,EY⟩
  ·refine ⟨by unfold Cz;rw [ht];rfl,⟨(gp w.next t).toNat,?_,?_⟩,FA⟩
   ·unfold Ug Ff at hb;simp only [aw,aF] at hb;omega
   ·have:=Lt w.next t
    show t=_;unfold Cf gp at *;omega
def Ae0 {l:List A4} {b:Int} {w:Aj} {m:Nat} (hm:m<=65528) (hq:Mo l b=true) (hw:Cz w=true) (e:w.next=Cf b m):Mo (Ej l w) w.next=true:=by
 obtain ⟨h1,h2,h3,h4⟩:=Dj.1 hq;obtain ⟨b0,b1⟩:=Ba.1 h1;have key:∀q∈l,gp w.next q.Ae < 8->gp w.next q.Ae=gp b q.Ae - m:=fun q hq h=>by
  have ho:=Ew.1 (h3 q hq);obtain ⟨n0,n1⟩:=Ba.1 ho.n;have:=ho.g;rw [e] at h ⊢;unfold gp Cf at *;omega
 have hin:∀q∈Ej l w,q∈l/\gp w.next q.Ae < 8:=fun q hq=>by
  unfold Ej at hq;rw [bR] at hq;simp only [aw,aF] at hq;exact ⟨hq.1,hq.2.2⟩
 refine Dj.2 ⟨Ba.2 (Iu hw),bE (bN _ _) h2,fun q hq=>?_,?_⟩
 ·obtain ⟨a,c⟩:=hin q hq;have ho:=Ew.1 (h3 q a);exact Ew.2 ⟨ho.n,c,ho.s0,ho.s1,ho.u0,ho.u1,ho.t0,ho.t1⟩
 ·have h5:(Ej l w).Pairwise fun a b'=>gp b a.Ae < gp b b'.Ae:=h4.sublist fg;refine h5.imp_of_mem fun ha hb h=>?_;rw [key _ (hin _ ha).1 (hin _ ha).2,key _ (hin _ hb).1 (hin _ hb).2];omega
def P4 {l:List A4} {w:Aj}:∀q∈Ej l w,Jb w q.Ae=false:=fun q hq=>by
 unfold Ej at hq;rw [bR] at hq;simp only [aw,bw,dy] at hq;exact hq.2.1.2
def R5 {w:Aj} {k:Nat} (hk:k<=8) {n:Int} (h:n∈O2 w k):Cd n=true/\gp w.next n < 8/\Jb w n=false:=by
 unfold O2 Sd at h;obtain ⟨h1,h2⟩:=bR.1 h;obtain ⟨i,hi,rfl⟩:=bL.1 h1;rw [cR] at hi;refine ⟨Qb _ _,?_,HN⟩;unfold gp Cf;omega
def Rq {w:Aj} {u:Int} (u0:0<=u) (u1:u<=10007):∀(ns:ar) (l:List A4),(∀n∈ns,Cd n=true/\Jb w n=false)->Mo l w.next=true->(∀q∈l,Jb w q.Ae=false)->Mo (Ln w.next u l ns) w.next=true/\∀q∈Ln w.next u l ns,Jb w q.Ae=false
 | [],l,_,h2,h3=>⟨h2,h3⟩
 | n::ns,l,h1,h2,h3=>by
  obtain ⟨a,b⟩:=h1 n FA;refine Rq u0 u1 ns (U8 w.next l n u) (fun n hn=>h1 n (by simp [hn])) (Ats h2 a u0 u1) fun q hq=>?_;rcases Ay6 hq with h|h
  ·exact h3 q h
  ·rw [h];exact b
def Aei {base u:Int} {l:List A4} {ns:ar} {k:Nat} (h:k < ns.length):Ln base u l (ns.take (k+1))=U8 base (Ln base u l (ns.take k)) ns[k] u:=by
 unfold Ln;rw [cy,aE h,eC];rfl
def Tk (w:Aj) (t:Int):Aap w t<=8:=by unfold Aap;omega
def Zn {r:A8} {p:As} {d:Int} (hg:Mk r) (hp:Br p=true) (d0:1<=d) (d1:d<=8) (hk:r.Ai+d<=10007):Cz (Cv r p)=true/\Mo (Ej r.An (Cv r p)) (Cv r p).next=true/\Mk (Ll r p d)/\(M4 r p).length<=24:=by
 obtain ⟨a1,a2⟩:=Rf hg hp;obtain ⟨b1,⟨m,hm,em⟩,b3⟩:=Ue hg hp;have htr:Cd p.Am=true:=by unfold Br at hp;simp only [aw] at hp;exact hp.1.1.1.1.2
 obtain ⟨c1,⟨k,hk2,ek⟩,c3⟩:=Av7 b1 htr;have hk0:=hg.k0;have hq:Mo (Ej r.An (Cv r p)) (Cv r p).next=true:=by
  cases hs:r.Bg
  ·rw [(hg.z hs).2];exact (Dj (l:=[])).2 ⟨Ba.2 (Iu c1),aD 8,fun r hr=>(by cases hr),List.Pairwise.nil⟩
  ·refine Ae0 (m:=m+k) EY hg.q c1 ?_;show (Cv r p).next=_
   rw [show (Cv r p).next=Cf (Gg r p).next k from ek,em,a2 hs,Afs]
 have hn:Cv r p=O6 (Gg r p) p.Am:=rfl;refine ⟨c1,hq,⟨hg.k0,hg.k1,c1,?_,?_,fun h=>by cases h⟩,by unfold M4;rw [aA];omega⟩
 ·show Mo (Qd (Cv r p) (Ej r.An (Cv r p)) p.Es (r.Ai+d)) (Cv r p).next=true
  unfold Qd
  split
  ·exact (Rq EY EY _ _ (fun n hn=>⟨(R5 (Tk _ _) hn).1,(R5 (Tk _ _) hn).2.2⟩) hq P4).1
  ·exact hq
 ·show ∀q∈Qd (Cv r p) (Ej r.An (Cv r p)) p.Es (r.Ai+d),Jb (Cv r p) q.Ae=false;unfold Qd
  split
  ·exact (Rq EY EY _ _ (fun n hn=>⟨(R5 (Tk _ _) hn).1,(R5 (Tk _ _) hn).2.2⟩) hq P4).2
  ·exact P4
def Vi {r:A8} {p:As} {d:Int} (hg:Mk r) (hp:Br p=true) (d0:1<=d) (d1:d<=8):Mk (Dn r p d)/\(Is r p).length<=24:=by
 have hk1:=hg.k1;have hk0:=hg.k0;unfold Dn Is
 split
 ·exact ⟨(Zn hg hp d0 d1 EY).2.2.1,(Zn hg hp d0 d1 EY).2.2.2⟩
 ·refine ⟨?_,FA⟩
  split
  ·rename_i h;simp only [aw,aF] at h;refine ⟨hk0,hk1,hg.w,Aqe hg.q EY EY,fun q hq=>?_,fun hs=>?_⟩
   ·obtain ⟨r',hr,e⟩:=Avk hq;show Jb r.Aa q.Ae=false;rw [<-e];exact hg.f r' hr
   ·have:r.Bg=false:=hs;rw [h.2] at this;cases this
  ·exact hg
end Go.Proofs.YtmppejmafbfhlaaGreatDoor
