/- Part 4 of the proof: 41 texts, one behind the other. -/
import Derived.Lib.ItoaNum
import Derived.Lib.Bytealg
import Derived.Test.YtkoldibamfjghaaGreatDoorShelf
import Derived.Lib.Strings
import Derived.Lib.LaidTab
import Derived.Lib.ItoaMem
import Derived.Deep.RegionHeld3
import Derived.WideLaws
import Derived.RangeFuncCalls
import Derived.RangeFuncFrom
import Derived.RangeFuncLeaves
import Derived.TacticsInMore
import Derived.OrdersIn
import Derived.WalkKit
import Derived.LoopNIn
import Derived.LoopIn
import Derived.OwnWalkIn
import Derived.Laws.Bits64b
import Derived.Test.YtkoldibamfjghaaGreatDoorM3
open _root_.Go.Proofs.Tryz
set_option maxRecDepth 100000
set_option maxHeartbeats 8000000
set_option linter.all false
set_option linter.unusedVariables false
set_option linter.unusedSimpArgs false
namespace Go.Proofs.YtkoldibamfjghaaGreatDoor
theorem DA{p:Prop}(h:p:=by refine go ?_;intros;rw [hop];refine ret (z.a,z.c,z.F) trivial rfl):p:=h
theorem FE{p:Prop}(h:p:=by intro b hb;simp only [Pc.F] at hb ⊢;simp [hb]):p:=h
theorem FI{p:Prop}(h:p:=by obtain ⟨v1,v2,v3,v4,v5,v6,v7,F1,F2,F3,F4,F5,F6,F7,rfl,s1,s2,h1,h2,h3,h4,h5,h6,h7,rfl⟩:=h;exact ⟨v1,v2,v3,v4,v5,v6,v7,F1,F2,F3,F4,F5,F6,F7,rfl,s1,s2,h1.frame fun b hb=>hF b (by simp [hb]),h2.frame fun b hb=>hF b (by simp [hb]),h3.frame fun b hb=>hF b (by simp [hb]),h4.frame fun b hb=>hF b (by simp [hb]),h5.frame fun b hb=>hF b (by simp [hb]),h6.frame fun b hb=>hF b (by simp [hb]),h7.frame fun b hb=>hF b (by simp [hb]),rfl⟩):p:=h
theorem FL{p:Prop}(h:p:=by exact fun _ _ _ h=>h):p:=h
theorem GF{p:Prop}(h:p:=by simp only [aQ,sz1];omega):p:=h
theorem HU{p:Prop}(h:p:=by rw [hj];exact E4 (Below.refl _ _) _):p:=h
theorem IN{p:Prop}(h:p:=by obtain ⟨v1,v2,v3,v4,v5,v6,v7,F1,F2,F3,F4,F5,F6,F7,rfl,s1,s2,h1,h2,h3,h4,h5,h6,h7,rfl⟩:=h;rfl):p:=h
theorem IX{p:Prop}(h:p:=by rw [co];omega):p:=h
theorem IY{p:Prop}(h:p:=by rw [IntKind.wrap_u64];omega):p:=h
theorem JJ{p:Prop}(h:p:=by have:=run_endLoop (P:=P) hl (by rw [hrec];simp);rw [hrec] at this;exact this):p:=h
theorem KI{p:Prop}(h:p:=by rw [Jk];exact D8 1 _ (by omega)):p:=h
theorem KM{p:Prop}(h:p:=by simp [hy]):p:=h
end Go.Proofs.YtkoldibamfjghaaGreatDoor
namespace Go.Proofs.YtkoldibamfjghaaGreatDoor
open Go.RowKit
section
variable {c:Cx} {fr:Fr} {H:List Pc} {Φ:Gl}
theorem Fb {v:Value} {x:Dt} {F:aq} (h:∀(a1:aj) (c1:Nat) (F1:aq) (a2:aj) (c2:Nat) (F2:aq) (a3:aj) (c3:Nat) (F3:aq) (a4:aj) (c4:Nat) (F4:aq) (a5:aj) (c5:Nat) (F5:aq) (a6:aj) (c6:Nat) (F6:aq) (a7:aj) (c7:Nat) (F7:aq),v=.agg #[ab a1 x.Ap.Ad.length c1,aa x.Ab.Aa.Am,aa x.Ab.Aa.size,ab a2 x.Ab.Aa.Ak.length c2,aa x.Ab.Ai,aa x.Ab.quiet,ab a3 x.Ab.holds.length c3,ab a4 x.Af.length c4,ab a5 x.Ac.length c5,ab a6 x.down.length c6,ab a7 x.up.length c7]->x.Ap.Ad.length<=maxLen->x.Ab.Aa.Ak.length<=maxLen->x.Ab.holds.length<=maxLen->x.Af.length<=maxLen->x.Ac.length<=maxLen->x.down.length<=maxLen->x.up.length<=maxLen->T c fr (.sl Bb (ab a1 x.Ap.Ad.length c1) x.Ap.Ad F1::.sl A8 (ab a2 x.Ab.Aa.Ak.length c2) x.Ab.Aa.Ak F2::.sl Bx (ab a3 x.Ab.holds.length c3) x.Ab.holds F3::.sl Bv (ab a4 x.Af.length c4) x.Af F4::.sl Bz (ab a5 x.Ac.length c5) x.Ac F5::.sl (Oc Al EW) (ab a6 x.down.length c6) x.down F6::.sl (Oc Al EW) (ab a7 x.up.length c7) x.up F7::H) Φ) (hm:.isv Oi v x F∈H:=by exact Bn):T c fr H Φ:=.mk fun a w s g=>by
 obtain ⟨cs,rfl,v1,v2,v3,v4,v5,v6,v7,G1,G2,G3,G4,G5,G6,G7,rfl,h1,h2,h3,h4,h5,h6,h7,rfl⟩:=s.get hm;obtain ⟨a1,c1,rfl⟩:=h1.slice;have l1:=h1.len;obtain ⟨a2,c2,rfl⟩:=h2.slice;have l2:=h2.len;obtain ⟨a3,c3,rfl⟩:=h3.slice;have l3:=h3.len;obtain ⟨a4,c4,rfl⟩:=h4.slice;have l4:=h4.len;obtain ⟨a5,c5,rfl⟩:=h5.slice;have l5:=h5.len;obtain ⟨a6,c6,rfl⟩:=h6.slice;have l6:=h6.len;obtain ⟨a7,c7,rfl⟩:=h7.slice;have l7:=h7.len;have t7:=s.ro (p:=.sl _ _ _ _) hm rfl rfl ⟨EW,h7⟩ FE
 have t6:=t7.ro (p:=.sl _ _ _ _) (aN _ hm) rfl rfl ⟨EW,h6⟩ FE;have t5:=t6.ro (p:=.sl _ _ _ _) (aN _ (aN _ hm)) rfl rfl ⟨EW,h5⟩ FE;have t4:=t5.ro (p:=.sl _ _ _ _) (aN _ (aN _ (aN _ hm))) rfl rfl ⟨EW,h4⟩ FE
 have t3:=t4.ro (p:=.sl _ _ _ _) (aN _ (aN _ (aN _ (aN _ hm)))) rfl rfl ⟨EW,h3⟩ FE;have t2:=t3.ro (p:=.sl _ _ _ _) (aN _ (aN _ (aN _ (aN _ (aN _ hm))))) rfl rfl ⟨EW,h2⟩ FE
 have t1:=t2.ro (p:=.sl _ _ _ _) (aN _ (aN _ (aN _ (aN _ (aN _ (aN _ hm)))))) rfl rfl ⟨EW,h1⟩ FE;exact (h a1 c1 G1 a2 c2 G2 a3 c3 G3 a4 c4 G4 a5 c5 G5 a6 c6 G6 a7 c7 G7 rfl  l1 l2 l3 l4 l5 l6 l7).h a w t1 g
theorem E5 (x:Dt) {a1:aj} {c1:Nat} {F1:aq} {a2:aj} {c2:Nat} {F2:aq} {a3:aj} {c3:Nat} {F3:aq} {a4:aj} {c4:Nat} {F4:aq} {a5:aj} {c5:Nat} {F5:aq} {a6:aj} {c6:Nat} {F6:aq} {a7:aj} {c7:Nat} {F7:aq}  (h:T c fr (.isv Oi (.agg #[ab a1 x.Ap.Ad.length c1,aa x.Ab.Aa.Am,aa x.Ab.Aa.size,ab a2 x.Ab.Aa.Ak.length c2,aa x.Ab.Ai,aa x.Ab.quiet,ab a3 x.Ab.holds.length c3,ab a4 x.Af.length c4,ab a5 x.Ac.length c5,ab a6 x.down.length c6,ab a7 x.up.length c7]) x (F1++F2++F3++F4++F5++F6++F7)::H) Φ) (m1:.sl Bb (ab a1 x.Ap.Ad.length c1) x.Ap.Ad F1∈H:=by exact Bn) (m2:.sl A8 (ab a2 x.Ab.Aa.Ak.length c2) x.Ab.Aa.Ak F2∈H:=by exact Bn) (m3:.sl Bx (ab a3 x.Ab.holds.length c3) x.Ab.holds F3∈H:=by exact Bn) (m4:.sl Bv (ab a4 x.Af.length c4) x.Af F4∈H:=by exact Bn) (m5:.sl Bz (ab a5 x.Ac.length c5) x.Ac F5∈H:=by exact Bn) (m6:.sl (Oc Al EW) (ab a6 x.down.length c6) x.down F6∈H:=by exact Bn) (m7:.sl (Oc Al EW) (ab a7 x.up.length c7) x.up F7∈H:=by exact Bn):T c fr H Φ:=.mk fun a w s g=>by
 refine h.h a w (s.add (N:=[_]) (Below.refl _ _) (by intro q hq;obtain rfl:=aL.1 hq;exact ⟨_,rfl,_,_,_,_,_,_,_,_,_,_,_,_,_,_,rfl,(s.get m1).2,(s.get m2).2,(s.get m3).2,(s.get m4).2,(s.get m5).2,(s.get m6).2,(s.get m7).2,rfl⟩) ⟨EX,trivial⟩ fun q hq b hb=>?_) g;obtain rfl:=aL.1 hq;simp only [Pc.F,aJ] at hb;rcases hb with (((((hb|hb)|hb)|hb)|hb)|hb)|hb
 ·exact .inr ⟨rfl,_,m1,rfl,hb⟩
 ·exact .inr ⟨rfl,_,m2,rfl,hb⟩
 ·exact .inr ⟨rfl,_,m3,rfl,hb⟩
 ·exact .inr ⟨rfl,_,m4,rfl,hb⟩
 ·exact .inr ⟨rfl,_,m5,rfl,hb⟩
 ·exact .inr ⟨rfl,_,m6,rfl,hb⟩
 ·exact .inr ⟨rfl,_,m7,rfl,hb⟩
theorem Xw {v:Value} {x:Dt} {F:aq} {S:List Pc} (h:∀(a1:aj) (c1:Nat) (F1:aq) (a2:aj) (c2:Nat) (F2:aq) (a3:aj) (c3:Nat) (F3:aq) (a4:aj) (c4:Nat) (F4:aq) (a5:aj) (c5:Nat) (F5:aq) (a6:aj) (c6:Nat) (F6:aq) (a7:aj) (c7:Nat) (F7:aq),v=.agg #[ab a1 x.Ap.Ad.length c1,aa x.Ab.Aa.Am,aa x.Ab.Aa.size,ab a2 x.Ab.Aa.Ak.length c2,aa x.Ab.Ai,aa x.Ab.quiet,ab a3 x.Ab.holds.length c3,ab a4 x.Af.length c4,ab a5 x.Ac.length c5,ab a6 x.down.length c6,ab a7 x.up.length c7]->x.Ap.Ad.length<=maxLen->x.Ab.Aa.Ak.length<=maxLen->x.Ab.holds.length<=maxLen->x.Af.length<=maxLen->x.Ac.length<=maxLen->x.down.length<=maxLen->x.up.length<=maxLen->T c fr (.ow Bb 3 (ab a1 x.Ap.Ad.length c1) x.Ap.Ad F1::.ow A8 9 (ab a2 x.Ab.Aa.Ak.length c2) x.Ab.Aa.Ak F2::.ow Bx 191 (ab a3 x.Ab.holds.length c3) x.Ab.holds F3::.ow Ch 122 (ab a4 x.Af.length c4) x.Af F4::.ow B9 76 (ab a5 x.Ac.length c5) x.Ac F5::.ow (Kl Al 141) 125 (ab a6 x.down.length c6) x.down F6::.ow (Kl Al 141) 125 (ab a7 x.up.length c7) x.up F7::S) Φ) (hp:C2 H (.own Ab5 v x F) S:=by exact Dr):T c fr H Φ:=.mk fun a w s g=>by
 obtain ⟨hn,cs,rfl,v1,v2,v3,v4,v5,v6,v7,G1,G2,G3,G4,G5,G6,G7,rfl,h1,h2,h3,h4,h5,h6,h7,rfl⟩:=(s.pick hp).on (.own Ab5 v x F) EX;obtain ⟨a1,c1,rfl⟩:=h1.slice;have l1:=h1.len;obtain ⟨a2,c2,rfl⟩:=h2.slice;have l2:=h2.len;obtain ⟨a3,c3,rfl⟩:=h3.slice;have l3:=h3.len;obtain ⟨a4,c4,rfl⟩:=h4.slice;have l4:=h4.len;obtain ⟨a5,c5,rfl⟩:=h5.slice;have l5:=h5.len;obtain ⟨a6,c6,rfl⟩:=h6.slice;have l6:=h6.len;obtain ⟨a7,c7,rfl⟩:=h7.slice;have l7:=h7.len
 exact (h a1 c1 G1 a2 c2 G2 a3 c3 G3 a4 c4 G4 a5 c5 G5 a6 c6 G6 a7 c7 G7 rfl  l1 l2 l3 l4 l5 l6 l7).h a w (s.mer (M:=[.own Ab5 _ x _]) (N:=[.ow Bb _ _ _ G1,.ow A8 _ _ _ G2,.ow Bx _ _ _ G3,.ow Ch _ _ _ G4,.ow B9 _ _ _ G5,.ow (Kl Al 141) _ _ _ G6,.ow (Kl Al 141) _ _ _ G7]) (.cons hp .nil) (fun _ _=>⟨Xk ⟨(Tg (Tg (Tg (Tg (Tg (Tg hn)))))),h1⟩ (Xk ⟨Anj (Tg (Tg (Tg (Tg (Tg hn))))),h2⟩ (Xk ⟨Anj (Tg (Tg (Tg (Tg hn)))),h3⟩ (Xk ⟨Anj (Tg (Tg (Tg hn))),h4⟩ (Xk ⟨Anj (Tg (Tg hn)),h5⟩ (Xk ⟨Anj (Tg hn),h6⟩ (Xk ⟨Anj hn,h7⟩ (Axf))))))),FZ⟩) GK) g
theorem Qd (x:Dt) {a1:aj} {c1:Nat} {F1:aq} {a2:aj} {c2:Nat} {F2:aq} {a3:aj} {c3:Nat} {F3:aq} {a4:aj} {c4:Nat} {F4:aq} {a5:aj} {c5:Nat} {F5:aq} {a6:aj} {c6:Nat} {F6:aq} {a7:aj} {c7:Nat} {F7:aq} {S1 S2 S3 S4 S5 S6 S7:List Pc}  (h:T c fr (.own Ab5 (.agg #[ab a1 x.Ap.Ad.length c1,aa x.Ab.Aa.Am,aa x.Ab.Aa.size,ab a2 x.Ab.Aa.Ak.length c2,aa x.Ab.Ai,aa x.Ab.quiet,ab a3 x.Ab.holds.length c3,ab a4 x.Af.length c4,ab a5 x.Ac.length c5,ab a6 x.down.length c6,ab a7 x.up.length c7]) x (F1++F2++F3++F4++F5++F6++F7)::S7) Φ) (m1:C2 H (.ow Bb 3 (ab a1 x.Ap.Ad.length c1) x.Ap.Ad F1) S1:=by exact Dr) (m2:C2 S1 (.ow A8 9 (ab a2 x.Ab.Aa.Ak.length c2) x.Ab.Aa.Ak F2) S2:=by exact Dr) (m3:C2 S2 (.ow Bx 191 (ab a3 x.Ab.holds.length c3) x.Ab.holds F3) S3:=by exact Dr) (m4:C2 S3 (.ow Ch 122 (ab a4 x.Af.length c4) x.Af F4) S4:=by exact Dr) (m5:C2 S4 (.ow B9 76 (ab a5 x.Ac.length c5) x.Ac F5) S5:=by exact Dr) (m6:C2 S5 (.ow (Kl Al 141) 125 (ab a6 x.down.length c6) x.down F6) S6:=by exact Dr) (m7:C2 S6 (.ow (Kl Al 141) 125 (ab a7 x.up.length c7) x.up F7) S7:=by exact Dr)  : T c fr H Φ:=.mk fun a w s g =>
 h.h a w (s.mer (M:=[.ow Bb _ _ _ F1,.ow A8 _ _ _ F2,.ow Bx _ _ _ F3,.ow Ch _ _ _ F4,.ow B9 _ _ _ F5,.ow (Kl Al 141) _ _ _ F6,.ow (Kl Al 141) _ _ _ F7]) (N:=[.own Ab5 _ x (F1++F2++F3++F4++F5++F6++F7)]) (.cons m1 (.cons m2 (.cons m3 (.cons m4 (.cons m5 (.cons m6 (.cons m7 (.nil)))))))) (fun hk hn=>⟨I4 ⟨FZ,_,rfl,_,_,_,_,_,_,_,_,_,_,_,_,_,_,rfl,(P6 hk).2,(P6 (Hn hk)).2,(P6 (Hn (Hn hk))).2,(P6 (Hn (Hn (Hn hk)))).2,(P6 (Hn (Hn (Hn (Hn hk))))).2,(P6 (Hn (Hn (Hn (Hn (Hn hk)))))).2,(P6 (Hn (Hn (Hn (Hn (Hn (Hn hk))))))).2,rfl⟩,FZ⟩) GK) g
end
section
variable {c:Cx} {fr:Fr} {H:List Pc} {Φ:Gl}
theorem Mf {α:Type} {E:Bw α} {hz:0 < E.sz} {a:aj} {n cp:Nat} {xs:List (List α)} {F:aq} (i:Nat) (h:∀(hi:i < xs.length) (b o:Nat) (a1:aj) (c1:Nat) (F1:aq),a=some ⟨b,o,none⟩->xs[i].length<=maxLen->T c fr (.cel b (o+i * 1) [.slice a1 xs[i].length c1]::.sl E (.slice a1 xs[i].length c1) xs[i] F1::H) Φ) (hm:.sl (Oc E hz) (ab a n cp) xs F∈H:=by exact Bn) (hi:i < xs.length:=by omega):T c fr H Φ:=.mk fun ac w s g=>by
 obtain ⟨b,o,cs,G,ha,hrep,hG,hb,hne,hr⟩:=Wp (s.get hm) i hi;obtain ⟨v1,rfl,h1⟩:=hrep;obtain ⟨a1,c1,rfl⟩:=h1.slice;have l1:=h1.len;have t1:=s.ro (p:=.sl E (.slice a1 xs[i].length c1) xs[i] G) hm rfl rfl ⟨hz,h1⟩ HE;exact (h hi b o a1 c1 G ha l1).h ac w (t1.ro (aN _ hm) rfl rfl ⟨hne,hr⟩ GC) g
theorem Yt {α:Type} {O:Bw α} {t:TypeId} {v:Value} {xs:List α} {F:aq} {S:List Pc} (h:∀(a1:aj) (c1:Nat),v=.agg #[ab a1 xs.length c1]->xs.length<=maxLen->T c fr (.ow O t (ab a1 xs.length c1) xs F::S) Φ) (hp:C2 H (.own (Kl O t) v xs F) S:=by exact Dr):T c fr H Φ:=.mk fun a w s g=>by
 have z1:=s.pick hp;obtain ⟨hn,cs,rfl,v1,rfl,h1⟩:=z1.on (.own (Kl O t) v xs F) EX;obtain ⟨a1,c1,rfl⟩:=h1.slice;have l1:=h1.len;exact (h a1 c1 rfl l1).h a w (z1.conv rfl ⟨hn,h1⟩ (fun b hb=>hb)) g
theorem Ko {α:Type} {O:Bw α} {t:TypeId} (xs:List α) {a1:aj} {c1:Nat} {F:aq} {S:List Pc} (h:T c fr (.own (Kl O t) (.agg #[ab a1 xs.length c1]) xs F::S) Φ) (hp:C2 H (.ow O t (ab a1 xs.length c1) xs F) S:=by exact Dr):T c fr H Φ:=.mk fun a w s g=>by
 have z1:=s.pick hp;obtain ⟨hn,h1⟩:=z1.on (.ow O t (ab a1 xs.length c1) xs F) EX;exact h.h a w (z1.conv rfl ⟨hn,_,rfl,_,rfl,h1⟩ (fun b hb=>hb)) g
end
theorem Bfl (v v2:Value) (x:Dt) (F F2:aq) (hs:∀q∈x.down++x.up,q.length<=1000000000):FV 41 [v,v2] [.isv Oi v x F,.isv Oi v2 x F2] (.bool true):=by
 refine enter func41 rfl ntmps41 fun w0=>?_;refine Fb (v:=v) (x:=x) (F:=F) ?_;rintro a1 c1 F1 a2 c2 G2 a3 c3 F3 a4 c4 F4 a5 c5 F5 a6 c6 F6 a7 c7 F7 rfl - - - l4 l5 l6 l7;refine En x.Ab (a1:=a2) ?_;refine Fb (v:=v2) (x:=x) (F:=F2) ?_;rintro b1 d1 H1 b2 d2 H2 b3 d3 H3 b4 d4 H4 b5 d5 H5 b6 d6 H6 b7 d7 H7 rfl - - - - - - -;refine En x.Ab (a1:=b2) (a2:=b3) ?_;unfold maxLen at l4 l5 l6 l7;refine go ?_;intros;refine Be (Alo _ _ x.Ap.Ad _ _) fun _ _=>?_;refine go ?_;refine Be (Avh _ _ x.Ab _ _) fun _ _=>?_;refine go ?_;refine Dc rfl rfl (fun h=>?_) (fun h=>?_)
 ·exact absurd rfl h
 refine go ?_;refine Dc rfl rfl (fun h=>?_) (fun h=>?_)
 ·exact absurd rfl h
 refine go ?_;refine Dc rfl rfl (fun h=>?_) (fun h=>?_)
 ·exact absurd rfl h
 refine go ?_;refine A1 rfl (fun h=>?_) (fun h=>?_)
 ·exact absurd rfl h
 refine go ?_;refine Dk [2,3,4] (fun k:Nat=>[(5,aa k)]) (fun k=>k<=x.Af.length) (fun k=>x.Af.length - k) 0 (aE _) fun k hk=>?_;refine go ?_;refine A1 rfl (fun h3=>?_) (fun h3=>?_)
 ·have hk3:k < x.Af.length:=EV
  refine N3 (a:=a4) (xs:=x.Af) k ?_;rintro hia ga oa ma da La ea -;rw [ea];refine Ex x.Af[k] ?_;refine N3 (a:=b4) (xs:=x.Af) k ?_;rintro hib gb ob mb db Lb eb -;rw [eb];refine Ex x.Af[k] ?_;refine Ih ?_;intros;refine Ar [1,4,6,7] [] ?_;refine C8 0 1 2 3 ?_;refine C8 4 5 6 7 ?_;refine Dg 8 9 ?_;refine dN 10 ?_;refine oC ?_;refine Be (Aq1 _ _ x.Af[k] _ _) fun _ _=>?_;refine dk ?_;refine dt 11 ?_;exact CU
 refine go ?_;refine Dk [2,3,4] (fun k:Nat=>[(6,aa k)]) (fun k=>k<=x.Ac.length) (fun k=>x.Ac.length - k) 0 (aE _) fun k hk=>?_;refine go ?_;refine A1 rfl (fun h3=>?_) (fun h3=>?_)
 ·have hk3:k < x.Ac.length:=EV
  refine Jc (a:=a5) (xs:=x.Ac) k ?_;rintro hia ga oa ma da La na fa Ma ea - -;rw [ea];refine Dy x.Ac[k] ?_;refine Jc (a:=b5) (xs:=x.Ac) k ?_;rintro hib gb ob mb db Lb nb fb Mb eb - -;rw [eb];refine Dy x.Ac[k] ?_;refine Ih ?_;intros;refine Ar [1,5,8,9] [] ?_;refine C8 0 1 2 3 ?_;refine C8 4 5 6 7 ?_;refine Dg 8 9 ?_;refine dN 10 ?_;refine oC ?_;refine Be (Aom _ _ x.Ac[k] _ _) fun _ _=>?_;refine dk ?_;refine dt 11 ?_;exact CU
 refine go ?_;refine Dk [2,3,4] (fun k:Nat=>[(7,aa k)]) (fun k=>k<=x.down.length) (fun k=>x.down.length - k) 0 (aE _) fun k hk=>?_;refine go ?_;refine A1 rfl (fun h3=>?_) (fun h3=>?_)
 ·have hk3:k < x.down.length:=EV
  refine Mf (E:=Al) (hz:=EW) (a:=a6) (xs:=x.down) k ?_;rintro hia ga oa ma da La ea -;rw [ea];refine Mf (E:=Al) (hz:=EW) (a:=b6) (xs:=x.down) k ?_;rintro hib gb ob mb db Lb eb -;rw [eb];refine Ih ?_;intros;refine Ar [0,2,4,5] [] ?_;refine C8 0 1 2 3 ?_;refine C8 4 5 6 7 ?_;refine Dg 8 9 ?_;refine dN 10 ?_;refine oC ?_;refine Be (Ahn ma mb da db x.down[k] _ _ (hs _ (cA _ (aB hk3)))) fun _ _=>?_;refine dk ?_;refine dt 11 ?_;exact CU
 refine go ?_;refine Dk [2,3,4] (fun k:Nat=>[(8,aa k)]) (fun k=>k<=x.up.length) (fun k=>x.up.length - k) 0 (aE _) fun k hk=>?_;refine go ?_;refine A1 rfl (fun h3=>?_) (fun h3=>?_)
 ·have hk3:k < x.up.length:=EV
  refine Mf (E:=Al) (hz:=EW) (a:=a7) (xs:=x.up) k ?_;rintro hia ga oa ma da La ea -;rw [ea];refine Mf (E:=Al) (hz:=EW) (a:=b7) (xs:=x.up) k ?_;rintro hib gb ob mb db Lb eb -;rw [eb];refine Ih ?_;intros;refine Ar [0,2,4,5] [] ?_;refine C8 0 1 2 3 ?_;refine C8 4 5 6 7 ?_;refine Dg 8 9 ?_;refine dN 10 ?_;refine oC ?_;refine Be (Ahn ma mb da db x.up[k] _ _ (hs _ (eJ _ (aB hk3)))) fun _ _=>?_;refine dk ?_;refine dt 11 ?_;exact CU
 exact AA
structure Cu where
 Bt:Dt
 Im:Log
def Dw:Bw Cu where
 sz:=14
 Kz w cs x F:=∃v1 v2 v3 v4 v5 v6 v7 F1 F2 F3 F4 F5 F6 F7,cs=[v1,aa x.Bt.Ab.Aa.Am,aa x.Bt.Ab.Aa.size,v2,aa x.Bt.Ab.Ai,aa x.Bt.Ab.quiet,v3,v4,v5,v6,v7,af x.Im.Bj,af x.Im.pending,aa x.Im.count]/\x.Im.Bj.size<=maxLen/\x.Im.pending.size<=maxLen/\Sl Bb w v1 x.Bt.Ap.Ad F1/\Sl A8 w v2 x.Bt.Ab.Aa.Ak F2/\Sl Bx w v3 x.Bt.Ab.holds F3/\Sl Bv w v4 x.Bt.Af F4/\Sl Bz w v5 x.Bt.Ac F5/\Sl (Oc Al EW) w v6 x.Bt.down F6/\Sl (Oc Al EW) w v7 x.Bt.up F7/\F=F1++F2++F3++F4++F5++F6++F7
 len h:=IN
 lt h:=by
  obtain ⟨v1,v2,v3,v4,v5,v6,v7,F1,F2,F3,F4,F5,F6,F7,rfl,s1,s2,h1,h2,h3,h4,h5,h6,h7,rfl⟩:=h;intro b hb;simp only [aJ] at hb;rcases hb with (((((hb|hb)|hb)|hb)|hb)|hb)|hb
  ·exact h1.lt EW b hb
  ·exact h2.lt EW b hb
  ·exact h3.lt EW b hb
  ·exact h4.lt EW b hb
  ·exact h5.lt EW b hb
  ·exact h6.lt EW b hb
  ·exact h7.lt EW b hb
 frame h hF:=FI
theorem Ak3:One Dw:=fun h u hu=>by
 obtain ⟨v1,v2,v3,v4,v5,v6,v7,F1,F2,F3,F4,F5,F6,F7,rfl,s1,s2,h1,h2,h3,h4,h5,h6,h7,rfl⟩:=h;simp only [aG,aT,bl] at hu;rcases hu with rfl|rfl|rfl|rfl|rfl|rfl|rfl|rfl|rfl|rfl|rfl|rfl|rfl|rfl
 ·exact h1.one
 ·rfl
 ·rfl
 ·exact h2.one
 ·rfl
 ·rfl
 ·exact h3.one
 ·exact h4.one
 ·exact h5.one
 ·exact h6.one
 ·exact h7.one
 ·rfl
 ·rfl
 ·rfl
def Wy:Bw Cu where
 sz:=14
 Kz w cs x F:=∃v1 v2 v3 v4 v5 v6 v7 F1 F2 F3 F4 F5 F6 F7,cs=[v1,aa x.Bt.Ab.Aa.Am,aa x.Bt.Ab.Aa.size,v2,aa x.Bt.Ab.Ai,aa x.Bt.Ab.quiet,v3,v4,v5,v6,v7,af x.Im.Bj,af x.Im.pending,aa x.Im.count]/\x.Im.Bj.size<=maxLen/\x.Im.pending.size<=maxLen/\Ow Bb 3 w v1 x.Bt.Ap.Ad F1/\Ow A8 9 w v2 x.Bt.Ab.Aa.Ak F2/\Ow Bx 191 w v3 x.Bt.Ab.holds F3/\Ow Ch 122 w v4 x.Bt.Af F4/\Ow B9 76 w v5 x.Bt.Ac F5/\Ow (Kl Al 141) 125 w v6 x.Bt.down F6/\Ow (Kl Al 141) 125 w v7 x.Bt.up F7/\F=F1++F2++F3++F4++F5++F6++F7
 len h:=IN
 lt h:=by
  obtain ⟨v1,v2,v3,v4,v5,v6,v7,F1,F2,F3,F4,F5,F6,F7,rfl,s1,s2,h1,h2,h3,h4,h5,h6,h7,rfl⟩:=h;intro b hb;simp only [aJ] at hb;rcases hb with (((((hb|hb)|hb)|hb)|hb)|hb)|hb
  ·exact h1.lt b hb
  ·exact h2.lt b hb
  ·exact h3.lt b hb
  ·exact h4.lt b hb
  ·exact h5.lt b hb
  ·exact h6.lt b hb
  ·exact h7.lt b hb
 frame h hF:=FI
theorem Abx:Mu Wy Dw:=⟨rfl,fun h=>by
 obtain ⟨v1,v2,v3,v4,v5,v6,v7,F1,F2,F3,F4,F5,F6,F7,rfl,s1,s2,h1,h2,h3,h4,h5,h6,h7,rfl⟩:=h;obtain ⟨G1,g1,k1⟩:=h1.sl (Mu.refl _);obtain ⟨G2,g2,k2⟩:=h2.sl (Mu.refl _);obtain ⟨G3,g3,k3⟩:=h3.sl (Mu.refl _);obtain ⟨G4,g4,k4⟩:=h4.sl Kh;obtain ⟨G5,g5,k5⟩:=h5.sl Qy;obtain ⟨G6,g6,k6⟩:=h6.sl (P2 (Mu.refl _) EW _);obtain ⟨G7,g7,k7⟩:=h7.sl (P2 (Mu.refl _) EW _);refine ⟨G1++G2++G3++G4++G5++G6++G7,?_,v1,v2,v3,v4,v5,v6,v7,G1,G2,G3,G4,G5,G6,G7,rfl,s1,s2,k1,k2,k3,k4,k5,k6,k7,rfl⟩;intro b hb;simp only [aJ] at hb ⊢;rcases hb with (((((hb|hb)|hb)|hb)|hb)|hb)|hb
 ·simp [g1 b hb]
 ·simp [g2 b hb]
 ·simp [g3 b hb]
 ·simp [g4 b hb]
 ·simp [g5 b hb]
 ·simp [g6 b hb]
 ·simp [g7 b hb]⟩
-- markConsole: a nested struct with several slices is not written here
section
variable {c:Cx} {fr:Fr} {H:List Pc} {Φ:Gl}
theorem Cc {v:Value} {x:Cu} {F:aq} (h:∀(a1:aj) (c1:Nat) (F1:aq) (a2:aj) (c2:Nat) (F2:aq) (a3:aj) (c3:Nat) (F3:aq) (a4:aj) (c4:Nat) (F4:aq) (a5:aj) (c5:Nat) (F5:aq) (a6:aj) (c6:Nat) (F6:aq) (a7:aj) (c7:Nat) (F7:aq),v=.agg #[ab a1 x.Bt.Ap.Ad.length c1,aa x.Bt.Ab.Aa.Am,aa x.Bt.Ab.Aa.size,ab a2 x.Bt.Ab.Aa.Ak.length c2,aa x.Bt.Ab.Ai,aa x.Bt.Ab.quiet,ab a3 x.Bt.Ab.holds.length c3,ab a4 x.Bt.Af.length c4,ab a5 x.Bt.Ac.length c5,ab a6 x.Bt.down.length c6,ab a7 x.Bt.up.length c7,af x.Im.Bj,af x.Im.pending,aa x.Im.count]->x.Im.Bj.size<=maxLen->x.Im.pending.size<=maxLen->x.Bt.Ap.Ad.length<=maxLen->x.Bt.Ab.Aa.Ak.length<=maxLen->x.Bt.Ab.holds.length<=maxLen->x.Bt.Af.length<=maxLen->x.Bt.Ac.length<=maxLen->x.Bt.down.length<=maxLen->x.Bt.up.length<=maxLen->T c fr (.sl Bb (ab a1 x.Bt.Ap.Ad.length c1) x.Bt.Ap.Ad F1::.sl A8 (ab a2 x.Bt.Ab.Aa.Ak.length c2) x.Bt.Ab.Aa.Ak F2::.sl Bx (ab a3 x.Bt.Ab.holds.length c3) x.Bt.Ab.holds F3::.sl Bv (ab a4 x.Bt.Af.length c4) x.Bt.Af F4::.sl Bz (ab a5 x.Bt.Ac.length c5) x.Bt.Ac F5::.sl (Oc Al EW) (ab a6 x.Bt.down.length c6) x.Bt.down F6::.sl (Oc Al EW) (ab a7 x.Bt.up.length c7) x.Bt.up F7::H) Φ) (hm:.isv Dw v x F∈H:=by exact Bn):T c fr H Φ:=.mk fun a w s g=>by
 obtain ⟨cs,rfl,v1,v2,v3,v4,v5,v6,v7,G1,G2,G3,G4,G5,G6,G7,rfl,s1,s2,h1,h2,h3,h4,h5,h6,h7,rfl⟩:=s.get hm;obtain ⟨a1,c1,rfl⟩:=h1.slice;have l1:=h1.len;obtain ⟨a2,c2,rfl⟩:=h2.slice;have l2:=h2.len;obtain ⟨a3,c3,rfl⟩:=h3.slice;have l3:=h3.len;obtain ⟨a4,c4,rfl⟩:=h4.slice;have l4:=h4.len;obtain ⟨a5,c5,rfl⟩:=h5.slice;have l5:=h5.len;obtain ⟨a6,c6,rfl⟩:=h6.slice;have l6:=h6.len;obtain ⟨a7,c7,rfl⟩:=h7.slice;have l7:=h7.len;have t7:=s.ro (p:=.sl _ _ _ _) hm rfl rfl ⟨EW,h7⟩ FE
 have t6:=t7.ro (p:=.sl _ _ _ _) (aN _ hm) rfl rfl ⟨EW,h6⟩ FE;have t5:=t6.ro (p:=.sl _ _ _ _) (aN _ (aN _ hm)) rfl rfl ⟨EW,h5⟩ FE;have t4:=t5.ro (p:=.sl _ _ _ _) (aN _ (aN _ (aN _ hm))) rfl rfl ⟨EW,h4⟩ FE
 have t3:=t4.ro (p:=.sl _ _ _ _) (aN _ (aN _ (aN _ (aN _ hm)))) rfl rfl ⟨EW,h3⟩ FE;have t2:=t3.ro (p:=.sl _ _ _ _) (aN _ (aN _ (aN _ (aN _ (aN _ hm))))) rfl rfl ⟨EW,h2⟩ FE
 have t1:=t2.ro (p:=.sl _ _ _ _) (aN _ (aN _ (aN _ (aN _ (aN _ (aN _ hm)))))) rfl rfl ⟨EW,h1⟩ FE;exact (h a1 c1 G1 a2 c2 G2 a3 c3 G3 a4 c4 G4 a5 c5 G5 a6 c6 G6 a7 c7 G7 rfl s1 s2 l1 l2 l3 l4 l5 l6 l7).h a w t1 g
theorem Cp (x:Cu) {a1:aj} {c1:Nat} {F1:aq} {a2:aj} {c2:Nat} {F2:aq} {a3:aj} {c3:Nat} {F3:aq} {a4:aj} {c4:Nat} {F4:aq} {a5:aj} {c5:Nat} {F5:aq} {a6:aj} {c6:Nat} {F6:aq} {a7:aj} {c7:Nat} {F7:aq} (s1:x.Im.Bj.size<=maxLen) (s2:x.Im.pending.size<=maxLen) (h:T c fr (.isv Dw (.agg #[ab a1 x.Bt.Ap.Ad.length c1,aa x.Bt.Ab.Aa.Am,aa x.Bt.Ab.Aa.size,ab a2 x.Bt.Ab.Aa.Ak.length c2,aa x.Bt.Ab.Ai,aa x.Bt.Ab.quiet,ab a3 x.Bt.Ab.holds.length c3,ab a4 x.Bt.Af.length c4,ab a5 x.Bt.Ac.length c5,ab a6 x.Bt.down.length c6,ab a7 x.Bt.up.length c7,af x.Im.Bj,af x.Im.pending,aa x.Im.count]) x (F1++F2++F3++F4++F5++F6++F7)::H) Φ) (m1:.sl Bb (ab a1 x.Bt.Ap.Ad.length c1) x.Bt.Ap.Ad F1∈H:=by exact Bn) (m2:.sl A8 (ab a2 x.Bt.Ab.Aa.Ak.length c2) x.Bt.Ab.Aa.Ak F2∈H:=by exact Bn) (m3:.sl Bx (ab a3 x.Bt.Ab.holds.length c3) x.Bt.Ab.holds F3∈H:=by exact Bn) (m4:.sl Bv (ab a4 x.Bt.Af.length c4) x.Bt.Af F4∈H:=by exact Bn) (m5:.sl Bz (ab a5 x.Bt.Ac.length c5) x.Bt.Ac F5∈H:=by exact Bn) (m6:.sl (Oc Al EW) (ab a6 x.Bt.down.length c6) x.Bt.down F6∈H:=by exact Bn) (m7:.sl (Oc Al EW) (ab a7 x.Bt.up.length c7) x.Bt.up F7∈H:=by exact Bn):T c fr H Φ:=.mk fun a w s g=>by
 refine h.h a w (s.add (N:=[_]) (Below.refl _ _) (by intro q hq;obtain rfl:=aL.1 hq;exact ⟨_,rfl,_,_,_,_,_,_,_,_,_,_,_,_,_,_,rfl,s1,s2,(s.get m1).2,(s.get m2).2,(s.get m3).2,(s.get m4).2,(s.get m5).2,(s.get m6).2,(s.get m7).2,rfl⟩) ⟨EX,trivial⟩ fun q hq b hb=>?_) g;obtain rfl:=aL.1 hq;simp only [Pc.F,aJ] at hb;rcases hb with (((((hb|hb)|hb)|hb)|hb)|hb)|hb
 ·exact .inr ⟨rfl,_,m1,rfl,hb⟩
 ·exact .inr ⟨rfl,_,m2,rfl,hb⟩
 ·exact .inr ⟨rfl,_,m3,rfl,hb⟩
 ·exact .inr ⟨rfl,_,m4,rfl,hb⟩
 ·exact .inr ⟨rfl,_,m5,rfl,hb⟩
 ·exact .inr ⟨rfl,_,m6,rfl,hb⟩
 ·exact .inr ⟨rfl,_,m7,rfl,hb⟩
theorem Qu (x:Cu) {a1:aj} {c1:Nat} {F1:aq} {a2:aj} {c2:Nat} {F2:aq} {a3:aj} {c3:Nat} {F3:aq} {a4:aj} {c4:Nat} {F4:aq} {a5:aj} {c5:Nat} {F5:aq} {a6:aj} {c6:Nat} {F6:aq} {a7:aj} {c7:Nat} {F7:aq} {S1 S2 S3 S4 S5 S6 S7:List Pc} (s1:x.Im.Bj.size<=maxLen) (s2:x.Im.pending.size<=maxLen) (h:T c fr (.own Wy (.agg #[ab a1 x.Bt.Ap.Ad.length c1,aa x.Bt.Ab.Aa.Am,aa x.Bt.Ab.Aa.size,ab a2 x.Bt.Ab.Aa.Ak.length c2,aa x.Bt.Ab.Ai,aa x.Bt.Ab.quiet,ab a3 x.Bt.Ab.holds.length c3,ab a4 x.Bt.Af.length c4,ab a5 x.Bt.Ac.length c5,ab a6 x.Bt.down.length c6,ab a7 x.Bt.up.length c7,af x.Im.Bj,af x.Im.pending,aa x.Im.count]) x (F1++F2++F3++F4++F5++F6++F7)::S7) Φ) (m1:C2 H (.ow Bb 3 (ab a1 x.Bt.Ap.Ad.length c1) x.Bt.Ap.Ad F1) S1:=by exact Dr) (m2:C2 S1 (.ow A8 9 (ab a2 x.Bt.Ab.Aa.Ak.length c2) x.Bt.Ab.Aa.Ak F2) S2:=by exact Dr) (m3:C2 S2 (.ow Bx 191 (ab a3 x.Bt.Ab.holds.length c3) x.Bt.Ab.holds F3) S3:=by exact Dr) (m4:C2 S3 (.ow Ch 122 (ab a4 x.Bt.Af.length c4) x.Bt.Af F4) S4:=by exact Dr) (m5:C2 S4 (.ow B9 76 (ab a5 x.Bt.Ac.length c5) x.Bt.Ac F5) S5:=by exact Dr) (m6:C2 S5 (.ow (Kl Al 141) 125 (ab a6 x.Bt.down.length c6) x.Bt.down F6) S6:=by exact Dr) (m7:C2 S6 (.ow (Kl Al 141) 125 (ab a7 x.Bt.up.length c7) x.Bt.up F7) S7:=by exact Dr)  : T c fr H Φ:=.mk fun a w s g =>
 h.h a w (s.mer (M:=[.ow Bb _ _ _ F1,.ow A8 _ _ _ F2,.ow Bx _ _ _ F3,.ow Ch _ _ _ F4,.ow B9 _ _ _ F5,.ow (Kl Al 141) _ _ _ F6,.ow (Kl Al 141) _ _ _ F7]) (N:=[.own Wy _ x (F1++F2++F3++F4++F5++F6++F7)]) (.cons m1 (.cons m2 (.cons m3 (.cons m4 (.cons m5 (.cons m6 (.cons m7 (.nil)))))))) (fun hk hn=>⟨I4 ⟨FZ,_,rfl,_,_,_,_,_,_,_,_,_,_,_,_,_,_,rfl,s1,s2,(P6 hk).2,(P6 (Hn hk)).2,(P6 (Hn (Hn hk))).2,(P6 (Hn (Hn (Hn hk)))).2,(P6 (Hn (Hn (Hn (Hn hk))))).2,(P6 (Hn (Hn (Hn (Hn (Hn hk)))))).2,(P6 (Hn (Hn (Hn (Hn (Hn (Hn hk))))))).2,rfl⟩,FZ⟩) GK) g
end
theorem Ahm (v v2:Value) (x:Cu) (F F2:aq) (hs:∀q∈x.Bt.down++x.Bt.up,q.length<=1000000000):FV 15 [v,v2] [.isv Dw v x F,.isv Dw v2 x F2] (.bool true):=by
 refine enter func15 rfl ntmps15 fun w0=>?_;refine Cc (x:=x) (v:=v) ?_;rintro b1 d1 G1 b2 d2 G2 b3 d3 G3 b4 d4 G4 b5 d5 G5 b6 d6 G6 b7 d7 G7 rfl - - - - - - - - -;refine E5 x.Bt (a1:=b1) (c1:=d1) (a2:=b2) (c2:=d2) (a3:=b3) (c3:=d3) (a4:=b4) (c4:=d4) (a5:=b5) (c5:=d5) (a6:=b6) (c6:=d6) (a7:=b7) (c7:=d7) ?_;refine Cc (x:=x) (v:=v2) ?_;rintro e1 f1 K1 e2 f2 K2 e3 f3 K3 e4 f4 K4 e5 f5 K5 e6 f6 K6 e7 f7 K7 rfl - - - - - - - - -;refine E5 x.Bt (a1:=e1) (c1:=f1) (a2:=e2) (c2:=f2) (a3:=e3) (c3:=f3) (a4:=e4) (c4:=f4) (a5:=e5) (c5:=f5) (a6:=e6) (c6:=f6) (a7:=e7) (c7:=f7) ?_;refine go ?_;intros
 refine Be (Bfl _ _ x.Bt _ _ hs) fun _ _=>?_;refine go ?_;apply wO;apply oc;rfl;exact Asc (a:=x.Im) (b:=x.Im) rfl rfl;rw [show Apk x.Im x.Im=true from Afv.2 rfl];exact AA
abbrev Bs:=List UInt8
def Ec (b:UInt8) (l:Bs):Bs:=l.takeWhile (· != b)
def Mh (b:UInt8) (l:Bs):Bs:=(l.dropWhile (· != b)).drop 1
theorem Ae6 {b:UInt8} {x r:Bs} (h:∀c∈x,c≠b):Ec b (x++b::r)=x:=by
 unfold Ec;rw [eY FF];simp
theorem Asb {b:UInt8} {x:Bs} (h:∀c∈x,c≠b):Ec b x=x:=by
 have:=eY (p:=(· != b)) (l₁:=x) (l₂:=[]) FF;simpa [Ec] using this
theorem Aid {b:UInt8} {x r:Bs} (h:∀c∈x,c≠b):Mh b (x++b::r)=r:=by
 unfold Mh;rw [ff FF];simp
theorem Aie {b:UInt8} {x:Bs} (h:∀c∈x,c≠b):Mh b x=[]:=by
 have:=ff (p:=(· != b)) (l₁:=x) (l₂:=[]) FF;simp only [bg,List.dropWhile_nil] at this;simp [Mh,this]
theorem Abu {b:UInt8} {l:Bs}:∀c∈Ec b l,c≠b:=by
 unfold Ec
 induction l with
 | nil=>simp
 | cons d l ih =>
  intro c hc;rw [gx] at hc
  split at hc
  ·rename_i h;rcases aG.1 hc with rfl|hc
   ·simpa using h
   ·exact ih c hc
  ·simp at hc
theorem Oy (b:UInt8) (l:Bs):(b∈l/\l=Ec b l++b::Mh b l)\/(b ∉ l/\Ec b l=l/\Mh b l=[]):=by
 by_cases h:b∈l
 ·left;refine ⟨h,?_⟩;unfold Ec Mh
  induction l with
  | nil=>cases h
  | cons c l ih =>
   by_cases hc:c=b
   ·subst hc;simp
   ·have hm:b∈l:=by
     rcases aG.1 h with e|e
     ·exact absurd e.symm hc
     ·exact e
    simp only [gx,eV,bne_iff_ne,ne_eq,hc,not_false_eq_true,if_true,cg];rw [<-ih hm]
 ·right;exact ⟨h,Asb fun c hc e=>h (e▸hc),Aie fun c hc e=>h (e▸hc)⟩
def D7:Bs->List Bs
 | []=>[]
 | b::r=>if b == 10 then [10]::D7 r else match D7 r with
  | []=>[[b]]
  | x::xs=>(b::x)::xs
theorem R6:∀l:Bs,(D7 l).flatten=l
 | []=>rfl
 | b::r=>by
  have ih:=R6 r;unfold D7
  split
  ·rename_i h;simp at h;subst h;simp [ih]
  ·cases h:D7 r with
   | nil=>rw [h] at ih;simp at ih;subst ih;simp
   | cons x xs=>rw [h] at ih;simp at ih;simp [ih]
theorem Tf:∀{x:Bs} (r:Bs),(∀c∈x,c≠10)->D7 (x++10::r)=(x++[10])::D7 r
 | [],r,_=>by simp [D7]
 | b::x,r,h=>by
  have ih:=Tf (x:=x) r fun c hc=>h c JA;have hb:(b == 10)=false:=by simpa using h b EX
  simp only [cg,D7,hb,ih];simp
theorem Vr:∀{x:Bs},x≠[]->(∀c∈x,c≠10)->D7 x=[x]
 | [b],_,h=>by
  have hb:(b == 10)=false:=by simpa using h b EX
  simp [D7,hb]
 | b::c::x,_,h=>by
  have ih:=Vr (x:=c::x) EX fun c hc=>h c JA;have hb:(b == 10)=false:=by simpa using h b EX
  rw [D7,hb,ih];simp
theorem Vs:∀{l:Bs} {x:Bs},x∈D7 l->x≠[]
 | b::r,x,h=>by
  unfold D7 at h
  split at h
  ·rcases aG.1 h with rfl|h
   ·simp
   ·exact Vs h
  ·cases h2:D7 r with
   | nil=>rw [h2] at h;simp at h;simp [h]
   | cons y ys =>
    rw [h2] at h;rcases aG.1 h with rfl|h
    ·simp
    ·exact Vs (l:=r) (by rw [h2];simp [h])
def Whole (x:Bs):Prop:=∃y,x=y++[10]/\∀c∈y,c≠10
theorem Xt:∀{xs:List Bs} (r:Bs),(∀x∈xs,Whole x)->D7 (xs.flatten++r)=xs++D7 r
 | [],_,_=>rfl
 | x::xs,r,h=>by
  obtain ⟨y,rfl,hy⟩:=h x EX;have ih:=Xt (xs:=xs) r fun z hz=>h z IS;simp only [ci,aM,cg,aZ];rw [Tf _ hy,ih]
theorem Pb:∀(u:Nat) (c:UInt8),c∈Lib.decDigits u->48<=c.toNat/\c.toNat<=57:=by
 intro u
 induction u using Nat.strongRecOn with
 | ind u ih =>
  intro c hc;rw [Lib.decDigits] at hc;have hd:∀d:Nat,d < 10->48<=(UInt8.ofNat (48+d)).toNat/\(UInt8.ofNat (48+d)).toNat<=57:=fun d hd=>by
   rw [UInt8.toNat_ofNat'];omega
  split at hc
  ·simp only [aL] at hc;subst hc;exact hd _ EV
  ·rcases aJ.1 hc with h|h
   ·exact ih _ EV c h
   ·simp only [aL] at h;subst h;exact hd _ EV
theorem Ami {u:Nat} {b:UInt8} (hb:b.toNat < 48\/57 < b.toNat):∀c∈Lib.decDigits u,c≠b:=fun c hc e=>by
 have:=Pb u c hc;subst e;omega
theorem D8:∀(n u:Nat),u < 10 ^ (n+1)->(Lib.decDigits u).length<=n+1
 | 0,u,h=>by rw [Lib.decDigits,ef FF];simp
 | n+1,u,h=>by
  rw [Lib.decDigits]
  split
  ·simp
  ·have:=D8 n (u / 10) (by rw [ed] at h;omega);simp;omega
theorem Yj (u:Nat):1<=(Lib.decDigits u).length:=by
 rw [Lib.decDigits];split <;> simp
def Abq (h:Nat) (c:UInt8):Nat:=(41 * h+c.toNat+1) % 999979
def Sf (l:Bs):Nat:=l.foldl Abq 7
theorem Abp (l:Bs):Sf l < 999979:=by
 have h:∀(l:Bs) (n:Nat),n < 999979->l.foldl Abq n < 999979:=by
  intro l
  induction l with
  | nil=>intro n hn;simpa using hn
  | cons c l ih=>intro n hn;rw [dU];exact ih _ (by unfold Abq;omega)
 exact h l 7 EV
theorem Avb (l:Bs) (c:UInt8):Sf (l++[c])=Abq (Sf l) c:=by simp [Sf]
def Oa (l:Bs):Bs:=l++35::Lib.decDigits (Sf l)
theorem Ac6 (l:Bs):(Oa l).length<=l.length+7:=by
 have:=D8 5 (Sf l) (by have:=Abp l;omega);simp [Oa];omega
def K0 (k:Nat) (c r:Bs):Bs:=Lib.decDigits k++32::(c++64::r)
def Ka (k:Nat) (c r:Bs):Bs:=Oa (K0 k c r)++[10]
def Adq (c r:Bs):Bool:=Ff 1 c.length 160 && decide ((r.length:Int)<=200) && Iy c && Iy r && !J4 64 c
theorem Adz {b:UInt8}:Pu b=true↔(32<=b.toNat/\b.toNat<=126)/\b≠35:=by
 simp [Pu,Ff];omega
theorem Ad0 {l:Bs} (h:Iy l=true):∀c∈l,(32<=c.toNat/\c.toNat<=126)/\c≠35:=fun c hc=>by
 unfold Iy at h;exact Adz.1 (aV.1 h c hc)
structure Wx (c r:Bs):Prop where
 c0:1<=c.length
 c1:c.length<=160
 r1:r.length<=200
 ct:∀b∈c,(32<=b.toNat/\b.toNat<=126)/\b≠35
 rt:∀b∈r,(32<=b.toNat/\b.toNat<=126)/\b≠35
 ca:∀b∈c,b≠64
theorem Iw {c r:Bs} (h:Adq c r=true):Wx c r:=by
 unfold Adq Ff at h;simp only [aw,aF,bu] at h;obtain ⟨⟨⟨⟨⟨h1,h2⟩,h3⟩,h4⟩,h5⟩,h6⟩:=h;refine ⟨EV,EV,EV,Ad0 h4,Ad0 h5,fun b hb e=>?_⟩;unfold J4 at h6;have:=cB.1 h6 b hb;simp [e] at this
theorem Ad2 {a b:UInt8} (h:a.toNat≠b.toNat):a≠b:=fun e=>h (by rw [e])
theorem Sm {k:Nat} {c r:Bs} (h:Wx c r):∀b∈K0 k c r,(32<=b.toNat/\b.toNat<=126)/\b≠35:=by
 intro b hb;unfold K0 at hb;simp only [aJ,aG] at hb;rcases hb with hb|rfl|hb|rfl|hb
 ·have:=Pb k b hb;exact ⟨EV,Ad2 FB⟩
 ·decide
 ·exact h.ct b hb
 ·decide
 ·exact h.rt b hb
theorem Anb {k:Nat} {c r:Bs} (h:Wx c r):Whole (Ka k c r):=by
 refine ⟨Oa (K0 k c r),rfl,fun b hb=>?_⟩;unfold Oa at hb;simp only [aJ,aG] at hb;rcases hb with hb|rfl|hb
 ·have:=Sm h b hb;exact Ad2 FB
 ·decide
 ·exact Ami EX b hb
theorem Ab9 {k:Nat} {c r:Bs} (hk:k<=59) (h:Wx c r):(K0 k c r).length<=364:=by
 have:=D8 1 k EV;have:=h.c1;have:=h.r1;simp [K0];omega
theorem Acy {k:Nat} {c r:Bs} (hk:k<=59) (h:Wx c r):(Ka k c r).length<=372:=by
 have:=Ab9 hk h;have:=Ac6 (K0 k c r);simp [Ka];omega
def Ael (k:Int) (c r:Bs):Option Bs:=if Ff 0 k 59 && Adq c r then some (Ka k.toNat c r) else none
theorem Asy {k:Int} {c r x:Bs} (h:Ael k c r=some x):(0<=k/\k<=59)/\Wx c r/\x=Ka k.toNat c r:=by
 unfold Ael at h
 split at h
 ·rename_i h2;simp only [aw,Ff,aF] at h2;exact ⟨h2.1,Iw h2.2,by simpa using h.symm⟩
 ·cases h
def Ahh (x:Bs):Bs:=Mh 32 (Ec 35 x)
def Aej (x:Bs):Bs:=Ec 64 (Ahh x)
def Aeq (x:Bs):Bs:=Mh 64 (Ahh x)
theorem Aj4 {k:Nat} {c r s:Bs} (h:Wx c r):Ahh (K0 k c r++35::s)=c++64::r:=by
 unfold Ahh;rw [Ae6 fun b hb=>(Sm h b hb).2];exact Aid (Ami EX)
theorem Ana (k:Nat) (c r:Bs):Ka k c r=K0 k c r++35::(Lib.decDigits (Sf (K0 k c r))++[10]):=by simp [Ka,Oa]
theorem Aau {k:Nat} {c r:Bs} (h:Wx c r):Aej (Ka k c r)=c:=by
 unfold Aej;rw [Ana,Aj4 h];exact Ae6 h.ca
theorem Abi {k:Nat} {c r:Bs} (h:Wx c r):Aeq (Ka k c r)=r:=by
 unfold Aeq;rw [Ana,Aj4 h];exact Aid h.ca
def Y3 (k:Nat) (x:Bs):Bool:=Ael k (Aej x) (Aeq x) == some x
theorem Tw {k:Nat} {x:Bs}:Y3 k x=true↔∃c r,k<=59/\Adq c r=true/\x=Ka k c r:=by
 unfold Y3;rw [eQ];constructor
 ·intro h;have h2:=Asy h;refine ⟨Aej x,Aeq x,EV,?_,by simpa using h2.2.2⟩;unfold Ael at h
  split at h
  ·rename_i h3;simp only [aw] at h3;exact h3.2
  ·cases h
 ·rintro ⟨c,r,hk,hg,rfl⟩;have hG:=Iw hg;rw [Aau hG,Abi hG];unfold Ael;rw [aH (by simp [hg,Ff];omega)];simp
theorem Ajj {k:Nat} {x:Bs} (h:Y3 k x=true):Whole x:=by
 obtain ⟨c,r,_,hg,rfl⟩:=Tw.1 h;exact Anb (Iw hg)
theorem Bb5 {k:Nat} {x:Bs} (h:Y3 k x=true):x.length<=372:=by
 obtain ⟨c,r,hk,hg,rfl⟩:=Tw.1 h;exact Acy hk (Iw hg)
def acc:Nat->List Bs->List Bs
 | _,[]=>[]
 | k,x::r=>if Y3 k x then x::acc (k+1) r else []
theorem Aq9:∀(k:Nat) (xs:List Bs),acc k xs <+: xs
 | _,[]=>List.prefix_rfl
 | k,x::r=>by
  unfold acc
  split
  ·exact (List.cons_prefix_cons).2 ⟨rfl,Aq9 (k+1) r⟩
  ·exact List.nil_prefix
theorem Akh:∀(k:Nat) (xs:List Bs),∀x∈acc k xs,∃j,Y3 j x=true
 | _,[],x,h=>by simp [acc] at h
 | k,y::r,x,h=>by
  unfold acc at h
  split at h
  ·rename_i hy;rcases aG.1 h with rfl|h
   ·exact ⟨k,hy⟩
   ·exact Akh (k+1) r x h
  ·cases h
theorem Aq8:∀(k:Nat) (xs:List Bs),k<=60->k+(acc k xs).length<=60
 | _,[],hk=>by simpa [acc] using hk
 | k,x::r,hk=>by
  unfold acc
  split
  ·rename_i h;obtain ⟨c,r',h2,_⟩:=Tw.1 h;have:=Aq8 (k+1) r EV;simp;omega
  ·simpa using hk
theorem Awc (k:Nat) (xs:List Bs):(acc k xs).flatten.length<=372 * (acc k xs).length:=by
 have h:=Akh k xs;revert h;generalize acc k xs=ys;intro h
 induction ys with
 | nil=>simp
 | cons y ys ih =>
  obtain ⟨j,hj⟩:=h y EX;have h1:=Bb5 hj;have h2:=ih fun x hx=>h x IA;simp only [ci,aA,aU];omega
theorem Aq7:∀(k:Nat) (xs:List Bs) (m:Nat),acc k ((acc k xs).take m)=(acc k xs).take m
 | _,[],m=>by simp [acc]
 | k,x::r,m=>by
  by_cases h:Y3 k x=true
  ·have e:acc k (x::r)=x::acc (k+1) r:=by simp [acc,h]
   rw [e];cases m with
   | zero=>simp [acc]
   | succ m=>simp [acc,h,Aq7 (k+1) r m]
  ·simp [acc,h]
theorem Vc:∀(k:Nat) (xs ys:List Bs),acc k xs=xs->acc k (xs++ys)=xs++acc (k+xs.length) ys
 | _,[],_,_=>by simp
 | k,x::r,ys,h=>by
  unfold acc at h
  split at h
  ·rename_i hx;have h2:=Vc (k+1) r ys FF;simp only [cg,acc,hx,if_true,h2,aU];rw [show k+1+r.length=k+(r.length+1) by omega]
  ·cases h
def Bm (s:Bs):List Bs:=acc 0 (D7 s)
theorem Xy {s:Bs} (h:(Bm s).flatten.length=s.length):Bm s=D7 s:=by
 obtain ⟨t,ht⟩:=Aq9 0 (D7 s);have h2:=R6 s;rw [<-ht,cY] at h2;have h3:t.flatten=[]:=by
  have:=congrArg List.length h2;rw [aA] at this;have h4:(acc 0 (D7 s)).flatten.length=s.length:=h;exact bE EV
 have h4:t=[]:=by
  cases t with
  | nil=>rfl
  | cons x t =>
   have:=Vs (l:=s) (x:=x) (by rw [<-ht];simp);simp at h3;exact absurd h3.1 this
 unfold Bm;rw [h4] at ht;simpa using ht
theorem U1 {s:Bs} (h:(Bm s).flatten.length=s.length):(Bm s).flatten=s:=by rw [Xy h,R6]
theorem Lq (s:Bs):(Bm s).flatten.length<=22320/\(Bm s).length<=60:=by
 have h1:=Awc 0 (D7 s);have h2:=Aq8 0 (D7 s) EV;unfold Bm;omega
theorem Sa {xs:List Bs} (h:acc 0 xs=xs) (r:Bs):Bm (xs.flatten++r)=xs++acc xs.length (D7 r):=by
 unfold Bm;rw [Xt r (fun x hx=>by rw [<-h] at hx;obtain ⟨j,hj⟩:=Akh 0 _ x hx;exact Ajj hj),Vc 0 xs _ h];simp
def Lc:Nat->List Bs->aq
 | n,[]=>[n]
 | n,x::r=>n::Lc (n+x.length) r
theorem Ain {m:Nat}:∀{n:Nat} {xs:List Bs},m∈Lc n xs↔∃j,j<=xs.length/\m=n+(xs.take j).flatten.length
 | n,[]=>by simp [Lc]
 | n,x::r=>by
  unfold Lc;rw [aG,Ain];constructor
  ·rintro (rfl|⟨j,hj,rfl⟩)
   ·exact ⟨0,EX,EX⟩
   ·exact ⟨j+1,HZ,FB⟩
  ·rintro ⟨j,hj,rfl⟩;cases j with
   | zero=>left;simp
   | succ j=>right;exact ⟨j,HZ,FB⟩
theorem Zx:∀{n:Nat} {xs:List Bs},(Lc n xs).getLast?=some (n+xs.flatten.length)
 | n,[]=>by simp [Lc]
 | n,x::r=>by
  have ih:=Zx (n:=n+x.length) (xs:=r);unfold Lc;rw [List.getLast?_cons];rw [ih];simp;omega
theorem Sn:∀{n:Nat} {xs:List Bs},(Lc n xs).length=xs.length+1
 | n,[]=>rfl
 | n,x::r=>by simp [Lc,Sn]
theorem Aft:∀{n:Nat} {xs:List Bs} {x:Bs},Lc n (xs++[x])=Lc n xs++[n+xs.flatten.length+x.length]
 | n,[],x=>by simp [Lc]
 | n,y::r,x=>by
  have:=Aft (n:=n+y.length) (xs:=r) (x:=x);simp only [cg,Lc,this];simp;omega
def Aq2 (d p:Bs) (n:Int):Bool:=decide ((Bm (d++p)).flatten.length=d.length+p.length) && (Lc 0 (Bm (d++p))).contains d.length && decide (n=(Bm (d++p)).length)
def Fs (d p:Bs) (n:Int):Bool:=decide (d.length+p.length<=30000) && (decide ((Bm (d++p)).flatten.length=d.length+p.length) && decide ((Bm d).flatten.length=d.length) && decide (((Bm (d++p)).length:Int)=n))
theorem Ah8 {d p:Bs} (h:(Bm (d++p)).flatten.length=d.length+p.length):d.length∈Lc 0 (Bm (d++p))↔(Bm d).flatten.length=d.length:=by
 rw [Ain];have hA:(Bm (d++p)).flatten=d++p:=U1 (by rw [h];simp);constructor
 ·rintro ⟨j,hj,e⟩;rw [cN] at e;have hd:((Bm (d++p)).take j).flatten=d:=by
   have h1:((Bm (d++p)).take j).flatten++((Bm (d++p)).drop j).flatten=d++p:=by rw [<-cY,bo,hA]
   exact (eK h1 e.symm).1
  have h2:=Sa (xs:=(Bm (d++p)).take j) (Aq7 0 _ j) [];rw [bg,hd] at h2;rw [h2];simp [D7,acc,hd]
 ·intro hd;have hf:=Xy hd;have hD:(Bm d).flatten=d:=U1 hd;have h2:=Sa (xs:=Bm d) (by rw [hf];exact hf) p;rw [hD] at h2;refine ⟨(Bm d).length,by rw [h2];simp,?_⟩;rw [h2];simp [hD]
theorem Az7 (d p:Bs) (n:Int):Aq2 d p n=Fs d p n:=by
 unfold Aq2 Fs;by_cases h:(Bm (d++p)).flatten.length=d.length+p.length
 ·have h1:=Lq (d++p);have h2:=Ah8 h;have h3:decide (d.length+p.length<=30000)=true:=FB
  have h4:(Lc 0 (Bm (d++p))).contains d.length=decide ((Bm d).flatten.length=d.length):=by
   rw [cC,fh,List.contains_iff_mem];exact h2
  rw [h3,h4];have h5:decide (n=((Bm (d++p)).length:Int))=decide (((Bm (d++p)).length:Int)=n):=by
   rw [cC];simp [eq_comm]
  rw [h5];cases decide ((Bm d).flatten.length=d.length) <;> simp [h]
 ·rw [ay h];simp
def Hk (k:Nat):Bs:=Lib.decDigits k++[32]
def Ti (s:Bs) (k:Nat):(Bs × Bs) × Bool :=
 let text:=Ec 35 s
 if text.length < (Hk k).length\/text.take (Hk k).length≠Hk k then (([],[]),false)
 else
  let rest:=text.drop (Hk k).length
  if (Ec 64 rest).length=rest.length then (([],[]),false)
  else ((Ec 64 rest,rest.drop ((Ec 64 rest).length+1)),Adq (Ec 64 rest) (rest.drop ((Ec 64 rest).length+1)) && (Ka k (Ec 64 rest) (rest.drop ((Ec 64 rest).length+1)) == s++[10]))
theorem Anz {k:Nat} {s:Bs} (hk:k<=59):(Ti s k).2=Y3 k (s++[10]):=by
 rw [cC,Tw];constructor
 ·intro h;unfold Ti at h;dsimp only at h
  split at h
  ·cases h
  ·split at h
   ·cases h
   ·simp only [aw,eQ] at h;exact ⟨_,_,hk,h.1,h.2.symm⟩
 ·rintro ⟨c,r,_,hg,e⟩;have hG:=Iw hg;have e2:s=K0 k c r++35::Lib.decDigits (Sf (K0 k c r)):=by
   unfold Ka at e;exact (List.append_cancel_right e)
  have ht:Ec 35 s=K0 k c r:=by rw [e2];exact Ae6 fun b hb=>(Sm hG b hb).2
  have hb:K0 k c r=Hk k++(c++64::r):=by simp [K0,Hk]
  unfold Ti;simp only [ht,hb,aA,bS,dy,ne_eq,not_true_eq_false,bl];rw [aC EX,Ae6 hG.ca,aC EX];have hd:(c++64::r).drop (c.length+1)=r:=by
   rw [<-cw];simp
  simp only [hd,hg,bT];rw [e];simp
theorem Auw {k:Nat} {s:Bs} (h:(Ti s k).2=true):(Ti s k).1=(Aej (s++[10]),Aeq (s++[10])):=by
 unfold Ti at h ⊢;dsimp only at h ⊢
 split at h
 ·cases h
 ·rename_i h1;rw [aC h1]
  split at h
  ·cases h
  ·rename_i h2;rw [aC h2];simp only [aw,eQ] at h;have hG:=Iw h.1;rw [<-h.2,Aau hG,Abi hG]
def bz (l:Bs):au:=⟨l.toArray⟩
theorem Kd (l:Bs):(bz l).data.toList=l:=by simp [bz]
theorem Uj (s:au):bz s.data.toList=s:=by simp [bz]
theorem Jv (l:Bs):(bz l).size=l.length:=by simp [bz,ByteArray.size]
theorem C0 (s:au):s.data.toList.length=s.size:=by simp
theorem Bd7 (a b:Bs):bz a++bz b=bz (a++b):=by apply fq;simp [bz,di]
theorem Hh (s t:au):(s++t).data.toList=s.data.toList++t.data.toList:=by simp [di]
theorem Yu {a b:au} (h:a=b):Ending.returned (af a)=.returned (af b):=by rw [h]
theorem Zr (w:World) (k:Nat) (os:Array Obj):Below w.heap.size w (Go.Sort.grow (w.drewN k) os):=by
 refine ⟨rfl,rfl,rfl,?_,fun i hi=>?_⟩
 ·simp [Go.Sort.grow,World.drewN]
 ·simp [Go.Sort.grow,World.drewN,dK hi]
def Bhk:Bw Unit where
 sz:=0
 Kz w cs _ F:=cs=[]/\(Lib.TabIs prog w "internal/strconv.uint64pow10" .u64 Lib.pow10Tab/\(∃m,w.cell? ⟨0,0,none⟩=some (aa m))/\(∃tp p,w.var? prog "strconv.ErrSyntax" = some #[.iface tp p])/\(∃tp p,w.var? prog "strconv.ErrRange" = some #[.iface tp p]))/\F=[1,0,6,7]/\∀b∈F,b < w.heap.size
 len h:=JI
 lt h:=h.2.2.2
 frame h hF:=by
  obtain ⟨h1,⟨h2,h3,h4,h5⟩,rfl,h6⟩:=h;have e0:=hF 1 EX;have e1:=hF 0 EX;have e2:=hF 6 EX;have e3:=hF 7 EX;refine ⟨h1,⟨?_,?_,?_,?_⟩,rfl,fun b hb=>?_⟩
  ·unfold Lib.TabIs World.var? at h2 ⊢;rw [show prog.globalNamed "internal/strconv.uint64pow10" = some 1 by kernel_rfl] at h2 ⊢;simp only [de] at h2 ⊢;rw [e0];exact h2
  ·obtain ⟨m,hm⟩:=h3;refine ⟨m,?_⟩;unfold World.cell? at hm ⊢;rw [e1];exact hm
  ·obtain ⟨tp,p,hm⟩:=h4;refine ⟨tp,p,?_⟩;unfold World.var? at hm ⊢;rw [show prog.globalNamed "strconv.ErrSyntax" = some 6 by kernel_rfl] at hm ⊢;simp only [de] at hm ⊢;rw [e2];exact hm
  ·obtain ⟨tp,p,hm⟩:=h5;refine ⟨tp,p,?_⟩;unfold World.var? at hm ⊢;rw [show prog.globalNamed "strconv.ErrRange" = some 7 by kernel_rfl] at hm ⊢;simp only [de] at hm ⊢;rw [e3];exact hm
  ·have e:=hF b hb;have:=h6 b hb;rw [dR this] at e;exact (bG.1 e).1
theorem Aca:∀n:Nat,n < 10->(⟨#[48,49,50,51,52,53,54,55,56,57]⟩:au).extract n (n+1)=⟨#[UInt8.ofNat (48+n)]⟩:=by decide
theorem Vq:∀(k n:Nat) (w:World),n < 10 ^ (k+1)->n<=999999999999999999 ->
  Calls prog 33 #[aa (n:Int)] w fun e w'=>e=.returned (af (bz (Lib.decDigits n)))/\∃j,w'=w.drewN j:=by
 intro k
 induction k with
 | zero =>
  intro n w h1 h2;have h3:n < 10:=HR
  have hd:=Lib.hid (Aca n h3);have hn:¬((n:Int) < 0):=EV
  go_enter func33,ntmps33
  go_wp2_with fail
  go_ret
  refine ⟨Yu ?_,0,rfl⟩;rw [hd.out,Lib.decDigits,ef h3];rfl
 | succ k ih =>
  intro n w h1 h2;by_cases h3:n < 10
  ·have hd:=Lib.hid (Aca n h3);have hn:¬((n:Int) < 0):=EV
   go_enter func33,ntmps33
   go_wp2_with fail
   go_ret
   refine ⟨Yu ?_,0,rfl⟩;rw [hd.out,Lib.decDigits,ef h3];rfl
  ·have h4:n / 10 < 10 ^ (k+1):=by rw [ed] at h1;omega
   have hc:=fun w=>ih (n / 10) w h4 EV;rw [show ((n / 10:Nat):Int)=(n:Int) / 10 from by omega] at hc;have hn:¬((n:Int) < 0):=EV
   have h5:¬((n:Int) < 10):=EV
   have hd:=Lib.hid (Aca (n % 10) EV);have b0:(0:Int)<=(n:Int) % 10:=EV
   have b1:(n:Int) % 10<=9:=EV
   have e0:IntKind.i64.wrap ((n:Int) / 10)=(n:Int) / 10:=by rw [IntKind.wrap_i64];omega
   have e1:IntKind.i64.wrap ((n:Int) % 10)=(n:Int) % 10:=by rw [IntKind.wrap_i64];omega
   have e2:IntKind.i64.wrap ((n:Int) % 10+1)=(n:Int) % 10+1:=by rw [IntKind.wrap_i64];omega
   have e3:((n:Int) % 10).toNat=n % 10:=EV
   have e4:((n:Int) % 10+1).toNat=n % 10+1:=EV
   have e5:(n:Int).tmod 10=(n:Int) % 10:=fu EV;have e6:(n:Int).tdiv 10=(n:Int) / 10:=fv EV;have hsl:∀wx,(Instr.slice 9 (af ⟨#[48,49,50,51,52,53,54,55,56,57]⟩) (some (aa ((n:Int) % 10))) (some (aa ((n:Int) % 10+1))) none).run prog wx=.ok (af ⟨#[UInt8.ofNat (48+n % 10)]⟩) wx:=fun wx=>by
    have h6:=run_slice_string (P:=prog) wx 9 ⟨#[48,49,50,51,52,53,54,55,56,57]⟩ .i64 .i64 ((n:Int) % 10) ((n:Int) % 10+1) underlying9 EV EV (by show _<=((10:Nat):Int);omega);rw [h6,e3,e4,hd.out]
   have hD:(bz (Lib.decDigits (n / 10))).size<=18:=by rw [Jv];exact D8 17 _ EV
   have hd1:(⟨#[UInt8.ofNat (48+n % 10)]⟩:au).size<=1:=by simp [ByteArray.size]
   have hR:Hid (bz (Lib.decDigits (n / 10))++⟨#[UInt8.ofNat (48+n % 10)]⟩=bz (Lib.decDigits n)):=by
    refine Lib.hid ?_
    conv=>rhs;rw [Lib.decDigits,dif_neg EV,<-Bd7]
    rfl
   generalize bz (Lib.decDigits (n / 10))=D at *;generalize (⟨#[UInt8.ofNat (48+n % 10)]⟩:au)=d at *;clear ih h1 e3 e4
   go_enter func33,ntmps33
   go_wp2_with fail
   go_quiet ((go_at_call 33;exact Calls.quiet_of (v:=af D) (hc (World.drewN _ _))))
   go_wp2_with fail
   go_ret
   refine ⟨Yu ?_,_,rfl⟩;exact hR.out
def Gk (FT:aq):Pc:=.isv Bhk (.agg #[]) () FT
theorem Gk.env {w:World} {FT:aq} (h:(Gk FT).P w):Lib.TabIs prog w "internal/strconv.uint64pow10" .u64 Lib.pow10Tab/\(∃m,w.cell? ⟨0,0,none⟩=some (aa m))/\(∃tp p,w.var? prog "strconv.ErrSyntax" = some #[.iface tp p])/\(∃tp p,w.var? prog "strconv.ErrRange" = some #[.iface tp p]):=by
 obtain ⟨cs,_,h⟩:=h;exact h.2.1
theorem Z3 (n:Int) (h0:-9223372036854775808<=n) (h1:n<=9223372036854775807) (FT:aq) (w:World) (hT:(Gk FT).P w) :
  Calls prog 29 #[aa n] w (RB (af (bz (Lib.itoa n))) w):=by
 refine (Tryz.strconv_Itoa n h0 h1 w (Gk.env hT).1).mono ?_;rintro e w' ⟨rfl,k,os,rfl⟩;exact ⟨rfl,Zr w k os⟩
theorem Aiv {w:World}:∀{l:ai},(∀s∈l,s.size<=maxLen)->Cw A8 w (l.map Value.string) l []
 | [],_=>⟨rfl,rfl⟩
 | s::l,h=>⟨[.string s],l.map Value.string,[],[],EX,EX,⟨rfl,h s EX,rfl⟩,Aiv fun t ht=>h t (by simp [ht])⟩
theorem V1 (sep:au) (n:Nat):∀(k:Nat) (s:au),s.size<=n->∀t∈Lib.splitB sep 0 k s,t.size<=n
 | 0,s,h,t,ht=>by rw [Lib.splitB_zero,aL] at ht;subst ht;exact h
 | k+1,s,h,t,ht=>by
  unfold Lib.splitB at ht
  split at ht
  ·rw [aL] at ht;subst ht;exact h
  ·rcases aG.1 ht with rfl|ht
   ·simp [co];omega
   ·exact V1 sep n k _ (by simp [co];omega) t ht
theorem Bcv (s sep:au) (hs:s.size<=1000000000) (h1:1<=sep.size) (FT:aq) (w:World) (hT:(Gk FT).P w) :
  Calls prog 23 #[af s,af sep] w (W8 A8 9 (Lib.splitB sep 0 (Lib.countB s sep) s) w):=by
 obtain ⟨m,hm⟩:=(Gk.env hT).2.1;refine (Tryz.strings_Split s sep m w EV hm h1).mono ?_;rintro e w2 ⟨rfl,rfl⟩;have hl:=Lib.splitB_all sep h1 0 (Lib.countB s sep) s rfl;have hc:=Lib.countB_le sep h1 s.size s (aK _);have hb:Below w.heap.size w (w.alloc (.cells ((Lib.splitB sep 0 (Lib.countB s sep) s).map Value.string).toArray 9)):=Xa _ _
 refine ⟨_,[w.heap.size],rfl,.inr ⟨w.heap.size,Lib.countB s sep+1,(Lib.splitB sep 0 (Lib.countB s sep) s).map Value.string,[],[],by rw [hl],by rw [bg];exact If.made _ _ _,EV,FC,by simp [hl,A8],Aiv fun t ht=>?_,rfl⟩,EX,EX,hb⟩;have:=V1 sep s.size _ s (aK _) t ht;unfold maxLen;omega
theorem Bdo (n:Nat) (hn:n<=999999) (w:World):Calls prog 33 #[aa (n:Int)] w (RB (af (bz (Lib.decDigits n))) w):=by
 refine (Vq 5 n w EV EV).mono ?_;rintro e w2 ⟨rfl,j,rfl⟩;exact ⟨rfl,E4 (Below.refl _ _) j⟩
end Go.Proofs.YtkoldibamfjghaaGreatDoor
namespace Go.Proofs.YtkoldibamfjghaaGreatDoor.Lg
open Go.RowKit
theorem Ack (c:UInt8):∀l:List UInt8,decide (0<=Lib.indexByte l c)=J4 c l:=by
 intro l;have h1:∀l:List UInt8, -1<=Lib.indexByte l c:=by
  intro l
  induction l with
  | nil=>simp [Lib.indexByte]
  | cons b l ih=>simp only [Lib.indexByte];split <;> (try split) <;> omega
 have h2:∀l:List UInt8,(0<=Lib.indexByte l c)↔J4 c l=true:=by
  intro l
  induction l with
  | nil=>simp [Lib.indexByte,J4]
  | cons b l ih =>
   have h2:=h1 l;rw [show J4 c (b::l)=(b == c || J4 c l) from rfl,bW,<-ih];simp only [Lib.indexByte];by_cases hb:(b == c)=true
   ·simp [hb]
   ·rw [aC hb];simp only [hb]
    split
    ·rename_i h3;simp at h3;simp [h3]
    ·rename_i h3;simp at h3;omega
 rw [cC,fh];exact h2 l
theorem Afm (s:au) (c:UInt8) (w:World):Calls prog 108 #[af s,af ⟨#[c]⟩] w fun e w'=>e=.returned (.bool (J4 c s.data.toList))/\w=w' :=
 (Tryz.strings_Contains_one s c w).mono fun _ _ ⟨he,hw⟩=>⟨by rw [he,Ack],hw.symm⟩
def By (c r:au):Bool:=Ff 1 c.size 160 && decide ((r.size:Int)<=200) && Iy c.data.toList && Iy r.data.toList && !J4 64 c.data.toList
theorem Wj (c r:au) (w:World) (hc:c.size<=maxLen) (hr:r.size<=maxLen) :
  Calls prog 56 #[.agg #[af c,af r]] w (RB (.bool (By c r)) w):=by
 go_enter func56,ntmps56
 go_wp2_with (first
  | (go_at_call 106;refine (Hy _ _ _ _).mono ?_;rintro e w' ⟨rfl,rfl⟩)
  | (go_at_call 107;refine (Amx _ _ FM).mono ?_;rintro e w' ⟨rfl,rfl⟩)
  | (go_at_call 108;refine (Afm _ _ _).mono ?_;rintro e w' ⟨rfl,rfl⟩))
 all_goals go_ret
 all_goals refine ⟨Co ?_,(Below.refl _ _).alloc (aK _) _⟩
 all_goals simp [By, *]
 all_goals omega
theorem Apo (c r:au):By c r=(!c.data.toList.isEmpty && (Iy c.data.toList && decide ((c.size:Int)<=160)) && !J4 64 c.data.toList && (Iy r.data.toList && decide ((r.size:Int)<=200))):=by
 have h0:(!c.data.toList.isEmpty)=decide ((1:Int)<=c.size):=by
  have e:c.data.toList.length=c.size:=EX
  cases h:c.data.toList with
  | nil=>rw [h] at e;simp at e;simp [<-e]
  | cons b l=>rw [h] at e;simp at e;simp;omega
 rw [h0,By,Ff];cases decide ((1:Int)<=c.size) <;> cases decide ((c.size:Int)<=160) <;> cases decide ((r.size:Int)<=200) <;> cases Iy c.data.toList <;> cases Iy r.data.toList <;> simp
theorem Sq (c r:au) (w:World) (hc:c.size<=maxLen) (hr:r.size<=maxLen) :
  Calls prog 39 #[.agg #[af c,af r]] w (RB (.bool (By c r)) w):=by
 go_enter func39,ntmps39
 go_wp2_with (first
  | (go_at_call 67;refine (Ap0 _ _ _ FM).mono ?_;rintro e w' ⟨rfl,rfl⟩)
  | (go_at_call 68;refine (Apz _ 64 _ FM).mono ?_;rintro e w' ⟨rfl,rfl⟩))
 all_goals go_ret
 all_goals refine ⟨Co ?_,(Below.refl _ _).alloc (aK _) _⟩
 all_goals simp only [ByteArray.toList_eq] at *
 all_goals rw [Apo]
 ·have h:c.data.toList=[]:=FM
  simp [h]
 ·have h:J4 64 c.data.toList=true:=FM
  simp [h]
 ·have h1:¬c.data.toList=[]:=FM
  have h2:Iy c.data.toList=true/\(c.size:Int)<=160:=FM
  have h3:¬J4 64 c.data.toList=true:=FM
  simp [h2,h3, -List.isEmpty_iff,List.isEmpty_eq_false_iff.2 h1]
 ·have h2:¬(Iy c.data.toList=true/\(c.size:Int)<=160):=FM
  have h3:(Iy c.data.toList && decide ((c.size:Int)<=160))=false:=by
   rw [Bool.eq_false_iff];intro h;simp only [aw,fh] at h;exact h2 h
  rw [h3];simp
def bs (l:Bs):au:=⟨l.toArray⟩
theorem Jj (l:Bs):(bs l).data.toList=l:=by simp [bs]
theorem Adm (s:au):bs s.data.toList=s:=by simp [bs]
theorem Jk (l:Bs):(bs l).size=l.length:=by simp [bs,ByteArray.size]
theorem C0 (s:au):s.data.toList.length=s.size:=by simp
theorem Hh (s t:au):(s++t).data.toList=s.data.toList++t.data.toList:=by simp [di]
theorem Ab8 (s t:au):s++t=bs (s.data.toList++t.data.toList):=by rw [<-Hh,Adm]
theorem Yu {a b:au} (h:a=b):Ending.returned (af a)=.returned (af b):=by rw [h]
def Ab2:Bw Unit where
 sz:=0
 Kz w cs _ F:=cs=[]/\Lib.TabIs prog w "internal/strconv.uint64pow10" .u64 Lib.pow10Tab/\F=[1]/\1 < w.heap.size
 len h:=JI
 lt h:=by intro b hb;rw [h.2.2.1] at hb;simp at hb;rw [hb];exact h.2.2.2
 frame h hF:=by
  obtain ⟨h1,h2,rfl,h4⟩:=h;have e:=hF 1 EX;refine ⟨h1,?_,rfl,?_⟩
  ·unfold Lib.TabIs World.var? at h2 ⊢;rw [show prog.globalNamed "internal/strconv.uint64pow10" = some 1 by kernel_rfl] at h2 ⊢;simp only [de] at h2 ⊢;rw [e];exact h2
  ·rw [dR h4] at e;exact (bG.1 e).1
theorem Ab2.tab {w:World} {F:aq} (h:Ru Ab2 w (.agg #[]) () F):Lib.TabIs prog w "internal/strconv.uint64pow10" .u64 Lib.pow10Tab:=by
 obtain ⟨cs,_,h⟩:=h;exact h.2.1
theorem Zr (w:World) (k:Nat) (os:Array Obj):Below w.heap.size w (Go.Sort.grow (w.drewN k) os):=by
 refine ⟨rfl,rfl,rfl,?_,fun i hi=>?_⟩
 ·simp [Go.Sort.grow,World.drewN]
 ·simp [Go.Sort.grow,World.drewN,dK hi]
theorem Av3 (n:Nat) (hn:n<=9223372036854775807) (F:aq) (w:World) (hT:Ru Ab2 w (.agg #[]) () F) :
  Calls prog 29 #[aa (n:Int)] w (RB (af (bs (Lib.decDigits n))) w):=by
 refine (Tryz.strconv_Itoa (n:Int) EV EV w (Ab2.tab hT)).mono ?_;rintro e w' ⟨rfl,k,os,rfl⟩;refine ⟨Yu ?_,Zr w k os⟩;unfold bs;rw [show Lib.itoa (n:Int)=Lib.decDigits n from by unfold Lib.itoa;rw [aC EV];simp]
theorem Aj3 (l:Bs) (c:UInt8):((Sf (l++[c]):Nat):Int)=(41 * (Sf l:Int)+(c.toNat:Int)+1) % 999979:=by
 rw [Avb];unfold Abq;omega
theorem Ao9 (s:au) (w:World) (hs:s.size<=maxLen) :
  Calls prog 200 #[af s] w fun e w'=>e=.returned (aa (Sf s.data.toList))/\w=w':=by
 unfold maxLen at hs
 go_enter func200,ntmps200
 go_wp2
 go_loop [3,7] (fun h i=>∃k:Nat,k<=s.size/\i=aa k/\h=aa (Sf (s.data.toList.take k))) (fun _ i=>s.size - (intOf i).toNat)
 case atStart=>exact ⟨0,aE _,rfl,rfl⟩
 case round =>
  obtain ⟨k,hk,rfl,rfl⟩:=hrel;by_cases hlt:k < s.size
  ·have hb:(s[k].toNat:Int)<=255:=HX
   have hS:=Lib.hid (Aj3 (s.data.toList.take k) s[k]);rw [<-Aj5 s k hlt] at hS;have hl:=Abp (s.data.toList.take k);generalize Sf (s.data.toList.take k)=n at *
   go_wp2
   go_round
   case rel=>exact ⟨k+1,EV,HM,by rw [hS.out]⟩
   case measure=>simp [intOf];omega
  ·go_wp2
   go_ret
   exact ⟨Lt (by rw [Aog s k hlt]),rfl⟩
theorem Bbw (s:au) (w:World) (hs:s.size<=maxLen) :
  Calls prog 215 #[af s] w fun e w'=>e=.returned (aa (Sf s.data.toList))/\w=w':=by
 unfold maxLen at hs
 go_enter func215,ntmps215
 go_wp2
 go_loop [3,4] (fun h i=>∃k:Nat,k<=s.size/\i=aa k/\h=aa (Sf (s.data.toList.take k))) (fun _ i=>s.size - (intOf i).toNat)
 case atStart=>exact ⟨0,aE _,rfl,rfl⟩
 case round =>
  obtain ⟨k,hk,rfl,rfl⟩:=hrel;by_cases hlt:k < s.size
  ·have hb:(s[k].toNat:Int)<=255:=HX
   have hS:=Lib.hid (Aj3 (s.data.toList.take k) s[k]);rw [<-Aj5 s k hlt] at hS;have hl:=Abp (s.data.toList.take k);generalize Sf (s.data.toList.take k)=n at *
   go_wp2
   go_round
   case rel=>exact ⟨k+1,EV,HM,by rw [hS.out]⟩
   case measure=>simp [intOf];omega
  ·go_wp2
   go_ret
   exact ⟨Lt (by rw [Aog s k hlt]),rfl⟩
theorem Vq:∀(k n:Nat) (w:World),n < 10 ^ (k+1)->n<=999999999999999999 ->
  Calls prog 33 #[aa (n:Int)] w fun e w'=>e=.returned (af (bs (Lib.decDigits n)))/\∃j,w'=w.drewN j:=_root_.Go.Proofs.YtkoldibamfjghaaGreatDoor.Vq
theorem Axs (s:au) (w:World) (hs0:s.size<=4294967296) :
  Calls prog 126 #[af s] w fun e w'=>e=.returned (af (bs (Oa s.data.toList)))/\∃j,w'=w.drewN j:=by
 have hl:=Abp s.data.toList;have hn:=fun w=>Vq 5 (Sf s.data.toList) w EV EV;have hS:Hid (s++⟨#[35]⟩++bs (Lib.decDigits (Sf s.data.toList))=bs (Oa s.data.toList)):=by
  refine Lib.hid ?_;rw [Ab8,Hh,Jj];congr 1;simp [Oa]
 have hD:(bs (Lib.decDigits (Sf s.data.toList))).size<=6:=by rw [Jk];exact D8 5 _ EV
 generalize bs (Lib.decDigits (Sf s.data.toList))=D at *;have hs:s.size<=maxLen:=FC
 go_enter func126,ntmps126
 go_wp2_with (first
  | (go_at_call 215;refine (Bbw _ _ FM).mono ?_;rintro e w' ⟨rfl,rfl⟩)
  | (go_at_call 33;refine (hn _).mono ?_;rintro e w' ⟨rfl,j,rfl⟩))
 go_ret
 exact ⟨Yu hS.out,_,rfl⟩
theorem Pr (c:UInt8):∀l:Bs,(c∈l->Lib.indexByte l c=(Ec c l).length)/\(c ∉ l->Lib.indexByte l c=-1)
 | []=>by simp [Lib.indexByte]
 | b::l=>by
  obtain ⟨h1,h2⟩:=Pr c l;unfold Lib.indexByte Ec;by_cases hb:b=c
  ·subst hb;simp
  ·have hb':(b == c)=false:=IU
   rw [hb'];have hm:c∈b::l↔c∈l:=by
    rw [aG];exact ⟨fun h=>h.resolve_left (fun e=>hb e.symm),.inr⟩
   rw [hm];refine ⟨fun h=>?_,fun h=>?_⟩
   ·rw [h1 h];have:((Ec c l).length:Int)≠-1:=EV
    simp [Ec,hb] at this ⊢
   ·rw [h2 h];simp
theorem Abt (c:UInt8) (l:Bs):(Ec c l).length<=l.length:=by
 unfold Ec;exact (List.takeWhile_sublist _).length_le
theorem Asa {c:UInt8} {l:Bs} (h:c∈l):(Ec c l).length < l.length:=by
 rcases Oy c l with ⟨_,h2⟩|⟨h2,_⟩
 ·have:=congrArg List.length h2;simp at this;omega
 ·exact absurd h h2
def Qe (c:UInt8) (s:au):au:=bs (Ec c s.data.toList)
def Rj (c:UInt8) (s:au):au:=bs (Mh c s.data.toList)
theorem Arc {c:UInt8} {s:au} (h:c∈s.data.toList):s.extract 0 (Ec c s.data.toList).length=Qe c s/\s.extract ((Ec c s.data.toList).length+1) s.size=Rj c s:=by
 rcases Oy c s.data.toList with ⟨_,h2⟩|⟨h2,_⟩
 ·constructor
  ·rw [Lib.extract_eq];unfold Qe bs;congr 2;rw [du,gA];exact (congrArg (List.take _) h2).trans fV
  ·rw [Lib.extract_eq];unfold Rj bs;congr 2;rw [aW EX];refine (congrArg (List.drop _) h2).trans ?_;rw [<-cw,fg];rfl
 ·exact absurd h h2
theorem Aud (s:au) (c:UInt8) (w:World) (hs:s.size<=maxLen) :
  Calls prog 160 #[af s,af ⟨#[c]⟩] w fun e w'=>e=.returned (.tuple #[af (Qe c s),af (Rj c s),.bool (J4 c s.data.toList)])/\∃j,w'=w.drewN j:=by
 unfold maxLen at hs;have hi:=fun w=>Tryz.stringslite_Index_one s c w;by_cases h:c∈s.data.toList
 ·have hc:=Arc h;have hl:=Asa h;rw [C0] at hl;have hst:J4 c s.data.toList=true:=by unfold J4;rw [cG];exact ⟨c,h,EX⟩
  have hst:=Lib.hid hst;rw [(Pr c _).1 h] at hi;generalize (Ec c s.data.toList).length=n at *;have hc1:=Lib.hid hc.1;have hc2:=Lib.hid hc.2;clear hc
  go_enter func160,ntmps160
  go_wp2_with (go_at_call 179;refine (hi _).mono ?_;rintro e w' ⟨rfl,rfl⟩)
  go_quiet (fail)
  go_wp2_with fail;refine bodyPost_ret (v:=.tuple #[af (Qe c s),af (Rj c s),.bool true]) ?_ rfl ?_
  ·simp [results,results160,go_sem,hc1.out,hc2.out]
  ·exact ⟨by rw [hst.out],_,rfl⟩
 ·have hst:J4 c s.data.toList=false:=by unfold J4;rw [cB];intro x hx;simp;rintro rfl;exact h hx
  have h1:Qe c s=s:=by unfold Qe;rw [Asb (fun x hx e=>h (by rw [<-e];exact hx)),Adm]
  have h2:Rj c s=⟨#[]⟩:=by unfold Rj;rw [Aie (fun x hx e=>h (by rw [<-e];exact hx))];rfl
  rw [(Pr c _).2 h] at hi;replace hst:=Lib.hid hst;replace h1:=Lib.hid h1;replace h2:=Lib.hid h2
  go_enter func160,ntmps160
  go_wp2_with (go_at_call 179;refine (hi _).mono ?_;rintro e w' ⟨rfl,rfl⟩);refine bodyPost_ret (v:=.tuple #[af s,af ⟨#[]⟩,.bool false]) ?_ rfl ?_
  ·simp [results,results160,go_sem]
  ·exact ⟨by rw [hst.out,h1.out,h2.out],0,rfl⟩
theorem M8 (c r:au):By c r=Adq c.data.toList r.data.toList:=by
 unfold By Adq;rw [C0,C0]
theorem Ayx {a b:au} {x y:Bool} (h:a=b) (h2:x=y):Ending.returned (.tuple #[af a,.bool x])=.returned (.tuple #[af b,.bool y]):=by rw [h,h2]
theorem Avu (s:au) (c:UInt8) (w:World) (hs:s.size<=maxLen) :
  Calls prog 84 #[af s,af ⟨#[c]⟩] w fun e w'=>e=.returned (.tuple #[af (Qe c s),af (Rj c s),.bool (J4 c s.data.toList)])/\∃j,w'=w.drewN j:=by
 go_enter func84,ntmps84
 go_wp2_with (go_at_call 160;refine (Aud _ _ _ hs).mono ?_;rintro e w' ⟨rfl,j,rfl⟩);refine bodyPost_ret (v:=.tuple #[af (Qe c s),af (Rj c s),.bool (J4 c s.data.toList)]) ?_ rfl ⟨rfl,_,rfl⟩;simp [results,results84,go_sem]
theorem Se {s:au} {n:Nat} (h:s.data.toList.length<=n):s.size<=n:=by rwa [C0] at h
theorem Aak (s:au) (F:aq) (w:World) (hs0:s.size<=3000) (h35:∀b∈s.data.toList,b≠35) (hT:Ru Ab2 w (.agg #[]) () F) :
  Calls prog 117 #[af s] w (RB (.tuple #[af (bs (Oa s.data.toList)),.bool true]) w):=by
 have hl:=Abp s.data.toList;have hD:(bs (Lib.decDigits (Sf s.data.toList))).size<=6:=by rw [Jk];exact D8 5 _ EV
 have hS:Hid (s++⟨#[35]⟩++bs (Lib.decDigits (Sf s.data.toList))=bs (Oa s.data.toList)):=by
  refine Lib.hid ?_;rw [Ab8,Hh,Jj];congr 1;simp [Oa]
 have hI:=fun w F hT=>Av3 (Sf s.data.toList) EV F w hT;have hs:s.size<=maxLen:=FC
 have hst:J4 35 s.data.toList=false:=by unfold J4;rw [cB];intro x hx;simp;exact h35 x hx
 have hct:=fun w=>Afm s 35 w;rw [hst] at hct;generalize bs (Lib.decDigits (Sf s.data.toList))=D at *;clear hst h35
 go_enter func117,ntmps117
 go_wp2_with (first
  | (go_at_call 108;refine (hct _).mono ?_;rintro e w' ⟨rfl,rfl⟩)
  | (go_at_call 200;refine (Ao9 _ _ FM).mono ?_;rintro e w' ⟨rfl,rfl⟩)
  | (go_at_call 29;refine (hI _ _ hT).mono ?_;rintro e w' ⟨rfl,hb⟩))
 refine bodyPost_ret (v:=.tuple #[af (s++⟨#[35]⟩++D),.bool true]) ?_ rfl ⟨Ayx hS.out rfl,hb⟩;simp [results,results117,go_sem]
end Go.Proofs.YtkoldibamfjghaaGreatDoor.Lg
namespace Go.Proofs.YtkoldibamfjghaaGreatDoor
open Go.RowKit
structure Bga where
 Bgy:Int
 got:Int
 Bgz:Int
 Bid:Int
theorem Axg (b:UInt8) (r:Bs):∀x:Bs,(∀c∈x,c≠b)->Lib.index (x++b::r) [b]=x.length
 | [],_=>by simp [Lib.index]
 | c::x,h=>by
  have ih:=Axg b r x (fun d hd=>h d (by simp [hd]));have hc:¬b=c:=fun e=>h c EX e.symm;rw [cg,Lib.index,aC JA,ih,aC GL];simp
theorem Amh (l:Bs) (b:UInt8) (d:Nat) (hb:Lib.digitVal b=some d):∀acc n,Lib.decFrom acc l=some n->Lib.decFrom acc (l++[b])=some (n * 10+d):=by
 induction l with
 | nil=>intro acc n h;simp [Lib.decFrom] at h ⊢;subst h;rw [hb]
 | cons a l ih =>
  intro acc n h;simp only [cg,Lib.decFrom] at h ⊢;cases ha:Lib.digitVal a with
  | none=>rw [ha] at h;cases h
  | some x =>
   have h2:Lib.decFrom (acc * 10+x) l=some n:=by simpa [ha] using h
   exact ih _ _ h2
theorem Ako:∀d:Nat,d < 10->Lib.digitVal (UInt8.ofNat (48+d))=some d:=by decide
theorem Afn:∀(k u:Nat),u < 10 ^ (k+1)->Lib.decFrom 0 (Lib.decDigits u)=some u
 | 0,u,h=>by
  have h3:u < 10:=FF
  rw [Lib.decDigits,ef h3,Lib.decFrom,Ako u h3];simp [Lib.decFrom]
 | k+1,u,h=>by
  by_cases h3:u < 10
  ·rw [Lib.decDigits,ef h3,Lib.decFrom,Ako u h3];simp [Lib.decFrom]
  ·have ih:=Afn k (u / 10) (by rw [ed] at h;omega);rw [Lib.decDigits,dif_neg h3,Amh _ _ _ (Ako (u % 10) EV) _ _ ih]
   congr 1;omega
theorem Asr (u:Nat) (h:u < 10000000):Lib.atoiAll (Lib.decDigits u)=.ok (u:Int):=by
 have hl:=D8 6 u EV;have hp:=Yj u;rw [Lib.atoiAll_short _ EV];have:Lib.atoi (Lib.decDigits u)=some (u:Int):=by
  have hb:=Afn 6 u EV;cases hd:Lib.decDigits u with
  | nil=>rw [hd] at hp;simp at hp
  | cons b r =>
   have hm:=Pb u b (by rw [hd];simp);have h45:(45:UInt8).toNat=45:=rfl;have h43:(43:UInt8).toNat=43:=rfl;rw [Lib.atoi,aC (by simp;intro e;subst e;omega),aC (by simp;intro e;subst e;omega)];unfold Lib.decNat;rw [aC EX,<-hd,hb];rfl
 rw [this];rfl
def Ea (b:UInt8):Bs->List Bs
 | []=>[[]]
 | c::r=>if c == b then []::Ea b r else match Ea b r with
  | []=>[[c]]
  | x::xs=>(c::x)::xs
theorem Yw {b:UInt8}:∀{x:Bs} (r:Bs),(∀c∈x,c≠b)->Ea b (x++b::r)=x::Ea b r
 | [],r,_=>by simp [Ea]
 | c::x,r,h=>by
  have ih:=Yw (b:=b) (x:=x) r fun d hd=>h d (by simp [hd]);have hb:(c == b)=false:=by simpa using h c EX
  simp only [cg,Ea,hb,ih];simp
theorem U7 {b:UInt8}:∀{x:Bs},(∀c∈x,c≠b)->Ea b x=[x]
 | [],_=>rfl
 | c::x,h=>by
  have ih:=U7 (b:=b) (x:=x) fun d hd=>h d (by simp [hd]);have hb:(c == b)=false:=by simpa using h c EX
  simp only [Ea,hb,ih];simp
theorem Rg (b:UInt8) (l:Bs):∃r,Ea b l=Ec b l::r/\(r=[]↔b ∉ l):=by
 rcases Oy b l with ⟨h,h2⟩|⟨h,h2,_⟩
 ·refine ⟨Ea b (Mh b l),?_,?_⟩
  ·conv=>lhs;rw [h2]
   exact Yw _ Abu
  ·refine ⟨fun e=>?_,fun e=>absurd h e⟩;have:∀l:Bs,Ea b l≠[]:=by
    intro l;cases l with
    | nil=>simp [Ea]
    | cons c r =>
     unfold Ea
     split
     ·simp
     ·split <;> simp
   exact absurd e (this _)
 ·exact ⟨[],by rw [U7 fun c hc e=>h (by rw [<-e];exact hc),h2],JM⟩
theorem Apf {l:Bs} {f k:Nat} (hf:f<=k) (hk:k < l.length):l.drop f=(l.drop f).take (k - f)++l[k]::l.drop (k+1):=by
 have h1:(l.drop f).drop (k - f)=l.drop k:=by rw [cw];congr 1;omega
 conv=>lhs;rw [<-bo (k - f) (l.drop f),h1,bP hk]
theorem Avd {l:Bs} {f k:Nat} (hf:f<=k) (hk:k < l.length):(l.drop f).take (k+1 - f)=(l.drop f).take (k - f)++[l[k]]:=by
 rw [show k+1 - f=(k - f)+1 by omega,aR JQ]
 congr 2
 rw [dD];congr 1;omega
theorem Awl (s:au) (k:Nat) (h:k < s.size):s.data.toList[k]'FF=s[k]:=rfl
theorem Bgj (s:au) (f k:Nat):s.extract f k=bz ((s.data.toList.drop f).take (k - f)):=Lib.extract_eq s f k
theorem Yl (s:au) (f:Nat):s.extract f s.size=bz (s.data.toList.drop f):=by
 rw [Lib.extract_eq];unfold bz;rw [aW EX]
theorem Azf (b:UInt8):∀(l:Bs),Lib.splitB ⟨#[b]⟩ 0 (l.count b) (bz l)=(Ea b l).map bz:=by
 intro l
 induction hn:l.length using Nat.strongRecOn generalizing l with
 | ind n ih =>
  subst hn;rcases Oy b l with ⟨h,h2⟩|⟨h, -, -⟩
  ·obtain ⟨u,r,hm,e⟩:∃u r:Bs,(∀c∈u,c≠b)/\l=u++b::r:=⟨_,_,Abu,h2⟩;subst e;clear h h2;have hc0:u.count b=0:=List.count_eq_zero.2 fun hc=>hm b hc rfl;have hcnt:(u++b::r).count b=r.count b+1:=by rw [List.count_append,List.count_cons_self,hc0];omega
   have hi:Lib.indexB (bz (u++b::r)) ⟨#[b]⟩=(u.length:Int):=by
    unfold Lib.indexB;rw [Kd];exact Axg b r u hm
   have e1:(bz (u++b::r)).extract 0 (u.length+0)=bz u:=by
    rw [<-Uj (ByteArray.extract _ _ _),Lib.extract_from_zero,Kd,bN,fV]
   have e2:(bz (u++b::r)).extract (u.length+(⟨#[b]⟩:au).size) (bz (u++b::r)).size=bz r:=by
    rw [<-Uj (ByteArray.extract _ _ _)]
    congr 1
    rw [Lib.extract_data,Kd,Jv,show (⟨#[b]⟩:au).size=1 from rfl,show u++b::r=(u++[b])++r by simp,dy EX];exact aW FB
   rw [hcnt,Lib.splitB_hit _ _ _ _ _ hi,e1,e2,ih _ FB _ rfl,Yw _ hm];rfl
  ·have hc0:l.count b=0:=List.count_eq_zero.2 h;rw [hc0,Lib.splitB_zero,U7 fun c hc e=>h (by subst e;exact hc)];rfl
theorem Ahc (b:UInt8) (s:au):Lib.splitB ⟨#[b]⟩ 0 (Lib.countB s ⟨#[b]⟩) s=(Ea b s.data.toList).map bz:=by
 have h:=Azf b s.data.toList;rw [Uj] at h;rw [<-h]
 congr 1
 have:=Lib.count_one b s.data.toList;unfold Lib.countB;exact this
section
variable {P:Program} {n:Nat} {fr:Fr} {H:List Pc} {ty:TypeId} {x:Operand} {t t2:TypeId}
theorem Bf1 (hx:ev fr x=some .nilIface) (hu:P.underlying t=some (.interface (P.methodsAt t))):Yd P n fr H (.binOp .neq t x (.const .nilIface) t2) ty (.bool false):=.mk fun c w d pos Cd gd hA _=>by
 have e:binOp .neq t .nilIface .nilIface=(do pure (.bool (!(<-Op.equal t .nilIface .nilIface)))):=rfl;have eg:eqGuard .neq t x (.const .nilIface) .nilIface .nilIface=pure ():=by unfold eqGuard;simp
 have ec:c.eval (.const .nilIface)=.nilIface:=rfl;simp only [execOp,hA.ev hx,ec,eg,e,Sem.run_bind,Sem.run_pure,Result.andThen_ok,run_equal_nil_nil w t hu];rfl
theorem Baj {u:TypeId} {p:Value} (hx:ev fr x=some (.iface u p)) (hu:P.underlying t=some (.interface (P.methodsAt t))):Yd P n fr H (.binOp .neq t x (.const .nilIface) t2) ty (.bool true):=.mk fun c w d pos Cd gd hA _=>by
 have e:binOp .neq t (.iface u p) .nilIface=(do pure (.bool (!(<-Op.equal t (.iface u p) .nilIface)))):=rfl;have eg:eqGuard .neq t x (.const .nilIface) (.iface u p) .nilIface=pure ():=by unfold eqGuard;simp
 have ec:c.eval (.const .nilIface)=.nilIface:=rfl;simp only [execOp,hA.ev hx,ec,eg,e,Sem.run_bind,Sem.run_pure,Result.andThen_ok,run_equal_held_nil w t u p hu];rfl
end
section
variable {c:Cx} {fr:Fr} {H:List Pc} {d:Nat} {Φ:Gl}
theorem cx {f:Nat} {vs:am} (V:Value->Prop) (hc:∀w,St c.G c.D c.w0 H w->Calls c.P f vs.toArray w fun e w'=>∃v,V v/\e=.returned v/\Below w.heap.size w w') (h:∀v,V v->T c ((d,v)::fr) H Φ):Cl c fr H d f vs Φ :=
 Aat hc fun w e w' s ⟨v,hv,he,hB⟩=>⟨v,he,fun a g=>(h v hv).h a w' (s.below hB) g⟩
end
def C3 (s:au):Int × Bool:=match Lib.atoiAll s.data.toList with
 | .ok v=>if Ff (-999999) v 999999 && decide (bz (Lib.itoa v)=s) then (v,true) else (0,false)
 | _=>(0,false)
theorem Afe (s:au) (FT:aq) (hs:s.size<=1000000000):FV 186 [af s] [Gk FT] (.tuple #[aa (C3 s).1,.bool (C3 s).2]):=by
 have hu:prog.underlying 172=some (.interface (prog.methodsAt 172)):=EY
 refine enter func186 rfl ntmps186 fun w0=>?_;refine go ?_;have bad:(∀v,Lib.atoiAll s.data.toList≠.ok v)->C3 s=(0,false):=fun h=>by
  unfold C3;cases h2:Lib.atoiAll s.data.toList with
  | ok v=>exact absurd h2 (h v)
  | _=>rfl
 match h:Lib.atoiAll s.data.toList with
 | Lib.NumEnd.ok v =>
  obtain ⟨b0,b1⟩:=Lib.atoiAll_bounds h;refine cb (fun w st=>(Tryz.strconv_Atoi_ok s EV v h w).mono fun e w' hh=>⟨hh.1,?_⟩) ?_
  ·rcases hh.2 with rfl|⟨t,rfl⟩
   ·exact Below.refl _ _
   ·exact Lib.bytesWorld_below _ _ _
  refine go ?_;apply wO;apply oc;rfl;exact Bf1 rfl hu;refine go ?_;refine ce (fun w s=>Hy _ _ _ _) ?_;cases g1:Ff (-999999) v 999999
  ·refine go ?_;rw [show C3 s=(0,false) by unfold C3;rw [h];simp [g1]];exact BC
  refine go ?_;refine cb (fun w st=>Z3 v EV EV FT w (st.get (p:=Gk FT) EX)) ?_;refine go ?_;by_cases g2:bz (Lib.itoa v)=s
  ·rw [ay (by simpa using g2)];refine go ?_;rw [show C3 s=(v,true) by unfold C3;rw [h];simp [g1,g2]];exact BC
  ·rw [av g2];refine go ?_;rw [show C3 s=(0,false) by unfold C3;rw [h];simp [g2]];exact BC
 | Lib.NumEnd.syntax =>
  rw [bad JM];refine cx (fun v=>∃n u p,v=.tuple #[aa n,.iface u p]) (fun w st=>?_) ?_
  ·obtain ⟨tp,p,hv⟩:=(Gk.env (st.get (p:=Gk FT) EX)).2.2.1;refine (Tryz.strconv_Atoi_syntax_var s EV h tp p w hv).mono ?_;rintro e w' ⟨N,rfl, -, -,hB⟩;exact ⟨_,⟨_,_,_,rfl⟩,rfl,hB⟩
  rintro _ ⟨n,u,p,rfl⟩;refine go ?_;apply wO;apply oc;rfl;exact Baj rfl hu;exact AA
 | Lib.NumEnd.range =>
  rw [bad JM];refine cx (fun v=>∃n u p,v=.tuple #[aa n,.iface u p]) (fun w st=>?_) ?_
  ·obtain ⟨tp,p,hv⟩:=(Gk.env (st.get (p:=Gk FT) EX)).2.2.2;refine (Tryz.strconv_Atoi_range_var s EV h tp p w hv).mono ?_;rintro e w' ⟨N,rfl, -, -,hB⟩;exact ⟨_,⟨_,_,_,rfl⟩,rfl,hB⟩
  rintro _ ⟨n,u,p,rfl⟩;refine go ?_;apply wO;apply oc;rfl;exact Baj rfl hu;exact AA
theorem Aqi (u:Nat) (h:u<=999999):C3 (bz (Lib.decDigits u))=((u:Int),true):=by
 unfold C3;rw [Kd,Asr u EV];have e:Lib.itoa (u:Int)=Lib.decDigits u:=by unfold Lib.itoa;rw [aC EV];simp
 simp only [e];rw [show Ff (-999999) (u:Int) 999999=true by unfold Ff;rw [av EV,av EV];rfl];simp
def Apb (n:Int):Bs:=Lib.decDigits n.toNat
def atW (ws:List Bs) (i:Nat):Bs:=ws.getD i []
theorem Ba9 {n:Int} (h:n<=1000000):(Apb n).length<=7:=D8 6 _ EV
section
variable {c:Cx} {fr:Fr} {H:List Pc} {Φ:Gl}
end
theorem Axj {n:Int} (h:0<=n):Lib.itoa n=Apb n:=by unfold Lib.itoa Apb;rw [aC EV]
theorem Ax6 (n:Int) (h0:0<=n) (h1:n<=1000000) (w:World):Calls prog 33 #[aa n] w (RB (af (bz (Apb n))) w):=by
 obtain ⟨k,rfl⟩:∃k:Nat,n=k:=⟨n.toNat,EV⟩;refine (Vq 6 k w EV EV).mono ?_;rintro e w2 ⟨rfl,j,rfl⟩;exact ⟨rfl,E4 (Below.refl _ _) j⟩
structure Bgf where
 o:List Bs
 f:Nat
 k:Nat
 a:aj
 c:Nat
 F:aq
structure Bge (b:UInt8) (s:au) (z:Bgf):Prop where
 k:z.k<=s.size
 f:z.f<=z.k
 l:z.o.length<=z.f
 e:Ea b s.data.toList=z.o++Ea b (s.data.toList.drop z.f)
 n:∀x∈(s.data.toList.drop z.f).take (z.k - z.f),x≠b
theorem Ajc (s:au) (b:UInt8) (hs:s.size<=16777216):Fn prog 26 [af s,.int .u8 (b.toNat:Int)] [] [] (fun (_:aj × Nat × aq)=>True) (fun z=>.slice z.1 ((Ea b s.data.toList).map bz).length z.2.1) (fun z=>[.ow A8 9 (.slice z.1 ((Ea b s.data.toList).map bz).length z.2.1) ((Ea b s.data.toList).map bz) z.2.2]):=by
 refine enter func26 rfl ntmps26 fun w0=>?_;refine go ?_;intros;refine C1 A8 ?_;refine go ?_;refine Ca [0,1,4] (fun z:Bgf=>[(5,.slice z.a (z.o.map bz).length z.c),(6,aa (z.f:Nat)),(7,aa (z.k:Nat))]) (fun z=>[.ow A8 9 (.slice z.a (z.o.map bz).length z.c) (z.o.map bz) z.F]) (Bge b s) (fun z=>s.size - z.k) ⟨[],0,0,_,_,_⟩ ⟨aE _,aK _,aK _,rfl,EX⟩ fun z hz=>?_;obtain ⟨z1,z2,z3,z4,z5⟩:=hz;have hml:(z.o.map bz).length=z.o.length:=bf ..;refine go ?_;refine A1 rfl (fun h1=>?_) (fun h1=>?_)
 ·have hk:z.k < s.size:=EV
  have hkl:z.k < s.data.toList.length:=by rw [C0];exact hk
  refine go ?_;refine A1 rfl (fun h2=>?_) (fun h2=>?_)
  ·have hb:s[z.k]=b:=UInt8.toNat_inj.1 (by have:((s[z.k]).toNat:Int)=(b.toNat:Int):=h2;omega);have h3:=Apf (l:=s.data.toList) z2 hkl;rw [Awl s z.k hk,hb] at h3;have h4:Ea b (s.data.toList.drop z.f)=(s.data.toList.drop z.f).take (z.k - z.f)::Ea b (s.data.toList.drop (z.k+1)):=by rw [h3,Yw _ z5,<-h3]
   have hx:(s.extract z.f z.k).size<=maxLen:=by unfold maxLen;simp;omega
   refine Ih ?_;intros;apply wO;apply oc;rfl;exact Bf7 rfl rfl rfl EV EV EV;refine Ih ?_;intros;rw [show s.extract ((z.f:Nat):Int).toNat ((z.k:Nat):Int).toNat=s.extract z.f z.k from rfl];apply wO;refine Np (Agv hx) Dz fun a9 c9 F9=>?_;refine go ?_;have e9:z.o.map bz++[s.extract z.f z.k]=(z.o++[(s.data.toList.drop z.f).take (z.k - z.f)]).map bz:=by rw [bB,Bgj s z.f z.k];rfl
   rw [e9];refine Cb ⟨z.o++[(s.data.toList.drop z.f).take (z.k - z.f)],z.k+1,z.k+1,a9,c9,F9⟩ ⟨by show z.k+1<=s.size;omega,aK _,by show (z.o++[_]).length<=z.k+1;simp;omega,by show _=(z.o++[_])++Ea b (s.data.toList.drop (z.k+1));rw [z4,h4];simp,by show ∀x∈(s.data.toList.drop (z.k+1)).take (z.k+1 - (z.k+1)),x≠b;simp⟩ (by show s.size - (z.k+1) < s.size - z.k;omega)
  ·refine go ?_;refine Cb ⟨z.o,z.f,z.k+1,z.a,z.c,z.F⟩ ⟨by show z.k+1<=s.size;omega,by show z.f<=z.k+1;omega,z3,z4,by
    show ∀x∈(s.data.toList.drop z.f).take (z.k+1 - z.f),x≠b;rw [Avd z2 hkl,Awl s z.k hk];intro x hx;rcases aJ.1 hx with hx|hx
    ·exact z5 x hx
    ·rw [aL] at hx;subst hx;intro e;exact h2 (by show ((s[z.k]).toNat:Int)=(b.toNat:Int);rw [e])⟩ (by show s.size - (z.k+1) < s.size - z.k;omega)
 ·have hke:z.k=s.size:=EV
  have h4:Ea b s.data.toList=z.o++[s.data.toList.drop z.f]:=by
   rw [z4,U7];rw [aW FB] at z5;exact z5
  have hx:(s.extract z.f s.size).size<=maxLen:=by unfold maxLen;simp;omega
  refine Ih ?_;intros;apply wO;apply oc;rfl;exact We rfl rfl EV EV;refine Ih ?_;intros;rw [show s.extract ((z.f:Nat):Int).toNat s.size=s.extract z.f s.size from rfl];apply wO;refine Np (Agv hx) Dz fun a9 c9 F9=>?_;refine go ?_;have e9:z.o.map bz++[s.extract z.f s.size]=(Ea b s.data.toList).map bz:=by rw [h4,bB,Yl s z.f];rfl
  rw [e9];refine ret (a9,c9,F9) trivial rfl
end Go.Proofs.YtkoldibamfjghaaGreatDoor
namespace Go.Proofs.YtkoldibamfjghaaGreatDoor.Lg
open Go.RowKit
theorem Bei (s:au) (f k:Nat):s.extract f k=bs ((s.data.toList.drop f).take (k - f)):=Lib.extract_eq s f k
theorem Yl (s:au) (f:Nat):s.extract f s.size=bs (s.data.toList.drop f):=by
 rw [Lib.extract_eq];unfold bs;rw [aW EX]
theorem Acs (s:au) (c:UInt8) (w:World) (hs:s.size<=16777216) :
  Calls prog 26 #[af s,.int .u8 (c.toNat:Int)] w (W8 A8 9 ((Ea c s.data.toList).map bs) w) :=
 ((Ajc s c hs).made w (fun _ h=>by cases h) (fun _=>rfl)).mono fun e w1 ⟨z,_,he,hH,hn,hF,hB⟩=>⟨_,z.2.2,he,(hH _ (aL.2 rfl)).2,by simpa [fp,Pc.F] using hn,by simpa [fp,Pc.F] using hF,hB⟩
theorem Ama (k:Nat) (c r:au):bs (Lib.decDigits k)++⟨#[32]⟩++c++⟨#[64]⟩++r=bs (K0 k c.data.toList r.data.toList):=by
 rw [Ab8 (_++_) r,Hh,Hh,Hh,Jj];congr 1;simp [K0]
theorem Awj (l:Bs):bs l++⟨#[10]⟩=bs (l++[10]):=by rw [Ab8,Jj]
theorem Afl {P:Program} {f:FuncId} {a:Array Value} {w:World} {v:Value} (h:Calls P f a w fun e w1=>e=.returned v/\∃j,w1=w.drewN j):Calls P f a w (RB v w):=h.mono fun e w1 ⟨he,j,hj⟩=>⟨he,HU⟩
theorem sz1 (x:UInt8):(⟨#[x]⟩:au).size=1:=rfl
theorem Afs (k:Nat) (c r:au) (F:aq) (hk:k<=59) (hg:Wx c.data.toList r.data.toList):FV 58 [aa (k:Int),.agg #[af c,af r]] [.isv Ab2 (.agg #[]) () F] (af (bs (Ka k c.data.toList r.data.toList))):=by
 have hb0:=Ab9 hk hg;have hm:=Sm (k:=k) hg;have hX:=Ama k c r;have hc1:c.size<=160:=Se hg.c1;have hr1:r.size<=200:=Se hg.r1;have hD:(bs (Lib.decDigits k)).size<=2:=KI
 have hE:(bs (Oa (K0 k c.data.toList r.data.toList))).size<=400:=by rw [Jk];have:=Ac6 (K0 k c.data.toList r.data.toList);omega
 have hN:=Awj (Oa (K0 k c.data.toList r.data.toList));have hI:=fun w hT=>Av3 k EV F w hT;have hA:=fun w hT=>Aak (bs (K0 k c.data.toList r.data.toList)) F w (by rw [Jk];omega) (by rw [Jj];exact fun b hb=>(hm b hb).2) hT;rw [Jj,<-hX] at hA;rw [show bs (Ka k c.data.toList r.data.toList)=bs (Oa (K0 k c.data.toList r.data.toList)++[10]) from rfl];generalize bs (Lib.decDigits k)=D at *;generalize bs (Oa (K0 k c.data.toList r.data.toList))=E at *;refine enter func58 rfl ntmps58 fun w0=>?_;refine go ?_;intros;refine Ar [0] [] ?_;refine C8 0 3 4 7 ?_;refine dt 8 ?_;refine dN 1 ?_;refine oC ?_
 refine cb (fun w st=>hI w (st.get (p:=.isv Ab2 (.agg #[]) () F) FA)) ?_;refine dk ?_;refine dt 2 ?_ (hy:=Ie rfl rfl GF);refine dt 5 ?_ (hy:=Ie rfl rfl GF);refine dt 6 ?_ (hy:=Ie rfl rfl GF);refine dt 9 ?_ (hy:=Ie rfl rfl GF);refine dN 10 ?_;refine oC ?_;refine cb (fun w st=>hA w (st.get (p:=.isv Ab2 (.agg #[]) () F) FA)) ?_;refine dk ?_;refine C8 11 12 13 14 ?_;refine dt 15 ?_;refine dd ?_
 refine go ?_;intros;apply wO;apply oc;rfl;exact Ie rfl rfl (by rw [sz1];omega);refine go ?_;intros;refine ret () trivial ?_;rw [<-hN];rfl
theorem Xc (k:Nat) (c r:au) (F:aq) (w:World) (hk:k<=59) (hg:Wx c.data.toList r.data.toList) (hT:Ru Ab2 w (.agg #[]) () F) :
  Calls prog 58 #[aa (k:Int),.agg #[af c,af r]] w (RB (af (bs (Ka k c.data.toList r.data.toList))) w):=(Afs k c r F hk hg).val w (I4 hT)
theorem Ajd (k:Nat) (c r:au) (hk:k<=59) (hg:Wx c.data.toList r.data.toList):FV 65 [aa (k:Int),.agg #[af c,af r]] [] (af (bs (Ka k c.data.toList r.data.toList))):=by
 have hb0:=Ab9 hk hg;have hm:=Sm (k:=k) hg;have hX:=Ama k c r;have hc1:c.size<=160:=Se hg.c1;have hr1:r.size<=200:=Se hg.r1;have hD:(bs (Lib.decDigits k)).size<=2:=KI
 have hE:(bs (Oa (K0 k c.data.toList r.data.toList))).size<=400:=by rw [Jk];have:=Ac6 (K0 k c.data.toList r.data.toList);omega
 have hN:=Awj (Oa (K0 k c.data.toList r.data.toList));have hI:=fun w=>Afl (Vq 1 k w EV EV);have hA:=fun w=>Afl (Axs (bs (K0 k c.data.toList r.data.toList)) w (by rw [Jk];omega));rw [Jj,<-hX] at hA;rw [show bs (Ka k c.data.toList r.data.toList)=bs (Oa (K0 k c.data.toList r.data.toList)++[10]) from rfl];generalize bs (Lib.decDigits k)=D at *;generalize bs (Oa (K0 k c.data.toList r.data.toList))=E at *;refine enter func65 rfl ntmps65 fun w0=>?_;refine go ?_;intros;refine Ar [0] [] ?_;refine C8 0 3 4 7 ?_;refine dt 8 ?_;refine dN 1 ?_;refine oC ?_;refine cb (fun w st=>hI w) ?_
 refine dk ?_;refine dt 2 ?_ (hy:=Ie rfl rfl GF);refine dt 5 ?_ (hy:=Ie rfl rfl GF);refine dt 6 ?_ (hy:=Ie rfl rfl GF);refine dt 9 ?_ (hy:=Ie rfl rfl GF);refine dN 10 ?_;refine oC ?_;refine cb (fun w st=>hA w) ?_;refine dk ?_;refine dt 11 ?_ (hy:=Ie rfl rfl GF);refine dt 12 ?_;refine dd ?_;refine go ?_;intros;refine ret () trivial ?_;rw [<-hN];rfl
theorem At5 (k:Nat) (c r:au) (w:World) (hk:k<=59) (hg:Wx c.data.toList r.data.toList) :
  Calls prog 65 #[aa (k:Int),.agg #[af c,af r]] w (RB (af (bs (Ka k c.data.toList r.data.toList))) w):=(Ajd k c r hk hg).val w nofun
theorem Bbi {a b:au} (h:By a b=true):Wx a.data.toList b.data.toList:=Iw (by rw [<-M8];exact h)
theorem Ar0 {l:Bs} {k:Nat} (h:(Ec 35 l).length < (Hk k).length\/(Ec 35 l).take (Hk k).length≠Hk k):Ti l k=(([],[]),false):=by
 unfold Ti;rw [aH h]
theorem Bch {l:Bs} {k:Nat} {rest:Bs} (h:¬((Ec 35 l).length < (Hk k).length\/(Ec 35 l).take (Hk k).length≠Hk k)) (hr:rest=(Ec 35 l).drop (Hk k).length) (h2:(Ec 64 rest).length=rest.length):Ti l k=(([],[]),false):=by
 subst hr;unfold Ti;rw [aC h];simp only [];rw [aH h2]
theorem Bci {l:Bs} {k:Nat} {rest:Bs} (h:¬((Ec 35 l).length < (Hk k).length\/(Ec 35 l).take (Hk k).length≠Hk k)) (hr:rest=(Ec 35 l).drop (Hk k).length) (h2:¬(Ec 64 rest).length=rest.length) :
  Ti l k=((Ec 64 rest,rest.drop ((Ec 64 rest).length+1)),Adq (Ec 64 rest) (rest.drop ((Ec 64 rest).length+1)) && (Ka k (Ec 64 rest) (rest.drop ((Ec 64 rest).length+1)) == l++[10])):=by
 subst hr;unfold Ti;rw [aC h];simp only [];rw [aC h2]
theorem Aw4 (l:Bs) (n:Nat):(bs l).extract 0 n=bs (l.take n):=by rw [Bei,Jj];simp
theorem Aw3 (l:Bs) (n:Nat):(bs l).extract n (bs l).size=bs (l.drop n):=by rw [Yl,Jj]
theorem Awn {a b:Bs}:bs a=bs b↔a=b:=⟨fun h=>by have:=congrArg (fun x=>x.data.toList) h;simpa [Jj] using this,fun h=>by rw [h]⟩
theorem Ale {c:UInt8} {l:Bs} (h:0 < ((Ea c l).map bs).length):((Ea c l).map bs)[0]=bs (Ec c l):=by
 obtain ⟨r,hr,_⟩:=Rg c l;simp [hr]
theorem Alf (c:UInt8) (l:Bs):0 < ((Ea c l).map bs).length:=by
 obtain ⟨r,hr,_⟩:=Rg c l;simp [hr]
theorem At6 (s:au) (k:Nat) (hk:k<=59) (hs:s.size<=16777216):FV 208 [af s,aa (k:Int)] [] (.tuple #[.agg #[af (bs (Ti s.data.toList k).1.1),af (bs (Ti s.data.toList k).1.2)],.bool (Ti s.data.toList k).2]):=by
 have hI:=fun w=>Afl (Vq 1 k w EV EV);have hah:bs (Lib.decDigits k)++⟨#[32]⟩=bs (Hk k):=by rw [Ab8,Jj];rfl
 have hD:(bs (Lib.decDigits k)).size<=2:=KI
 have hT0:=Abt 35 s.data.toList;rw [C0] at hT0;have e0:=Jk (Hk k);have hA:(Hk k).length<=3:=by have:=D8 1 k EV;simp [Hk];omega
 have e1:=Jk (Ec 35 s.data.toList);have e2:=Aw4 (Ec 35 s.data.toList) (Hk k).length;have e3:=Aw3 (Ec 35 s.data.toList) (Hk k).length;refine enter func208 rfl ntmps208 fun w0=>?_;refine go ?_;intros;refine cb (fun w st=>hI w) ?_;apply wO;apply oc;rfl;exact Ie rfl rfl (by rw [sz1];omega);rw [hah];refine go ?_;intros;refine cn (fun w st=>Acs s 35 w hs) fun a2 c2 F2=>?_;refine Av (E:=A8) (xs:=(Ea 35 s.data.toList).map bs) fun F3=>?_;have hi7:=Alf 35 s.data.toList;refine Mg (xs:=(Ea 35 s.data.toList).map bs) 0 ?_;rintro hi0 b0 o0 rfl q0;rw [Ale];rw [<-e0] at e2 e3
 have e4:(Ec 35 s.data.toList).take (bs (Hk k)).size=Hk k↔(bs (Ec 35 s.data.toList)).extract 0 (bs (Hk k)).size=bs (Hk k):=by rw [e2,Awn]
 rw [e0] at e4;have hr3:((bs (Ec 35 s.data.toList)).extract (bs (Hk k)).size (bs (Ec 35 s.data.toList)).size).data.toList=(Ec 35 s.data.toList).drop (Hk k).length:=by rw [e3,Jj,e0]
 generalize bs (Ec 35 s.data.toList)=tx at *;rw [<-e0] at e4;generalize bs (Hk k)=ah at *;refine go ?_;intros;by_cases hlt:tx.size < ah.size
 ·rw [Ar0 (.inl EV),show decide ((tx.size:Int) < (ah.size:Int))=true from av EV];refine go ?_;intros;exact BC
 rw [show decide ((tx.size:Int) < (ah.size:Int))=false from ay EV];refine go ?_;intros;apply wO;apply oc;rfl;exact Adh rfl rfl EV EV;refine go ?_;intros;refine A1 rfl (fun h4=>?_) (fun h4=>?_)
 ·rw [Ar0 (.inr (fun e=>h4 (e4.1 (by rw [e0];exact e))))];refine go ?_;intros;exact BC
 have h4:tx.extract 0 ah.size=ah:=cX.1 h4;have hyes:¬((Ec 35 s.data.toList).length < (Hk k).length\/(Ec 35 s.data.toList).take (Hk k).length≠Hk k):=by
  rintro (h|h)
  ·omega
  ·exact h (by rw [<-e0];exact e4.2 h4)
 refine go ?_;intros;apply wO;apply oc;rfl;exact We rfl rfl EV EV;rw [show tx.extract ((ah.size:Nat):Int).toNat tx.size=tx.extract ah.size tx.size from rfl];have hrz:(tx.extract ah.size tx.size).size<=16777216:=IX
 generalize tx.extract ah.size tx.size=rs at *;refine go ?_;intros;refine cn (fun w st=>Acs rs 64 w hrz) fun a4 c4 F4=>?_;refine Av (E:=A8) (xs:=(Ea 64 rs.data.toList).map bs) fun F5=>?_;have hi8:=Alf 64 rs.data.toList;refine Mg (xs:=(Ea 64 rs.data.toList).map bs) 0 ?_;rintro hi1 b1 o1 rfl q1;rw [Ale];have e5:=Jk (Ec 64 rs.data.toList);have e6:=Abt 64 rs.data.toList;have e7:=Yl rs ((Ec 64 rs.data.toList).length+1);have e8:=C0 rs;have e9:=Jj (Ec 64 rs.data.toList);have hnb:=fun h=>Bch (l:=s.data.toList) (k:=k) hyes hr3 h;have hnc:=fun h=>Bci (l:=s.data.toList) (k:=k) hyes hr3 h;rw [<-e5] at e7
 generalize bs (Ec 64 rs.data.toList)=ak at *;refine go ?_;intros;refine A1 rfl (fun h5=>?_) (fun h5=>?_)
 ·rw [hnb EV];refine go ?_;intros;exact BC
 have hno:=hnc EV;refine go ?_;intros;apply wO;apply oc;rfl;exact We rfl rfl EV EV;rw [show rs.extract ((ak.size:Int)+1).toNat rs.size=rs.extract (ak.size+1) rs.size from rfl];have hrp:(rs.extract (ak.size+1) rs.size).size<=16777216:=IX
 have p1:(rs.extract (ak.size+1) rs.size).data.toList=rs.data.toList.drop ((Ec 64 rs.data.toList).length+1):=by rw [e7,Jj,e5]
 generalize rs.extract (ak.size+1) rs.size=rp at *;rw [<-p1,<-e9,<-M8] at hno;refine go ?_;intros;rw [hno];cases hg:By ak rp
 ·skip
  refine Ar [0] [] ?_;refine Dg 0 1 ?_;refine dN 2 ?_;refine oC ?_;refine cb (fun w st=>Sq ak rp w FC FC) ?_;rw [hg];refine dk ?_;refine dt 3 ?_;refine ds 4 ?_;refine ds 5 ?_;refine ds 6 ?_;refine ds 7 ?_;refine ds 8 ?_;refine ds 9 ?_;refine dt 10 ?_;refine dN 11 ?_;refine oS ?_;refine dk ?_;refine dt 12 ?_;refine dd ?_;refine go ?_;intros;refine ret () trivial ?_;dsimp only;rw [Adm,Adm];rw [cU];rfl
 ·skip
  refine Ar [0] [] ?_;refine Dg 0 1 ?_;refine dN 2 ?_;refine oC ?_;refine cb (fun w st=>Sq ak rp w FC FC) ?_;rw [hg];refine dk ?_;refine dt 3 ?_;refine Dd 4 ?_;refine Dd 5 ?_;refine Dd 7 ?_;refine Dd 8 ?_ (hy:=Ie rfl rfl (by rw [sz1];omega));refine d1g 6 ?_;apply On.h;refine oC ?_;refine Be (Ajd k ak rp hk (Bbi hg)) fun _ _=>?_;refine dk ?_;refine Dd 9 ?_;refine dt 10 ?_;refine dN 11 ?_;refine oS ?_;refine dk ?_;refine dt 12 ?_;refine dd ?_;refine go ?_;intros;refine ret () trivial ?_;dsimp only;rw [Adm,Adm]
  rw [bT,show (decide (bs (Ka k ak.data.toList rp.data.toList)=s++⟨#[10]⟩))=(Ka k ak.data.toList rp.data.toList == s.data.toList++[10]) from by
   rw [Ab8,cC];simp [Awn]]
  rfl
end Go.Proofs.YtkoldibamfjghaaGreatDoor.Lg
namespace Go.Proofs.YtkoldibamfjghaaGreatDoor
open Go.RowKit
theorem Au1 {n:Nat} {P:Program} {row:String} {args:Array Value} {w:World} {R:Value->World->Prop} (h:Rows P row args w R):RowsIn Fence.wide n P row args w R:=fun c cs _=>by
 obtain ⟨v,w',r,s⟩:=h c cs;exact ⟨v,w',r,stepsIn_wide.2 s⟩
theorem Ago {l n:Nat} {P:Program} {o:Oper} {a:Act} {w:World} {K:Act->World->Prop} {Q:Exit->Act->World->Prop} (hd:∀c,o.op≠.defer c) (h:o.wp P a w K Q) :
  o.wpIn (Fence.wide.inRound l) n P a w K Q:=by
 refine ⟨fun f _=>trivial,?_⟩;rw [Fence.inRound_round,Oper.semAt_some l _ _ hd];unfold Oper.wp at h;generalize (execOp a.eval o).run P w=r at *;cases r with
 | ok x w' =>
  cases x <;> simp only [Oper.upon,Oper.uponIn] at h ⊢ <;>
   first
    | exact h
    | exact ⟨(fun e=>by cases e),CallsIn.inRound l (callsIn_wide.2 h)⟩
    | exact ⟨(fun e=>by cases e),Au1 h⟩
 | halt x w'=>cases x <;> simp only [Oper.upon,Oper.uponIn] at h ⊢ <;> exact h
def Vx (o:Oper):Bool:=match o.op with
 | .defer _=>false
 | _=>true
theorem Agq {o:Oper} (h:Vx o=true):∀c,o.op≠.defer c:=fun c e=>by simp [Vx,e] at h
theorem Z9 {l n:Nat} {P:Program} {ops:Array Oper} {Q:Exit->Act->World->Prop} (hQ:∀a w,¬Q .outgrown a w):∀{lst:List Oper} {a:Act} {w:World},
  (∀o∈lst,Vx o=true)->wpList P ops Q lst a w->wpListIn (Fence.wide.inRound l) n P ops Q lst a w
 | [],_,_,_,h=>h
 | o::rest,a,w,hp,h=>by
  unfold wpList at h;unfold wpListIn
  split
  ·rename_i hw;rw [aH hw] at h;rcases h with h|⟨_,a',w',h⟩
   ·refine Ago (Agq (hp o EX)) (Oper.wp_mono (fun a w h=>?_) h);exact Z9 hQ (fun o ho=>hp o (by simp [ho])) h
   ·exact absurd h (hQ a' w')
  ·rename_i hw;rw [aC hw] at h;exact ⟨fun f _=>trivial,Z9 hQ (fun o ho=>hp o (by simp [ho])) h⟩
theorem H9 {l n id:Nat} {P:Program} {ops:List Oper} {Q:Exit->Act->World->Prop} {a:Act} {w:World} (hQ:∀a w,¬Q .outgrown a w) (hp:(ops.all Vx)=true)
  (h:wpList P ops.toArray Q ops a w):(Code.region id ops.toArray false).wpIn (Fence.wide.inRound l) n P Q a w :=
 wpIn_region_lit (Z9 hQ (fun o ho=>aV.1 hp o ho) h)
theorem Yh {l n:Nat} {P:Program} {md:Region.Mode} {ops:Array Oper} {Q:Exit->Act->World->Prop} (hQ:∀a w,¬Q .outgrown a w) (hp:(ops.toList.all Vx)=true):∀(f:Nat) (listed:Array Bool) (a:Act) (w:World),
  wpAny P md ops Q f listed a w->wpAnyIn (Fence.wide.inRound l) n P md ops Q f listed a w
 | 0,_,_,_,h=>h
 | f+1,listed,a,w,h=>by
  refine ⟨h.1,fun i hi=>?_⟩;have h1:=h.2 i hi;unfold wpOp at h1;unfold wpOpIn;cases ho:ops[i]? with
  | none=>rw [ho] at h1;exact Yh hQ hp f _ _ _ h1
  | some o =>
   rw [ho] at h1;have hpo:Vx o=true:=aV.1 hp o (by rw [<-Array.getElem?_toList] at ho;exact bX ho);dsimp only at h1 ⊢
   split
   ·rename_i hw;rw [aH hw] at h1;rcases h1 with h1|⟨_,a',w',h1⟩
    ·exact Ago (Agq hpo) (Oper.wp_mono (fun a w h=>Yh hQ hp f _ a w h) h1)
    ·exact absurd h1 (hQ a' w')
   ·rename_i hw;rw [aC hw] at h1;exact ⟨fun f _=>trivial,Yh hQ hp f _ _ _ h1⟩
def AbB {β:Type} (b:aq) (J:β->World->Prop):Prop:=∀s W W',J s W->Ei b W W'->J s W'
def Al4 (ks:aq) (W W':World):Prop:=∀k∈ks,W'.heap[k]?=W.heap[k]?
def Awb (P:Program) (gf:Nat) (lb:Array Value) (b:Nat) (xs:ai) (W0:World):Prop :=
 ∀(n l:Nat) (J Jx:ai->World->Prop),AbB [b] J->AbB [b] Jx ->
  (∀m pre x post W1,xs=pre++x::post->J pre W1->YieldAt Fence.wide m P l #[af x] W1 fun e W' =>
   (e=.returned (.bool true)/\J (pre++[x]) W'/\W'.heap[b]?=W1.heap[b]?)\/(e=.returned (.bool false)/\Jx (pre++[x]) W')) ->
  J [] W0->CallsIn Fence.wide n P gf (#[.func (.yield l) #[] #[]]++lb) W0 fun e W'=>(∃v,e=.returned v)/\(J xs W'\/∃pre x post,xs=pre++x::post/\Jx (pre++[x]) W')
def Ba5 (ks:aq) (I:ai->World->Prop) (Ix:Code->ai->World->Prop) (ys:ai) (W:World):Exit->Act->World->Prop
 | .normal,_,W'=>Al4 ks W W'/\I ys W'
 | .ret,_,W'=>Al4 ks W W'/\Ix .ret ys W'
 | .exit id,_,W'=>Al4 ks W W'/\Ix (.exit id) ys W'
 | .goto t,_,W'=>Al4 ks W W'/\Ix (.goto t) ys W'
 | .panic _,_,_=>False
 | .outgrown,_,_=>False
theorem Nu (W:World) (l:Nat) (o:Obj):Ei [l] W (W.putObj l o) :=
 ⟨rfl,rfl,rfl,EX,fun k _ hk=>World.putObj_heap_other (fun e=>hk (by simp [e]))⟩
theorem Alp {P:Program} {g:Operand} {ps:Array Tmp} {assign body:Code} {Q:Exit->Act->World->Prop} {a:Act} {w:World} {n gf b:Nat} {lb:Array Value} {xs:ai}
  (hg:a.eval g=.func (.func gf) #[] lb) (eg:∀args w,(callFunc gf args).run P w=.ok (.enter gf args) w) (hps:ps.size=1) (hb:b < w.heap.size)
  (hseq:∀W0,W0.heap[b]?=w.heap[b]?->Awb P gf lb b xs W0)
  (I:ai->World->Prop) (Ix:Code->ai->World->Prop) (hI:AbB [b,w.heap.size+1] I) (hIx:∀c,AbB [b,w.heap.size+1] (Ix c)) (h0:I [] w) (a₁:au->Act)
  (hassign:∀(m:Nat) (x:au) (W:World) (K:Act->World->Prop),K (a₁ x) W ->
   assign.wpIn (Fence.wide.inRound (w.heap.size+1)) m P (Exit.then K (fun _ _ _=>False)) { tmps:=(ps.zip #[af x]).foldl (fun t (p,v)=>t.setIfInBounds p v) a.tmps,defers:=[] } W)
  (hbody:∀(m:Nat) (pre post:ai) (x:au) (W:World),xs=pre++x::post->w.heap.size+2<=W.heap.size->I pre W ->
   body.wpIn (Fence.wide.inRound (w.heap.size+1)) m P (Ba5 [b,w.heap.size,w.heap.size+1] I Ix (pre++[x]) W) (a₁ x) W)
  (hdone:∀(W:World),I xs W->W.heap[w.heap.size]?=some (.deferred (some []))->Q .normal { a with defers:={ target:=.collected w.heap.size,args:=#[] }::a.defers } W)
  (hstop:∀(c:Code) (pre post:ai) (x:au) (W:World),xs=pre++x::post->Ix c (pre++[x]) W->W.heap[w.heap.size]?=some (.deferred (some [])) ->
   c.wpIn Fence.wide n P Q { a with defers:={ target:=.collected w.heap.size,args:=#[] }::a.defers } W) :
  (Code.rangeFunc g ps assign body).wpIn Fence.wide n P Q a w:=by
 refine wpIn_rangeFunc ?_;intro fn hfn;rw [Fence.wide_round];obtain ⟨rec,hrec⟩:∃rec:LoopState->Option Code->Loop,rec=fun st pe=>{ state:=st,pending:=pe,fn,tmps:=a.tmps,params:=ps,assign,body,defers:=w.heap.size }:=⟨_,rfl⟩;obtain ⟨W1,hW1⟩:∃W1,(w.alloc (.deferred (some []))).alloc (.loop (rec .ready none))=W1:=⟨_,rfl⟩;have hL1:W1.heap[w.heap.size+1]?=some (.loop (rec .ready none)):=by
  rw [<-hW1];have:=World.alloc_heap_new (w.alloc (.deferred (some []))) (.loop (rec .ready none));rwa [World.size_alloc] at this
 have hK1:W1.heap[w.heap.size]?=some (.deferred (some [])):=by
  rw [<-hW1];exact (Below.heap_alloc _ _ _ EX).trans (World.alloc_heap_new w _)
 have hk1:Ei [b,w.heap.size+1] w W1:=by rw [<-hW1];exact ((Ei.refl _ _).alloc _).alloc _
 have hb1:W1.heap[b]?=w.heap[b]?:=by
  rw [<-hW1];exact (Below.heap_alloc _ _ _ FB).trans (Below.heap_alloc _ _ _ hb)
 refine ⟨w.heap.size+1,[{ target:=.collected w.heap.size,args:=#[] }],W1,{ target:=.fn (.func gf) lb,args:=#[.func (.yield (w.heap.size+1)) #[] #[]] },W1,gf,
  #[.func (.yield (w.heap.size+1)) #[] #[]]++lb,W1,?_,?_,?_,?_,(fun e=>by cases e),?_⟩
 ·rw [<-hW1,hrec];exact run_enterLoop_outer _ _ _ _ _
 ·simp only [resolve,hg];simp [go_sem]
 ·intro f' hf';trivial
 ·simp [invoke,go_sem,eg]
 have far:∀{W W':World} {k:Nat} {o:Obj},Ei [b] W W'->b < w.heap.size->w.heap.size<=k->W.heap[k]?=some o->W'.heap[k]?=some o:=fun {W W' k o} hk h1 h2 h3 =>
  (hk.block k (bG.1 h3).1 FB).trans h3
 have wider:∀{W W':World},Ei [b] W W'->Ei [b,w.heap.size+1] W W':=fun h=>h.mono fun x hx _=>by simp at hx ⊢;omega
 have wider2:∀{W W':World},Ei [w.heap.size+1] W W'->Ei [b,w.heap.size+1] W W':=fun h=>h.mono fun x hx _=>by simp at hx ⊢;omega
 refine (hseq W1 hb1 (n - 1) (w.heap.size+1)
  (fun pre W=>I pre W/\W.heap[w.heap.size+1]?=some (.loop (rec .ready none))/\W.heap[w.heap.size]?=some (.deferred (some [])))
  (fun pre W=>∃c,Ix c pre W/\W.heap[w.heap.size+1]?=some (.loop (rec .done (some c)))/\W.heap[w.heap.size]?=some (.deferred (some [])))
  (fun s A B hs hk=>⟨hI s A B hs.1 (wider hk),far hk hb EV hs.2.1,far hk hb EV hs.2.2⟩)
  (fun s A B hs hk=>by
   obtain ⟨c,hc,hl,hd⟩:=hs;exact ⟨c,hIx c s A B hc (wider hk),far hk hb EV hl,far hk hb EV hd⟩)
  ?_ ⟨hI _ _ _ h0 hk1,hL1,hK1⟩).mono ?_
 ·rintro m pre x post W hxs ⟨hi,hl,hk⟩;have hlt:w.heap.size+1 < W.heap.size:=(bG.1 hl).1;have hy:=run_yield (P:=P) (args:=#[af x]) hl (by rw [hrec];exact hps.symm);rw [hrec] at hy;refine ⟨fn,_,assign,body,hy,roundIn_of_wpIn hfn (hassign m x W _ ⟨_,run_beginRound hl (by rw [hrec]),?_⟩)⟩;obtain ⟨W2,hW2⟩:∃W2,W.putObj (w.heap.size+1) (.loop { rec .ready none with state:=.busy })=W2:=⟨_,rfl⟩;rw [hW2];have hl2:W2.heap[w.heap.size+1]?=some (.loop { rec .ready none with state:=.busy }):=by rw [<-hW2];exact World.putObj_heap_same hlt
  have hk2:W2.heap[w.heap.size]?=some (.deferred (some [])):=by rw [<-hW2];exact (World.putObj_heap_other EV).trans hk
  have hb2:W2.heap[b]?=W.heap[b]?:=by rw [<-hW2];exact World.putObj_heap_other EV
  have hi2:I pre W2:=hI _ _ _ hi (by rw [<-hW2];exact wider2 (Nu _ _ _));have hs2:w.heap.size+2<=W2.heap.size:=by rw [<-hW2];simp;omega
  refine wpIn_mono (hbody m pre post x _ hxs hs2 hi2) ?_
  have fin:∀(Xo:Option Code) (W3:World),Al4 [b,w.heap.size,w.heap.size+1] W2 W3 ->
    (Instr.endRound (w.heap.size+1) Xo).run P W3=.ok (.bool Xo.isNone) (W3.putObj (w.heap.size+1) (.loop (rec (if Xo.isNone then .ready else .done) Xo))) /\
    (W3.putObj (w.heap.size+1) (.loop (rec (if Xo.isNone then .ready else .done) Xo))).heap[w.heap.size+1]?=some (.loop (rec (if Xo.isNone then .ready else .done) Xo)) /\
    (W3.putObj (w.heap.size+1) (.loop (rec (if Xo.isNone then .ready else .done) Xo))).heap[w.heap.size]?=some (.deferred (some [])) /\
    (W3.putObj (w.heap.size+1) (.loop (rec (if Xo.isNone then .ready else .done) Xo))).heap[b]?=W.heap[b]?:=fun Xo W3 hk3=>by
   have hl3:=(hk3 (w.heap.size+1) EX).trans hl2;have h4:=run_endRound (P:=P) Xo hl3;rw [hrec] at h4 ⊢;exact ⟨h4,World.putObj_heap_same (bG.1 hl3).1,(World.putObj_heap_other EV).trans ((hk3 w.heap.size EX).trans hk2),(World.putObj_heap_other EV).trans ((hk3 b EX).trans hb2)⟩
  rintro e a3 W3 hp;cases e with
  | normal =>
   obtain ⟨hk3,hi3⟩:=hp;obtain ⟨hr,hl4,hd4,hb4⟩:=fin none W3 hk3;exact ⟨_,_,hr,.inl ⟨rfl,⟨hI _ _ _ hi3 (wider2 (Nu _ _ _)),hl4,hd4⟩,hb4⟩⟩
  | ret =>
   obtain ⟨hk3,hi3⟩:=hp;obtain ⟨hr,hl4,hd4,hb4⟩:=fin (some .ret) W3 hk3;exact ⟨_,_,hr,.inr ⟨rfl,.ret,hIx _ _ _ _ hi3 (wider2 (Nu _ _ _)),hl4,hd4⟩⟩
  | exit id =>
   obtain ⟨hk3,hi3⟩:=hp;obtain ⟨hr,hl4,hd4,hb4⟩:=fin (some (.exit id)) W3 hk3;exact ⟨_,_,hr,.inr ⟨rfl,.exit id,hIx _ _ _ _ hi3 (wider2 (Nu _ _ _)),hl4,hd4⟩⟩
  | goto t =>
   obtain ⟨hk3,hi3⟩:=hp;obtain ⟨hr,hl4,hd4,hb4⟩:=fin (some (.goto t)) W3 hk3;exact ⟨_,_,hr,.inr ⟨rfl,.goto t,hIx _ _ _ _ hi3 (wider2 (Nu _ _ _)),hl4,hd4⟩⟩
  | panic ch=>exact hp.elim
  | outgrown=>exact hp.elim
 ·rintro e W2 ⟨⟨v,rfl⟩,(⟨hi,hl,hk⟩|⟨pre,x,post,hxs,c,hi,hl,hk⟩)⟩
  ·exact ⟨none,_,JJ,hdone _ (hI _ _ _ hi (wider2 (Nu _ _ _))) ((World.putObj_heap_other EV).trans hk)⟩
  ·exact ⟨some c,_,JJ,hstop c pre post x _ hxs (hIx _ _ _ _ hi (wider2 (Nu _ _ _))) ((World.putObj_heap_other EV).trans hk)⟩
end Go.Proofs.YtkoldibamfjghaaGreatDoor
namespace Go.Proofs.YtkoldibamfjghaaGreatDoor.Lg
open Go.RowKit
theorem Alz (s:au) (c:UInt8) (w:World):Calls prog 159 #[af s,.int .u8 (c.toNat:Int)] w fun e w'=>e=.returned (aa (Lib.indexByte s.data.toList c))/\w=w':=by
 refine (Tryz.strings_IndexByte s c.toNat w).mono ?_;rintro e w' ⟨rfl,rfl⟩;exact ⟨EX,rfl⟩
def Jd (s:au):ai:=(D7 s.data.toList).map bs
theorem Ap3 {s:au} (h:¬0 < s.size):Jd s=[]:=by
 have:s.data.toList=[]:=bE (by rw [C0];omega);unfold Jd;rw [this];rfl
theorem Ap2 {s:au} (h:10∈s.data.toList):Jd s=bs (Ec 10 s.data.toList++[10])::Jd (bs (Mh 10 s.data.toList)) /\
  s.extract 0 ((Ec 10 s.data.toList).length+1)=bs (Ec 10 s.data.toList++[10])/\s.extract ((Ec 10 s.data.toList).length+1) s.size=bs (Mh 10 s.data.toList):=by
 refine ⟨?_,?_,(Arc h).2⟩
 ·rcases Oy 10 s.data.toList with ⟨_,h2⟩|⟨h2,_⟩
  ·unfold Jd;rw [Jj]
   conv=>lhs;rw [h2]
   rw [Tf _ Abu];rfl
  ·exact absurd h h2
 ·rcases Oy 10 s.data.toList with ⟨_,h2⟩|⟨h2,_⟩
  ·rw [Lib.extract_eq];unfold bs;congr 2;rw [du,gA];refine (congrArg (List.take _) h2).trans ?_;rw [List.take_append,aW EV];simp
  ·exact absurd h h2
theorem Anc {s:au} (h0:0 < s.size) (h:10 ∉ s.data.toList):Jd s=[s]:=by
 unfold Jd;rw [Vr (fun e=>by have:=C0 s;rw [e] at this;simp at this;omega) (fun c hc e=>h (by rw [<-e];exact hc))];simp [Adm]
theorem Ass {s:au} (h:10∈s.data.toList):(bs (Mh 10 s.data.toList)).size < s.size:=by
 rcases Oy 10 s.data.toList with ⟨_,h2⟩|⟨h2,_⟩
 ·have:=congrArg List.length h2;rw [Jk];rw [C0] at this;simp at this;omega
 ·exact absurd h h2
def Akk (b:Nat) (w:World):Nat:=match w.cell? ⟨b,0,none⟩ with
 | some (.string r)=>r.size
 | _=>0
theorem Zs {b:Nat} {t:TypeId} {w:World} {r:au} (h:If w b t [af r]):Akk b w=r.size:=by
 unfold Akk;rw [h.cell];rfl
theorem Bar (s:au) (w:World):Calls prog 83 #[af s] w fun e w'=>e=.returned (.func (.func 158) #[] #[.pointer (some ⟨w.heap.size,0,none⟩)])/\w'=w.alloc (.cells #[af s] 9):=by
 go_enter func83,ntmps83
 go_wp2_with fail;refine bodyPost_ret (v:=.func (.func 158) #[] #[.pointer (some ⟨w.heap.size,0,none⟩)]) ?_ rfl ⟨rfl,rfl⟩;simp [results,results83,go_sem]
theorem Auc (s:au) (b:Nat) (W0:World) (hs:s.size<=4294967296) (hr:If W0 b 9 [af s]):Awb prog 158 #[.pointer (some ⟨b,0,none⟩)] b (Jd s) W0:=by
 intro n l J Jx hJ hJx hY h0;refine callsIn_of_wp func158 rfl trivial ?_ rfl;simp only [ntmps158,fC,aU,aY,Nat.reduceAdd,Nat.reduceSub,fZ,gh,fE,gl,cg,aZ];have c0:=hr.cells
 gi_wp2
 gi_loopw [3] (fun _ wr=>∃(pre:ai) (r:au),Hid (Jd s=pre++Jd r)/\r.size<=4294967296/\If wr b 9 [af r]/\J pre wr) (fun _ wr=>Akk b wr)
 case atStart=>exact ⟨[],s,rfl,hs,hr,h0⟩
 case round =>
  obtain ⟨pre,r,hx,hrs,hrow,hj⟩:=hrel;have hm:=Lib.hid (Zs hrow);have hi:=fun w=>Alz r 10 w;by_cases hz:0 < r.size
  ·by_cases hn:10∈r.data.toList
   ·obtain ⟨hl,hx1,hx2⟩:=Ap2 hn;have hbl:=Ass hn;have hlt:=Asa hn;rw [C0] at hlt;rw [(Pr 10 _).1 hn] at hi;generalize (Ec 10 r.data.toList).length=i at *;generalize bs (Ec 10 r.data.toList++[10])=x at *;generalize bs (Mh 10 r.data.toList)=rest at *;have hx3:Hid (Jd s=pre++x::Jd rest):=by have:=hx.out;rw [hl] at this;exact Lib.hid this
    replace hx1:=Lib.hid hx1;replace hx2:=Lib.hid hx2;replace hi:=Lib.hid hi;replace hY:=Lib.hid hY;have hw:=Lib.hid (show IntKind.i64.wrap ((i:Int)+1)=(i:Int)+1 from by rw [IntKind.wrap_i64];omega);have hn1:=Lib.hid (show ((i:Int)+1).toNat=i+1 from by omega);clear hx hl hn;have c1:=hrow.cells;have f1:=hrow.frozens
    gi_wp2_with (refine ⟨trivial,(fun e=>by cases e),?_⟩;refine (callsIn_wide.2 (hi.out _)).mono ?_;rintro e w' ⟨rfl,rfl⟩)
    refine wpIn_wide.2 ?_;clear c1 f1;refine Ez.start (S:=(fun w'=>w'.cell? ⟨b,0,none⟩=some (af r))) (X:=(fun i=>i == 9)) EY ?_;have al:Below wr.heap.size wr wr.drew:=E4 (Below.refl _ _) 1;have hs_w1:=al.size;replace hrow:=hrow.below al;have hB:=al;generalize wr.drew=w1 at *;clear al;have hS:(fun w'=>w'.cell? ⟨b,0,none⟩=some (af r)) w1:=hrow.cells 0;refine Ez.take (i:=0) (oi:=_) (v:=?_) FO EY EY EY EY EY FL (Or.inl ⟨FH,?_⟩) hS ?_
    rotate_left
    ·(intro wS hSw;(try dsimp only at hSw);go_simp;try with_reducible rfl)
    try simp only [Act.put,be,bj,bp]
    refine Ez.take (i:=1) (oi:=_) (v:=?_) FO EY EY EY EY EY FL (Or.inl ⟨FH,?_⟩) hS ?_
    rotate_left
    ·(intro wS hSw;(try dsimp only at hSw);go_simp;try with_reducible rfl)
    try simp only [Act.put,be,bj,bp]
    refine Ez.take (i:=2) (oi:=_) (v:=?_) FO EY EY EY EY EY FL (Or.inl ⟨FH,?_⟩) hS ?_
    rotate_left
    ·(intro wS hSw;(try dsimp only at hSw);go_simp;rw [hw.out];try with_reducible rfl)
    try simp only [Act.put,be,bj,bp]
    refine Ez.take (i:=3) (oi:=_) (v:=?_) FO EY EY EY EY EY FL (Or.inl ⟨FH,?_⟩) hS ?_
    rotate_left
    ·(intro wS hSw;(try dsimp only at hSw);go_simp;rw [aH EV,hx1.out];try with_reducible rfl)
    try simp only [Act.put,be,bj,bp]
    refine Ez.take (i:=4) (oi:=_) (v:=?_) FO EY EY EY EY EY FL (Or.inl ⟨FH,?_⟩) hS ?_
    rotate_left
    ·(intro wS hSw;(try dsimp only at hSw);go_simp;try with_reducible rfl)
    try simp only [Act.put,be,bj,bp]
    refine Ez.take (i:=5) (oi:=_) (v:=?_) FO EY EY EY EY EY FL (Or.inl ⟨FH,?_⟩) hS ?_
    rotate_left
    ·(intro wS hSw;(try dsimp only at hSw);go_simp;try with_reducible rfl)
    try simp only [Act.put,be,bj,bp]
    refine Ez.take (i:=6) (oi:=_) (v:=?_) FO EY EY EY EY EY FL (Or.inl ⟨FH,?_⟩) hS ?_
    rotate_left
    ·(intro wS hSw;(try dsimp only at hSw);go_simp;rw [hw.out];try with_reducible rfl)
    try simp only [Act.put,be,bj,bp]
    refine Ez.take (i:=7) (oi:=_) (v:=?_) FO EY EY EY EY EY FL (Or.inl ⟨FH,?_⟩) hS ?_
    rotate_left
    ·(intro wS hSw;(try dsimp only at hSw);go_simp;rw [aH EV,hx2.out];try with_reducible rfl)
    try simp only [Act.put,be,bj,bp]
    refine Ez.only (i:=8) (o:=_) EY FO (fun K hK=>?_)
    try go_simp
    clear hS;have hS:(fun w'=>w'.cell? ⟨b,0,none⟩=some (af r)) w1:=hrow.cells 0;refine hK.out _ _ (fun _=>hS) ?_;clear hK K
    try simp only [Act.put,be,bj,bp]
    refine Ez.only (i:=9) (o:=_) EY FO (fun K hK=>?_);have c_hrow:=hrow.cells;have f_hrow:=hrow.frozens
    go_simp
    clear c_hrow f_hrow;refine hK.out _ _ (fun h=>by cases h) ?_;clear hK K
    try simp only [Act.put,be,bj,bp]
    refine Ez.done EY ?_ _
    (try clear hS)
    have hrow2:If (w1.setCell ⟨b,0,none⟩ (af rest)) b 9 [af rest]:=hrow.set 0 (af rest);have hj2:J pre (w1.setCell ⟨b,0,none⟩ (af rest)):=hJ _ _ _ hj ((Ei.ofBelow hB).setCell EX _);clear hrow hj hB;generalize (w1.setCell ⟨b,0,none⟩ (af rest))=w9 at *;obtain ⟨fn,tmps,assign,body,hy,hR⟩:=hY.out (n - 1) pre x (Jd rest) w9 hx3.out hj2;replace hR:=Lib.hid hR
    gi_wp2
    refine ⟨(fun e=>by cases e),?_⟩;refine hR.out.mono ?_;rintro e W3 (⟨rfl,hJ3,hk3⟩|⟨rfl,hJx3⟩)
    ·have hrow3:=hrow2.I5 hk3;have hm3:=Zs hrow3
     gi_wp2
     go_roundw
     case rel=>exact ⟨pre++[x],rest,by refine Lib.hid ?_;rw [hx3.out];simp,EV,hrow3,hJ3⟩
     case measure=>have:=hm.out;omega
    ·gi_wp2
     refine bodyPost_ret (results_none rfl _ _ _) rfl ?_;exact ⟨⟨_,rfl⟩,.inr ⟨pre,x,Jd rest,hx3.out,hJx3⟩⟩
   ·have hl:=Anc hz hn;rw [(Pr 10 _).2 hn] at hi;have hx3:Hid (Jd s=pre++r::[]):=by have:=hx.out;rw [hl] at this;exact Lib.hid this
    replace hi:=Lib.hid hi;have c1:=hrow.cells;have f1:=hrow.frozens;have hrow2:If (wr.setCell ⟨b,0,none⟩ (af ⟨#[]⟩)) b 9 [af ⟨#[]⟩]:=hrow.set 0 (af ⟨#[]⟩);have hj2:J pre (wr.setCell ⟨b,0,none⟩ (af ⟨#[]⟩)):=hJ _ _ _ hj ((Ei.refl _ _).setCell EX _);obtain ⟨fn,tmps,assign,body,hy,hR⟩:=hY (n - 1) pre r [] _ hx3.out hj2;replace hR:=Lib.hid hR;replace hrow2:=Lib.hid hrow2;clear hx hl hn hY
    gi_wp2_with (refine ⟨trivial,(fun e=>by cases e),?_⟩;refine (callsIn_wide.2 (hi.out _)).mono ?_;rintro e w' ⟨rfl,rfl⟩)
    refine ⟨(fun e=>by cases e),?_⟩;refine hR.out.mono ?_;rintro e W3 (⟨rfl,hJ3,hk3⟩|⟨rfl,hJx3⟩)
    ·have hrow3:=hrow2.out.I5 hk3;have hm3:=Zs hrow3
     gi_wp2
     go_roundw
     case rel=>exact ⟨pre++[r],⟨#[]⟩,by refine Lib.hid ?_;rw [hx3.out];simp [Jd,D7],aE _,hrow3,hJ3⟩
     case measure=>have h7:=hm.out;have h8:(⟨#[]⟩:au).size=0:=rfl;omega
    ·gi_wp2
     refine bodyPost_ret (results_none rfl _ _ _) rfl ?_;exact ⟨⟨_,rfl⟩,.inr ⟨pre,r,[],hx3.out,hJx3⟩⟩
  ·have c1:=hrow.cells;have f1:=hrow.frozens
   gi_wp2
   go_end0
   refine ⟨⟨_,rfl⟩,.inl ?_⟩;have h1:=hx.out;rw [Ap3 hz,bg] at h1;rw [h1];exact hj
def J3 (k:Int) (x:Ha):au × Bool:=(bs ((Ael k x.E8.data.toList x.Eg.data.toList).getD []),(Ael k x.E8.data.toList x.Eg.data.toList).isSome)
def Aei:au × Bool->World->Ending->World->Prop:=fun (r0,r1) w e w'=>e=.returned (.tuple #[af r0,.bool r1])/\Below w.heap.size w w'
theorem Ajr {k:Int} {x:Ha} (h:(Ff 0 k 59 && By x.E8 x.Eg)=false):J3 k x=(bs [],false):=by
 rw [M8] at h;unfold J3 Ael;rw [aC (by rw [h];simp)];rfl
theorem Aqh {k:Nat} {x:Ha} (hk:k<=59) (h:By x.E8 x.Eg=true):J3 (k:Int) x=(bs (Ka k x.E8.data.toList x.Eg.data.toList),true):=by
 rw [M8] at h;unfold J3 Ael;rw [aH (by rw [h];simp [Ff];omega)];rfl
theorem Afa (x0:Int) (v1:Value) (x1:Ha) (F1:aq) (FT:aq) (w:World) (h1:Ru I9 w v1 x1 F1) (hT:Ru Ab2 w (.agg #[]) () FT) :
  Calls prog 85 #[aa x0,v1] w (Aei (J3 x0 x1) w):=by
 obtain ⟨_,rfl,rfl,s1,s2,rfl⟩:=h1;have hin:=fun w=>Hy x0 0 59 w;have hgd:=fun w=>Wj x1.E8 x1.Eg w s1 s2;have hB0:∀A:Obj,Below w.heap.size w (w.alloc A):=fun A=>(Below.refl _ _).alloc (aK _) _;cases hb:Ff 0 x0 59 with
 | false =>
  rw [Ajr (by rw [hb];rfl)];rw [hb] at hin;clear hb
  go_enter func85,ntmps85
  go_wp2_with (first|(go_at_call 106;refine (hin _).mono ?_;rintro e w' ⟨rfl,rfl⟩));refine bodyPost_ret (v:=.tuple #[af ⟨#[]⟩,.bool false]) ?_ rfl ⟨rfl,hB0 _⟩;simp [results,results85,go_sem]
 | true =>
  have hk:0<=x0/\x0<=59:=by simpa [Ff] using hb
  cases hg:By x1.E8 x1.Eg with
  | false =>
   rw [Ajr (by rw [hg];simp)];rw [hb] at hin;rw [hg] at hgd;clear hb hg
   go_enter func85,ntmps85
   go_wp2_with (first|(go_at_call 106;refine (hin _).mono ?_;rintro e w' ⟨rfl,rfl⟩)|(go_at_call 56;refine (hgd _).mono ?_;rintro e w1 ⟨rfl,hb1⟩));refine bodyPost_ret (v:=.tuple #[af ⟨#[]⟩,.bool false]) ?_ rfl ⟨rfl,(hB0 _).trans (hb1.mono EX)⟩;simp [results,results85,go_sem]
  | true =>
   obtain ⟨k,rfl⟩:=Int.eq_ofNat_of_zero_le hk.1;have hk9:k<=59:=EV
   rw [Aqh hk9 hg];rw [hb] at hin;rw [hg] at hgd;have hl:=Lib.hid (fun w hT=>Xc k x1.E8 x1.Eg FT w hk9 (Iw (by rw [<-M8];exact hg)) hT);clear hb hg hk;have R:=fun (w1:World) (hb1:Below (w.alloc (.cells #[af x1.E8,af x1.Eg] 56)).heap.size (w.alloc (.cells #[af x1.E8,af x1.Eg] 56)) w1)=>(If.made w 56 [af x1.E8,af x1.Eg]).below hb1;replace R:=Lib.hid R;have hT1:=hT.below (hB0 (.cells #[af x1.E8,af x1.Eg] 56))
   go_enter func85,ntmps85
   go_wp2_with (first|(go_at_call 106;refine (hin _).mono ?_;rintro e w' ⟨rfl,rfl⟩)|(go_at_call 56;refine (hgd _).mono ?_;rintro e w1 ⟨rfl,hb1⟩;have c_R:=(R.out _ hb1).cells)|(go_at_call 58;refine (hl.out _ (hT1.below hb1)).mono ?_;rintro e w2 ⟨rfl,hb2⟩));refine bodyPost_ret (v:=.tuple #[af (bs (Ka k x1.E8.data.toList x1.Eg.data.toList)),.bool true]) ?_ rfl ⟨rfl,((hB0 _).trans (hb1.mono EX)).trans (hb2.mono (by have:=hb1.size;simp at this;omega))⟩;simp [results,results85,go_sem]
theorem Aum {k:Nat} {x:Bs} (h:Y3 k x=true):∃y,x=y++[10]/\∀b∈y,32<=b.toNat/\b.toNat<=126:=by
 obtain ⟨c,r,_,hg,rfl⟩:=Tw.1 h;have hG:=Iw hg;refine ⟨Oa (K0 k c r),rfl,fun b hb=>?_⟩;unfold Oa at hb;simp only [aJ,aG] at hb;rcases hb with hb|rfl|hb
 ·exact (Sm hG b hb).1
 ·decide
 ·have:=Pb _ b hb;omega
theorem Bex {k:Nat} {z:Bs} (h:∀b∈z,b≠10):Y3 k z=false:=by
 cases hk:Y3 k z with
 | false=>rfl
 | true =>
  obtain ⟨y,rfl,_⟩:=Aum hk;exact absurd rfl (h 10 EX)
theorem Asn {k:Nat} {x:Bs} (h:Y3 k x=true) (r:Bs):acc k (D7 (x++r))=x::acc (k+1) (D7 r):=by
 obtain ⟨y,rfl,hy⟩:=Ajj h;rw [aM,dG,Tf _ hy];simp [acc,h]
theorem Ak5 {d:Bs} (hd:(Bm d).flatten.length=d.length) (q:Bs):Bm (d++q)=Bm d++acc (Bm d).length (D7 q):=by
 have hf:=Xy hd;have h2:=Sa (xs:=Bm d) (by rw [hf];exact hf) q;rw [U1 hd] at h2;exact h2
structure Aas (d p:Bs) (n:Int):Prop where
 all:(Bm (d++p)).flatten=d++p
 dur:(Bm d).flatten=d
 cnt:n=(Bm (d++p)).length
theorem Abv {d p:Bs} {n:Int} (h:Fs d p n=true):Aas d p n:=by
 unfold Fs at h;simp only [aw,aF] at h;exact ⟨U1 (by simp [h.2.1.1]),U1 h.2.1.2,h.2.2.symm⟩
theorem Aas.bool {d p:Bs} {n:Int} (h:Aas d p n):Fs d p n=true:=by
 unfold Fs;have h1:=Lq (d++p);have h2:=congrArg List.length h.all;have h3:=congrArg List.length h.dur;rw [aA] at h2;simp only [aw,aF];exact ⟨EV,⟨h2,h3⟩,h.cnt.symm⟩
theorem Aas.append {d p x:Bs} {n:Int} (h:Aas d p n) (hx:Y3 (Bm (d++p)).length x=true):Aas d (p++x) (n+1)/\Bm (d++(p++x))=Bm (d++p)++[x]:=by
 have h1:=Ak5 (d:=d++p) (by rw [h.all]) x;have h2:=Asn hx [];simp only [bg,D7,acc] at h2;rw [h2,aM] at h1;refine ⟨⟨?_,h.dur,?_⟩,h1⟩
 ·rw [h1,cY,h.all];simp
 ·rw [h1,aA,h.cnt];simp
theorem Aas.sync {d p:Bs} {n:Int} (h:Aas d p n):Aas (d++p) [] n:=by
 refine ⟨?_,?_,?_⟩
 ·rw [bg];exact h.all
 ·exact h.all
 ·rw [bg];exact h.cnt
def O5 (l:Bs):Ha:=⟨bs (Aej l),bs (Aeq l)⟩
def Ad7 (x:au):Ha:=O5 x.data.toList
theorem Aux (x:au):Ad7 x=⟨Qe 64 (Rj 32 (Qe 35 x)),Rj 64 (Rj 32 (Qe 35 x))⟩:=by
 simp only [Ad7,O5,Qe,Rj,Jj,Aej,Aeq,Ahh]
def Ey (pre:ai):List Bs:=pre.map fun x=>x.data.toList
theorem Vt (pre:ai) (x:au):Ey (pre++[x])=Ey pre++[x.data.toList]:=by simp [Ey]
theorem Q8 (pre:ai):(Ey pre).length=pre.length:=by simp [Ey]
theorem Qv (s:au):Ey (Jd s)=D7 s.data.toList:=by
 unfold Ey Jd;rw [eS];have:(fun x:au=>x.data.toList) ∘ bs=id:=by funext l;simp [bs]
 rw [this,fS]
def Wk (pre:ai):ar:=(Lc 0 (Ey pre)).map Int.ofNat
theorem Ul (pre:ai):(Wk pre).length=pre.length+1:=by simp [Wk,Sn,Q8]
def O0 (pre:ai):Nat:=(Ey pre).flatten.length
theorem Apj (pre:ai) (x:au):Wk (pre++[x])=Wk pre++[(O0 pre:Int)+(x.size:Int)]:=by
 unfold Wk O0;rw [Vt,Aft];simp
theorem Afu (pre:ai):(Wk pre)[pre.length]?=some (O0 pre:Int):=by
 have h:=Zx (n:=0) (xs:=Ey pre);have hl:=Ul pre;rw [dS,Sn,Q8] at h;unfold Wk;rw [List.getElem?_map,show pre.length=pre.length+1 - 1 from rfl,h];simp [O0]
theorem Aok {s:au} {pre post:ai} (h:Jd s=pre++post):O0 pre<=s.size:=by
 have h1:=congrArg (fun l=>(Ey l).flatten.length) h;simp only [Qv,R6] at h1;rw [C0] at h1;have:Ey (pre++post)=Ey pre++Ey post:=by simp [Ey]
 rw [this,cY,aA] at h1;unfold O0;omega
theorem Awv {s:au} {pre post:ai} (h:Jd s=pre++post):pre.length<=s.size:=by
 have h1:=Aok h;have h2:∀xs:List Bs,(∀x∈xs,x≠[])->xs.length<=xs.flatten.length:=by
  intro xs
  induction xs with
  | nil=>simp
  | cons x xs ih =>
   intro hx;have h3:=ih fun y hy=>hx y KM;have h4:1<=x.length:=by
    have:=hx x EX;cases x with
    | nil=>exact absurd rfl this
    | cons=>simp
   simp only [aU,ci,aA];omega
 have h5:=h2 (Ey pre) fun x hx=>by
  refine Vs (l:=s.data.toList) ?_;rw [<-Qv,h];simp only [Ey,bB,aJ];exact .inl hx
 rw [Q8] at h5;unfold O0 at h1;omega
theorem Bby {s:au} {pre post:ai} {x:au} (h:Jd s=pre++x::post):O0 pre+x.size<=s.size:=by
 have h1:Jd s=(pre++[x])++post:=by rw [h];simp
 have h2:=Aok h1;unfold O0 at h2 ⊢;rw [Vt] at h2;simp at h2 ⊢;omega
theorem Ez.startIn {P:Program} {ops:Array Oper} {Q:Exit->Act->World->Prop} {S:World->Prop} {X:Nat->Bool} {l n id:Nat} {a:Act} {w:World} (hm:P.follows .mixedOrders=true) (hQ:∀a w,¬Q .outgrown a w) (hp:(ops.toList.all Vx)=true)
  (h:Ez P .any ops Q S X ops.size (Array.replicate ops.size false) a w.drew):(Code.region id ops true).wpIn (Fence.wide.inRound l) n P Q a w :=
 wpIn_region_any hm (Yh hQ hp _ _ _ _ (Ez.any _ _ _ _ h))
theorem Ail (c:UInt8) (s:au):(Qe c s).size<=s.size:=by
 unfold Qe;rw [Jk];have:=Abt c s.data.toList;rw [C0] at this;exact this
theorem Aik (c:UInt8) (s:au):(Rj c s).size<=s.size:=by
 unfold Rj;rw [Jk];rcases Oy c s.data.toList with ⟨_,h2⟩|⟨_,_,h2⟩
 ·have:=congrArg List.length h2;rw [C0] at this;simp at this;omega
 ·rw [h2];simp
theorem Ay1 {w:World} {g:Nat} {t:TypeId} {cs:am} (h:If w g t cs):∀j u,cs[j]?=some u->w.cell? ((⟨g,0,none⟩:Addr).add j)=some u:=fun j u hu=>by
 rw [<-hu,<-h.cell j];by_cases hj:j=0
 ·subst hj;rfl
 ·simp [Addr.add,hj]
theorem Aio {w:World} {t:TypeId} {pre:ai} {gb off ec:Nat} {F:aq} (h:Ow Bb t w (ab (some ⟨gb,off,none⟩) (pre.length+1) ec) (Wk pre) F):w.cell? ⟨gb,off+pre.length,none⟩=some (aa (O0 pre:Int)):=by
 obtain ⟨F',_,hs⟩:=h.read;have hl:=Ul pre;obtain ⟨b,o,e,hc⟩:=hs.int.2.2 pre.length EV;cases e;rw [hc];have:=Afu pre;rw [aD EV] at this;rw [Option.some.inj this]
theorem Asz {w:World} {t:TypeId} {pre:ai} {eo:aj} {ec:Nat} {F:aq} (h:Ow Bb t w (ab eo (pre.length+1) ec) (Wk pre) F):∃gb off,eo=some ⟨gb,off,none⟩:=by
 obtain ⟨F',_,hs⟩:=h.read;have hl:=Ul pre;obtain ⟨b,o,e,hc⟩:=hs.int.2.2 pre.length EV;exact ⟨b,o,e⟩
def Zo (k:Nat) (W0 W:World):Prop:=W.heap[k]?=W0.heap[k]?/\k < W.heap.size
theorem Zo.below {k W0 W w'} (h:Zo k W0 W) (hb:Below W.heap.size W w'):Zo k W0 w':=⟨(hb.block k h.2).trans h.1,dA h.2 hb.size⟩
theorem Zo.keepK {k W0 W w' F} (h:Zo k W0 W) (hk:Ei F W w') (hn:k ∉ F):Zo k W0 w':=⟨(hk.block k h.2 hn).trans h.1,dA h.2 hk.size⟩
theorem Zo.alloc {k W0 W} (h:Zo k W0 W) (o:Obj):Zo k W0 (W.alloc o):=h.below ((Below.refl _ _).alloc (aK _) _)
theorem Zo.I5 {k W0 W w'} (h:Zo k W0 W) (e:w'.heap[k]?=W.heap[k]?):Zo k W0 w':=by
 refine ⟨e.trans h.1,?_⟩;rw [dR h.2] at e;exact (bG.1 e).1
def RdI (w w1:World) (FT:aq) (pre:ai) (W:World):Prop :=
 ∃lo lc F1 eo ec F2,If W w.heap.size 52 [ab lo pre.length lc]/\If W (w.heap.size+1+1) 24 [ab eo (pre.length+1) ec] /\
  Ow I9 56 W (ab lo pre.length lc) (pre.map Ad7) F1/\F1.Nodup/\Ow Bb 3 W (ab eo (pre.length+1) ec) (Wk pre) F2/\F2.Nodup /\
  (∀b∈F1,w1.heap.size+1 < b)/\(∀b∈F2,b=w.heap.size+1\/w1.heap.size+1 < b)/\(∀b∈F1,b ∉ F2)/\Ru Ab2 W (.agg #[]) () FT/\Below w.heap.size w W /\
  Hid (acc 0 (Ey pre)=Ey pre)
theorem RdI.I5 {w w1:World} {FT:aq} {g4:Nat} (h4:w.heap.size+1+1 < g4) (h5:g4 < w1.heap.size) (hFT:∀b∈FT,b < w.heap.size):AbB [g4,w1.heap.size+1] (RdI w w1 FT):=by
 rintro pre W W' ⟨lo,lc,F1,eo,ec,F2,r1,r3,o1,n1,o2,n2,f1,f2,d,hT,hB,ha⟩ hk;refine ⟨lo,lc,F1,eo,ec,F2,r1.keepK hk FB,r3.keepK hk FB,o1.I5 hk (fun b hb hm=>?_),n1,o2.I5 hk (fun b hb hm=>?_),n2,f1,f2,d,hT.I5 hk (fun b hb hm=>?_),hB.trans (hk.below hB.size (fun b hb=>?_)),ha⟩
 ·have:=f1 b hb;simp at hm;omega
 ·have:=f2 b hb;simp at hm;omega
 ·have:=hFT b hb;simp at hm;omega
 ·simp at hb;omega
def RdX (w w1:World) (FT:aq) (c:Code) (ys:ai) (W:World):Prop :=
 c=.exit 0/\∃pre x,ys=pre++[x]/\RdI w w1 FT pre W/\Y3 pre.length x.data.toList=false
def Bdi (s:au) (w:World) (e:Ending) (w':World):Prop :=
 ∃u0 G0 u1 G1,e=.returned (.tuple #[u0,u1])/\Ow I9 56 w' u0 ((Bm s.data.toList).map O5) G0/\G0.Nodup/\Ow Bb 3 w' u1 ((Lc 0 (Bm s.data.toList)).map Int.ofNat) G1/\G1.Nodup /\
  (∀b∈G0,w.heap.size<=b)/\(∀b∈G1,w.heap.size<=b)/\(∀b∈G0,b ∉ G1)/\Below w.heap.size w w'
theorem Al5 {k:Nat} {xs:List Bs} {x:Bs} (h:acc k xs=xs) (hx:Y3 (k+xs.length) x=true):acc k (xs++[x])=xs++[x]:=by
 rw [Vc k xs _ h];simp [acc,hx]
theorem Awd {k:Nat} {xs:List Bs} {x:Bs} (post:List Bs) (h:acc k xs=xs) (hx:Y3 (k+xs.length) x=false):acc k (xs++x::post)=xs:=by
 rw [Vc k xs _ h];simp [acc,hx]
theorem Aqa {s:au} (h:acc 0 (Ey (Jd s))=Ey (Jd s)):Ey (Jd s)=Bm s.data.toList:=by
 rw [Qv] at h ⊢;exact h.symm
theorem Anp {s:au} {pre post:ai} {x:au} (hs:Jd s=pre++x::post) (h:acc 0 (Ey pre)=Ey pre) (hx:Y3 pre.length x.data.toList=false):Ey pre=Bm s.data.toList:=by
 unfold Bm;rw [<-Qv,hs];have:Ey (pre++x::post)=Ey pre++x.data.toList::Ey post:=by simp [Ey]
 rw [this,Awd _ h (by rw [Q8,cN];exact hx)]
theorem RdI.post {s:au} {w w1:World} {FT:aq} {pre:ai} {W:World} (h1:w.heap.size+1 < w1.heap.size) (ho:Ey pre=Bm s.data.toList)
  (h:RdI w w1 FT pre W):∃lo lc eo ec,If W w.heap.size 52 [ab lo pre.length lc]/\If W (w.heap.size+1+1) 24 [ab eo (pre.length+1) ec] /\
   ∀W',Ei [w1.heap.size] W W'->Bdi s w (.returned (.tuple #[ab lo pre.length lc,ab eo (pre.length+1) ec])) W':=by
 obtain ⟨lo,lc,F1,eo,ec,F2,r1,r3,o1,n1,o2,n2,f1,f2,d,hT,hB,ha⟩:=h;refine ⟨lo,lc,eo,ec,r1,r3,fun W' hk=>⟨_,F1,_,F2,rfl,?_,n1,?_,n2,fun b hb=>by have:=f1 b hb;omega,fun b hb=>by have:=f2 b hb;omega,d,hB.trans (hk.below hB.size (fun b hb=>by simp at hb;omega))⟩⟩
 ·have e:(Bm s.data.toList).map O5=pre.map Ad7:=by rw [<-ho];simp [Ey,Ad7]
  rw [e];exact o1.I5 hk (fun b hb hm=>by have:=f1 b hb;simp at hm;omega)
 ·have e:(Lc 0 (Bm s.data.toList)).map Int.ofNat=Wk pre:=by rw [<-ho];rfl
  rw [e];exact o2.I5 hk (fun b hb hm=>by have:=f2 b hb;simp at hm;omega)
theorem RdI.acc {w w1:World} {FT:aq} {pre:ai} {W:World} (h:RdI w w1 FT pre W):acc 0 (Ey pre)=Ey pre:=by
 obtain ⟨_,_,_,_,_,_,_,_,_,_,_,_,_,_,_,_,_,h⟩:=h;exact h.out
theorem Ah4 (s:au) (FT:aq) (w:World) (hs:s.size<=16777216) (hT:Ru Ab2 w (.agg #[]) () FT) :
  Calls prog 44 #[af s] w (Bdi s w):=by
 have hFT:=hT.lt;refine (callsIn_wide (n:=9)).1 (callsIn_of_wp_marks func44 rfl trivial ?_ rfl);simp only [ntmps44,fC,aU,aY,Nat.reduceAdd,Nat.reduceSub,fZ,gh,fE,gl,cg,aZ];refine wpIn_wide.2 ?_;go_wp2_with (go_at_call 83;refine (Bar _ _).mono ?_;rintro e w' ⟨rfl,rfl⟩)
 have al:Below w.heap.size w ((((w.alloc (.cells #[ab none 0 0] 52)).alloc (.cells #[aa 0] 3)).alloc (.cells #[ab (some ⟨w.heap.size+1,0,none⟩) 1 1] 24)).alloc (.cells #[af s] 9)):=by
  repeat refine Below.alloc ?_ GL _
  exact Below.refl _ _
 have n_R1:If ((((w.alloc (.cells #[ab none 0 0] 52)).alloc (.cells #[aa 0] 3)).alloc (.cells #[ab (some ⟨w.heap.size+1,0,none⟩) 1 1] 24)).alloc (.cells #[af s] 9)) (w.heap.size) 52 [ab none 0 0]:=GI
 have n_R2:If ((((w.alloc (.cells #[ab none 0 0] 52)).alloc (.cells #[aa 0] 3)).alloc (.cells #[ab (some ⟨w.heap.size+1,0,none⟩) 1 1] 24)).alloc (.cells #[af s] 9)) (w.heap.size+1) 3 [aa 0]:=GI
 have n_R3:If ((((w.alloc (.cells #[ab none 0 0] 52)).alloc (.cells #[aa 0] 3)).alloc (.cells #[ab (some ⟨w.heap.size+1,0,none⟩) 1 1] 24)).alloc (.cells #[af s] 9)) (w.heap.size+1+1) 24 [ab (some ⟨w.heap.size+1,0,none⟩) 1 1]:=GI
 have n_R4:If ((((w.alloc (.cells #[ab none 0 0] 52)).alloc (.cells #[aa 0] 3)).alloc (.cells #[ab (some ⟨w.heap.size+1,0,none⟩) 1 1] 24)).alloc (.cells #[af s] 9)) (w.heap.size+1+1+1) 9 [af s]:=GI
 have hs_w1:w.heap.size+1+1+1 < ((((w.alloc (.cells #[ab none 0 0] 52)).alloc (.cells #[aa 0] 3)).alloc (.cells #[ab (some ⟨w.heap.size+1,0,none⟩) 1 1] 24)).alloc (.cells #[af s] 9)).heap.size:=GL
 replace hT:=hT.below al;have hB:=al;generalize ((((w.alloc (.cells #[ab none 0 0] 52)).alloc (.cells #[aa 0] 3)).alloc (.cells #[ab (some ⟨w.heap.size+1,0,none⟩) 1 1] 24)).alloc (.cells #[af s] 9))=w1 at *;have R1:=n_R1;clear n_R1;have R2:=n_R2;clear n_R2;have R3:=n_R3;clear n_R3;have R4:=n_R4;clear n_R4;clear al;have h0:RdI w w1 FT [] w1:=by
  refine ⟨none,0,[],some ⟨w.heap.size+1,0,none⟩,1,[w.heap.size+1],R1,R3,.inl ⟨rfl,rfl,rfl⟩,EX,?_,EX,EX,EX,EX,hT,hB,Lib.hid rfl⟩;exact .inr ⟨w.heap.size+1,1,[aa 0],[],[],rfl,by simpa using R2,by rw [Ul];simp,FC,rfl,⟨[aa 0],[],[],[],rfl,rfl,⟨rfl,rfl⟩,rfl,rfl⟩,rfl⟩
 refine (wpIn_wide (n:=9)).1 ?_
 apply Alp (b:=w.heap.size+1+1+1) (xs:=Jd s) (gf:=158) (lb:=#[.pointer (some ⟨w.heap.size+1+1+1,0,none⟩)]) rfl (enters_of func158 EY rfl) rfl EV
  (fun W0 hW0=>Auc s _ W0 EV (R4.I5 hW0)) (RdI w w1 FT) (RdX w w1 FT) (RdI.I5 EV EV hFT)
  (by
   rintro c ys W W' ⟨hc,pre,x,hy,hi,hk2⟩ hk;exact ⟨hc,pre,x,hy,RdI.I5 EV EV hFT _ _ _ hi hk,hk2⟩) h0
 case hassign =>
  intro m x W K hK;refine H9 (fun _ _ h=>h) EY ?_;simp only [List.zip_toArray,List.foldl_toArray,List.zip_cons_cons,List.zip_nil_right,dU,eZ,be,bj,bp];go_wp2_with fail;exact hK
 case hbody =>
  intro m pre post x W hxs hsz hI;clear R1 R2 R3 R4 hT hB h0;have hxl:=Bby hxs;have hcl:=Awv hxs;have hends:=Afu pre;have hel:=Ul pre;have hT0:=hFT;obtain ⟨lo,lc,F1,eo,ec,F2,G1,G3,o1,n1,o2,n2,f1,f2,dd,hT,hB,ha⟩:=hI;have S4:Zo (w.heap.size+1+1+1) W W:=⟨rfl,EV⟩;have S5:Zo w1.heap.size W W:=⟨rfl,EV⟩;have S6:Zo (w1.heap.size+1) W W:=⟨rfl,EV⟩;have z1:=Ail 35 x;have z2:=Aik 32 (Qe 35 x);have z3:=Ail 64 (Rj 32 (Qe 35 x));have z4:=Aik 64 (Rj 32 (Qe 35 x));have hk1:=Lib.hid (fun w=>Avu x 35 w FC)
  have hk2:=Lib.hid (fun w=>Avu (Qe 35 x) 32 w FC);have hk3:=Lib.hid (fun w=>Avu (Rj 32 (Qe 35 x)) 64 w FC);have hrec:=Aux x;have hcm:(Qe 64 (Rj 32 (Qe 35 x))).data.toList=Aej x.data.toList:=by simp only [Qe,Rj,Jj,Aej,Ahh]
  have hrp:(Rj 64 (Rj 32 (Qe 35 x))).data.toList=Aeq x.data.toList:=by simp only [Qe,Rj,Jj,Aeq,Ahh]
  generalize Qe 35 x=y1 at *;generalize Rj 32 y1=y2 at *;generalize Qe 64 y2=cc at *;generalize Rj 64 y2=rr at *;generalize hy1f:Rj 35 x=y3 at *;generalize hy2f:Qe 32 y1=y4 at *;clear hy1f hy2f;have sc:cc.size<=maxLen:=FC
  have sr:rr.size<=maxLen:=FC
  have hE:=Lib.hid (fun w v hv hT=>Afa (pre.length:Int) v ⟨cc,rr⟩ [] FT w hv hT);have hres:J3 (pre.length:Int) ⟨cc,rr⟩=(bs ((Ael (pre.length:Int) (Aej x.data.toList) (Aeq x.data.toList)).getD []),(Ael (pre.length:Int) (Aej x.data.toList) (Aeq x.data.toList)).isSome):=by unfold J3;rw [hcm,hrp]
  replace hres:=Lib.hid hres;replace hrec:=Lib.hid hrec;replace hends:=Lib.hid hends;replace hel:=Lib.hid hel;replace hxs:=Lib.hid hxs;clear hcm hrp;refine wpIn_block ?_;refine wpIn_seq_k (fun _ _=>?_);refine H9 (fun _ _ h=>h) EY ?_;go_wp2_with fail;refine (hk1.out _).mono ?_;rintro e w21 ⟨rfl,j,hj⟩;have hb:Below W.heap.size W w21:=HU
  clear hj;have hs_w21:=hb.size;replace G1:=G1.below hb;replace G3:=G3.below hb;replace o1:=o1.below hb;replace o2:=o2.below hb;replace hT:=hT.below hb;replace S4:=S4.below hb;replace S5:=S5.below hb;replace S6:=S6.below hb;replace hB:=tr hB hb (aK _);clear hb;go_wp2_with fail;refine wpIn_seq_k (fun _ _=>?_);refine H9 (fun _ _ h=>h) EY ?_;go_wp2_with fail;refine (hk2.out _).mono ?_;rintro e w22 ⟨rfl,j,hj⟩;have hb:Below w21.heap.size w21 w22:=HU
  clear hj;have hs_w22:=hb.size;replace G1:=G1.below hb;replace G3:=G3.below hb;replace o1:=o1.below hb;replace o2:=o2.below hb;replace hT:=hT.below hb;replace S4:=S4.below hb;replace S5:=S5.below hb;replace S6:=S6.below hb;replace hB:=tr hB hb (aK _);clear hb;go_wp2_with fail;refine wpIn_seq_k (fun _ _=>?_);refine H9 (fun _ _ h=>h) EY ?_;go_wp2_with fail;refine (hk3.out _).mono ?_;rintro e w23 ⟨rfl,j,hj⟩;have hb:Below w22.heap.size w22 w23:=HU
  clear hj;have hs_w23:=hb.size;replace G1:=G1.below hb;replace G3:=G3.below hb;replace o1:=o1.below hb;replace o2:=o2.below hb;replace hT:=hT.below hb;replace S4:=S4.below hb;replace S5:=S5.below hb;replace S6:=S6.below hb;replace hB:=tr hB hb (aK _);clear hb;go_wp2_with fail;clear hk1 hk2 hk3;refine wpIn_seq_k (fun _ _=>?_);refine H9 (fun _ _ h=>h) EY ?_;go_wp2_with fail;have al:Below w23.heap.size w23 (w23.alloc (.cells #[af cc,af rr] 56)):=by
   repeat refine Below.alloc ?_ GL _
   exact Below.refl _ _
  have n_R8:=If.made w23 56 [af cc,af rr];have hs_w24:w23.heap.size < (w23.alloc (.cells #[af cc,af rr] 56)).heap.size:=EX
  replace G1:=G1.below al;replace G3:=G3.below al;replace o1:=o1.below al;replace o2:=o2.below al;replace hT:=hT.below al;replace S4:=S4.below al;replace S5:=S5.below al;replace S6:=S6.below al;replace hB:=tr hB al (aK _);generalize (w23.alloc (.cells #[af cc,af rr] 56))=w24 at *;have R8:=n_R8;clear n_R8;clear al;cases henc:Ael (pre.length:Int) (Aej x.data.toList) (Aeq x.data.toList) with
  | none =>
   have hno:Y3 pre.length x.data.toList=false:=by unfold Y3;rw [henc];rfl
   have hE2:=hE.out;rw [hres.out,henc] at hE2;replace hE2:=Lib.hid hE2;refine wpIn_seq_k (fun _ _=>?_);refine wpIn_seq_k (fun _ _=>?_);refine H9 (fun _ _ h=>h) EY ?_;have c_G1:=G1.cells;have f_G1:=G1.frozens;have c_R8:=R8.cells;have f_R8:=R8.frozens;go_wp2_with fail;clear c_G1 f_G1 c_R8 f_R8;refine (hE2.out _ _ ⟨_,rfl,rfl,sc,sr,rfl⟩ hT).mono ?_;rintro e w25 ⟨rfl,hb⟩;have hs_w25:=hb.size;clear hE hE2;replace G1:=G1.below hb;replace G3:=G3.below hb;replace R8:=R8.below hb;replace o1:=o1.below hb;replace o2:=o2.below hb;replace hT:=hT.below hb;replace S4:=S4.below hb
   replace S5:=S5.below hb;replace S6:=S6.below hb;replace hB:=tr hB hb (aK _);clear hb;go_wp2_with fail;refine wpIn_seq_k (fun _ _=>?_);refine H9 (fun _ _ h=>h) EY ?_;go_wp2_with fail;refine wpIn_cond_true rfl ?_;refine wpIn_exit ?_;refine ⟨fun k hk=>?_,rfl,pre,x,rfl,⟨lo,lc,F1,eo,ec,F2,G1,G3,o1,n1,o2,n2,f1,f2,dd,hT,hB,ha⟩,hno⟩;simp only [aG,aT,bl] at hk;rcases hk with rfl|rfl|rfl
   ·exact S4.1
   ·exact S5.1
   ·exact S6.1
  | some y =>
   by_cases hyx:y=x.data.toList
   ·have hok:Y3 pre.length x.data.toList=true:=by unfold Y3;rw [henc,hyx];simp
    rw [hyx] at henc;have hE2:=hE.out;rw [hres.out,henc] at hE2;simp only [fP,Adm,Option.isSome_some] at hE2;replace hE2:=Lib.hid hE2;refine wpIn_seq_k (fun _ _=>?_);refine wpIn_seq_k (fun _ _=>?_);refine H9 (fun _ _ h=>h) EY ?_;have c_G1:=G1.cells;have f_G1:=G1.frozens;have c_R8:=R8.cells;have f_R8:=R8.frozens;go_wp2_with fail;clear c_G1 f_G1 c_R8 f_R8;refine (hE2.out _ _ ⟨_,rfl,rfl,sc,sr,rfl⟩ hT).mono ?_;rintro e w26 ⟨rfl,hb⟩;have hs_w26:=hb.size;clear hE hE2;replace G1:=G1.below hb;replace G3:=G3.below hb;replace R8:=R8.below hb;replace o1:=o1.below hb
    replace o2:=o2.below hb;replace hT:=hT.below hb;replace S4:=S4.below hb;replace S5:=S5.below hb;replace S6:=S6.below hb;replace hB:=tr hB hb (aK _);clear hb;go_wp2_with fail;refine wpIn_seq_k (fun _ _=>?_);refine H9 (fun _ _ h=>h) EY ?_;go_wp2_with fail;refine wpIn_cond_false rfl ?_;refine wpIn_skip ?_;go_wp2_with fail;have lF1:=o1.lt;have lF2:=o2.lt;have hnd:∀b∈FT,b < w.heap.size:=hT0;clear henc hres;refine wpIn_seq_k (fun _ _=>?_);refine H9 (fun _ _ h=>h) EY ?_
    have c_G1:=G1.cells;have f_G1:=G1.frozens;have d_G1:=fun o=>(G1.alloc o).cells;have e_G1:=fun o=>(G1.alloc o).frozens;have c_R8:=R8.cells;have f_R8:=R8.frozens;have d_R8:=fun o=>(R8.alloc o).cells;have e_R8:=fun o=>(R8.alloc o).frozens
    go_wp2_with (at_builtin;refine O7 Xv EW FH _ _ _ FH 56 (.agg #[af ⟨#[]⟩,af ⟨#[]⟩]) 32 underlying52 Af4 rfl (ab lo pre.length lc) (pre.map Ad7) F1 FH (o1.below ((Below.refl _ _).alloc (aK _) _)) (Hd.of n1) (some ⟨w26.heap.size,0,none⟩) [⟨cc,rr⟩] 1 FH [af cc,af rr] [] (Cw.one ⟨rfl,sc,sr,rfl⟩) (.inr ⟨_,rfl,World.news_of_block (heap_alloc_new w26 _)⟩) EX (by simp;unfold maxLen;omega) FB ?_);clear c_G1 f_G1 d_G1 e_G1 c_R8 f_R8 d_R8 e_R8;intro v6 w27 F6 hA
    have o6:=hA.ow;have n6:=hA.Ax5 n1 EX EX;have m6:=hA.mem;have K6:=hA.I5;obtain ⟨a6,c6,hv6⟩:=hA.val;clear hA;have hv7:v6=ab a6 (pre.length+1) c6:=by simpa using hv6
    subst hv7;clear hv6;have al:=(Below.refl w26.heap.size w26).alloc (aK _) (.cells #[af cc,af rr] 56);have hs_w27:w26.heap.size+1<=w27.heap.size:=by have:=K6.size;simpa using this
    have f6:∀b∈F6,w1.heap.size+1 < b:=fun b hb=>by
     rcases m6 b hb with h7|h7|h7
     ·exact f1 b h7
     ·simp at h7
     ·simp at h7;omega
    have d6:∀b∈F6,b ∉ F2:=fun b hb hm=>by
     rcases m6 b hb with h7|h7|h7
     ·exact dd b h7 hm
     ·simp at h7
     ·have:=lF2 b hm;simp at h7;omega
    replace G1:=(G1.below al).keepK K6 (fun hm=>by have:=f1 _ hm;omega);replace G3:=(G3.below al).keepK K6 (fun hm=>by have:=f1 _ hm;omega);replace o2:=(o2.below al).I5 K6 (fun b hb hm=>dd b hm hb);replace hT:=(hT.below al).I5 K6 (fun b hb hm=>by have:=f1 b hm;have:=hnd b hb;omega);replace S4:=(S4.below al).keepK K6 (fun hm=>by have:=f1 _ hm;omega);replace S5:=(S5.below al).keepK K6 (fun hm=>by have:=f1 _ hm;omega);replace S6:=(S6.below al).keepK K6 (fun hm=>by have:=f1 _ hm;omega)
    replace hB:=(tr hB al (aK _)).trans (K6.below (B:=w.heap.size) (by have:=hB.size;simp;omega) (fun b hb=>by have:=f1 b hb;omega));clear K6 m6 al o1 n1 dd lF1 lF2 R8;have c_G1:=G1.cells;have f_G1:=G1.frozens;go_wp2_with fail;clear c_G1 f_G1;have K7:Ei [w.heap.size] w27 (w27.setCell ⟨w.heap.size,0,none⟩ (ab a6 (pre.length+1) c6)):=(Ei.refl _ _).setCell EX _;have G1b:If (w27.setCell ⟨w.heap.size,0,none⟩ (ab a6 (pre.length+1) c6)) w.heap.size 52 [(ab a6 (pre.length+1) c6)]:=G1.set 0 (ab a6 (pre.length+1) c6);replace G3:=G3.keepK K7 FB
    replace o2:=o2.I5 K7 (fun b hb hm=>by have:=f2 b hb;simp at hm;omega);replace o6:=o6.I5 K7 (fun b hb hm=>by have:=f6 b hb;simp at hm;omega);replace hT:=hT.I5 K7 (fun b hb hm=>by have:=hnd b hb;simp at hm;omega);replace S4:=S4.keepK K7 FB;replace S5:=S5.keepK K7 FB;replace S6:=S6.keepK K7 FB;replace hB:=hB.trans (K7.below (B:=w.heap.size) (by have:=hB.size;omega) (fun b hb=>by simp at hb;omega));have hs_w28:w27.heap.size<=(w27.setCell ⟨w.heap.size,0,none⟩ (ab a6 (pre.length+1) c6)).heap.size:=K7.size;clear K7 G1
    generalize (w27.setCell ⟨w.heap.size,0,none⟩ (ab a6 (pre.length+1) c6))=w28 at *;have G1:=G1b;clear G1b;obtain ⟨gb,off,rfl⟩:=Asz o2;have hw4:=Lib.hid (show IntKind.i64.wrap (pre.length:Int)=(pre.length:Int) from by rw [IntKind.wrap_i64];omega);have hw9:=Lib.hid (show IntKind.i64.wrap ((O0 pre:Int)+(x.size:Int))=(O0 pre:Int)+(x.size:Int) from by rw [IntKind.wrap_i64];omega)
    refine Ez.startIn (S:=(fun w'=>w'.cell? ⟨w.heap.size+1+1,0,none⟩=some (ab (some ⟨gb,off,none⟩) (pre.length+1) ec)/\w'.cell? ⟨gb,off+pre.length,none⟩=some (aa (O0 pre:Int)))) (X:=(fun i=>i == 11 || i == 12)) EY (fun _ _ h=>h) EY ?_;have al:Below w28.heap.size w28 w28.drew:=E4 (Below.refl _ _) 1;have hs_w29:=al.size;replace G1:=G1.below al;replace G3:=G3.below al;replace o2:=o2.below al;replace hT:=hT.below al;replace S4:=S4.below al;replace S5:=S5.below al;replace S6:=S6.below al;replace o6:=o6.below al;replace hB:=tr hB al (aK _)
    generalize w28.drew=w29 at *;clear al;have hS:(fun w'=>w'.cell? ⟨w.heap.size+1+1,0,none⟩=some (ab (some ⟨gb,off,none⟩) (pre.length+1) ec)/\w'.cell? ⟨gb,off+pre.length,none⟩=some (aa (O0 pre:Int))) w29:=⟨G3.cells 0,Aio o2⟩;refine Ez.take (i:=0) (oi:=_) (v:=?_) FO EY EY EY EY EY FL (Or.inl ⟨FH,?_⟩) hS ?_
    rotate_left
    ·(intro wS hSw;(try dsimp only at hSw);go_simp;try with_reducible rfl)
    try simp only [Act.put,be,bj,bp]
    refine Ez.take (i:=1) (oi:=_) (v:=?_) FO EY EY EY EY EY FL (Or.inl ⟨FH,?_⟩) hS ?_
    rotate_left
    ·(intro wS hSw;(try dsimp only at hSw);go_simp;try with_reducible rfl)
    try simp only [Act.put,be,bj,bp]
    refine Ez.take (i:=2) (oi:=_) (v:=?_) FO EY EY EY EY EY FL (Or.inl ⟨FH,?_⟩) hS ?_
    rotate_left
    ·(intro wS hSw;(try dsimp only at hSw);go_simp;try with_reducible rfl)
    try simp only [Act.put,be,bj,bp]
    refine Ez.take (i:=3) (oi:=_) (v:=?_) FO EY EY EY EY EY FL (Or.inl ⟨FH,?_⟩) hS ?_
    rotate_left
    ·(intro wS hSw;(try dsimp only at hSw);go_simp;try with_reducible rfl)
    try simp only [Act.put,be,bj,bp]
    refine Ez.take (i:=4) (oi:=_) (v:=?_) FO EY EY EY EY EY FL (Or.inl ⟨FH,?_⟩) hS ?_
    rotate_left
    ·(intro wS hSw;(try dsimp only at hSw);go_simp;rw [hw4.out];try with_reducible rfl)
    try simp only [Act.put,be,bj,bp]
    refine Ez.take (i:=5) (oi:=_) (v:=?_) FO EY EY EY EY EY FL (Or.inl ⟨FH,?_⟩) hS ?_
    rotate_left
    ·(intro wS hSw;(try dsimp only at hSw);go_simp;rw [aH EV];try with_reducible rfl)
    try simp only [Act.put,be,bj,bp]
    refine Ez.take (i:=6) (oi:=_) (v:=?_) FO EY EY EY EY EY FL (Or.inl ⟨FH,?_⟩) hS ?_
    rotate_left
    ·(intro wS hSw;(try dsimp only at hSw);go_simp;try with_reducible rfl)
    try simp only [Act.put,be,bj,bp]
    refine Ez.take (i:=7) (oi:=_) (v:=?_) FO EY EY EY EY EY FL (Or.inl ⟨FH,?_⟩) hS ?_
    rotate_left
    ·(intro wS hSw;(try dsimp only at hSw);go_simp;try with_reducible rfl)
    try simp only [Act.put,be,bj,bp]
    refine Ez.take (i:=8) (oi:=_) (v:=?_) FO EY EY EY EY EY FL (Or.inl ⟨FH,?_⟩) hS ?_
    rotate_left
    ·(intro wS hSw;(try dsimp only at hSw);go_simp;try with_reducible rfl)
    try simp only [Act.put,be,bj,bp]
    refine Ez.take (i:=9) (oi:=_) (v:=?_) FO EY EY EY EY EY FL (Or.inl ⟨FH,?_⟩) hS ?_
    rotate_left
    ·(intro wS hSw;(try dsimp only at hSw);go_simp;rw [hw9.out];try with_reducible rfl)
    try simp only [Act.put,be,bj,bp]
    refine Ez.only (i:=10) (o:=_) EY FO (fun K hK=>?_)
    go_simp
    have al:Below w29.heap.size w29 (w29.alloc (.cells #[aa ((O0 pre:Int)+(x.size:Int))] 3)):=by
     repeat refine Below.alloc ?_ GL _
     exact Below.refl _ _
    have n_R9:=If.made w29 3 [aa ((O0 pre:Int)+(x.size:Int))];have hs_w30:w29.heap.size < (w29.alloc (.cells #[aa ((O0 pre:Int)+(x.size:Int))] 3)).heap.size:=EX
    replace G1:=G1.below al;replace G3:=G3.below al;replace o2:=o2.below al;replace hT:=hT.below al;replace S4:=S4.below al;replace S5:=S5.below al;replace S6:=S6.below al;replace o6:=o6.below al;replace hB:=tr hB al (aK _);generalize (w29.alloc (.cells #[aa ((O0 pre:Int)+(x.size:Int))] 3))=w30 at *;have R9:=n_R9;clear n_R9;clear al;clear hS;have hS:(fun w'=>w'.cell? ⟨w.heap.size+1+1,0,none⟩=some (ab (some ⟨gb,off,none⟩) (pre.length+1) ec)/\w'.cell? ⟨gb,off+pre.length,none⟩=some (aa (O0 pre:Int))) w30:=⟨G3.cells 0,Aio o2⟩;refine hK.out _ _ (fun _=>hS) ?_;clear hK K
    try simp only [Act.put,be,bj,bp]
    refine Ez.only (i:=11) (o:=_) EY FO (fun K hK=>?_);have lF2:=o2.lt;have lF6:=o6.lt;refine Aoc Da EW FH _ _ _ FH 3 (aa 0) 8 underlying24 Af5 rfl (ab (some ⟨gb,off,none⟩) (pre.length+1) ec) (Wk pre) F2 FH o2 (Hd.of n2) (some ⟨w29.heap.size,0,none⟩) [(O0 pre:Int)+(x.size:Int)] 1 FH [aa ((O0 pre:Int)+(x.size:Int))] [] (Cw.one ⟨rfl,rfl⟩) (.inr ⟨_,rfl,(Ay1 R9)⟩) EX (by have:=hel.out;simp;unfold maxLen;omega) (by have:=hel.out;simp;omega) ?_;intro v8 w31 F8 hA
    have o8:=hA.ow;have n8:=hA.Ax5 n2 EX EX;have m8:=hA.mem;have K8:=hA.I5;obtain ⟨a8,c8,hv8⟩:=hA.val;clear hA;have hv9:v8=ab a8 (pre.length+1+1) c8:=by rw [hv8,hel.out];rfl
    subst hv9;clear hv8;have hs_w31:=K8.size;have f8:∀b∈F8,b=w.heap.size+1\/w1.heap.size+1 < b:=fun b hb=>by
     rcases m8 b hb with h7|h7|h7
     ·exact f2 b h7
     ·simp at h7
     ·omega
    have d8:∀b∈F6,b ∉ F8:=fun b hb hm=>by
     rcases m8 b hm with h7|h7|h7
     ·exact d6 b hb h7
     ·simp at h7
     ·have:=lF6 b hb;omega
    replace G1:=G1.keepK K8 (fun hm=>by have:=f2 _ hm;omega);replace G3:=G3.keepK K8 (fun hm=>by have:=f2 _ hm;omega);replace o6:=o6.I5 K8 (fun b hb hm=>d6 b hb hm);replace hT:=hT.I5 K8 (fun b hb hm=>by have:=f2 b hm;have:=hnd b hb;omega);replace S4:=S4.keepK K8 (fun hm=>by have:=f2 _ hm;omega);replace S5:=S5.keepK K8 (fun hm=>by have:=f2 _ hm;omega);replace S6:=S6.keepK K8 (fun hm=>by have:=f2 _ hm;omega);replace hB:=hB.trans (K8.below (B:=w.heap.size) (by have:=hB.size;omega) (fun b hb=>by have:=f2 b hb;omega));clear K8 m8 lF2 lF6 R9 o2;refine hK.out _ _ (fun h=>by cases h) ?_;clear hK K
    try simp only [Act.put,be,bj,bp]
    refine Ez.only (i:=12) (o:=_) EY FO (fun K hK=>?_);have c_G3:=G3.cells;have f_G3:=G3.frozens
    go_simp
    clear c_G3 f_G3;refine hK.out _ _ (fun h=>by cases h) ?_;clear hK K
    try simp only [Act.put,be,bj,bp]
    refine Ez.done EY ?_ _
    (try clear hS)
    have K9:Ei [w.heap.size+1+1] w31 (w31.setCell ⟨w.heap.size+1+1,0,none⟩ (ab a8 (pre.length+1+1) c8)):=(Ei.refl _ _).setCell EX _;have G3b:If (w31.setCell ⟨w.heap.size+1+1,0,none⟩ (ab a8 (pre.length+1+1) c8)) (w.heap.size+1+1) 24 [(ab a8 (pre.length+1+1) c8)]:=G3.set 0 (ab a8 (pre.length+1+1) c8);replace G1:=G1.keepK K9 GL;replace o6:=o6.I5 K9 (fun b hb hm=>by have:=f6 b hb;simp at hm;omega);replace o8:=o8.I5 K9 (fun b hb hm=>by have:=f8 b hb;simp at hm;omega);replace hT:=hT.I5 K9 (fun b hb hm=>by have:=hnd b hb;simp at hm;omega)
    replace S4:=S4.keepK K9 GL;replace S5:=S5.keepK K9 GL;replace S6:=S6.keepK K9 GL;replace hB:=hB.trans (K9.below (B:=w.heap.size) (by have:=hB.size;omega) (fun b hb=>by simp at hb;omega));have hlen:(pre++[x]).length=pre.length+1:=EX
    have hmap:(pre++[x]).map Ad7=pre.map Ad7++[⟨cc,rr⟩]:=by rw [bB,<-hrec.out];rfl
    refine ⟨fun k hk=>?_,?_⟩
    ·simp only [aG,aT,bl] at hk;rcases hk with rfl|rfl|rfl
     ·exact S4.1
     ·exact S5.1
     ·exact S6.1
    ·unfold RdI;rw [hlen,hmap,Apj,Vt];exact ⟨a6,c6,F6,a8,c8,F8,G1,G3b,o6,n6,o8,n8,f6,f8,d8,hT,hB,Lib.hid (Al5 ha.out (by rw [Q8,cN];exact hok))⟩
   ·have hno:Y3 pre.length x.data.toList=false:=by unfold Y3;rw [henc];simpa using hyx
    have hne:((bs y).toList == x.toList)=false:=by rw [ByteArray.toList_eq,ByteArray.toList_eq,Jj];simpa using hyx
    have hE2:=hE.out;rw [hres.out,henc] at hE2;replace hE2:=Lib.hid hE2;refine wpIn_seq_k (fun _ _=>?_);refine wpIn_seq_k (fun _ _=>?_);refine H9 (fun _ _ h=>h) EY ?_;have c_G1:=G1.cells;have f_G1:=G1.frozens;have c_R8:=R8.cells;have f_R8:=R8.frozens;go_wp2_with fail;clear c_G1 f_G1 c_R8 f_R8;refine (hE2.out _ _ ⟨_,rfl,rfl,sc,sr,rfl⟩ hT).mono ?_;rintro e w32 ⟨rfl,hb⟩;have hs_w32:=hb.size;clear hE hE2;replace G1:=G1.below hb;replace G3:=G3.below hb;replace R8:=R8.below hb;replace o1:=o1.below hb;replace o2:=o2.below hb;replace hT:=hT.below hb;replace S4:=S4.below hb
    replace S5:=S5.below hb;replace S6:=S6.below hb;replace hB:=tr hB hb (aK _);clear hb;go_wp2_with fail;refine wpIn_seq_k (fun _ _=>?_);refine H9 (fun _ _ h=>h) EY ?_;go_wp2_with fail;refine wpIn_cond_true rfl ?_;refine wpIn_exit ?_;refine ⟨fun k hk=>?_,rfl,pre,x,rfl,⟨lo,lc,F1,eo,ec,F2,G1,G3,o1,n1,o2,n2,f1,f2,dd,hT,hB,ha⟩,hno⟩;simp only [aG,aT,bl] at hk;rcases hk with rfl|rfl|rfl
    ·exact S4.1
    ·exact S5.1
    ·exact S6.1
 case hdone =>
  intro W hi hD;obtain ⟨lo,lc,eo,ec,r1,r3,hp⟩:=RdI.post (s:=s) EV (Aqa hi.acc) hi;replace hp:=Lib.hid hp;clear R1 R2 R3 R4 hT hB h0 hi;have c1:=r1.cells;have c3:=r3.cells;go_wp2_with fail
  go_quiet (fail)
  go_wp2_with fail;refine ⟨EX,.inl ⟨_,_,rfl,run_takeDeferred (show (World.drewN W nq).heap[w1.heap.size]?=_ from hD),?_⟩⟩;refine ⟨_,?_,hp.out _ ⟨rfl,rfl,rfl,by simp [World.drewN],fun k hk hm=>World.putObj_heap_other IP⟩⟩;simp [results,results44,go_sem]
 case hstop =>
  intro c pre post x W hxs hix hD;obtain ⟨rfl,pre',x',hy,hi,hok⟩:=hix;obtain ⟨rfl,hxx⟩:=List.append_inj' hy rfl;simp only [List.cons.injEq,cK] at hxx;subst hxx;obtain ⟨lo,lc,eo,ec,r1,r3,hp⟩:=RdI.post (s:=s) EV (Anp hxs hi.acc hok) hi;replace hp:=Lib.hid hp;clear R1 R2 R3 R4 hT hB h0 hi hxs hy;refine wpIn_exit ?_;have c1:=r1.cells;have c3:=r3.cells;go_wp2_with fail
  go_quiet (fail)
  go_wp2_with fail;refine ⟨EX,.inl ⟨_,_,rfl,run_takeDeferred (show (World.drewN W nq).heap[w1.heap.size]?=_ from hD),?_⟩⟩;refine ⟨_,?_,hp.out _ ⟨rfl,rfl,rfl,by simp [World.drewN],fun k hk hm=>World.putObj_heap_other IP⟩⟩;simp [results,results44,go_sem]
theorem Asm (xs:List Bs):acc 60 xs=[]:=by
 cases xs with
 | nil=>rfl
 | cons x r =>
  have:Y3 60 x=false:=by
   cases h:Y3 60 x with
   | false=>rfl
   | true=>obtain ⟨c,r,hk,_⟩:=Tw.1 h;omega
  simp [acc,this]
theorem Ajl {l rest:Bs} {pre:List Bs} (hl:l=pre.flatten++rest) (h:acc 0 pre=pre):Bm l=pre++acc pre.length (D7 rest):=by rw [hl];exact Sa h rest
theorem Apm {rest:Bs} (h:rest≠[]):∃x post,D7 rest=x::post/\(10∈rest->x=Ec 10 rest++[10]/\post=D7 (Mh 10 rest))/\(10 ∉ rest->x=rest):=by
 rcases Oy 10 rest with ⟨h1,h2⟩|⟨h1,h2,_⟩
 ·refine ⟨Ec 10 rest++[10],D7 (Mh 10 rest),?_,fun _=>⟨rfl,rfl⟩,fun e=>absurd h1 e⟩
  conv=>lhs;rw [h2]
  exact Tf _ Abu
 ·exact ⟨rest,[],Vr h fun c hc e=>h1 (by rw [<-e];exact hc),fun e=>absurd e h1,fun _=>rfl⟩
theorem Ad4 {l rest:Bs} {pre:List Bs} (hl:l=pre.flatten++rest) (h:acc 0 pre=pre) (hr:rest=[]\/pre.length=60):Bm l=pre:=by
 rw [Ajl hl h];rcases hr with rfl|hr
 ·simp [D7,acc]
 ·rw [hr,Asm];simp
theorem Agn {l rest:Bs} {pre:List Bs} (hl:l=pre.flatten++rest) (h:acc 0 pre=pre) (hr:rest≠[]) (hb:10 ∉ rest\/Y3 pre.length (Ec 10 rest++[10])=false):Bm l=pre:=by
 rw [Ajl hl h];obtain ⟨x,post,hx,h1,h2⟩:=Apm hr;have:Y3 pre.length x=false:=by
  by_cases hm:10∈rest
  ·rw [(h1 hm).1];exact hb.resolve_left (fun e=>e hm)
  ·rw [h2 hm];exact Bex fun b hb e=>hm (by rw [<-e];exact hb)
 rw [hx];simp [acc,this]
theorem Ano {l rest:Bs} {pre:List Bs} (hl:l=pre.flatten++rest) (h:acc 0 pre=pre) (hm:10∈rest) (hok:Y3 pre.length (Ec 10 rest++[10])=true) :
  acc 0 (pre++[Ec 10 rest++[10]])=pre++[Ec 10 rest++[10]]/\l=(pre++[Ec 10 rest++[10]]).flatten++Mh 10 rest:=by
 refine ⟨Al5 h (by rw [cN];exact hok),?_⟩;rcases Oy 10 rest with ⟨_,h2⟩|⟨h2,_⟩
 ·rw [hl];conv=>lhs;rw [h2]
  simp
 ·exact absurd hm h2
theorem Au6 (c:UInt8) (l:Bs):(Ea c l).length < 2↔c ∉ l:=by
 obtain ⟨r,hr,he⟩:=Rg c l;rw [hr,<-he];cases r <;> simp
theorem Be4 {k:Nat} {x:Bs} (h:Y3 k x=true):(O5 x).E8.size<=maxLen/\(O5 x).Eg.size<=maxLen:=by
 obtain ⟨c,r,_,hg,e⟩:=Tw.1 h;have hG:=Iw hg;rw [e];unfold O5;rw [Aau hG,Abi hG];have:=hG.c1;have:=hG.r1;show (bs c).size<=_/\(bs r).size<=_;rw [Jk,Jk];unfold maxLen;omega
structure OpS where
 pre:List Bs
 rest:Bs
 a:aj
 c:Nat
 F:aq
structure Bhq (l:Bs) (z:OpS):Prop where
 l:l=z.pre.flatten++z.rest
 a:acc 0 z.pre=z.pre
 p:z.pre.length<=60
theorem Aje (s:au) (hs:s.size<=16777216):Fn prog 121 [af s] [] [] (fun (_:aj × Nat × aq)=>True) (fun z=>.tuple #[.slice z.1 ((Bm s.data.toList).map O5).length z.2.1,aa ((Bm s.data.toList).flatten.length:Nat)]) (fun z=>[.ow I9 56 (.slice z.1 ((Bm s.data.toList).map O5).length z.2.1) ((Bm s.data.toList).map O5) z.2.2]):=by
 refine enter func121 rfl ntmps121 fun w0=>?_;refine go ?_;intros;refine C1 I9 ?_;refine go ?_;intros;refine Ca [0,2,3] (fun z:OpS=>[(4,.slice z.a (z.pre.map O5).length z.c),(5,aa (z.pre.flatten.length:Nat))]) (fun z=>[.ow I9 56 (.slice z.a (z.pre.map O5).length z.c) (z.pre.map O5) z.F]) (Bhq s.data.toList) (fun z=>z.rest.length) ⟨[],s.data.toList,_,_,_⟩ ⟨rfl,rfl,aE _⟩ fun z hz=>?_;have hsz:=congrArg List.length hz.l;rw [C0,aA] at hsz;have hp:=hz.p;have hml:(z.pre.map O5).length=z.pre.length:=bf ..
 have hend:Bm s.data.toList=z.pre->z.pre=Bm s.data.toList:=Eq.symm;refine go ?_;intros;by_cases hr:z.rest=[]
 ·have hop:=Ad4 hz.l hz.a (.inl hr);rw [show decide (((z.pre.flatten.length:Nat):Int) < (s.size:Int))=false from ay (by rw [hr,aY] at hsz;omega)];exact DA
 have hr1:0 < z.rest.length:=cR.2 hr;rw [show decide (((z.pre.flatten.length:Nat):Int) < (s.size:Int))=true from av EV];refine go ?_;intros;refine A1 rfl (fun h6=>?_) (fun h6=>?_)
 rotate_left
 ·have hop:=Ad4 hz.l hz.a (.inr EV);exact DA
 have hp9:z.pre.length<=59:=EV
 refine go ?_;intros;apply wO;apply oc;rfl;exact We rfl rfl EV EV;rw [show s.extract ((z.pre.flatten.length:Nat):Int).toNat s.size=bs z.rest by rw [show ((z.pre.flatten.length:Nat):Int).toNat=z.pre.flatten.length from rfl,Yl,hz.l,fg]];have hrz:(bs z.rest).size<=16777216:=by rw [Jk];omega
 refine go ?_;intros;refine cn (fun w st=>Acs (bs z.rest) 10 w hrz) fun a2 c2 F2=>?_;rw [Jj];refine Av (E:=A8) (xs:=(Ea 10 z.rest).map bs) fun F3=>?_;have hi8:=Alf 10 z.rest;refine Mg (xs:=(Ea 10 z.rest).map bs) 0 ?_;rintro hi0 b0 o0 rfl q0;rw [Ale];have hus:=Abt 10 z.rest;have hus2:=Jk (Ec 10 z.rest);have hls:=Au6 10 z.rest
 obtain ⟨cc,rr,hRf,hrec⟩:∃cc rr,FV 208 [af (bs (Ec 10 z.rest)),aa ((z.pre.map O5).length:Int)] [] (.tuple #[.agg #[af cc,af rr],.bool (Y3 z.pre.length (Ec 10 z.rest++[10]))])/\(Y3 z.pre.length (Ec 10 z.rest++[10])=true->(⟨cc,rr⟩:Ha)=O5 (Ec 10 z.rest++[10])):=by
  have hRf:=At6 (bs (Ec 10 z.rest)) z.pre.length hp9 EV;rw [Jj,Anz hp9] at hRf;rw [hml];refine ⟨_,_,hRf,fun h=>?_⟩;rw [Auw (by rw [Anz hp9];exact h)];rfl
 have hsl:((Ea 10 z.rest).map bs).length=(Ea 10 z.rest).length:=bf ..;refine go ?_;intros;refine Be hRf fun _ _=>?_;refine go ?_;intros;by_cases hm:10∈z.rest
 ·rw [show decide ((((Ea 10 z.rest).map bs).length:Int) < 2)=false from ay (by have:=mt hls.1 (fun h=>h hm);omega)];cases hok:Y3 z.pre.length (Ec 10 z.rest++[10])
  ·have hop:=Agn hz.l hz.a hr (.inr hok);exact DA
  obtain ⟨hg1,hg2⟩:=Ano hz.l hz.a hm hok;have hq:=Be4 hok;have hbl:=congrArg List.length hg2;rw [C0,aA] at hbl;have e9:∀x,x=O5 (Ec 10 z.rest++[10])->z.pre.map O5++[x]=(z.pre++[Ec 10 z.rest++[10]]).map O5:=fun x h=>by rw [h,bB];rfl
  have e9:=e9 ⟨cc,rr⟩ (hrec hok);rw [<-hrec hok] at hq;refine Ih ?_;intros;apply wO;refine Np (Ah1 ⟨cc,rr⟩ hq.1 hq.2) Xv fun a9 c9 F9=>?_;rw [e9];have hfl:(z.pre++[Ec 10 z.rest++[10]]).flatten.length=z.pre.flatten.length+(Ec 10 z.rest).length+1:=FB
  refine go ?_;intros;rw [show ((z.pre.flatten.length:Nat):Int)+((bs (Ec 10 z.rest)).size:Int)+1=(((z.pre++[Ec 10 z.rest++[10]]).flatten.length:Nat):Int) by rw [hfl];omega];refine Cb ⟨z.pre++[Ec 10 z.rest++[10]],Mh 10 z.rest,a9,c9,F9⟩ ⟨hg2,hg1,by show (z.pre++[_]).length<=60;simp;omega⟩ (by show (Mh 10 z.rest).length < z.rest.length;omega)
 ·have hop:=Agn hz.l hz.a hr (.inl hm);rw [show decide ((((Ea 10 z.rest).map bs).length:Int) < 2)=true from av (by have:=hls.2 hm;omega)];exact DA
theorem T0 {d p:Bs} {n:Int} (h:Fs d p n=true):0<=n/\n<=60:=by
 have h1:=(Abv h).cnt;have h2:=(Lq (d++p)).2;omega
theorem Aub {k:Nat} {c r:au} (hk:k<=59) (h:By c r=true):(bs (Ka k c.data.toList r.data.toList)).size<=372:=by
 rw [Jk];exact Acy hk (Iw (by rw [<-M8];exact h))
def Nc (x0:Log):(List Ha) × Bool:=if Fs x0.Bj.data.toList x0.pending.data.toList x0.count then ((Bm (x0.Bj.data.toList++x0.pending.data.toList)).map O5,true) else ([],false)
theorem Asi (v:Value) (xs:ar) (F:aq) (z:Int) (w:World) (h:Sl Bb w v xs F) :
  Calls prog 157 #[v,aa z] w fun e w'=>e=.returned (aa (Rl (fun x=>z == x) xs))/\w=w':=by
 obtain ⟨a,cap,rfl⟩:=h.slice;obtain ⟨-,hl,hc⟩:=h.int;unfold maxLen at hl
 go_enter func157,ntmps157
 go_wp2
 go_loop [5,8] (fun _ i=>∃k:Nat,k<=xs.length/\i=aa k/\Hid (∀j,j < k->∀hj:j < xs.length,(z == xs[j])=false)) (fun _ i=>xs.length - (intOf i).toNat)
 case atStart=>exact ⟨0,aE _,rfl,fun j hj=>by omega⟩
 case round =>
  obtain ⟨k,hk,rfl,hz⟩:=hrel;by_cases hlt:k < xs.length
  ·obtain ⟨b,off,rfl,c0⟩:=hc k hlt;clear hc;cases hp:(z == xs[k])
   ·have hp2:=Lib.hid hp
    go_wp2
    exact ⟨⟨k+1,EV,HM,Lib.hid fun j hj hl=>by rcases ba (cI hj) with h|h;exact hz.out j h hl;subst h;exact hp2.out⟩,GG⟩
   ·have hp2:=Lib.hid hp
    go_wp2
    go_ret
    exact ⟨Lt (Ok hlt hz.out hp2.out).symm,rfl⟩
  ·go_wp2
   go_ret
   exact ⟨Lt (M6 (fun j hj=>hz.out j EV hj)).symm,rfl⟩
theorem Aan (v:Value) (xs:ar) (F:aq) (z:Int) (w:World) (h:Sl Bb w v xs F) :
  Calls prog 82 #[v,aa z] w fun e w'=>e=.returned (.bool (xs.any fun x=>z == x))/\w=w':=by
 go_enter func82,ntmps82
 go_wp2_with fail;refine (Asi v xs F z _ h).mono ?_;rintro e w1 ⟨rfl,rfl⟩;go_wp2_with fail
 go_ret
 exact ⟨Co (S8 _ xs),rfl⟩
theorem Awg (A:List Bs) (n:Nat):(((Lc 0 A).map Int.ofNat).any fun x=>(n:Int) == x)=(Lc 0 A).contains n:=by
 generalize Lc 0 A=l
 induction l with
 | nil=>rfl
 | cons a l ih =>
  rw [cH,List.any_cons,ih,List.contains_cons]
  congr 1
  rw [cC];simp;constructor <;> intro h <;> omega
end Go.Proofs.YtkoldibamfjghaaGreatDoor.Lg
namespace Go.Proofs.YtkoldibamfjghaaGreatDoor
open Go.RowKit
theorem Ar9 {FT:aq} {w:World} (h:(Gk FT).P w):Ru Lg.Ab2 w (.agg #[]) () [1]:=by
 have ht:=(Gk.env h).1;have hc:=Lib.TabIs.cell ht (g:=1) EY 0 (by rw [Lib.pow10Tab_length];omega);exact ⟨[],rfl,rfl,ht,rfl,World.block_lt_of_cell? w ⟨1,0,none⟩ hc⟩
theorem Bh7 {p q:Pc} (h:Adi p q):Si [p,q]:=⟨JM,EX,trivial⟩
theorem Zg (s:au) (hs:s.size<=16777216) (FT:aq):Fn prog 44 [af s] [Gk FT] [] (fun (_:(aj × Nat × aq) × (aj × Nat × aq))=>True) (fun z=>.tuple #[.slice z.1.1 ((Bm s.data.toList).map Lg.O5).length z.1.2.1,.slice z.2.1 ((Lc 0 (Bm s.data.toList)).map Int.ofNat).length z.2.2.1]) (fun z=>[.ow I9 56 (.slice z.1.1 ((Bm s.data.toList).map Lg.O5).length z.1.2.1) ((Bm s.data.toList).map Lg.O5) z.1.2.2,.ow Bb 3 (.slice z.2.1 ((Lc 0 (Bm s.data.toList)).map Int.ofNat).length z.2.2.1) ((Lc 0 (Bm s.data.toList)).map Int.ofNat) z.2.2.2]):=fun w hA _=>by
 refine (Lg.Ah4 s _ w hs (Ar9 (hA (Gk FT) EX))).mono ?_;rintro e w' ⟨u0,G0,u1,G1,rfl,o0,n0,o1,n1,b0,b1,dj,hB⟩;obtain ⟨a,c,rfl⟩:=o0.slice;obtain ⟨b,k,rfl⟩:=o1.slice;refine ⟨((a,c,G0),(b,k,G1)),trivial,rfl,Up ⟨n0,o0⟩ ⟨n1,o1⟩,Bh7 ?_,Ei.ofBelow hB,fun p hp q hq=>?_⟩
 ·exact fun _ q hq hp=>dj q hq hp
 ·simp only [aG,aT,bl] at hp;rcases hp with rfl|rfl
  ·exact .inl (b0 q hq)
  ·exact .inl (b1 q hq)
theorem Aao (d p:au) (n:Int) (FT:aq) (hz:d.size+p.size<=1048576):FV 43 [.agg #[af d,af p,aa n]] [Gk FT] (.bool (Fs d.data.toList p.data.toList n)):=by
 have hsm:=Lq (d.data.toList++p.data.toList);have hvp:Fs d.data.toList p.data.toList n=(decide ((Bm (d.data.toList++p.data.toList)).flatten.length=d.size+p.size) && (Lc 0 (Bm (d.data.toList++p.data.toList))).contains d.size && decide (n=((Bm (d.data.toList++p.data.toList)).length:Int))):=by rw [<-Az7];unfold Aq2;rw [C0,C0]
 have hR:=Zg (d++p) (by rw [aQ];omega) FT;rw [Lg.Hh] at hR;have hL:=Zx (n:=0) (xs:=Bm (d.data.toList++p.data.toList));have hc:=Lg.Awg (Bm (d.data.toList++p.data.toList)) d.size;have hE:((Lc 0 (Bm (d.data.toList++p.data.toList))).map Int.ofNat).length=(Bm (d.data.toList++p.data.toList)).length+1:=by simp [Sn]
 rw [<-hc] at hvp;have hL:∀h:(Bm (d.data.toList++p.data.toList)).length < ((Lc 0 (Bm (d.data.toList++p.data.toList))).map Int.ofNat).length,((Lc 0 (Bm (d.data.toList++p.data.toList))).map Int.ofNat)[(Bm (d.data.toList++p.data.toList)).length]=((Bm (d.data.toList++p.data.toList)).flatten.length:Int):=fun h=>by
  rw [dS,Sn,d9,aD (by rw [Sn];omega)] at hL;have:=Option.some.inj hL;simp only [fN,this];simp
 have hRl:((Bm (d.data.toList++p.data.toList)).map Lg.O5).length=(Bm (d.data.toList++p.data.toList)).length:=EX
 generalize (Bm (d.data.toList++p.data.toList)).map Lg.O5=R at *;generalize (Lc 0 (Bm (d.data.toList++p.data.toList))).map Int.ofNat=E at *;generalize (Bm (d.data.toList++p.data.toList)).flatten.length=T at *;generalize (Bm (d.data.toList++p.data.toList)).length=K at *;replace hL:=hL EV;refine enter func43 rfl ntmps43 fun w0=>?_;refine go ?_;intros;refine Be hR fun z _=>?_;obtain ⟨⟨a,c,G⟩,⟨b,e,J⟩⟩:=z;dsimp only;refine Av (E:=Bb) (xs:=E) fun F8=>?_;refine In (xs:=E) K ?_;rintro hi0 b0 o0 rfl
 repeat (first|apply N7|(apply wO;apply oc;rfl;exact ydE)|apply T3|apply Xu|(apply Aot;rfl;rfl)|(apply Aos;rfl;rfl;rfl;rfl)|(apply Aou;rfl;rfl;rfl)|(apply c_t;rfl)|(apply c_f;rfl)|apply Vf|apply Rz|apply Ad1)
 by_cases h1:T=d.size+p.size
 ·cases h2:E.any fun x=>(d.size:Int) == x
  ·have hQ:Fs d.data.toList p.data.toList n=false:=by rw [hvp,h2];simp
   refine Ar [0,3] [] ?_;refine C8 0 1 2 3 ?_;rw [show ((E.length:Nat):Int) - 1=((K:Nat):Int) by omega];refine C8 4 5 6 7 ?_;refine C8 8 9 10 11 ?_;refine Dg 12 13 ?_;rw [hL,show decide ((T:Int)=(d.size:Int)+(p.size:Int))=true from av EV];refine dt 14 ?_;refine Dd 15 ?_;refine Dd 16 ?_;refine Dd 17 ?_;refine Dd 18 ?_;refine d1g 19 ?_;apply On.h;refine oC ?_;refine ce (fun w st=>Lg.Aan _ _ _ _ w (st.get (p:=.sl _ _ _ _) FA).2) ?_;rw [h2];refine dk ?_;refine Dg 20 21 ?_;refine ds 22 ?_;refine ds 23 ?_;refine ds 24 ?_;refine ds 25 ?_;refine ds 26 ?_
   refine Dg 27 28 ?_;refine dd ?_;refine go ?_;refine ret () trivial ?_;rw [hQ]
   first|rfl|(rw [hRl];rfl)
  ·have hQ:Fs d.data.toList p.data.toList n=decide (n=(K:Int)):=by rw [hvp,h2,av h1];simp
   refine Ar [0,3] [] ?_;refine C8 0 1 2 3 ?_;rw [show ((E.length:Nat):Int) - 1=((K:Nat):Int) by omega];refine C8 4 5 6 7 ?_;refine C8 8 9 10 11 ?_;refine Dg 12 13 ?_;rw [hL,show decide ((T:Int)=(d.size:Int)+(p.size:Int))=true from av EV];refine dt 14 ?_;refine Dd 15 ?_;refine Dd 16 ?_;refine Dd 17 ?_;refine Dd 18 ?_;refine d1g 19 ?_;apply On.h;refine oC ?_;refine ce (fun w st=>Lg.Aan _ _ _ _ w (st.get (p:=.sl _ _ _ _) FA).2) ?_;rw [h2];refine dk ?_;refine Dg 20 21 ?_;refine Dd 22 ?_;refine Dd 23 ?_;refine Dd 24 ?_;refine Dd 25 ?_;refine Dd 26 ?_
   refine Dg 27 28 ?_;refine dd ?_;refine go ?_;refine ret () trivial ?_;rw [hQ]
   first|rfl|(rw [hRl];rfl)
 ·have hQ:Fs d.data.toList p.data.toList n=false:=by rw [hvp,ay h1];simp
  refine Ar [0,3] [] ?_;refine C8 0 1 2 3 ?_;rw [show ((E.length:Nat):Int) - 1=((K:Nat):Int) by omega];refine C8 4 5 6 7 ?_;refine C8 8 9 10 11 ?_;refine Dg 12 13 ?_;rw [hL,show decide ((T:Int)=(d.size:Int)+(p.size:Int))=false from ay EV];refine dt 14 ?_;refine ds 15 ?_;refine ds 16 ?_;refine ds 17 ?_;refine ds 18 ?_;refine ds 19 ?_;refine Dg 20 21 ?_;refine ds 22 ?_;refine ds 23 ?_;refine ds 24 ?_;refine ds 25 ?_;refine ds 26 ?_;refine Dg 27 28 ?_;refine dd ?_;refine go ?_;refine ret () trivial ?_;rw [hQ]
  first|rfl|(rw [hRl];rfl)
theorem Xr (d p:au) (n:Int) (hz:d.size+p.size<=1048576):FV 60 [.agg #[af d,af p,aa n]] [] (.bool (Fs d.data.toList p.data.toList n)):=by
 have hsm:=Lq (d.data.toList++p.data.toList);have hsm2:=Lq d.data.toList;have hvp:Fs d.data.toList p.data.toList n=(decide (d.size+p.size<=30000) && (decide ((Bm (d.data.toList++p.data.toList)).flatten.length=d.size+p.size) && decide ((Bm d.data.toList).flatten.length=d.size) && decide (((Bm (d.data.toList++p.data.toList)).length:Int)=n))):=by
  unfold Fs;simp only [C0]
 have h1:=Lg.Aje (d++p) (by rw [aQ];omega);rw [Lg.Hh] at h1;have h2:=Lg.Aje d EV;have hRl:((Bm (d.data.toList++p.data.toList)).map Lg.O5).length=(Bm (d.data.toList++p.data.toList)).length:=EX
 generalize (Bm (d.data.toList++p.data.toList)).map Lg.O5=R at *;generalize (Bm (d.data.toList++p.data.toList)).flatten.length=T at *;generalize (Bm (d.data.toList++p.data.toList)).length=K at *;generalize (Bm d.data.toList).map Lg.O5=R2 at *;generalize (Bm d.data.toList).flatten.length=T2 at *;rw [hvp];refine enter func60 rfl ntmps60 fun w0=>?_;refine go ?_;intros;refine A1 rfl (fun h3=>?_) (fun h3=>?_)
 ·refine go ?_;refine ret () trivial ?_;rw [ay EV];rfl
 rw [av (show d.size+p.size<=30000 by omega)];refine go ?_;refine Be h1 fun z _=>?_;refine go ?_;refine Be h2 fun y _=>?_;by_cases h4:T=d.size+p.size
 ·have e4:decide ((T:Int)=(d.size:Int)+(p.size:Int))=true:=av EV;rw [av h4];refine go ?_;rw [e4];by_cases h5:T2=d.size
  ·have e5:decide ((T2:Int)=(d.size:Int))=true:=av EV;rw [av h5];refine go ?_;rw [e5];refine go ?_;refine ret () trivial ?_;rw [hRl];rfl
  ·have e5:decide ((T2:Int)=(d.size:Int))=false:=ay EV;rw [ay h5];refine go ?_;rw [e5];exact AA
 ·have e4:decide ((T:Int)=(d.size:Int)+(p.size:Int))=false:=ay EV;rw [ay h4];refine go ?_;rw [e4];exact AA
theorem Ajy (d p c r:au) (k:Nat) (hv:Fs d.data.toList p.data.toList k=true) (hk:k<=59) (hr:Lg.By c r=true) (hz:d.size+p.size<=30000) (hc1:c.size<=160) (hr1:r.size<=200):FV 36 [.agg #[af d,af p,aa (k:Int)],.agg #[af c,af r]] [] (.tuple #[.agg #[af d,af (p++Lg.bs (Ka k c.data.toList r.data.toList)),aa ((k:Int)+1)],aa 0]):=by
 have hln:=Lg.Aub hk hr;have hG:Wx c.data.toList r.data.toList:=Iw (by rw [<-Lg.M8];exact hr);have hL:=fun w=>Lg.At5 k c r w hk hG;generalize Lg.bs (Ka k c.data.toList r.data.toList)=ln at *;refine enter func36 rfl ntmps36 fun w0=>?_;refine go ?_;intros;refine Be (Xr d p k EV) fun _ _=>?_;rw [hv];refine go ?_;refine cb (fun w st=>Lg.Sq c r w FC FC) ?_;rw [hr];refine go ?_;refine A1 rfl (fun h3=>?_) (fun h3=>?_)
 ·exact absurd h3 EV
 repeat (first|apply N7|(apply wO;apply oc;rfl;exact ydE)|apply T3|apply Xu|(apply Aot;rfl;rfl)|(apply Aos;rfl;rfl;rfl;rfl)|(apply Aou;rfl;rfl;rfl)|(apply c_t;rfl)|(apply c_f;rfl)|apply Vf|apply Rz|apply Ad1)
 refine Ar [1,2] [8] ?_;refine C8 0 1 2 3 ?_;refine dt 4 ?_;refine dN 5 ?_;refine oC ?_;refine cb (fun w st=>hL w) ?_;refine dk ?_;refine Dg 6 7 ?_;refine dN 8 ?_;refine oS ?_;refine N2 ?_;exact CQ
section
variable {c:Cx} {fr:Fr} {H:List Pc} {Φ:Gl} {d:Nat} {ty:TypeId} {x:Operand}
theorem Bfn {n:Nat} {g m cap t:Nat} {l:List UInt8} (hx:ev fr x=some (ab (some ⟨g,0,none⟩) m cap)) (hm:Pc.row g t 0 [] (l.map fun u=>Value.int .u8 (u.toNat:Int)) []∈H) (hn:m=l.length):Yd prog n fr H (.convert 22 9 x) ty (af ⟨l.toArray⟩):=.mk fun a w d pos Cd gd hA hH=>by
 obtain ⟨-,hR⟩:=hH _ hm;subst hn;have hB:Tq w g l:=⟨hR.lt,fun j hj=>⟨by have:=hR.cell j;simpa [aD hj] using this,hR.frozen j⟩⟩;simp [execOp,hA.ev hx,Ao7 cap hB]
end
def Avj (md:Region.Mode) (ops:Array Oper) (X:Nat->Bool) (listed:Array Bool) (i:Nat):Bool:=(List.range ops.size).all fun j=>!X j || listed.getD j false || Sw md ops i ops.size j
section
variable {P:Program} {md:Region.Mode} {ops:Array Oper} {Q:Exit->Act->World->Prop} {S:World->Prop} {X:Nat->Bool}
theorem Ez.firstL {i:Nat} {oi:Oper} {v:Value} (hi:ops[i]?=some oi) (hsel:∀(j:Nat) (o:Oper) cs b,ops[j]?=some o->o.op≠.select cs b)
  (hQ:∀c a w,Q (.panic c) (a.put oi.dst v) w->Q (.panic c) a w) :
  ∀(f:Nat) (listed:Array Bool) (a:Act) (w:World),(∀j,j < ops.size->X j=true->listed.getD j false=false->Sw md ops i ops.size j=true) ->
   (∀j oj,ops[j]?=some oj->j≠i->listed.getD j true=false->(∀e∈oj.after,Region.binds md e=true->e.on≠i)->oi.apart ops oj=true) ->
   Zl md ops listed->i∈Region.ready md ops listed->YieldsIf P ops S oi v a->S w->Ez P md ops Q S X f (listed.setIfInBounds i true) (a.put oi.dst v) w->Ez P md ops Q S X (f+1) listed a w:=by
 intro f
 induction f with
 | zero =>
  intro listed a w _ _ _ hr hy hS H;refine ⟨fun h=>HH,fun j hj=>?_⟩;by_cases hji:j=i
  ·exact EI
  ·have:=ready_mono hj hji;rw [H.1] at this;cases this
 | succ f ih =>
  intro listed a w hX hfree hcl hr hy hS H;refine ⟨fun h=>HH,fun j hj=>?_⟩;by_cases hji:j=i
  ·exact EI
  ·obtain ⟨hju,oj,hoj,hall⟩:=mem_ready.1 hj;have hiu:=Ya (mem_ready.1 hr).1;have hnot:∀e∈oj.after,Region.binds md e=true->e.on≠i:=fun e he hb heq=>by
    have h1:=hall e he hb;rw [heq,hiu] at h1;cases h1
   have hXj:X j=false:=by
    cases hx:X j
    ·rfl
    ·have h2:=Wd hcl ops.size j (fun o ho=>by obtain rfl:=Option.some.inj (ho.symm.trans hoj);exact hall) (hX j (bG.1 hoj).1 hx (Ya hju));rw [hiu] at h2;cases h2
   have h2:=wpOp_putIf hoj (hfree j oj hoj hji hju hnot) (fun cs b=>hsel i oi cs b hi) (fun cs b=>hsel j oj cs b hoj) hQ hy (H.2 j (ready_mono hj hji));refine wpOp_mono (fun a' w' h3=>⟨fun _=>h3.2.1 hXj,ih (listed.setIfInBounds j true) a' w' (fun k hk hx hun=>hX k hk hx ?_) (fun k ok hk hki hun hno=>hfree k ok hk hki ?_ hno) (hcl.set hj) (ready_mono hr (Ne.symm hji)) h3.1 (h3.2.1 hXj) ?_⟩) h2
   ·by_cases hjk:j=k
    ·subst hjk;exact Ya hju
    ·rw [getD_set_ne false hjk] at hun;exact hun
   ·by_cases hjk:j=k
    ·subst hjk;exact hju
    ·rw [getD_set_ne true hjk] at hun;exact hun
   ·rw [dX _ _ hji];exact h3.2.2
end
section
variable {c:Cx} {fr:Fr} {H H0:List Pc} {k:List It} {X:aq} {ops:Array Oper} {f:Nat} {listed:Array Bool} {d:Nat} {o:Op} {ty:TypeId} {pos:String} {Cd:Array Edge} {v:Value}
theorem dtl (i:Nat) (h:T c ((d,v)::fr) H (.dx k H0 X ops f (listed.setIfInBounds i true))) (ho:ops[i]?=some ⟨some d,o,ty,pos,Cd,none⟩:=by rw [aP];rfl) (hy:Yd c.P c.n fr H0 o ty v:=by exact ydE) (hs:Mt H0 H:=by repeat (first|exact Mt.nil|refine Mt.cons FA ?_))
  (h1:Region.noSelect ops=true:=by kernel_rfl) (h2:Region.free .any ops listed i=true:=by kernel_rfl) (h3:(Region.ready .any ops listed).contains i=true:=by kernel_rfl) (h4:Avj .any ops (fun i=>X.contains i) listed i=true:=by kernel_rfl) (h5:Mv .any ops listed=true:=by kernel_rfl) (hR:Wz c:=by exact Zf) (hd:Nat.blt d c.n=true:=by rfl) :
  T c fr H (.dx k H0 X ops (f+1) listed):=.mk fun a w s g =>
 Ez.firstL ho (Region.noSelect_spec h1) (fun ch a w hp=>by rw [Mm] at hp ⊢;exact hR _ _ _ _ _ hp) f listed a w (fun j hj hx hl=>by
   have:=aV.1 h4 j (cO.2 hj);dsimp only at this;rw [hx,hl] at this;simpa using this) (Region.free_spec ho h2) (Aig h5) HT (.inl ⟨rfl,fun w' hw'=>hy.h a w' _ _ _ _ g hw'⟩) (fun p hp=>s.on p (hs.all p hp)) (h.h _ _ s (g.put hd))
end
structure CuF where
 B4:ar
 a:aj
 c:Nat
 bs:aq
structure N1 where
 k:Nat
 Hm:Int
structure Hw (B:Nat) (s:N1):Prop where
 k:s.k<=B
 s0:0<=s.Hm
 s1:s.Hm < 18446744073709551616
theorem Hw.mono {B B':Nat} {s:N1} (h:Hw B s) (hb:B<=B'):Hw B' s:=⟨bD h.k hb,h.s0,h.s1⟩
section
variable {P:Program} {n:Nat} {fr:Fr} {H:List Pc} {ty t t':TypeId} {x y:Operand} {a b:Int}
theorem Asd [hS:IntC P t .u64] (hx:ev fr x=some (.int .u64 a)) (hy:ev fr y=some (.int .u64 b)):Yd P n fr H (.binOp .mul t x y t') ty (.int .u64 (IntKind.u64.wrap (a * b))):=.mk fun c w d pos Cd gd hA _=>by
 simp [execOp,hA.ev hx,hA.ev hy,eqGuard_mul,binOp_mul,Op.intArith]
theorem Ae8 [hS:IntC P t .u64] (hx:ev fr x=some (.int .u64 a)) (hy:ev fr y=some (.int .u64 b)):Yd P n fr H (.binOp .add t x y t') ty (.int .u64 (IntKind.u64.wrap (a+b))):=.mk fun c w d pos Cd gd hA _=>by
 simp [execOp,hA.ev hx,hA.ev hy,eqGuard_add,binOp_add,Op.intArith]
theorem Bak (hx:ev fr x=some (.int .u64 a)):Yd P n fr H (.binOp .shr t x (.const (.int .u64 40)) t') ty (.int .u64 (a / 1099511627776)):=.mk fun c w d pos Cd gd hA _=>by
 have e:Op.shift .shr .u64 a .u64 40=pure (.int .u64 (a / 1099511627776)):=by rw [shift_shr .u64 .u64 a 40 EW EW];rfl
 have e2:binOp .shr t (.int .u64 a) (.int .u64 40)=Op.shift .shr .u64 a .u64 40:=rfl;have e3:c.eval (.const (.int .u64 40))=.int .u64 40:=rfl;simp only [execOp,hA.ev hx,e3,eqGuard_shr,e2,e,Sem.run_bind,Sem.run_pure,Result.andThen_ok]
theorem Avm (hx:ev fr x=some (.int .u64 a)) (h0:0<=a) (h1:a < 18446744073709551616):Yd P n fr H (.binOp .and t x (.const (.int .u64 255)) t') ty (.int .u64 ((a.toNat &&& 255:Nat):Int)):=.mk fun c w d pos Cd gd hA _=>by
 have e:bits BinOp.and IntKind.u64 a 255=((a.toNat &&& 255:Nat):Int):=by
  rw [<-bits_and_u64_nat _ _ EV EV];congr 1;omega
 have e3:c.eval (.const (.int .u64 255))=.int .u64 255:=rfl;have e2:binOp .and t (.int .u64 a) (.int .u64 255)=pure (.int .u64 (bits BinOp.and IntKind.u64 a 255)):=rfl;simp only [execOp,hA.ev hx,e3,eqGuard_and,e2,e,Sem.run_bind,Sem.run_pure,Result.andThen_ok]
end
section
variable {c:Cx} {fr:Fr} {H:List Pc} {Φ:Gl}
theorem Ba4 {a:aj} {n cp:Nat} {xs:ar} {F:aq} (i:Nat) (h:∀(hi:i < xs.length) b o,a=some ⟨b,o,none⟩->0<=xs[i]->xs[i]<=255->T c fr (.cel b (o+i * 1) [.int .u8 xs[i]]::H) Φ) (hm:.sl Jq (ab a n cp) xs F∈H:=by exact Bn) (hi:i < xs.length:=by omega):T c fr H Φ:=.mk fun ac w s g=>by
 obtain ⟨b,o,cs,G,ha,⟨rfl,h0,h1,rfl⟩, -,hb,hne,hr⟩:=Wp (s.get hm) i hi;exact (h hi b o ha h0 h1).h ac w (s.ro hm rfl rfl ⟨hne,hr⟩ GC) g
end
theorem Ax4 (B g:Nat) (F:CuF) (s:N1) (ok:Hw B s) (hB:B<=1000000000001) :
  Fn prog 53 [Gc g 0 0] [.sl Jq (ab F.a F.B4.length F.c) F.B4 F.bs] [.row g 60 0 [] [ab F.a F.B4.length F.c,aa (s.k:Nat),.int .u64 s.Hm] []] (fun (z:Nat × N1)=>z.1<=255/\Hw (B+1) z.2) (fun z=>aa (z.1:Nat)) (fun z=>[.row g 60 0 [] [ab F.a F.B4.length F.c,aa (z.2.k:Nat),.int .u64 z.2.Hm] []]):=by
 obtain ⟨B4,a,c,bs⟩:=F;obtain ⟨k,Hm⟩:=s;obtain ⟨hk,h0,h1⟩:=ok;dsimp only at hk h0 h1 ⊢;refine enter func53 rfl ntmps53 fun w0=>?_;refine Ww (E:=Jq) ?_;rintro a2 c2 ee l1 l2;cases ee;by_cases hkl:k < B4.length
 ·refine Ba4 (xs:=B4) k ?_;rintro hi b o ee z0 z1;cases ee;generalize B4[k]=z at *;refine Ih ?_;intros;refine Ar [1] [] ?_;refine C8 0 1 2 3 ?_;refine C8 4 5 6 7 ?_;refine Dg 8 9 ?_;refine dd ?_;rw [show decide ((k:Int) < (B4.length:Int))=true from av EV];refine Ih ?_;intros;refine Ar [0,1] [] ?_;refine C8 0 1 2 3 ?_;refine C8 4 5 6 7 ?_;refine C8 8 9 10 11 ?_;refine dd ?_;refine go ?_;apply wO;apply oc;rfl;exact Asd rfl rfl;refine go ?_;apply wO;apply oc;rfl;exact Ahs rfl EV EV;apply wO;apply oc;rfl;exact Ae8 rfl rfl;apply wO;apply oc;rfl;exact Ae8 rfl rfl
  obtain ⟨sd,hsd,hd0,hd1⟩:∃sd,sd=IntKind.u64.wrap (IntKind.u64.wrap (IntKind.u64.wrap (Hm * 6364136223846793005)+z)+840840)/\0<=sd/\sd < 18446744073709551616:=⟨_,rfl,IY,IY⟩;rw [<-hsd];clear hsd
  repeat (first|apply N7|(apply wO;apply oc;rfl;exact ydE)|(apply wO;apply Ap7;rfl;rfl;rfl;(first|exact AggC.s|exact OneC.s);rfl;exact Ag0;exact Aur;rfl)|apply T3|apply Xu)
  refine Ih ?_;intros;refine Ar [1] [] ?_;refine C8 0 1 2 3 ?_;refine C8 4 5 6 7 ?_;refine Dg 8 9 ?_;refine dd ?_;rw [show decide ((k:Int)+1<=(B4.length:Int))=true from av EV];refine go ?_;obtain ⟨zn,rfl⟩:∃n:Nat,z=n:=⟨z.toNat,EV⟩;refine ret (zn,⟨k+1,sd⟩) ⟨by show zn<=255;omega,by show k+1<=B+1;omega,hd0,hd1⟩ rfl
 ·refine Ih ?_;intros;refine Ar [0] [] ?_;refine C8 0 1 2 3 ?_;refine C8 4 5 6 7 ?_;refine Dg 8 9 ?_;refine dd ?_;rw [show decide ((k:Int) < (B4.length:Int))=false from ay EV];refine go ?_;apply wO;apply oc;rfl;exact Asd rfl rfl;refine go ?_;apply wO;apply oc;rfl;exact Ahs rfl EV EV;apply wO;apply oc;rfl;exact Ae8 rfl rfl;apply wO;apply oc;rfl;exact Ae8 rfl rfl
  obtain ⟨sd,hsd,hd0,hd1⟩:∃sd,sd=IntKind.u64.wrap (IntKind.u64.wrap (IntKind.u64.wrap (Hm * 6364136223846793005)+0)+840840)/\0<=sd/\sd < 18446744073709551616:=⟨_,rfl,IY,IY⟩;rw [<-hsd];clear hsd
  repeat (first|apply N7|(apply wO;apply oc;rfl;exact ydE)|(apply wO;apply Ap7;rfl;rfl;rfl;(first|exact AggC.s|exact OneC.s);rfl;exact Ag0;exact Aur;rfl)|apply T3|apply Xu)
  refine Ih ?_;intros;refine Ar [0] [] ?_;refine C8 0 1 2 3 ?_;refine C8 4 5 6 7 ?_;refine Dg 8 9 ?_;refine dd ?_;rw [show decide ((k:Int)+1<=(B4.length:Int))=false from ay EV];refine go ?_;apply wO;apply oc;rfl;exact Bak rfl;apply wO;apply oc;rfl;exact Avm rfl EV EV;have hq:(sd / 1099511627776).toNat &&& 255<=255:=Nat.and_le_right;generalize (sd / 1099511627776).toNat &&& 255=q at *;refine go ?_;refine ret (q,⟨k+1,sd⟩) ⟨hq,by show k+1<=B+1;omega,hd0,hd1⟩ rfl
theorem Ee (B g:Nat) (F:CuF) (n:Int) (s:N1) (ok:Hw B s) (hB:B<=1000000000000) (hn:n<=1048576) :
  Fn prog 21 [Gc g 0 0,aa n] [.sl Jq (ab F.a F.B4.length F.c) F.B4 F.bs] [.row g 60 0 [] [ab F.a F.B4.length F.c,aa (s.k:Nat),.int .u64 s.Hm] []] (fun (z:Nat × N1)=>(z.1=0\/(z.1:Int) < n)/\Hw (B+2) z.2) (fun z=>aa (z.1:Nat)) (fun z=>[.row g 60 0 [] [ab F.a F.B4.length F.c,aa (z.2.k:Nat),.int .u64 z.2.Hm] []]):=by
 refine enter func21 rfl ntmps21 fun w0=>?_;refine go ?_;refine A1 rfl (fun h=>?_) (fun h=>?_)
 ·refine go ?_;refine ret (0,s) ⟨.inl rfl,ok.mono EV⟩ rfl
 refine go ?_;refine Be (Ax4 B g F s ok EV) fun p hp=>?_;obtain ⟨r,s1⟩:=p;obtain ⟨hr,h1⟩:=hp;dsimp only at hr h1 ⊢;refine go ?_;refine A1 rfl (fun h2=>?_) (fun h2=>?_)
 ·refine go ?_;refine Be (Ax4 _ g F s1 h1 EV) fun p hp=>?_;obtain ⟨r2,s2⟩:=p;obtain ⟨hr2,h3⟩:=hp;dsimp only at hr2 h3 ⊢;refine go ?_;have e:=Int.emod_lt_of_pos ((r:Int) * 256+r2) (show 0 < n by omega);have e0:=Int.emod_nonneg ((r:Int) * 256+r2) (show n≠0 by omega);obtain ⟨q,hq⟩:∃q:Nat,((r:Int) * 256+r2) % n=q:=⟨(((r:Int) * 256+r2) % n).toNat,EV⟩;rw [hq] at e ⊢;refine ret (q,s2) ⟨.inr e,h3.mono EV⟩ rfl
 ·refine go ?_;have e:=Int.emod_lt_of_pos (r:Int) (show 0 < n by omega);obtain ⟨q,hq⟩:∃q:Nat,(r:Int) % n=q:=⟨((r:Int) % n).toNat,by have:=Int.emod_nonneg (r:Int) (show n≠0 by omega);omega⟩;rw [hq] at e ⊢;refine ret (q,s1) ⟨.inr e,h1.mono EV⟩ rfl
theorem Abe (B g:Nat) (F:CuF) (n:Int) (s:N1) (ok:Hw B s) (hB:B<=1000000000000) (hn:n<=1048576) :
  Fn prog 22 [Gc g 0 0,aa n] [.sl Jq (ab F.a F.B4.length F.c) F.B4 F.bs] [.row g 60 0 [] [ab F.a F.B4.length F.c,aa (s.k:Nat),.int .u64 s.Hm] []] (fun (z:Bool × N1)=>True/\Hw (B+2) z.2) (fun z=>.bool z.1) (fun z=>[.row g 60 0 [] [ab F.a F.B4.length F.c,aa (z.2.k:Nat),.int .u64 z.2.Hm] []]):=by
 refine enter func22 rfl ntmps22 fun w0=>?_;refine go ?_;refine Be (Ee B g F n s ok hB hn) fun p hp=>?_;refine go ?_;refine ret (decide ((p.1:Int)=0),p.2) ⟨trivial,hp.2⟩ rfl
theorem Aeo (B g:Nat) (F:CuF) (v:Value) (xs:ai) (G:aq) (s:N1) (ok:Hw B s) (hB:B<=1000000000000) (h0:0 < xs.length) (h1:xs.length<=1048576) :
  Fn prog 51 [Gc g 0 0,v] [.sl Jq (ab F.a F.B4.length F.c) F.B4 F.bs,.sl A8 v xs G] [.row g 60 0 [] [ab F.a F.B4.length F.c,aa (s.k:Nat),.int .u64 s.Hm] []] (fun (z:au × N1)=>z.1∈xs/\Hw (B+2) z.2) (fun z=>af z.1) (fun z=>[.row g 60 0 [] [ab F.a F.B4.length F.c,aa (z.2.k:Nat),.int .u64 z.2.Hm] []]):=by
 refine enter func51 rfl ntmps51 fun w0=>?_;refine Ww (E:=A8) (v:=v) (xs:=xs) ?_;rintro a c rfl l1 l2;refine go ?_;refine Be (Ee B g F _ s ok hB EV) fun p hp=>?_;obtain ⟨r,s1⟩:=p;obtain ⟨hr,h2⟩:=hp;dsimp only at hr h2 ⊢;refine Mg (xs:=xs) r ?_;rintro hi b o ee -;cases ee;refine go ?_;refine ret (xs[r],s1) ⟨aB hi,h2⟩ rfl
theorem Rw (B g:Nat) (F:CuF) (v:Value) (xs:ar) (G:aq) (s:N1) (ok:Hw B s) (hB:B<=1000000000000) (h0:0 < xs.length) (h1:xs.length<=1048576) :
  Fn prog 92 [Gc g 0 0,v] [.sl Jq (ab F.a F.B4.length F.c) F.B4 F.bs,.sl Bb v xs G] [.row g 60 0 [] [ab F.a F.B4.length F.c,aa (s.k:Nat),.int .u64 s.Hm] []] (fun (z:Int × N1)=>z.1∈xs/\Hw (B+2) z.2) (fun z=>aa z.1) (fun z=>[.row g 60 0 [] [ab F.a F.B4.length F.c,aa (z.2.k:Nat),.int .u64 z.2.Hm] []]):=by
 refine enter func92 rfl ntmps92 fun w0=>?_;refine Ww (E:=Bb) (v:=v) (xs:=xs) ?_;rintro a c rfl l1 l2;refine go ?_;refine Be (Ee B g F _ s ok hB EV) fun p hp=>?_;obtain ⟨r,s1⟩:=p;obtain ⟨hr,h2⟩:=hp;dsimp only at hr h2 ⊢;refine In (xs:=xs) r ?_;rintro hi b o ee;cases ee;refine go ?_;refine ret (xs[r],s1) ⟨aB hi,h2⟩ rfl
theorem Fn.weak {P:Program} {f:FuncId} {args:am} {A M:List Pc} {σ:Type} {C C':σ->Prop} {v:σ->Value} {N:σ->List Pc} (h:Fn P f args A M C v N) (hC:∀s,C s->C' s):Fn P f args A M C' v N:=fun w h1 h2=>(h w h1 h2).mono fun _ _ ⟨s,hc,r⟩=>⟨s,hC s hc,r⟩
theorem Nr (w:World):∀xs:ar,Cw Bb w (xs.map (Value.int .i64)) xs []
 | []=>⟨rfl,rfl⟩
 | x::r=>⟨[.int .i64 x],r.map (Value.int .i64),[],[],rfl,rfl,⟨rfl,rfl⟩,Nr w r⟩
theorem Qg (w:World):∀xs:ai,(∀x∈xs,x.size<=maxLen)->Cw A8 w (xs.map Value.string) xs []
 | [],_=>⟨rfl,rfl⟩
 | x::r,h=>⟨[.string x],r.map Value.string,[],[],rfl,rfl,⟨rfl,h x EX,rfl⟩,Qg w r fun y hy=>h y KM⟩
theorem Tl (B g:Nat) (F:CuF) (s:N1) (ok:Hw B s) (hB:B<=900000000000) :
  Fn prog 48 [Gc g 0 0] [.sl Jq (ab F.a F.B4.length F.c) F.B4 F.bs] [.row g 60 0 [] [ab F.a F.B4.length F.c,aa (s.k:Nat),.int .u64 s.Hm] []] (fun (z:Int × N1)=>(0<=z.1/\z.1<=65535)/\Hw (B+4) z.2) (fun z=>aa z.1) (fun z=>[.row g 60 0 [] [ab F.a F.B4.length F.c,aa (z.2.k:Nat),.int .u64 z.2.Hm] []]):=by
 refine enter func48 rfl ntmps48 fun w0=>?_;refine Ih ?_;intros;refine Eh (xs:=[0,1,100,32767,32768,65535,65530,4660]) (fun w=>Nr w _) ?_ EW;refine Av (E:=Bb) fun G=>?_;refine go ?_;refine Be (Rw B g F _ [0,1,100,32767,32768,65535,65530,4660] G s ok EV EW EW) fun z hz=>?_;obtain ⟨hz1,hz2⟩:=hz;have hz3:0<=z.1/\z.1<=65535:=by simp only [aG,aT,bl] at hz1;omega
 refine go ?_;refine Be (Ee (B+2) g F 12 z.2 hz2 EV EV) fun y hy=>?_;obtain ⟨hy1,hy2⟩:=hy;refine go ?_;refine ce (fun w s=>Ht _ _ _ EV EV) ?_;refine go ?_;refine ret (_,y.2) ⟨Jb _ _,hy2⟩ rfl
theorem Vd (B g:Nat) (F:CuF) (s:N1) (ok:Hw B s) (hB:B<=890000000000) :
  Fn prog 97 [Gc g 0 0] [.sl Jq (ab F.a F.B4.length F.c) F.B4 F.bs] [.row g 60 0 [] [ab F.a F.B4.length F.c,aa (s.k:Nat),.int .u64 s.Hm] []] (fun (z:Int × N1)=>(-1<=z.1/\z.1<=65536)/\Hw (B+6) z.2) (fun z=>aa z.1) (fun z=>[.row g 60 0 [] [ab F.a F.B4.length F.c,aa (z.2.k:Nat),.int .u64 z.2.Hm] []]):=by
 refine enter func97 rfl ntmps97 fun w0=>?_;refine go ?_;refine Be (Abe B g F 20 s ok EV EV) fun q hq=>?_;obtain ⟨b,s1⟩:=q;obtain ⟨-,hq⟩:=hq;cases b
 ·refine go ?_;refine Be (Tl (B+2) g F s1 hq EV) fun z hz=>?_;refine go ?_;refine ret z ⟨by have:=hz.1;omega,hz.2⟩ rfl
 ·refine Ih ?_;intros;refine Eh (xs:=[-1,65536,65535]) (fun w=>Nr w _) ?_ EW;refine Av (E:=Bb) fun G=>?_;refine go ?_;refine Be (Rw (B+2) g F _ [-1,65536,65535] G s1 hq EV EW EW) fun z hz=>?_;refine go ?_;refine ret z ⟨by have:=hz.1;simp only [aG,aT,bl] at this;omega,hz.2.mono EV⟩ rfl
theorem W9 (B g:Nat) (F:CuF) (s:N1) (ok:Hw B s) (hB:B<=890000000000) :
  Fn prog 97 [Gc g 0 0] [.sl Jq (ab F.a F.B4.length F.c) F.B4 F.bs] [.row g 60 0 [] [ab F.a F.B4.length F.c,aa (s.k:Nat),.int .u64 s.Hm] []] (fun (z:Int × N1)=>Hw (B+6) z.2) (fun z=>aa z.1) (fun z=>[.row g 60 0 [] [ab F.a F.B4.length F.c,aa (z.2.k:Nat),.int .u64 z.2.Hm] []]):=(Vd B g F s ok hB).weak fun _ h=>h.2
structure LeS where
 r:Nat
 t:au
 s:N1
structure Bhm (B r0:Nat) (z:LeS):Prop where
 r:z.r<=r0
 s:Hw (B+2+2 * (r0 - z.r)) z.s
 t:z.t.size<=r0 - z.r
 l:T7 z.t.data.toList=true
theorem Ss (B g:Nat) (F:CuF) (s:N1) (n:Int) (ok:Hw B s) (hB:B<=900000000000) (h0:0<=n) (h8:n<=20) :
  Fn prog 95 [Gc g 0 0,aa n] [.sl Jq (ab F.a F.B4.length F.c) F.B4 F.bs] [.row g 60 0 [] [ab F.a F.B4.length F.c,aa (s.k:Nat),.int .u64 s.Hm] []] (fun (z:au × N1)=>(z.1.size<=20/\(z.1.size:Int)<=n/\T7 z.1.data.toList=true)/\Hw (B+42) z.2) (fun z=>af z.1) (fun z=>[.row g 60 0 [] [ab F.a F.B4.length F.c,aa (z.2.k:Nat),.int .u64 z.2.Hm] []]):=by
 refine enter func95 rfl ntmps95 fun w0=>?_;refine go ?_;refine Be (Ee B g F (n+1) s ok EV EV) fun y hy=>?_;obtain ⟨r0,s1⟩:=y;obtain ⟨hy1,hy2⟩:=hy;dsimp only at hy1 hy2 ⊢;have hr0:r0<=20:=EV
 refine go ?_;refine Ca [0,4] (fun z:LeS=>[(5,af z.t),(6,aa (z.r:Nat))]) (fun z=>[.row g 60 0 [] [ab F.a F.B4.length F.c,aa (z.s.k:Nat),.int .u64 z.s.Hm] []]) (Bhm B r0) (fun z=>z.r) ⟨r0,⟨#[]⟩,s1⟩ ⟨aK _,by simpa using hy2,aE _,rfl⟩ fun z hz=>?_;obtain ⟨z1,z2,z3,z4⟩:=hz;refine go ?_;refine A1 rfl (fun h3=>?_) (fun h3=>?_)
 ·refine Ih ?_;intros;refine Eh (xs:=[⟨#[97]⟩,⟨#[98]⟩,⟨#[99]⟩,⟨#[120]⟩,⟨#[122]⟩]) (fun w=>Qg w _ EW) ?_ EW;refine Av (E:=A8) fun G=>?_;refine go ?_;refine Be (Aeo _ g F _ [⟨#[97]⟩,⟨#[98]⟩,⟨#[99]⟩,⟨#[120]⟩,⟨#[122]⟩] G z.s z2 EV EW EW) fun q hq=>?_;have hq1:q.1.size=1/\T7 q.1.data.toList=true:=by
   have:=hq.1;simp only [aG,aT,bl] at this;rcases this with e|e|e|e|e <;> rw [e] <;> exact ⟨rfl,rfl⟩
  refine go ?_;rw [show ((z.r:Nat):Int) - 1=((z.r - 1:Nat):Int) by omega];refine Cb ⟨z.r - 1,z.t++q.1,q.2⟩ ⟨by show z.r - 1<=r0;omega,hq.2.mono (by show _<=B+2+2 * (r0 - (z.r - 1));omega),by show (z.t++q.1).size<=r0 - (z.r - 1);rw [aQ];omega,by show T7 (z.t++q.1).data.toList=true;rw [di,Array.toList_append];unfold T7 at *;rw [dV,z4,hq1.2];rfl⟩ (by show z.r - 1 < _;omega)
 ·refine go ?_;refine ret (z.t,z.s) ⟨⟨by show z.t.size<=20;omega,by show (z.t.size:Int)<=n;omega,z4⟩,z2.mono EV⟩ rfl
theorem An8 (B g:Nat) (F:CuF) (s:N1) (t u:au) (ok:Hw B s) (hB:B<=800000000000) (ht:t.size<=100000) (h1:1<=u.size) (h2:u.size<=1000) :
  Fn prog 37 [Gc g 0 0,af t,af u] [.sl Jq (ab F.a F.B4.length F.c) F.B4 F.bs] [.row g 60 0 [] [ab F.a F.B4.length F.c,aa (s.k:Nat),.int .u64 s.Hm] []] (fun (z:au × N1)=>z.1.size<=t.size+1/\Hw (B+6) z.2) (fun z=>af z.1) (fun z=>[.row g 60 0 [] [ab F.a F.B4.length F.c,aa (z.2.k:Nat),.int .u64 z.2.Hm] []]):=by
 refine enter func37 rfl ntmps37 fun w0=>?_;refine go ?_;by_cases e0:t=⟨#[]⟩
 ·rw [av e0];refine go ?_;apply wO;apply oc;rfl;exact Adh rfl rfl EV EV;have hx0:(u.extract 0 (1:Int).toNat).size<=1:=IX
  refine go ?_;refine ret (u.extract 0 (1:Int).toNat,s) ⟨HQ,ok.mono EV⟩ rfl
 have e1:0 < t.size:=by
  rcases cm t.size with h0|h0
  ·exact absurd (by apply fq;exact eP h0) e0
  ·exact h0
 rw [ay e0];refine go ?_;refine Be (Ee B g F (t.size:Int) s ok EV EV) fun q1 hq1=>?_;obtain ⟨hi,hq1⟩:=hq1;have hi2:q1.1 < t.size:=EV
 refine go ?_;refine Be (Ee (B+2) g F (u.size:Int) q1.2 hq1 EV EV) fun q2 hq2=>?_;obtain ⟨hj,hq2⟩:=hq2;have hj2:q2.1 < u.size:=EV
 refine go ?_;apply wO;apply oc;rfl;exact We rfl rfl EV EV;have hxs:1<=(u.extract (q2.1:Int).toNat u.size).size:=FB
 refine go ?_;apply wO;apply oc;rfl;exact Adh rfl rfl EV EV;have hxl:((u.extract (q2.1:Int).toNat u.size).extract 0 (1:Int).toNat).size<=1:=FB
 generalize (u.extract (q2.1:Int).toNat u.size).extract 0 (1:Int).toNat=x at *;have ha:(t.extract 0 (q1.1:Int).toNat).size<=q1.1:=IX
 have hb:(t.extract (q1.1:Int).toNat t.size).size<=t.size - q1.1:=IX
 have hc:(t.extract ((q1.1:Int)+1).toNat t.size).size<=t.size - (q1.1+1):=IX
 have hax:=aQ (a:=t.extract 0 (q1.1:Int).toNat) (b:=x);refine go ?_;refine Be (Ee (B+2+2) g F 3 q2.2 hq2 EV EV) fun q3 hq3=>?_;obtain ⟨hm,hq3⟩:=hq3;refine go ?_;by_cases h3:(q3.1:Int)=0
 ·rw [av h3];refine go ?_;refine Ar [] [] ?_;refine Dg 0 1 ?_;refine dt 2 ?_ (hy:=Adh rfl rfl EV EV);refine C8 3 4 5 6 ?_;refine dt 7 ?_ (hy:=We rfl rfl EV EV);refine Dg 8 9 ?_;refine dd ?_;refine go ?_;refine ret (t.extract 0 (q1.1:Int).toNat++x++t.extract (q1.1:Int).toNat t.size,q3.2) ⟨by simp only [aQ];omega,hq3⟩ rfl
 rw [ay h3];refine go ?_;by_cases h4:(q3.1:Int)=1
 ·rw [av h4];refine go ?_;refine Ar [] [] ?_;refine Dg 0 1 ?_;refine dt 2 ?_ (hy:=Adh rfl rfl EV EV);refine C8 3 4 5 6 ?_;refine dt 7 ?_;refine dt 8 ?_ (hy:=We rfl rfl EV EV);refine Dg 9 10 ?_;refine dd ?_;refine go ?_;refine ret (t.extract 0 (q1.1:Int).toNat++x++t.extract ((q1.1:Int)+1).toNat t.size,q3.2) ⟨by simp only [aQ];omega,hq3⟩ rfl
 ·rw [ay h4];refine go ?_;refine Ar [] [] ?_;refine Dg 0 1 ?_;refine dt 2 ?_ (hy:=Adh rfl rfl EV EV);refine Dg 3 4 ?_;refine dt 5 ?_;refine dt 6 ?_ (hy:=We rfl rfl EV EV);refine Dg 7 8 ?_;refine dd ?_;refine go ?_;refine ret (t.extract 0 (q1.1:Int).toNat++t.extract ((q1.1:Int)+1).toNat t.size,q3.2) ⟨by simp only [aQ];omega,hq3⟩ rfl
def Ad5 (l:ar) (i:Nat):Bool:=match l[i]? with
 | some p=>if i=0 then decide (p=-1) else Ff 0 p ((i:Int) - 1)
 | none=>true
def Hj (t:Q0):Bool:=Ff 2 (t.Ad.length:Int) 8 && O1 (Ad5 t.Ad) t.Ad.length
theorem Qk {l:ar} (h:0 < l.length):Ad5 l 0=decide (l[0]=-1):=by unfold Ad5;rw [aD h];rfl
theorem Su {l:ar} {i:Nat} (h:i < l.length) (h0:0 < i):Ad5 l i=Ff 0 l[i] ((i:Int) - 1):=by
 unfold Ad5;rw [aD h];show (if i=0 then _ else _)=_;rw [aC EV]
structure O9 (l:ar):Prop where
 n0:2<=l.length
 n1:l.length<=8
 z:∀h:0 < l.length,l[0]=-1
 p:∀i (h:i < l.length),0 < i->0<=l[i]/\l[i] < i
theorem Hi {t:Q0} (h:Hj t=true):O9 t.Ad:=by
 unfold Hj at h;rw [aw] at h;obtain ⟨h1,h2⟩:=h;unfold Ff at h1;simp only [aw,aF] at h1;refine ⟨EV,EV,fun h=>?_,fun i h h0=>?_⟩
 ·have:=Jr h2 0 h;rw [Qk h] at this;exact dp this
 ·have:=Jr h2 i h;rw [Su h h0] at this;unfold Ff at this;simp only [aw,aF] at this;omega
theorem Atb {t:Q0} (h:Ff 2 (t.Ad.length:Int) 8=false):Hj t=false:=by unfold Hj;rw [h];rfl
theorem Aa4 {t:Q0} {i:Nat} (hi:i < t.Ad.length) (h:Ad5 t.Ad i=false):Hj t=false:=by unfold Hj;rw [Lw hi h,bZ]
def Ke (l:ar) (node:Int) (k:Nat):ar:=((List.range k).filter fun i=>decide (l[i]?=some node)).map fun (i:Nat)=>((i:Nat):Int)
def Iq (l:ar) (node:Int):ar:=Ke l node l.length
theorem Apt {l:ar} {node:Int} {k:Nat} (h:k < l.length) (e:l[k]=node):Ke l node (k+1)=Ke l node k++[(k:Int)]:=by
 unfold Ke;rw [dz,bY,bB];simp [aD h,e]
theorem Atq {l:ar} {node:Int} {k:Nat} (h:k < l.length) (e:¬l[k]=node):Ke l node (k+1)=Ke l node k:=by
 unfold Ke;rw [dz,bY,bB];simp [aD h,e]
theorem Af7 (l:ar) (node:Int) (k:Nat):(Ke l node k).length<=k:=by
 unfold Ke;rw [bf];exact bD (bJ _ _) EX
theorem Am3 {l:ar} {node x:Int} (h:x∈Iq l node):∃i,∃hi:i < l.length,x=(i:Int)/\l[i]=node:=by
 unfold Iq Ke at h;obtain ⟨i,hi,rfl⟩:=bO.1 h;obtain ⟨h1,h2⟩:=bL.1 hi;have h3:=cO.1 h1;have h4:=dp h2;rw [aD h3] at h4;exact ⟨i,h3,rfl,Option.some.inj h4⟩
def Es (l:ar) (node:Int):Bool:=!decide (node∈l)
theorem Aua (l:ar) (node:Int):Es l node=decide (Iq l node=[]):=by
 unfold Es;by_cases h:node∈l
 ·obtain ⟨i,hi,rfl⟩:=bi h;have:(i:Int)∈Iq l l[i]:=by
   unfold Iq Ke;exact bO.2 ⟨i,bL.2 ⟨cO.2 hi,by simp [aD hi]⟩,rfl⟩
  rw [av h,ay fun e=>by rw [e] at this;cases this];rfl
 ·have:Iq l node=[]:=eO.2 fun x hx=>by
   obtain ⟨i,hi, -,e⟩:=Am3 hx;exact h (e▸aB hi)
  rw [ay h,av this];rfl
def Tu (l:ar) (node:Int) (k:Nat):ar:=((List.range k).filter fun i=>decide (l[i+1]?=some node)).map fun (i:Nat)=>((i+1:Nat):Int)
theorem Adu (l:ar) (node:Int) (k:Nat):Ke l node (k+1)=Ke l node k++if l[k]?=some node then [(k:Int)] else []:=by
 unfold Ke;rw [dz,bY,bB]
 split <;> simp_all
theorem Z5 (l:ar) (node:Int) (k:Nat):Tu l node (k+1)=Tu l node k++if l[k+1]?=some node then [((k+1:Nat):Int)] else []:=by
 unfold Tu;rw [dz,bY,bB]
 split <;> simp_all
theorem Am2 {l:ar} {node:Int} (hz:Ke l node 1=[]):∀k,Ke l node (k+1)=Tu l node k
 | 0=>by rw [hz];rfl
 | k+1=>by rw [Adu,Am2 hz k,Z5]
theorem Ai5 {l:ar} {node:Int} (hz:Ke l node 1=[]) {k:Nat} (hk:k+1=l.length):Tu l node k=Iq l node:=by
 rw [<-Am2 hz];unfold Iq;rw [hk]
theorem Atp {l:ar} {node:Int} {k:Nat} (h:k+1 < l.length) (e:l[k+1]=node):Tu l node (k+1)=Tu l node k++[((k+1:Nat):Int)]:=by
 rw [Z5,aD h,e,aH rfl]
theorem Axo {l:ar} {node:Int} {k:Nat} (h:k+1 < l.length) (e:¬l[k+1]=node):Tu l node (k+1)=Tu l node k:=by
 rw [Z5,aD h,aC JT,bg]
theorem Ai6 (l:ar) (node:Int) (k:Nat):(Tu l node k).length<=k:=by
 unfold Tu;rw [bf];exact bD (bJ _ _) EX
theorem Sp {l:ar} {node:Int} (hz:∀h:0 < l.length,l[0]=-1) (h:0<=node):Ke l node 1=[]:=by
 rw [Adu];by_cases h0:0 < l.length
 ·have:=hz h0;rw [aD h0,aC FB];rfl
 ·rw [bn EV];rfl
theorem Al6 (n:Int) (j:Nat):Cd (Cd n 1) j=Cd n ((j+1:Nat):Int):=by unfold Cd;omega
theorem Sj {n:Int} (h0:0<=n) (h1:n<=65535):Cd n ((0:Nat):Int)=n:=by unfold Cd;omega
theorem Abg:∀(l:List Hz) (n:Int),0<=n->n<=65535->(rel n l).1=Cd n ((rel n l).2.2.length:Nat)
 | [],n,h0,h1=>(Sj h0 h1).symm
 | s::r,n,h0,h1=>by
  have ih:=Abg r (Cd n 1) (Jb _ _).1 (Jb _ _).2;unfold rel
  split
  ·dsimp only;rw [ih,Al6,aU]
  ·exact (Sj h0 h1).symm
theorem Aiy:∀(k:Nat) (x:Aj),0<=x.next->x.next<=65535->(I3 k x).next=Cd x.next (k:Nat)/\0<=(I3 k x).next/\(I3 k x).next<=65535
 | 0,x,h0,h1=>⟨(Sj h0 h1).symm,h0,h1⟩
 | k+1,x,h0,h1=>by
  obtain ⟨a,b,c⟩:=Aiy k (Y6 x) (Jb _ _).1 (Jb _ _).2;unfold I3;exact ⟨by rw [a];show Cd (Cd x.next 1) k=_;rw [Al6],b,c⟩
theorem Aeu (n:Int) (i j:Nat):Cd (Cd n i) j=Cd n ((i+j:Nat):Int):=by unfold Cd;omega
theorem Adp (k:Nat) (x:Aj) (h0:0<=x.next) (h1:x.next<=65535):(Pj (I3 k x)).next=Cd x.next ((N8 k x++Rc (I3 k x)).length:Nat):=by
 obtain ⟨a,b,c⟩:=Aiy k x h0 h1;have d:(Pj (I3 k x)).next=Cd (I3 k x).next ((Rc (I3 k x)).length:Nat):=Abg (I3 k x).Ao (I3 k x).next b c
 have e:∀(k:Nat) (x:Aj),(N8 k x).length=k:=by
  intro k
  induction k with
  | zero=>intro x;rfl
  | succ k ih=>intro x;unfold N8;rw [aU,ih]
 rw [d,a,Aeu,aA,e]
theorem Bek (n:Int) (j:Nat) (hj:j<=65535):gp n (Cd n j)=j:=by unfold gp Cd;omega
theorem X3:∀(l:List Hz) (n:Int),(rel n l).2.1=l.drop (rel n l).2.2.length/\Jt (rel n l).2.1 0=false
 | [],n=>⟨rfl,rfl⟩
 | s::r,n=>by
  have ih:=X3 r (Cd n 1);unfold rel
  split
  ·dsimp only;rw [aU,List.drop_succ_cons];exact ih
  ·rename_i h;exact ⟨rfl,by simpa [Jt] using h⟩
theorem S9:∀(k:Nat) (x:Aj),(I3 k x).Ao=x.Ao.drop k
 | 0,_=>rfl
 | k+1,x=>by unfold I3;rw [S9 k (Y6 x)];simp [Y6,Nat.add_comm]
theorem Vm (l:List Hz) (m i:Nat):Jt (l.drop m) i=Jt l (m+i):=by unfold Jt;rw [dw]
theorem Ado (k:Nat) (x:Aj) (hg:Cy x=true):Cy (Pj (I3 k x))=true:=by
 have g:=Tt hg;unfold Cy at hg;simp only [aw,aF] at hg;obtain ⟨⟨⟨h1,h2⟩,h3⟩,h4⟩:=hg;obtain ⟨d1,d2⟩:=X3 (I3 k x).Ao (I3 k x).next
 rw [S9,cw] at d1;have hs:(Pj (I3 k x)).Ao=x.Ao.drop (k+(rel (I3 k x).next (x.Ao.drop k)).2.2.length):=by
  unfold Pj;dsimp only;rw [S9,d1]
 have hn:=Adp k x g.n0 g.n1;generalize k+(rel (I3 k x).next (x.Ao.drop k)).2.2.length=m at hs;have h0:Jt (Pj (I3 k x)).Ao 0=false:=d2;rw [hs] at h0;have e1:B8 (Pj (I3 k x)).next=true:=by rw [hn];exact Pm _ _
 have e2:(x.Ao.drop m).all Hc=true:=aV.2 fun z hz=>aV.1 h3 z (bq hz);have e3:Wr (x.Ao.drop m)=true:=by
  unfold Wr;by_cases hz:(x.Ao.drop m).length=0
  ·rw [av hz];rfl
  ·rw [ay hz,h0,Vm];unfold Wr at h4;rw [aX] at hz ⊢;rw [ay (show ¬x.Ao.length=0 by omega)] at h4;simp only [fA,aw] at h4;rw [show m+(x.Ao.length - m - 1)=x.Ao.length - 1 by omega,h4.2];rfl
 unfold Cy;rw [e1,hs,e2,e3,av FB];rfl
theorem Apq {x:Aj} (hg:Cy x=true):Jt x.Ao 0=false:=by
 unfold Cy Wr at hg;simp only [aw,bW,aF,bu] at hg;rcases hg.2 with h|h
 ·exact Q6 EV
 ·exact h.1
theorem Ar1 (x:Aj):(Rc x).length<=x.Ao.length:=by
 unfold Rc;have:∀(l:List Hz) n,(rel n l).2.2.length<=l.length:=by
  intro l
  induction l with
  | nil=>intro n;exact aK _
  | cons s r ih =>
   intro n;unfold rel
   split
   ·dsimp only;rw [aU,aU];exact Nat.succ_le_succ (ih _)
   ·exact aE _
 exact this _ _
end Go.Proofs.YtkoldibamfjghaaGreatDoor
