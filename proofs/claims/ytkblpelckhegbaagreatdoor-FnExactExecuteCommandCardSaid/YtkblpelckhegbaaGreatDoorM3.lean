/- Part 3 of the proof: 41 texts, one behind the other. -/
import Derived.Lib.ItoaNum
import Derived.Lib.Bytealg
import Derived.Test.YtkblpelckhegbaaGreatDoorShelf
import Derived.Lib.Strings
import Derived.Lib.LaidTab
import Derived.Lib.ItoaMem
import Derived.Lib.SliceRun
import Derived.ArgAppend
import Derived.Deep.RegionLaw
import Derived.Test.YtkblpelckhegbaaGreatDoorM2
open _root_.Go.Proofs.Tryz
set_option maxRecDepth 100000
set_option maxHeartbeats 8000000
set_option linter.all false
set_option linter.unusedVariables false
set_option linter.unusedSimpArgs false
namespace Go.Proofs.YtkblpelckhegbaaGreatDoor
theorem AD{p:Prop}(h:p:=by refine go ?_;rw [←eo,←es,←el];refine Ce (⟨k+1,_,_,_,_,_,_,_,_,_⟩:TkS) (by show k+1≤l.length;omega) (by show l.length - (k+1) < l.length - k;omega)):p:=h
theorem AN{p:Prop}(h:p:=by refine Cb (Jt n.up _ _ F7 (by have:=hs.u;omega) (fun q hq=>by have:=hs.uq q hq;omega)) fun s7 _=>?_;refine dk ?_;refine dt 14 ?_;refine dN 16 ?_;refine oS ?_;refine dk ?_;refine dd ?_;refine Bt (⟨_,b1,d1,G1,b2,d2,G2,b3,d3,G3,_,_,_,_⟩:ClN) trivial):p:=h
theorem AR{p:Prop}(h:p:=by obtain ⟨cs,rfl,v1,v2,G1,G2,rfl,h1,h2,rfl⟩:=s.get hm;obtain ⟨a1,c1,rfl⟩:=h1.slice;have l1:=h1.len;obtain ⟨a2,c2,rfl⟩:=h2.slice;have l2:=h2.len;have t2:=s.ro (p:=.sl _ _ _ _) hm rfl rfl ⟨by decide,h2⟩ (by intro b hb;simp only [Pc.F] at hb ⊢;simp [hb]);have t1:=t2.ro (p:=.sl _ _ _ _) (List.mem_cons_of_mem _ hm) rfl rfl ⟨by decide,h1⟩ (by intro b hb;simp only [Pc.F] at hb ⊢;simp [hb]);exact (h a1 c1 G1 a2 c2 G2 rfl  l1 l2).h a w t1 g):p:=h
theorem BE{p:Prop}(h:p:=by refine ret (_,_) trivial rfl):p:=h
theorem BF{p:Prop}(h:p:=by refine go ?_;refine ret () trivial ?_;rw [bad (by rw [hck,decide_eq_true h6,decide_eq_false (show ¬k=0 by omega)];simp)];rfl):p:=h
theorem BM{p:Prop}(h:p:=by refine ret (_,_,_) trivial rfl):p:=h
theorem CK{p:Prop}(h:p:=by apply wO;refine Qa (ys:=[l[k].Ae]) (Tq _) Dd fun a8 c8 F8=>?_;refine go ?_;intros;apply wO;refine Qa (ys:=[(⟨l[k].Ae,2,c+3,l[k].D5+1⟩:Ay)]) (Oq (⟨l[k].Ae,2,c+3,l[k].D5+1⟩:Ay)) C4 fun a7 c7 F7=>?_;exact AD):p:=h
theorem CL{p:Prop}(h:p:=by refine go ?_;refine ret z trivial rfl):p:=h
theorem CP{p:Prop}(h:p:=by obtain ⟨a',c',rfl⟩:=h1.slice;exact ⟨(a',c',F'),trivial,rfl,⟨h2,h1⟩,fun b hb=>.inl (h3 b hb),h4⟩):p:=h
theorem CQ{p:Prop}(h:p:=by obtain ⟨b,o,cs,G,ha,hrep,hG,hb,hne,hr⟩:=Y9 (s.get hm) i hi;obtain ⟨rfl,rfl⟩:=hrep;exact (h hi b o  ha  ).h ac w (s.ro hm rfl rfl ⟨hne,hr⟩ (by intro x hx;simp [Pc.F] at hx;subst hx;exact hb)) g):p:=h
theorem CR{p:Prop}(h:p:=by refine dd ?_;exact AA):p:=h
theorem CV{p:Prop}(h:p:=by refine go ?_;refine ret () trivial ?_;rw [show Bx x=decide ((x.Al.length:Int)=0) by unfold Bx;rw [g1,hs];unfold P3;rw [decide_eq_true h1,decide_eq_true (show x.Aa.Am.length=0 by omega)];simp];rfl):p:=h
theorem DM{p:Prop}(h:p:=by refine go ?_;refine ret (a2,c2,F2) trivial rfl):p:=h
theorem EF{p:Prop}(h:p:=by refine go ?_;rw [←eo];refine Ce (⟨k+1,_,_,_⟩:PkS) (by show k+1≤sn.length;omega) (by show sn.length - (k+1) < sn.length - k;omega)):p:=h
theorem EG{p:Prop}(h:p:=by rw [e,List.set_append_right _ _ (by omega),hl,Nat.sub_self,List.set_cons_zero,List.take_succ_eq_append_getElem h,List.append_assoc];rfl):p:=h
theorem EI{p:Prop}(h:p:=by refine go ?_;refine ret () trivial ?_;rw [bad (by rw [hck,g4];rfl)];rfl):p:=h
theorem EK{p:Prop}(h:p:=by unfold Cu at hg;simp only [Bool.and_eq_true] at hg;exact Bc.1 hg.1.1.1):p:=h
theorem EP{p:Prop}(h:p:=by refine oC ?_;refine ce (fun w s=>Qg _ _ _ (by omega) (by omega) (by omega) (by omega)) ?_;refine dk ?_;refine Ed 7 8 ?_;exact CR):p:=h
theorem ER{p:Prop}(h:p:=by refine go ?_;refine ret () trivial ?_;rw [nog (by unfold P3;rw [decide_eq_false (show ¬x.Aa.Am.length=0 by omega)];simp)];rfl):p:=h
theorem ET{p:Prop}(h:p:=by apply wO;refine Qa (ys:=[(⟨l[k].Ae,1,c+d,l[k].D5⟩:Ay)]) (Oq (⟨l[k].Ae,1,c+d,l[k].D5⟩:Ay)) C4 fun a7 c7 F7=>?_;exact AD):p:=h
theorem FE{p:Prop}(h:p:=by rw [List.take_left' (by rw [List.take_left' hk,hk]),List.take_left' hk,←hk];refine go ?_;refine ret (_,c,F2) trivial rfl):p:=h
theorem FZ{p:Prop}(h:p:=by intro b hb;simp only [Pc.F] at hb ⊢;simp [hb]):p:=h
theorem GD{p:Prop}(h:p:=by simpa [fp,Pc.F,List.append_assoc] using hn):p:=h
theorem GV{p:Prop}(h:p:=by simp [Value.oneCell']):p:=h
theorem HG{p:Prop}(h:p:=by intro b hb;simp only [Pc.F] at hb ⊢;exact hG b (by simp [hb])):p:=h
theorem HT{p:Prop}(h:p:=by rw [show l.length - k=(l.length - (k+1))+1 by omega,List.replicate_succ]):p:=h
theorem HZ{p:Prop}(h:p:=by rw [List.length_map,List.length_take];omega):p:=h
theorem JA{p:Prop}(h:p:=by intro q hq;obtain rfl:=List.mem_singleton.1 hq;exact ⟨_,rfl,_,_,_,_,rfl,(s.get m1).2,(s.get m2).2,rfl⟩):p:=h
theorem JK{p:Prop}(h:p:=by rw [I1 hk];simp [Vl,h5,h6,h7]):p:=h
theorem JL{p:Prop}(h:p:=by rw [I1 hk];simp [Va,h5,h6,h7]):p:=h
theorem JM{p:Prop}(h:p:=by rw [I1 hk];simp [Re,h5,h6,h7]):p:=h
theorem JO{p:Prop}(h:p:=by exact Lp):p:=h
theorem JZ{p:Prop}(h:p:=by rw [Ka,Qw (by omega)];exact Em 5 _ (by have:(10:Nat) ^ (5+1)=1000000:=rfl;omega)):p:=h
theorem KR{p:Prop}(h:p:=by rw [List.take_add_one,List.getElem?_eq_getElem hk,List.map_append];rfl):p:=h
theorem LG{p:Prop}(h:p:=by rw [Nat.pow_succ] at h;omega):p:=h
theorem LK{p:Prop}(h:p:=by simp [hy]):p:=h
end Go.Proofs.YtkblpelckhegbaaGreatDoor
namespace Go.Proofs.YtkblpelckhegbaaGreatDoor
open Go.RowKit
section
variable {c:Cx} {fr:Fr} {H:List Pc} {Φ:Gl}
theorem Ht {v:Value} {x:Ck} {F:List Nat} (h:∀(a1:Option Addr) (c1:Nat) (F1:List Nat) (a2:Option Addr) (c2:Nat) (F2:List Nat),v=.agg #[.int .i64 x.Aa.Ap,.int .i64 x.Aa.size,.slice a1 x.Aa.Ao.length c1,.int .i64 x.Ai,.int .i64 x.quiet,.slice a2 x.holds.length c2]→x.Aa.Ao.length≤maxLen→x.holds.length≤maxLen→T c fr (.sl A8 (.slice a1 x.Aa.Ao.length c1) x.Aa.Ao F1::.sl Bn (.slice a2 x.holds.length c2) x.holds F2::H) Φ) (hm:.isv Do v x F∈H:=by exact A9):T c fr H Φ:=.mk fun a w s g=>by
 exact AR
theorem Gt (x:Ck) {a1:Option Addr} {c1:Nat} {F1:List Nat} {a2:Option Addr} {c2:Nat} {F2:List Nat}  (h:T c fr (.isv Do (.agg #[.int .i64 x.Aa.Ap,.int .i64 x.Aa.size,.slice a1 x.Aa.Ao.length c1,.int .i64 x.Ai,.int .i64 x.quiet,.slice a2 x.holds.length c2]) x (F1++F2)::H) Φ) (m1:.sl A8 (.slice a1 x.Aa.Ao.length c1) x.Aa.Ao F1∈H:=by exact A9) (m2:.sl Bn (.slice a2 x.holds.length c2) x.holds F2∈H:=by exact A9):T c fr H Φ:=.mk fun a w s g=>by
 refine h.h a w (s.add (N:=[_]) (Below.refl _ _) JA ⟨FK,trivial⟩ fun q hq b hb=>?_) g;obtain rfl:=List.mem_singleton.1 hq;simp only [Pc.F,List.mem_append] at hb;rcases hb with hb|hb
 ·exact .inr ⟨rfl,_,m1,rfl,hb⟩
 ·exact .inr ⟨rfl,_,m2,rfl,hb⟩
theorem Qk {v:Value} {x:Ck} {F:List Nat} {S:List Pc} (h:∀(a1:Option Addr) (c1:Nat) (F1:List Nat) (a2:Option Addr) (c2:Nat) (F2:List Nat),v=.agg #[.int .i64 x.Aa.Ap,.int .i64 x.Aa.size,.slice a1 x.Aa.Ao.length c1,.int .i64 x.Ai,.int .i64 x.quiet,.slice a2 x.holds.length c2]→x.Aa.Ao.length≤maxLen→x.holds.length≤maxLen→T c fr (.ow A8 9 (.slice a1 x.Aa.Ao.length c1) x.Aa.Ao F1::.ow Bn 215 (.slice a2 x.holds.length c2) x.holds F2::S) Φ) (hp:Co H (.own Tf v x F) S:=by exact De):T c fr H Φ:=.mk fun a w s g=>by
 obtain ⟨hn,cs,rfl,v1,v2,G1,G2,rfl,h1,h2,rfl⟩:=(s.pick hp).on (.own Tf v x F) FK;obtain ⟨a1,c1,rfl⟩:=h1.slice;have l1:=h1.len;obtain ⟨a2,c2,rfl⟩:=h2.slice;have l2:=h2.len;exact (h a1 c1 G1 a2 c2 G2 rfl  l1 l2).h a w (s.mer (M:=[.own Tf _ x _]) (N:=[.ow A8 _ _ _ G1,.ow Bn _ _ _ G2]) (.cons hp .nil) (fun _ _=>⟨Q8 ⟨(Mk hn),h1⟩ (Q8 ⟨Acq hn,h2⟩ (Aux)),GD⟩) HB) g
theorem Tk (x:Ck) {a1:Option Addr} {c1:Nat} {F1:List Nat} {a2:Option Addr} {c2:Nat} {F2:List Nat} {S1 S2:List Pc}  (h:T c fr (.own Tf (.agg #[.int .i64 x.Aa.Ap,.int .i64 x.Aa.size,.slice a1 x.Aa.Ao.length c1,.int .i64 x.Ai,.int .i64 x.quiet,.slice a2 x.holds.length c2]) x (F1++F2)::S2) Φ) (m1:Co H (.ow A8 9 (.slice a1 x.Aa.Ao.length c1) x.Aa.Ao F1) S1:=by exact De) (m2:Co S1 (.ow Bn 215 (.slice a2 x.holds.length c2) x.holds F2) S2:=by exact De)  : T c fr H Φ:=.mk fun a w s g =>
 h.h a w (s.mer (M:=[.ow A8 _ _ _ F1,.ow Bn _ _ _ F2]) (N:=[.own Tf _ x (F1++F2)]) (.cons m1 (.cons m2 (.nil))) (fun hk hn=>⟨En ⟨GD,_,rfl,_,_,_,_,rfl,(Q9 hk).2,(Q9 (Ie hk)).2,rfl⟩,GD⟩) HB) g
end
section
variable {c:Cx} {fr:Fr} {H:List Pc} {Φ:Gl}
theorem Aqe {v:Value} {x:Hz} {F:List Nat} (h:∀(_:Unit),v=.agg #[.int .i64 x.Ae,.int .i64 x.Ch]→T c fr (H) Φ) (hm:.isv Bn v x F∈H:=by exact A9):T c fr H Φ:=.mk fun a w s g=>by
 obtain ⟨cs,rfl,rfl,rfl⟩:=s.get hm;exact (h () rfl  ).h a w s g
theorem Ww {a:Option Addr} {n cp:Nat} {xs:List Hz} {F:List Nat} (i:Nat) (h:∀(hi:i < xs.length) (b o:Nat),a=some ⟨b,o,none⟩→T c fr (.cel b (o+i * 2) [.int .i64 xs[i].Ae,.int .i64 xs[i].Ch]::H) Φ) (hm:.sl Bn (.slice a n cp) xs F∈H:=by exact A9) (hi:i < xs.length:=by omega):T c fr H Φ:=.mk fun ac w s g=>by
 exact CQ
end
section
variable {c:Cx} {fr:Fr} {H:List Pc} {Φ:Gl}
theorem Et {v:Value} {x:Aw} {F:List Nat} (h:∀(a1:Option Addr) (c1:Nat) (F1:List Nat),v=.agg #[.int .i64 x.Ap,.int .i64 x.size,.slice a1 x.Ao.length c1]→x.Ao.length≤maxLen→T c fr (.sl A8 (.slice a1 x.Ao.length c1) x.Ao F1::H) Φ) (hm:.isv Bv v x F∈H:=by exact A9):T c fr H Φ:=.mk fun a w s g=>by
 exact AG
theorem Cv (x:Aw) {a1:Option Addr} {c1:Nat} {F1:List Nat}  (h:T c fr (.isv Bv (.agg #[.int .i64 x.Ap,.int .i64 x.size,.slice a1 x.Ao.length c1]) x (F1)::H) Φ) (m1:.sl A8 (.slice a1 x.Ao.length c1) x.Ao F1∈H:=by exact A9):T c fr H Φ:=.mk fun a w s g=>by
 exact AH
theorem Hy {v:Value} {x:Aw} {F:List Nat} {S:List Pc} (h:∀(a1:Option Addr) (c1:Nat) (F1:List Nat),v=.agg #[.int .i64 x.Ap,.int .i64 x.size,.slice a1 x.Ao.length c1]→x.Ao.length≤maxLen→T c fr (.ow A8 9 (.slice a1 x.Ao.length c1) x.Ao F1::S) Φ) (hp:Co H (.own Kw v x F) S:=by exact De):T c fr H Φ:=.mk fun a w s g=>by
 have z1:=s.pick hp;obtain ⟨hn,cs,rfl,v1,rfl,h1⟩:=z1.on (.own Kw v x F) FK;obtain ⟨a1,c1,rfl⟩:=h1.slice;have l1:=h1.len;refine (h a1 c1 F rfl  l1).h a w (St.turn (M:=[.own Kw (.agg #[.int .i64 x.Ap,.int .i64 x.size,.slice a1 x.Ao.length c1]) x _]) (N:=[.ow A8 9 (.slice a1 x.Ao.length c1) x.Ao F]) z1 (D6.refl _ w) ?_ ?_ ?_) g
 ·exact DJ
 ·exact ⟨FK,trivial⟩
 ·exact DQ
theorem Rg (x:Aw) {a1:Option Addr} {c1:Nat} {F1:List Nat} {S1:List Pc}  (h:T c fr (.own Kw (.agg #[.int .i64 x.Ap,.int .i64 x.size,.slice a1 x.Ao.length c1]) x (F1)::S1) Φ) (m1:Co H (.ow A8 9 (.slice a1 x.Ao.length c1) x.Ao F1) S1:=by exact De)  : T c fr H Φ:=.mk fun a w s g=>by
 have z1:St c.G c.D c.w0 ([.ow A8 9 (.slice a1 x.Ao.length c1) x.Ao F1]++S1) w:=by simpa using (show Io H [.ow A8 9 (.slice a1 x.Ao.length c1) x.Ao F1] S1 from Io.cons m1 (Io.nil)).st (X:=[]) HN
 obtain ⟨n1,k1⟩:=z1.on (.ow A8 9 (.slice a1 x.Ao.length c1) x.Ao F1) FK;have hN:=n1;refine h.h a w (St.turn (M:=[.ow A8 9 (.slice a1 x.Ao.length c1) x.Ao F1]) (N:=[.own Kw (.agg #[.int .i64 x.Ap,.int .i64 x.size,.slice a1 x.Ao.length c1]) x (F1)]) z1 (D6.refl _ w) GW ⟨FK,trivial⟩ fun q hq b hb=>?_) g;exact CB
end
def Jh (w:Aw) (n:Int):Bool:=decide (gp w.Ap n < (w.Ao.length:Int))
theorem Amx {n:Int} (h:Ld n=true):0≤n∧n≤9999:=by unfold Ld Gj at h;simpa using h
def Ajy (x:Ck) (i:Nat):Bool:=match x.holds[i]? with
 | none=>true
 | some h=>Cc h.Ae && Jh x.Aa h.Ae && Gj (x.Ai+1) h.Ch (x.Ai+3) && (decide (i=0) || match x.holds[i - 1]? with|none=>true|some p=>!decide (gp x.Aa.Ap h.Ae≤gp x.Aa.Ap p.Ae))
theorem Qs {x:Ck} {i:Nat} (h:i < x.holds.length):Ajy x i=(Cc x.holds[i].Ae && Jh x.Aa x.holds[i].Ae && Gj (x.Ai+1) x.holds[i].Ch (x.Ai+3) && (decide (i=0) || !decide (gp x.Aa.Ap x.holds[i].Ae≤gp x.Aa.Ap (x.holds[i - 1]'FJ).Ae))):=by
 unfold Ajy;rw [List.getElem?_eq_getElem h,List.getElem?_eq_getElem (show i - 1 < x.holds.length by omega)]
def C3 (x:Ck):Bool:=D9 x.Aa && Ld x.Ai && Gj 0 x.quiet 3 && (List.range x.holds.length).all (Ajy x)
theorem Ahv {x:Ck} {i:Nat} (h:i < x.holds.length) (hc:Ajy x i=false):C3 x=false:=by
 have:(List.range x.holds.length).all (Ajy x)=false:=List.all_eq_false.2 ⟨i,GE,JY⟩;simp [C3,this]
theorem Afd {x:Ck} (h1:D9 x.Aa=true) (h2:Ld x.Ai=true) (h3:Gj 0 x.quiet 3=true) (h:∀j,j < x.holds.length→Ajy x j=true):C3 x=true:=by
 unfold C3;rw [h1,h2,h3,List.all_eq_true.2 fun j hj=>h j IR];rfl
theorem Yq (x:Aw) (n:Int) (v:Value) (F:List Nat) (h0:0≤x.Ap) (h1:x.Ap≤65535) (h2:0≤n) (h3:n≤65535) :
  FV 190 [v,.int .i64 n] [.isv Bv v x F] (.bool (Jh x n)):=by
 refine enter func190 rfl ntmps190 fun w0=>?_;refine Et ?_;rintro a1 c1 F1 rfl l1;refine go ?_;intros;refine As [0] [] ?_;refine Ds 0 1 2 4 ?_;refine Ed 5 6 ?_;refine dN 3 ?_;exact EP
theorem Zs (x:Aw) (n:Int) (v:Value) (F:List Nat) (h0:0≤x.Ap) (h1:x.Ap≤65535) (h2:-1≤n) (h3:n≤65536) :
  FV 156 [v,.int .i64 n] [.isv Bv v x F] (.bool (Jh x n)):=by
 refine enter func156 rfl ntmps156 fun w0=>?_;refine Et ?_;rintro a1 c1 F1 rfl l1;refine go ?_;intros;refine As [0] [] ?_;refine Ds 0 1 2 4 ?_;refine Ed 5 6 ?_;refine dN 3 ?_;refine oC ?_;refine ce (fun w s=>Ju _ _ _ FJ FJ) ?_;refine dk ?_;refine Ed 7 8 ?_;exact CR
theorem Ap1 (x:Aw) (n:Int) (v:Value) (F:List Nat) (h0:0≤x.Ap) (h1:x.Ap≤65535) (h2:0≤n) (h3:n≤65535) :
  FV 156 [v,.int .i64 n] [.isv Bv v x F] (.bool (Jh x n)):=Zs x n v F h0 h1 FJ FJ
theorem Af7 (x:Ck) (v:Value) (F:List Nat):FV 110 [v] [.isv Do v x F] (.bool (C3 x)):=by
 refine enter func110 rfl ntmps110 fun w0=>?_;refine Ht ?_;rintro a1 c1 F1 a2 c2 F2 rfl l1 l2;unfold maxLen at l1 l2;refine Cv x.Aa ?_;generalize F1=F3;refine go ?_;intros;refine cb (fun w st=>Tb _ x.Aa _ w (st.get (p:=.isv Bv (.agg #[.int .i64 x.Aa.Ap,.int .i64 x.Aa.size,.slice a1 x.Aa.Ao.length c1]) x.Aa F3) FK)) ?_;cases g1:D9 x.Aa
 ·refine go ?_;refine ret () trivial ?_;simp [C3,g1,Ux]
 obtain ⟨⟨t0,t1⟩, -⟩:=Ec.1 g1;refine go ?_;refine ce (fun w s=>T0 _ _) ?_;cases g2:Ld x.Ai
 ·refine go ?_;refine ret () trivial ?_;simp [C3,g2,Ux]
 obtain ⟨k0,k1⟩:=Amx g2;refine go ?_;refine ce (fun w s=>Ik _ _ _ _) ?_;cases g3:Gj 0 x.quiet 3
 ·refine go ?_;refine ret () trivial ?_;simp [C3,g3,Ux]
 refine go ?_;refine D8 [1,2,22,23] (fun k:Nat=>[(24,.int .i64 k)]) (fun k=>k≤x.holds.length∧∀j,j < k→Ajy x j=true) (fun k=>x.holds.length - k) 0 ⟨Nat.zero_le _,fun j h=>by omega⟩ fun k hk=>?_;obtain ⟨hk1,hk2⟩:=hk;refine go ?_;refine Ax rfl (fun h3=>?_) (fun h3=>?_)
 ·have hk3:k < x.holds.length:=FJ
  have bad:Ajy x k=false→C3 x=false:=fun h=>Ahv hk3 h;have hck:=Qs hk3;refine Ww (xs:=x.holds) k ?_;rintro hi b o e;rw [e];refine go ?_;intros;refine ce (fun w s=>Jj _ _) ?_;cases g4:Cc x.holds[k].Ae
  ·exact EI
  obtain ⟨m0,m1⟩:=Bc.1 g4;refine go ?_;refine cb (fun w st=>(Yq x.Aa x.holds[k].Ae _ _ t0 t1 m0 m1).val w (En (st.get (p:=.isv Bv (.agg #[.int .i64 x.Aa.Ap,.int .i64 x.Aa.size,.slice a1 x.Aa.Ao.length c1]) x.Aa F3) FK))) ?_;cases g5:Jh x.Aa x.holds[k].Ae
  ·refine go ?_;refine ret () trivial ?_;rw [bad (by rw [hck,g4,g5];rfl)];rfl
  refine go ?_;refine ce (fun w s=>Ik _ _ _ _) ?_;cases g6:Gj (x.Ai+1) x.holds[k].Ch (x.Ai+3)
  ·refine go ?_;refine ret () trivial ?_;rw [bad (by rw [hck,g4,g5,g6];rfl)];rfl
  refine go ?_;by_cases hk0:0 < k
  ·have hk4:k - 1 < x.holds.length:=FJ
   have hp:=hk2 (k - 1) FJ;rw [Qs hk4] at hp;simp only [Bool.and_eq_true] at hp;obtain ⟨p0,p1⟩:=Bc.1 hp.1.1.1;rw [←e];refine Ww (xs:=x.holds) (k - 1) ?_;rintro hi5 b5 o5 e5;rw [e5];refine As [0,1,3] [] ?_;refine Ed 0 1 ?_;rw [decide_eq_true (show (0:Int) < k by omega)];refine dt 2 ?_;refine Dr 3 ?_;refine Dr 4 ?_;refine Dr 5 ?_;refine Dr 6 ?_;refine Dr 7 ?_;refine Dr 8 ?_;refine Dr 9 ?_;rw [show (k:Int) - 1=((k - 1:Nat):Int) by omega];refine Dr 10 ?_;refine Dr 11 ?_;refine Dr 12 ?_;refine Dr 14 ?_;refine Dr 15 ?_;refine Dr 16 ?_;refine Dr 17 ?_;refine Dr 18 ?_;refine d1g 13 ?_
   apply On.h;refine oC ?_;refine ce (fun w s=>Qg _ _ _ FJ FJ FJ FJ) ?_;refine dk ?_;refine d1g 19 ?_;apply On.h;refine oC ?_;refine ce (fun w s=>Qg _ _ _ FJ FJ FJ FJ) ?_;refine dk ?_;refine Dr 20 ?_;refine dt 21 ?_;refine dd ?_;refine go ?_;refine Ax rfl (fun h6=>?_) (fun h6=>?_)
   ·exact BF
   ·refine go ?_;refine Ce (k+1) ⟨FJ,fun j hj=>?_⟩ FJ;rcases Nat.lt_or_eq_of_le (Nat.lt_succ_iff.1 hj) with h|rfl
    ·exact hk2 j h
    ·rw [hck,g4,g5,g6,decide_eq_false h6];simp
  ·have hz:k=0:=FJ
   refine As [0,2] [] ?_;refine Ed 0 1 ?_;rw [decide_eq_false (show ¬(0:Int) < k by omega)];refine dt 2 ?_;refine ds 3 ?_;refine ds 4 ?_;refine ds 5 ?_;refine ds 6 ?_;refine ds 7 ?_;refine ds 8 ?_;refine ds 9 ?_;refine ds 10 ?_;refine ds 11 ?_;refine ds 12 ?_;refine ds 13 ?_;refine ds 14 ?_;refine ds 15 ?_;refine ds 16 ?_;refine ds 17 ?_;refine ds 18 ?_;refine ds 19 ?_;refine ds 20 ?_;refine dt 21 ?_;refine dd ?_;refine go ?_;refine Ce (k+1) ⟨FJ,fun j hj=>?_⟩ FJ;rcases Nat.lt_or_eq_of_le (Nat.lt_succ_iff.1 hj) with h|rfl
   ·exact hk2 j h
   ·rw [hck,g4,g5,g6,decide_eq_true hz];simp
 have hkl:k=x.holds.length:=FJ
 refine go ?_;refine ret () trivial ?_;rw [Afd g1 g2 g3 (hkl▸hk2)];rfl
theorem Aw1 (x:Ck) (v:Value) (F:List Nat):FV 80 [v] [.isv Do v x F] (.bool (C3 x)):=by
 refine enter func80 rfl ntmps80 fun w0=>?_;refine Ht ?_;rintro a1 c1 F1 a2 c2 F2 rfl l1 l2;unfold maxLen at l1 l2;refine Cv x.Aa ?_;generalize F1=F3;refine go ?_;intros;refine cb (fun w st=>Ap0 _ x.Aa _ w (st.get (p:=.isv Bv (.agg #[.int .i64 x.Aa.Ap,.int .i64 x.Aa.size,.slice a1 x.Aa.Ao.length c1]) x.Aa F3) FK)) ?_;cases g1:D9 x.Aa
 ·refine go ?_;refine ret () trivial ?_;simp [C3,g1,Ux]
 obtain ⟨⟨t0,t1⟩, -⟩:=Ec.1 g1;refine go ?_;refine ce (fun w s=>Abe _ _) ?_;cases g2:Ld x.Ai
 ·refine go ?_;refine ret () trivial ?_;simp [C3,g2,Ux]
 obtain ⟨k0,k1⟩:=Amx g2;refine go ?_;refine ce (fun w s=>Ku _ _ _ _) ?_;cases g3:Gj 0 x.quiet 3
 ·refine go ?_;refine ret () trivial ?_;simp [C3,g3,Ux]
 refine go ?_;refine D8 [1,2] (fun k:Nat=>[(3,.int .i64 k)]) (fun k=>k≤x.holds.length∧∀j,j < k→Ajy x j=true) (fun k=>x.holds.length - k) 0 ⟨Nat.zero_le _,fun j h=>by omega⟩ fun k hk=>?_;obtain ⟨hk1,hk2⟩:=hk;refine go ?_;refine Ax rfl (fun h3=>?_) (fun h3=>?_)
 ·have hk3:k < x.holds.length:=FJ
  have bad:Ajy x k=false→C3 x=false:=fun h=>Ahv hk3 h;have hck:=Qs hk3;refine Ww (xs:=x.holds) k ?_;rintro hi b o e;rw [e];refine go ?_;intros;refine ce (fun w s=>Pq _ _) ?_;cases g4:Cc x.holds[k].Ae
  ·exact EI
  obtain ⟨m0,m1⟩:=Bc.1 g4;refine go ?_;refine cb (fun w st=>(Ap1 x.Aa x.holds[k].Ae _ _ t0 t1 m0 m1).val w (En (st.get (p:=.isv Bv (.agg #[.int .i64 x.Aa.Ap,.int .i64 x.Aa.size,.slice a1 x.Aa.Ao.length c1]) x.Aa F3) FK))) ?_;cases g5:Jh x.Aa x.holds[k].Ae
  ·refine go ?_;refine ret () trivial ?_;rw [bad (by rw [hck,g4,g5];rfl)];rfl
  refine go ?_;refine ce (fun w s=>Ku _ _ _ _) ?_;cases g6:Gj (x.Ai+1) x.holds[k].Ch (x.Ai+3)
  ·refine go ?_;refine ret () trivial ?_;rw [bad (by rw [hck,g4,g5,g6];rfl)];rfl
  refine go ?_;by_cases hk0:0 < k
  ·have hk4:k - 1 < x.holds.length:=FJ
   have hp:=hk2 (k - 1) FJ;rw [Qs hk4] at hp;simp only [Bool.and_eq_true] at hp;obtain ⟨p0,p1⟩:=Bc.1 hp.1.1.1;rw [←e];refine Ww (xs:=x.holds) (k - 1) ?_;rintro hi5 b5 o5 e5;rw [e5];refine As [0,1,3] [] ?_;refine Ed 0 1 ?_;rw [decide_eq_true (show (0:Int) < k by omega)];refine dt 2 ?_;refine Dr 3 ?_;refine Dr 4 ?_;refine Dr 5 ?_;refine Dr 6 ?_;refine Dr 7 ?_;refine Dr 8 ?_;refine Dr 9 ?_;rw [show (k:Int) - 1=((k - 1:Nat):Int) by omega];refine Dr 10 ?_;refine Dr 11 ?_;refine Dr 12 ?_;refine Dr 14 ?_;refine Dr 15 ?_;refine Dr 16 ?_;refine Dr 17 ?_;refine Dr 18 ?_;refine d1g 13 ?_
   apply On.h;refine oC ?_;refine ce (fun w s=>Ju _ _ _ FJ FJ) ?_;refine dk ?_;refine d1g 19 ?_;apply On.h;refine oC ?_;refine ce (fun w s=>Ju _ _ _ FJ FJ) ?_;refine dk ?_;refine Dr 20 ?_;refine dt 21 ?_;refine dd ?_;refine go ?_;refine Ax rfl (fun h6=>?_) (fun h6=>?_)
   ·exact BF
   ·refine go ?_;refine Ce (k+1) ⟨FJ,fun j hj=>?_⟩ FJ;rcases Nat.lt_or_eq_of_le (Nat.lt_succ_iff.1 hj) with h|rfl
    ·exact hk2 j h
    ·rw [hck,g4,g5,g6,decide_eq_false h6];simp
  ·have hz:k=0:=FJ
   refine As [0,2] [] ?_;refine Ed 0 1 ?_;rw [decide_eq_false (show ¬(0:Int) < k by omega)];refine dt 2 ?_;refine ds 3 ?_;refine ds 4 ?_;refine ds 5 ?_;refine ds 6 ?_;refine ds 7 ?_;refine ds 8 ?_;refine ds 9 ?_;refine ds 10 ?_;refine ds 11 ?_;refine ds 12 ?_;refine ds 13 ?_;refine ds 14 ?_;refine ds 15 ?_;refine ds 16 ?_;refine ds 17 ?_;refine ds 18 ?_;refine ds 19 ?_;refine ds 20 ?_;refine dt 21 ?_;refine dd ?_;refine go ?_;refine Ce (k+1) ⟨FJ,fun j hj=>?_⟩ FJ;rcases Nat.lt_or_eq_of_le (Nat.lt_succ_iff.1 hj) with h|rfl
   ·exact hk2 j h
   ·rw [hck,g4,g5,g6,decide_eq_true hz];simp
 have hkl:k=x.holds.length:=FJ
 refine go ?_;refine ret () trivial ?_;rw [Afd g1 g2 g3 (hkl▸hk2)];rfl
def Ff (l:List Ar):Bool:=decide (l.length≤6) && l.all Bw
def upQ (l:List Ar):Bool:=l.all fun p=>decide (p.Cp=3)
def Nl (e:Bf):Bool:=decide (e.Ai=0) && decide (e.Ah.length=0)
def Ut (r:Az):Bool:=!r.Be && decide (r.Ai=0) && P3 r
def Rr (par:List Int) (clk:Int) (i:Nat) (e:Bf) (r:Az) (d u:List Ar):Bool:=Ff d && Ff u && upQ u &&
 (if i=0 then Nl e && Ut r && decide (d.length=0) && decide (u.length=0)
  else if Eu par i then Nl e && Bx r && decide (r.Ai=clk) else Ba e && decide (e.Ai=clk) && Ut r)
def Ua (n:Du) (i:Nat):Bool:=match n.Af[i]?,n.Ac[i]?,n.down[i]?,n.up[i]? with
 | some e,some r,some d,some u=>Rr n.An.Ad n.Ab.Ai i e r d u
 | _,_,_,_=>true
def Mj (n:Du):Bool:=decide (n.Af.length=n.An.Ad.length) && decide (n.Ac.length=n.An.Ad.length) && decide (n.down.length=n.An.Ad.length) && decide (n.up.length=n.An.Ad.length)
def At (n:Du):Bool:=Kl n.An && C3 n.Ab && Mj n && Pz (Ua n) n.An.Ad.length
theorem Vw {n:Du} {i:Nat} (h1:i < n.Af.length) (h2:i < n.Ac.length) (h3:i < n.down.length) (h4:i < n.up.length):Ua n i=Rr n.An.Ad n.Ab.Ai i n.Af[i] n.Ac[i] n.down[i] n.up[i]:=by
 unfold Ua;rw [List.getElem?_eq_getElem h1,List.getElem?_eq_getElem h2,List.getElem?_eq_getElem h3,List.getElem?_eq_getElem h4]
theorem Bm {n:Du}:Mj n=true↔n.Af.length=n.An.Ad.length∧n.Ac.length=n.An.Ad.length∧n.down.length=n.An.Ad.length∧n.up.length=n.An.Ad.length:=by
 unfold Mj;simp only [Bool.and_eq_true,decide_eq_true_eq];exact ⟨fun ⟨⟨⟨a,b⟩,c⟩,d⟩=>⟨a,b,c,d⟩,fun ⟨a,b,c,d⟩=>⟨⟨⟨a,b⟩,c⟩,d⟩⟩
theorem U2 {n:Du}:At n=true↔Kl n.An=true∧C3 n.Ab=true∧Mj n=true∧∀i,i < n.An.Ad.length→Ua n i=true:=by
 unfold At;simp only [Bool.and_eq_true];exact ⟨fun ⟨⟨⟨a,b⟩,c⟩,d⟩=>⟨a,b,c,Jz d⟩,fun ⟨a,b,c,d⟩=>⟨⟨⟨a,b⟩,c⟩,Me d⟩⟩
theorem Aht {n:Du} {i:Nat} (hi:i < n.An.Ad.length) (h:Ua n i=false):At n=false:=by unfold At;rw [Ms hi h,Bool.and_false]
theorem Arw {r:Az} (h:Bx r=true):Ut r=(!r.Be && decide (r.Ai=0)):=by
 unfold Ut;cases hs:r.Be
 ·unfold Bx at h;rw [hs] at h;simp only [Bool.and_eq_true,Bool.false_eq_true,if_false] at h;rw [h.2,Bool.and_true]
 ·rfl
theorem W7 {r:Az} (h:Ut r=true):Bx r=true:=by
 unfold Ut at h;simp only [Bool.and_eq_true,Bool.not_eq_true',decide_eq_true_eq] at h;unfold Bx;rw [h.1.1,h.2,h.1.2];rfl
theorem W6 {e:Bf} (h:Nl e=true):Ba e=true:=by
 unfold Nl at h;simp only [Bool.and_eq_true,decide_eq_true_eq] at h;unfold Ba;rw [h.1,h.2];rfl
def Ai0 (par:List Int) (clk:Int) (i:Nat) (e:Bf) (r:Az) (d u:List Ar):Bool:=Ba e && Bx r && Ff d && (Ff u && upQ u) &&
 (if i=0 then Nl e && (!r.Be && decide (r.Ai=0)) && decide (d.length+u.length=0)
  else if Eu par i then Nl e && decide (r.Ai=clk) else (!r.Be && decide (r.Ai=0)) && decide (e.Ai=clk))
theorem Aer (par:List Int) (clk:Int) (i:Nat) (e:Bf) (r:Az) (d u:List Ar):Ai0 par clk i e r d u=Rr par clk i e r d u:=by
 have hz:(decide (d.length+u.length=0))=(decide (d.length=0) && decide (u.length=0)):=by
  by_cases a:d.length=0 <;> by_cases b:u.length=0 <;> simp [a,b]
 unfold Ai0 Rr;rw [hz];cases gq:Ff d <;> cases gu:Ff u <;> cases gk:upQ u <;> simp only [Bool.and_false,Bool.false_and,Bool.and_true,Bool.true_and]
 split
 ·cases he:Nl e
  ·simp
  ·rw [W6 he];cases hr:Bx r
   ·cases hr2:Ut r
    ·simp
    ·rw [W7 hr2] at hr;cases hr
   ·rw [Arw hr];simp [Bool.and_assoc]
 ·split
  ·cases he:Nl e
   ·simp
   ·rw [W6 he];simp
  ·cases hr:Bx r
   ·cases hr2:Ut r
    ·simp
    ·rw [W7 hr2] at hr;cases hr
   ·rw [Arw hr];cases Ba e <;> cases (!r.Be && decide (r.Ai=0)) <;> simp
def Wk (q:List Ar) (p:Ar):List Ar:=if q.length < 6 then q++[p] else q
def H5 (q ps:List Ar):List Ar:=q++ps.take (6 - q.length)
theorem Aqo (q:List Ar):H5 q []=q:=by unfold H5;simp
theorem Ax2 (q:List Ar) (p:Ar) (ps:List Ar):H5 (Wk q p) ps=H5 q (p::ps):=by
 unfold H5 Wk;by_cases h:q.length < 6
 ·rw [if_pos h,show 6 - q.length=(6 - (q.length+1))+1 by omega,List.take_succ_cons];simp
 ·rw [if_neg h,show 6 - q.length=0 by omega];simp
theorem Bbo (q:List Ar) (p:Ar):H5 q [p]=Wk q p:=by rw [←Ax2,Aqo]
theorem Aqn (q ps:List Ar):(H5 q ps).length≤q.length+ps.length∧(q.length≤6→(H5 q ps).length≤6):=by
 unfold H5;rw [List.length_append,List.length_take];omega
theorem Aeo {q ps:List Ar} (hq:Ff q=true) (hp:∀p∈ps,Bw p=true):Ff (H5 q ps)=true:=by
 unfold Ff at *;simp only [Bool.and_eq_true,decide_eq_true_eq] at hq ⊢;refine ⟨(Aqn q ps).2 hq.1,?_⟩;unfold H5;rw [List.all_append,hq.2,Bool.true_and,List.all_eq_true];exact fun p h=>hp p (List.mem_of_mem_take h)
def Dq (d:List (List Ar)) (nodes:List Int) (ps:List Ar):List (List Ar):=nodes.foldl (fun d x=>d.modify x.toNat fun q=>H5 q ps) d
theorem Abs (ps:List Ar):∀(nodes:List Int) (d:List (List Ar)),(Dq d nodes ps).length=d.length
 | [],_=>rfl
 | x::r,d=>by
  show (Dq (d.modify x.toNat fun q=>H5 q ps) r ps).length=d.length;rw [Abs ps r,List.length_modify]
theorem Aq0 (d:List (List Ar)) (nodes:List Int) (x:Int) (ps:List Ar):Dq d (nodes++[x]) ps=(Dq d nodes ps).modify x.toNat fun q=>H5 q ps:=by
 unfold Dq;rw [List.foldl_append];rfl
def M4 (f:Nat→Nat):Nat→List (List Ar)→Nat
 | _,[]=>0
 | k,x::r=>x.length * f k+M4 f (k+1) r
theorem Ajr (f:Nat→Nat):∀(l:List (List Ar)) (k i:Nat) (h:i < l.length) (x:List Ar),M4 f k (l.set i x)+l[i].length * f (k+i)=M4 f k l+x.length * f (k+i)
 | [],_,_,h,_=>absurd h FK
 | y::r,k,0,_,x=>by
  show x.length * f k+M4 f (k+1) r+y.length * f k=y.length * f k+M4 f (k+1) r+x.length * f k;omega
 | y::r,k,i+1,h,x=>by
  have hr:i < r.length:=GE
  have ih:=Ajr f r (k+1) i hr x;show y.length * f k+M4 f (k+1) (r.set i x)+r[i].length * f (k+(i+1))=y.length * f k+M4 f (k+1) r+x.length * f (k+(i+1));rw [show k+(i+1)=k+1+i by omega];omega
theorem Ip {l:List (List Ar)} {i:Nat} {g:List Ar→List Ar} (h:i < l.length):l.modify i g=l.set i (g l[i]):=by
 refine List.ext_getElem? fun j=>?_;rw [List.getElem?_modify,List.getElem?_set];by_cases e:i=j
 ·subst e;simp [h]
 ·simp [e]
theorem Abj {l:List (List Ar)} {i:Nat} {g:List Ar→List Ar} (h:¬i < l.length):l.modify i g=l:=by
 refine List.ext_getElem? fun j=>?_;rw [List.getElem?_modify];by_cases e:i=j
 ·subst e;simp [List.getElem?_eq_none (show l.length≤i by omega)]
 ·simp [e]
theorem Aru (f:Nat→Nat) (l:List (List Ar)) (i:Nat) (ps:List Ar):M4 f 0 (l.modify i fun q=>H5 q ps)≤M4 f 0 l+ps.length * f i:=by
 by_cases h:i < l.length
 ·have h1:=Ajr f l 0 i h (H5 l[i] ps);have h2:=Nat.mul_le_mul_right (f i) (Aqn l[i] ps).1;rw [Nat.zero_add,Nat.add_mul] at *;rw [Ip h];omega
 ·rw [Abj h];omega
def Abt (f:Nat→Nat) (nodes:List Int):Nat:=(nodes.map fun x=>f x.toNat).sum
theorem Vc (f:Nat→Nat) (ps:List Ar):∀(nodes:List Int) (d:List (List Ar)),M4 f 0 (Dq d nodes ps)≤M4 f 0 d+ps.length * Abt f nodes
 | [],d=>by show M4 f 0 d≤_;omega
 | x::r,d=>by
  have ih:=Vc f ps r (d.modify x.toNat fun q=>H5 q ps);have h1:=Aru f d x.toNat ps;show M4 f 0 (Dq (d.modify x.toNat fun q=>H5 q ps) r ps)≤M4 f 0 d+ps.length * (f x.toNat+Abt f r);rw [Nat.mul_add];omega
theorem Bdj (f:Nat→Nat) (l:List (List Ar)) (i:Nat) (h:i < l.length) (h0:0 < l[i].length):M4 f 0 (l.set i (l[i].drop 1))+f i=M4 f 0 l:=by
 have h1:=Ajr f l 0 i h (l[i].drop 1);rw [List.length_drop,Nat.zero_add] at h1;have h2:l[i].length * f i=(l[i].length - 1) * f i+f i:=by
  obtain ⟨m,hm⟩:∃m,l[i].length=m+1:=⟨l[i].length - 1,FJ⟩;rw [hm,Nat.succ_mul,Nat.add_sub_cancel]
 omega
theorem Amk (f:Nat→Nat) (b:Nat):∀nodes:List Int,(∀x∈nodes,f x.toNat≤b)→Abt f nodes≤nodes.length * b
 | [],_=>by simp [Abt]
 | x::r,h=>by
  have ih:=Amk f b r fun y hy=>h y LK;have:=h x FK;show f x.toNat+Abt f r≤(r.length+1) * b;rw [Nat.succ_mul];omega
theorem Mh {l:List Int} (hg:Vq l) {i:Nat} {x:Int} (h:x∈I3 l (i:Int)):i < x.toNat∧x.toNat < l.length∧0≤x:=by
 obtain ⟨j,hj,rfl,e⟩:=Apu h;rcases Nat.eq_zero_or_pos j with rfl|h0
 ·have:=hg.z hj;omega
 ·have:=(hg.p j hj h0).2;simp only [Int.toNat_natCast];omega
theorem Wc (l:List Int) (node:Int):(I3 l node).length≤l.length:=Ah5 l node l.length
abbrev Bs:=List UInt8
def Ei (b:UInt8) (l:Bs):Bs:=l.takeWhile (· != b)
def M7 (b:UInt8) (l:Bs):Bs:=(l.dropWhile (· != b)).drop 1
theorem Agx {b:UInt8} {x r:Bs} (h:∀c∈x,c≠b):Ei b (x++b::r)=x:=by
 unfold Ei;rw [List.takeWhile_append_of_pos GE];simp
theorem Avn {b:UInt8} {x:Bs} (h:∀c∈x,c≠b):Ei b x=x:=by
 have:=List.takeWhile_append_of_pos (p:=(· != b)) (l₁:=x) (l₂:=[]) GE;simpa [Ei] using this
theorem Akv {b:UInt8} {x r:Bs} (h:∀c∈x,c≠b):M7 b (x++b::r)=r:=by
 unfold M7;rw [List.dropWhile_append_of_pos GE];simp
theorem Akw {b:UInt8} {x:Bs} (h:∀c∈x,c≠b):M7 b x=[]:=by
 have:=List.dropWhile_append_of_pos (p:=(· != b)) (l₁:=x) (l₂:=[]) GE;simp only [List.append_nil,List.dropWhile_nil] at this;simp [M7,this]
theorem Adf {b:UInt8} {l:Bs}:∀c∈Ei b l,c≠b:=by
 unfold Ei
 induction l with
 | nil=>simp
 | cons d l ih =>
  intro c hc;rw [List.takeWhile_cons] at hc
  split at hc
  ·rename_i h;rcases List.mem_cons.1 hc with rfl|hc
   ·simpa using h
   ·exact ih c hc
  ·simp at hc
theorem Px (b:UInt8) (l:Bs):(b∈l∧l=Ei b l++b::M7 b l)∨(b ∉ l∧Ei b l=l∧M7 b l=[]):=by
 by_cases h:b∈l
 ·left;refine ⟨h,?_⟩;unfold Ei M7
  induction l with
  | nil=>cases h
  | cons c l ih =>
   by_cases hc:c=b
   ·subst hc;simp
   ·have hm:b∈l:=by
     rcases List.mem_cons.1 h with e|e
     ·exact absurd e.symm hc
     ·exact e
    simp only [List.takeWhile_cons,List.dropWhile_cons,bne_iff_ne,ne_eq,hc,not_false_eq_true,if_true,List.cons_append];rw [←ih hm]
 ·right;exact ⟨h,Avn fun c hc e=>h (e▸hc),Akw fun c hc e=>h (e▸hc)⟩
def Ea:Bs→List Bs
 | []=>[]
 | b::r=>if b == 10 then [10]::Ea r else match Ea r with
  | []=>[[b]]
  | x::xs=>(b::x)::xs
theorem Tn:∀l:Bs,(Ea l).flatten=l
 | []=>rfl
 | b::r=>by
  have ih:=Tn r;unfold Ea
  split
  ·rename_i h;simp at h;subst h;simp [ih]
  ·cases h:Ea r with
   | nil=>rw [h] at ih;simp at ih;subst ih;simp
   | cons x xs=>rw [h] at ih;simp at ih;simp [ih]
theorem Uk:∀{x:Bs} (r:Bs),(∀c∈x,c≠10)→Ea (x++10::r)=(x++[10])::Ea r
 | [],r,_=>by simp [Ea]
 | b::x,r,h=>by
  have ih:=Uk (x:=x) r fun c hc=>h c JY;have hb:(b == 10)=false:=by simpa using h b FK
  simp only [List.cons_append,Ea,hb,ih];simp
theorem Xc:∀{x:Bs},x≠[]→(∀c∈x,c≠10)→Ea x=[x]
 | [b],_,h=>by
  have hb:(b == 10)=false:=by simpa using h b FK
  simp [Ea,hb]
 | b::c::x,_,h=>by
  have ih:=Xc (x:=c::x) FK fun c hc=>h c JY;have hb:(b == 10)=false:=by simpa using h b FK
  rw [Ea,hb,ih];simp
theorem Xd:∀{l:Bs} {x:Bs},x∈Ea l→x≠[]
 | b::r,x,h=>by
  unfold Ea at h
  split at h
  ·rcases List.mem_cons.1 h with rfl|h
   ·simp
   ·exact Xd h
  ·cases h2:Ea r with
   | nil=>rw [h2] at h;simp at h;simp [h]
   | cons y ys =>
    rw [h2] at h;rcases List.mem_cons.1 h with rfl|h
    ·simp
    ·exact Xd (l:=r) (by rw [h2];simp [h])
def Whole (x:Bs):Prop:=∃y,x=y++[10]∧∀c∈y,c≠10
theorem Yy:∀{xs:List Bs} (r:Bs),(∀x∈xs,Whole x)→Ea (xs.flatten++r)=xs++Ea r
 | [],_,_=>rfl
 | x::xs,r,h=>by
  obtain ⟨y,rfl,hy⟩:=h x FK;have ih:=Yy (xs:=xs) r fun z hz=>h z JR;simp only [List.flatten_cons,List.append_assoc,List.cons_append,List.nil_append];rw [Uk _ hy,ih]
theorem Qd:∀(u:Nat) (c:UInt8),c∈Lib.decDigits u→48≤c.toNat∧c.toNat≤57:=by
 intro u
 induction u using Nat.strongRecOn with
 | ind u ih =>
  intro c hc;rw [Lib.decDigits] at hc;have hd:∀d:Nat,d < 10→48≤(UInt8.ofNat (48+d)).toNat∧(UInt8.ofNat (48+d)).toNat≤57:=fun d hd=>by
   rw [UInt8.toNat_ofNat'];omega
  split at hc
  ·simp only [List.mem_singleton] at hc;subst hc;exact hd _ FJ
  ·rcases List.mem_append.1 hc with h|h
   ·exact ih _ FJ c h
   ·simp only [List.mem_singleton] at h;subst h;exact hd _ FJ
theorem Ao1 {u:Nat} {b:UInt8} (hb:b.toNat < 48∨57 < b.toNat):∀c∈Lib.decDigits u,c≠b:=fun c hc e=>by
 have:=Qd u c hc;subst e;omega
theorem Em:∀(n u:Nat),u < 10 ^ (n+1)→(Lib.decDigits u).length≤n+1
 | 0,u,h=>by rw [Lib.decDigits,dif_pos GE];simp
 | n+1,u,h=>by
  rw [Lib.decDigits]
  split
  ·simp
  ·have:=Em n (u / 10) LG;simp;omega
theorem Zl (u:Nat):1≤(Lib.decDigits u).length:=by
 rw [Lib.decDigits];split <;> simp
def Ac6 (h:Nat) (c:UInt8):Nat:=(41 * h+c.toNat+1) % 999979
def Tt (l:Bs):Nat:=l.foldl Ac6 7
theorem Ac5 (l:Bs):Tt l < 999979:=by
 have h:∀(l:Bs) (n:Nat),n < 999979→l.foldl Ac6 n < 999979:=by
  intro l
  induction l with
  | nil=>intro n hn;simpa using hn
  | cons c l ih=>intro n hn;rw [List.foldl_cons];exact ih _ (by unfold Ac6;omega)
 exact h l 7 FJ
theorem Ayl (l:Bs) (c:UInt8):Tt (l++[c])=Ac6 (Tt l) c:=by simp [Tt]
def Ph (l:Bs):Bs:=l++35::Lib.decDigits (Tt l)
theorem Aes (l:Bs):(Ph l).length≤l.length+7:=by
 have:=Em 5 (Tt l) (by have:=Ac5 l;omega);simp [Ph];omega
def Ls (k:Nat) (c r:Bs):Bs:=Lib.decDigits k++32::(c++64::r)
def Le (k:Nat) (c r:Bs):Bs:=Ph (Ls k c r)++[10]
def Afc (c r:Bs):Bool:=Gj 1 c.length 160 && decide ((r.length:Int)≤200) && I7 c && I7 r && !Kj 64 c
theorem Afl {b:UInt8}:Qy b=true↔(32≤b.toNat∧b.toNat≤126)∧b≠35:=by
 simp [Qy,Gj];omega
theorem Afm {l:Bs} (h:I7 l=true):∀c∈l,(32≤c.toNat∧c.toNat≤126)∧c≠35:=fun c hc=>by
 unfold I7 at h;exact Afl.1 (List.all_eq_true.1 h c hc)
structure Z6 (c r:Bs):Prop where
 c0:1≤c.length
 c1:c.length≤160
 r1:r.length≤200
 ct:∀b∈c,(32≤b.toNat∧b.toNat≤126)∧b≠35
 rt:∀b∈r,(32≤b.toNat∧b.toNat≤126)∧b≠35
 ca:∀b∈c,b≠64
theorem Jk {c r:Bs} (h:Afc c r=true):Z6 c r:=by
 unfold Afc Gj at h;simp only [Bool.and_eq_true,decide_eq_true_eq,Bool.not_eq_true'] at h;obtain ⟨⟨⟨⟨⟨h1,h2⟩,h3⟩,h4⟩,h5⟩,h6⟩:=h;refine ⟨FJ,FJ,FJ,Afm h4,Afm h5,fun b hb e=>?_⟩;unfold Kj at h6;have:=List.any_eq_false.1 h6 b hb;simp [e] at this
theorem Afq {a b:UInt8} (h:a.toNat≠b.toNat):a≠b:=fun e=>h (by rw [e])
theorem Tw {k:Nat} {c r:Bs} (h:Z6 c r):∀b∈Ls k c r,(32≤b.toNat∧b.toNat≤126)∧b≠35:=by
 intro b hb;unfold Ls at hb;simp only [List.mem_append,List.mem_cons] at hb;rcases hb with hb|rfl|hb|rfl|hb
 ·have:=Qd k b hb;exact ⟨FJ,Afq FR⟩
 ·decide
 ·exact h.ct b hb
 ·decide
 ·exact h.rt b hb
theorem Ap3 {k:Nat} {c r:Bs} (h:Z6 c r):Whole (Le k c r):=by
 refine ⟨Ph (Ls k c r),rfl,fun b hb=>?_⟩;unfold Ph at hb;simp only [List.mem_append,List.mem_cons] at hb;rcases hb with hb|rfl|hb
 ·have:=Tw h b hb;exact Afq FR
 ·decide
 ·exact Ao1 FK b hb
theorem Adu {k:Nat} {c r:Bs} (hk:k≤59) (h:Z6 c r):(Ls k c r).length≤364:=by
 have:=Em 1 k FJ;have:=h.c1;have:=h.r1;simp [Ls];omega
theorem Aef {k:Nat} {c r:Bs} (hk:k≤59) (h:Z6 c r):(Le k c r).length≤372:=by
 have:=Adu hk h;have:=Aes (Ls k c r);simp [Le];omega
def Agb (k:Int) (c r:Bs):Option Bs:=if Gj 0 k 59 && Afc c r then some (Le k.toNat c r) else none
theorem Av5 {k:Int} {c r x:Bs} (h:Agb k c r=some x):(0≤k∧k≤59)∧Z6 c r∧x=Le k.toNat c r:=by
 unfold Agb at h
 split at h
 ·rename_i h2;simp only [Bool.and_eq_true,Gj,decide_eq_true_eq] at h2;exact ⟨h2.1,Jk h2.2,by simpa using h.symm⟩
 ·cases h
def Ajh (x:Bs):Bs:=M7 32 (Ei 35 x)
def Af9 (x:Bs):Bs:=Ei 64 (Ajh x)
def Agf (x:Bs):Bs:=M7 64 (Ajh x)
theorem Amg {k:Nat} {c r s:Bs} (h:Z6 c r):Ajh (Ls k c r++35::s)=c++64::r:=by
 unfold Ajh;rw [Agx fun b hb=>(Tw h b hb).2];exact Akv (Ao1 FK)
theorem Ap2 (k:Nat) (c r:Bs):Le k c r=Ls k c r++35::(Lib.decDigits (Tt (Ls k c r))++[10]):=by simp [Le,Ph]
theorem Ahd {k:Nat} {c r:Bs} (h:Z6 c r):Af9 (Le k c r)=c:=by
 unfold Af9;rw [Ap2,Amg h];exact Agx h.ca
theorem Aiv {k:Nat} {c r:Bs} (h:Z6 c r):Agf (Le k c r)=r:=by
 unfold Agf;rw [Ap2,Amg h];exact Akv h.ca
def okL (k:Nat) (x:Bs):Bool:=Agb k (Af9 x) (Agf x) == some x
theorem U6 {k:Nat} {x:Bs}:okL k x=true↔∃c r,k≤59∧Afc c r=true∧x=Le k c r:=by
 unfold okL;rw [beq_iff_eq];constructor
 ·intro h;have h2:=Av5 h;refine ⟨Af9 x,Agf x,FJ,?_,by simpa using h2.2.2⟩;unfold Agb at h
  split at h
  ·rename_i h3;simp only [Bool.and_eq_true] at h3;exact h3.2
  ·cases h
 ·rintro ⟨c,r,hk,hg,rfl⟩;have hG:=Jk hg;rw [Ahd hG,Aiv hG];unfold Agb;rw [if_pos (by simp [hg,Gj];omega)];simp
theorem Aly {k:Nat} {x:Bs} (h:okL k x=true):Whole x:=by
 obtain ⟨c,r,_,hg,rfl⟩:=U6.1 h;exact Ap3 (Jk hg)
theorem Be5 {k:Nat} {x:Bs} (h:okL k x=true):x.length≤372:=by
 obtain ⟨c,r,hk,hg,rfl⟩:=U6.1 h;exact Aef hk (Jk hg)
def acc:Nat→List Bs→List Bs
 | _,[]=>[]
 | k,x::r=>if okL k x then x::acc (k+1) r else []
theorem Aui:∀(k:Nat) (xs:List Bs),acc k xs <+: xs
 | _,[]=>List.prefix_rfl
 | k,x::r=>by
  unfold acc
  split
  ·exact (List.cons_prefix_cons).2 ⟨rfl,Aui (k+1) r⟩
  ·exact List.nil_prefix
theorem Amt:∀(k:Nat) (xs:List Bs),∀x∈acc k xs,∃j,okL j x=true
 | _,[],x,h=>by simp [acc] at h
 | k,y::r,x,h=>by
  unfold acc at h
  split at h
  ·rename_i hy;rcases List.mem_cons.1 h with rfl|h
   ·exact ⟨k,hy⟩
   ·exact Amt (k+1) r x h
  ·cases h
theorem Auh:∀(k:Nat) (xs:List Bs),k≤60→k+(acc k xs).length≤60
 | _,[],hk=>by simpa [acc] using hk
 | k,x::r,hk=>by
  unfold acc
  split
  ·rename_i h;obtain ⟨c,r',h2,_⟩:=U6.1 h;have:=Auh (k+1) r FJ;simp;omega
  ·simpa using hk
theorem Azm (k:Nat) (xs:List Bs):(acc k xs).flatten.length≤372 * (acc k xs).length:=by
 have h:=Amt k xs;revert h;generalize acc k xs=ys;intro h
 induction ys with
 | nil=>simp
 | cons y ys ih =>
  obtain ⟨j,hj⟩:=h y FK;have h1:=Be5 hj;have h2:=ih fun x hx=>h x JC;simp only [List.flatten_cons,List.length_append,List.length_cons];omega
theorem Aug:∀(k:Nat) (xs:List Bs) (m:Nat),acc k ((acc k xs).take m)=(acc k xs).take m
 | _,[],m=>by simp [acc]
 | k,x::r,m=>by
  by_cases h:okL k x=true
  ·have e:acc k (x::r)=x::acc (k+1) r:=by simp [acc,h]
   rw [e];cases m with
   | zero=>simp [acc]
   | succ m=>simp [acc,h,Aug (k+1) r m]
  ·simp [acc,h]
theorem Wu:∀(k:Nat) (xs ys:List Bs),acc k xs=xs→acc k (xs++ys)=xs++acc (k+xs.length) ys
 | _,[],_,_=>by simp
 | k,x::r,ys,h=>by
  unfold acc at h
  split at h
  ·rename_i hx;have h2:=Wu (k+1) r ys GE;simp only [List.cons_append,acc,hx,if_true,h2,List.length_cons];rw [show k+1+r.length=k+(r.length+1) by omega]
  ·cases h
def Bp (s:Bs):List Bs:=acc 0 (Ea s)
theorem Y1 {s:Bs} (h:(Bp s).flatten.length=s.length):Bp s=Ea s:=by
 obtain ⟨t,ht⟩:=Aui 0 (Ea s);have h2:=Tn s;rw [←ht,List.flatten_append] at h2;have h3:t.flatten=[]:=by
  have:=congrArg List.length h2;rw [List.length_append] at this;have h4:(acc 0 (Ea s)).flatten.length=s.length:=h;exact List.eq_nil_of_length_eq_zero FJ
 have h4:t=[]:=by
  cases t with
  | nil=>rfl
  | cons x t =>
   have:=Xd (l:=s) (x:=x) (by rw [←ht];simp);simp at h3;exact absurd h3.1 this
 unfold Bp;rw [h4] at ht;simpa using ht
theorem Wh {s:Bs} (h:(Bp s).flatten.length=s.length):(Bp s).flatten=s:=by rw [Y1 h,Tn]
theorem Nu (s:Bs):(Bp s).flatten.length≤22320∧(Bp s).length≤60:=by
 have h1:=Azm 0 (Ea s);have h2:=Auh 0 (Ea s) FJ;unfold Bp;omega
theorem To {xs:List Bs} (h:acc 0 xs=xs) (r:Bs):Bp (xs.flatten++r)=xs++acc xs.length (Ea r):=by
 unfold Bp;rw [Yy r (fun x hx=>by rw [←h] at hx;obtain ⟨j,hj⟩:=Amt 0 _ x hx;exact Aly hj),Wu 0 xs _ h];simp
def Lt:Nat→List Bs→List Nat
 | n,[]=>[n]
 | n,x::r=>n::Lt (n+x.length) r
theorem Ak4 {m:Nat}:∀{n:Nat} {xs:List Bs},m∈Lt n xs↔∃j,j≤xs.length∧m=n+(xs.take j).flatten.length
 | n,[]=>by simp [Lt]
 | n,x::r=>by
  unfold Lt;rw [List.mem_cons,Ak4];constructor
  ·rintro (rfl|⟨j,hj,rfl⟩)
   ·exact ⟨0,FK,FK⟩
   ·exact ⟨j+1,IR,FR⟩
  ·rintro ⟨j,hj,rfl⟩;cases j with
   | zero=>left;simp
   | succ j=>right;exact ⟨j,IR,FR⟩
theorem Aa7:∀{n:Nat} {xs:List Bs},(Lt n xs).getLast?=some (n+xs.flatten.length)
 | n,[]=>by simp [Lt]
 | n,x::r=>by
  have ih:=Aa7 (n:=n+x.length) (xs:=r);unfold Lt;rw [List.getLast?_cons];rw [ih];simp;omega
theorem Ty:∀{n:Nat} {xs:List Bs},(Lt n xs).length=xs.length+1
 | n,[]=>rfl
 | n,x::r=>by simp [Lt,Ty]
theorem Ahn:∀{n:Nat} {xs:List Bs} {x:Bs},Lt n (xs++[x])=Lt n xs++[n+xs.flatten.length+x.length]
 | n,[],x=>by simp [Lt]
 | n,y::r,x=>by
  have:=Ahn (n:=n+y.length) (xs:=r) (x:=x);simp only [List.cons_append,Lt,this];simp;omega
def At8 (d p:Bs) (n:Int):Bool:=decide ((Bp (d++p)).flatten.length=d.length+p.length) && (Lt 0 (Bp (d++p))).contains d.length && decide (n=(Bp (d++p)).length)
def Kv (d p:Bs) (n:Int):Bool:=decide (d.length+p.length≤30000) && (decide ((Bp (d++p)).flatten.length=d.length+p.length) && decide ((Bp d).flatten.length=d.length) && decide (((Bp (d++p)).length:Int)=n))
theorem Ako {d p:Bs} (h:(Bp (d++p)).flatten.length=d.length+p.length):d.length∈Lt 0 (Bp (d++p))↔(Bp d).flatten.length=d.length:=by
 rw [Ak4];have hA:(Bp (d++p)).flatten=d++p:=Wh (by rw [h];simp);constructor
 ·rintro ⟨j,hj,e⟩;rw [Nat.zero_add] at e;have hd:((Bp (d++p)).take j).flatten=d:=by
   have h1:((Bp (d++p)).take j).flatten++((Bp (d++p)).drop j).flatten=d++p:=by rw [←List.flatten_append,List.take_append_drop,hA]
   exact (List.append_inj h1 e.symm).1
  have h2:=To (xs:=(Bp (d++p)).take j) (Aug 0 _ j) [];rw [List.append_nil,hd] at h2;rw [h2];simp [Ea,acc,hd]
 ·intro hd;have hf:=Y1 hd;have hD:(Bp d).flatten=d:=Wh hd;have h2:=To (xs:=Bp d) (by rw [hf];exact hf) p;rw [hD] at h2;refine ⟨(Bp d).length,by rw [h2];simp,?_⟩;rw [h2];simp [hD]
theorem Bda (d p:Bs) (n:Int):At8 d p n=Kv d p n:=by
 unfold At8 Kv;by_cases h:(Bp (d++p)).flatten.length=d.length+p.length
 ·have h1:=Nu (d++p);have h2:=Ako h;have h3:decide (d.length+p.length≤30000)=true:=FR
  have h4:(Lt 0 (Bp (d++p))).contains d.length=decide ((Bp d).flatten.length=d.length):=by
   rw [Bool.eq_iff_iff,decide_eq_true_iff,List.contains_iff_mem];exact h2
  rw [h3,h4];have h5:decide (n=((Bp (d++p)).length:Int))=decide (((Bp (d++p)).length:Int)=n):=by
   rw [Bool.eq_iff_iff];simp [eq_comm]
  rw [h5];cases decide ((Bp d).flatten.length=d.length) <;> simp [h]
 ·rw [decide_eq_false h];simp
def Ib (k:Nat):Bs:=Lib.decDigits k++[32]
def Uo (s:Bs) (k:Nat):(Bs × Bs) × Bool :=
 let text:=Ei 35 s
 if text.length < (Ib k).length∨text.take (Ib k).length≠Ib k then (([],[]),false)
 else
  let rest:=text.drop (Ib k).length
  if (Ei 64 rest).length=rest.length then (([],[]),false)
  else ((Ei 64 rest,rest.drop ((Ei 64 rest).length+1)),Afc (Ei 64 rest) (rest.drop ((Ei 64 rest).length+1)) && (Le k (Ei 64 rest) (rest.drop ((Ei 64 rest).length+1)) == s++[10]))
theorem Aqq {k:Nat} {s:Bs} (hk:k≤59):(Uo s k).2=okL k (s++[10]):=by
 rw [Bool.eq_iff_iff,U6];constructor
 ·intro h;unfold Uo at h;dsimp only at h
  split at h
  ·cases h
  ·split at h
   ·cases h
   ·simp only [Bool.and_eq_true,beq_iff_eq] at h;exact ⟨_,_,hk,h.1,h.2.symm⟩
 ·rintro ⟨c,r,_,hg,e⟩;have hG:=Jk hg;have e2:s=Ls k c r++35::Lib.decDigits (Tt (Ls k c r)):=by
   unfold Le at e;exact (List.append_cancel_right e)
  have ht:Ei 35 s=Ls k c r:=by rw [e2];exact Agx fun b hb=>(Tw hG b hb).2
  have hb:Ls k c r=Ib k++(c++64::r):=by simp [Ls,Ib]
  unfold Uo;simp only [ht,hb,List.length_append,List.take_left',List.drop_left',ne_eq,not_true_eq_false,or_false];rw [if_neg FK,Agx hG.ca,if_neg FK];have hd:(c++64::r).drop (c.length+1)=r:=by
   rw [←List.drop_drop];simp
  simp only [hd,hg,Bool.true_and];rw [e];simp
theorem Ax5 {k:Nat} {s:Bs} (h:(Uo s k).2=true):(Uo s k).1=(Af9 (s++[10]),Agf (s++[10])):=by
 unfold Uo at h ⊢;dsimp only at h ⊢
 split at h
 ·cases h
 ·rename_i h1;rw [if_neg h1]
  split at h
  ·cases h
  ·rename_i h2;rw [if_neg h2];simp only [Bool.and_eq_true,beq_iff_eq] at h;have hG:=Jk h.1;rw [←h.2,Ahd hG,Aiv hG]
def bz (l:Bs):ByteArray:=⟨l.toArray⟩
theorem Kr (l:Bs):(bz l).data.toList=l:=by simp [bz]
theorem Yi (s:ByteArray):bz s.data.toList=s:=by simp [bz]
theorem Ka (l:Bs):(bz l).size=l.length:=by simp [bz,ByteArray.size]
theorem C0 (s:ByteArray):s.data.toList.length=s.size:=by simp
theorem Bg0 (a b:Bs):bz a++bz b=bz (a++b):=by apply ByteArray.ext;simp [bz,ByteArray.data_append]
theorem Is (s t:ByteArray):(s++t).data.toList=s.data.toList++t.data.toList:=by simp [ByteArray.data_append]
theorem Zw {a b:ByteArray} (h:a=b):Ending.returned (.string a)=.returned (.string b):=by rw [h]
theorem Aa0 (w:World) (k:Nat) (os:Array Obj):Below w.heap.size w (Go.Sort.grow (w.drewN k) os):=by
 refine ⟨rfl,rfl,rfl,?_,fun i hi=>?_⟩
 ·simp [Go.Sort.grow,World.drewN]
 ·simp [Go.Sort.grow,World.drewN,Array.getElem?_append_left hi]
def Bj4:Br Unit where
 sz:=0
 Ky w cs _ F:=cs=[]∧(Lib.TabIs prog w "internal/strconv.uint64pow10" .u64 Lib.pow10Tab∧(∃m,w.cell? ⟨0,0,none⟩=some (.int .i64 m))∧(∃tp p,w.var? prog "strconv.ErrSyntax" = some #[.iface tp p])∧(∃tp p,w.var? prog "strconv.ErrRange" = some #[.iface tp p]))∧F=[1,0,4,5]∧∀b∈F,b < w.heap.size
 len h:=LB
 lt h:=h.2.2.2
 frame h hF:=by
  obtain ⟨h1,⟨h2,h3,h4,h5⟩,rfl,h6⟩:=h;have e0:=hF 1 FK;have e1:=hF 0 FK;have e2:=hF 4 FK;have e3:=hF 5 FK;refine ⟨h1,⟨?_,?_,?_,?_⟩,rfl,fun b hb=>?_⟩
  ·unfold Lib.TabIs World.var? at h2 ⊢;rw [show prog.globalNamed "internal/strconv.uint64pow10" = some 1 by kernel_rfl] at h2 ⊢;simp only [Option.bind_some] at h2 ⊢;rw [e0];exact h2
  ·obtain ⟨m,hm⟩:=h3;refine ⟨m,?_⟩;unfold World.cell? at hm ⊢;rw [e1];exact hm
  ·obtain ⟨tp,p,hm⟩:=h4;refine ⟨tp,p,?_⟩;unfold World.var? at hm ⊢;rw [show prog.globalNamed "strconv.ErrSyntax" = some 4 by kernel_rfl] at hm ⊢;simp only [Option.bind_some] at hm ⊢;rw [e2];exact hm
  ·obtain ⟨tp,p,hm⟩:=h5;refine ⟨tp,p,?_⟩;unfold World.var? at hm ⊢;rw [show prog.globalNamed "strconv.ErrRange" = some 5 by kernel_rfl] at hm ⊢;simp only [Option.bind_some] at hm ⊢;rw [e3];exact hm
  ·have e:=hF b hb;have:=h6 b hb;rw [Array.getElem?_eq_getElem this] at e;exact (Array.getElem?_eq_some_iff.1 e).1
theorem Adv:∀n:Nat,n < 10→(⟨#[48,49,50,51,52,53,54,55,56,57]⟩:ByteArray).extract n (n+1)=⟨#[UInt8.ofNat (48+n)]⟩:=by decide
theorem Xb:∀(k n:Nat) (w:World),n < 10 ^ (k+1)→n≤999999999999999999 →
  Calls prog 86 #[.int .i64 (n:Int)] w fun e w'=>e=.returned (.string (bz (Lib.decDigits n)))∧∃j,w'=w.drewN j:=by
 intro k
 induction k with
 | zero =>
  intro n w h1 h2;have h3:n < 10:=IS
  have hd:=Lib.hid (Adv n h3);have hn:¬((n:Int) < 0):=FJ
  go_enter func86,ntmps86
  go_wp2_with fail
  go_ret
  refine ⟨Zw ?_,0,rfl⟩;rw [hd.out,Lib.decDigits,dif_pos h3];rfl
 | succ k ih =>
  intro n w h1 h2;by_cases h3:n < 10
  ·have hd:=Lib.hid (Adv n h3);have hn:¬((n:Int) < 0):=FJ
   go_enter func86,ntmps86
   go_wp2_with fail
   go_ret
   refine ⟨Zw ?_,0,rfl⟩;rw [hd.out,Lib.decDigits,dif_pos h3];rfl
  ·have h4:n / 10 < 10 ^ (k+1):=by rw [Nat.pow_succ] at h1;omega
   have hc:=fun w=>ih (n / 10) w h4 FJ;rw [show ((n / 10:Nat):Int)=(n:Int) / 10 from by omega] at hc;have hn:¬((n:Int) < 0):=FJ
   have h5:¬((n:Int) < 10):=FJ
   have hd:=Lib.hid (Adv (n % 10) FJ);have b0:(0:Int)≤(n:Int) % 10:=FJ
   have b1:(n:Int) % 10≤9:=FJ
   have e0:IntKind.i64.wrap ((n:Int) / 10)=(n:Int) / 10:=by rw [IntKind.wrap_i64];omega
   have e1:IntKind.i64.wrap ((n:Int) % 10)=(n:Int) % 10:=by rw [IntKind.wrap_i64];omega
   have e2:IntKind.i64.wrap ((n:Int) % 10+1)=(n:Int) % 10+1:=by rw [IntKind.wrap_i64];omega
   have e3:((n:Int) % 10).toNat=n % 10:=FJ
   have e4:((n:Int) % 10+1).toNat=n % 10+1:=FJ
   have e5:(n:Int).tmod 10=(n:Int) % 10:=Int.tmod_eq_emod_of_nonneg FJ;have e6:(n:Int).tdiv 10=(n:Int) / 10:=Int.tdiv_eq_ediv_of_nonneg FJ;have hsl:∀wx,(Instr.slice 9 (.string ⟨#[48,49,50,51,52,53,54,55,56,57]⟩) (some (.int .i64 ((n:Int) % 10))) (some (.int .i64 ((n:Int) % 10+1))) none).run prog wx=.ok (.string ⟨#[UInt8.ofNat (48+n % 10)]⟩) wx:=fun wx=>by
    have h6:=run_slice_string (P:=prog) wx 9 ⟨#[48,49,50,51,52,53,54,55,56,57]⟩ .i64 .i64 ((n:Int) % 10) ((n:Int) % 10+1) underlying9 FJ FJ (by show _≤((10:Nat):Int);omega);rw [h6,e3,e4,hd.out]
   have hD:(bz (Lib.decDigits (n / 10))).size≤18:=by rw [Ka];exact Em 17 _ FJ
   have hd1:(⟨#[UInt8.ofNat (48+n % 10)]⟩:ByteArray).size≤1:=by simp [ByteArray.size]
   have hR:Hid (bz (Lib.decDigits (n / 10))++⟨#[UInt8.ofNat (48+n % 10)]⟩=bz (Lib.decDigits n)):=by
    refine Lib.hid ?_
    conv=>rhs;rw [Lib.decDigits,dif_neg FJ,←Bg0]
    rfl
   generalize bz (Lib.decDigits (n / 10))=D at *;generalize (⟨#[UInt8.ofNat (48+n % 10)]⟩:ByteArray)=d at *;clear ih h1 e3 e4
   go_enter func86,ntmps86
   go_wp2_with fail
   go_quiet ((go_at_call 86;exact Calls.quiet_of (v:=.string D) (hc (World.drewN _ _))))
   go_wp2_with fail
   go_ret
   refine ⟨Zw ?_,_,rfl⟩;exact hR.out
def Hp (FT:List Nat):Pc:=.isv Bj4 (.agg #[]) () FT
theorem Hp.env {w:World} {FT:List Nat} (h:(Hp FT).P w):Lib.TabIs prog w "internal/strconv.uint64pow10" .u64 Lib.pow10Tab∧(∃m,w.cell? ⟨0,0,none⟩=some (.int .i64 m))∧(∃tp p,w.var? prog "strconv.ErrSyntax" = some #[.iface tp p])∧(∃tp p,w.var? prog "strconv.ErrRange" = some #[.iface tp p]):=by
 obtain ⟨cs,_,h⟩:=h;exact h.2.1
theorem Abb (n:Int) (h0:-9223372036854775808≤n) (h1:n≤9223372036854775807) (FT:List Nat) (w:World) (hT:(Hp FT).P w) :
  Calls prog 127 #[.int .i64 n] w (RB (.string (bz (Lib.itoa n))) w):=by
 refine (Tryz.strconv_Itoa n h0 h1 w (Hp.env hT).1).mono ?_;rintro e w' ⟨rfl,k,os,rfl⟩;exact ⟨rfl,Aa0 w k os⟩
theorem Alc {w:World}:∀{l:List ByteArray},(∀s∈l,s.size≤maxLen)→C1 A8 w (l.map Value.string) l []
 | [],_=>⟨rfl,rfl⟩
 | s::l,h=>⟨[.string s],l.map Value.string,[],[],FK,FK,⟨rfl,h s FK,rfl⟩,Alc fun t ht=>h t (by simp [ht])⟩
theorem Xm (sep:ByteArray) (n:Nat):∀(k:Nat) (s:ByteArray),s.size≤n→∀t∈Lib.splitB sep 0 k s,t.size≤n
 | 0,s,h,t,ht=>by rw [Lib.splitB_zero,List.mem_singleton] at ht;subst ht;exact h
 | k+1,s,h,t,ht=>by
  unfold Lib.splitB at ht
  split at ht
  ·rw [List.mem_singleton] at ht;subst ht;exact h
  ·rcases List.mem_cons.1 ht with rfl|ht
   ·simp [ByteArray.size_extract];omega
   ·exact Xm sep n k _ (by simp [ByteArray.size_extract];omega) t ht
theorem Bfo (s sep:ByteArray) (hs:s.size≤1000000000) (h1:1≤sep.size) (FT:List Nat) (w:World) (hT:(Hp FT).P w) :
  Calls prog 117 #[.string s,.string sep] w (No A8 9 (Lib.splitB sep 0 (Lib.countB s sep) s) w):=by
 obtain ⟨m,hm⟩:=(Hp.env hT).2.1;refine (Tryz.strings_Split s sep m w FJ hm h1).mono ?_;rintro e w2 ⟨rfl,rfl⟩;have hl:=Lib.splitB_all sep h1 0 (Lib.countB s sep) s rfl;have hc:=Lib.countB_le sep h1 s.size s (Nat.le_refl _);have hb:Below w.heap.size w (w.alloc (.cells ((Lib.splitB sep 0 (Lib.countB s sep) s).map Value.string).toArray 9)):=Yh _ _
 refine ⟨_,[w.heap.size],rfl,.inr ⟨w.heap.size,Lib.countB s sep+1,(Lib.splitB sep 0 (Lib.countB s sep) s).map Value.string,[],[],by rw [hl],by rw [List.append_nil];exact Ir.made _ _ _,FJ,GC,by simp [hl,A8],Alc fun t ht=>?_,rfl⟩,FK,FK,hb⟩;have:=Xm sep s.size _ s (Nat.le_refl _) t ht;unfold maxLen;omega
theorem Bgj (n:Nat) (hn:n≤999999) (w:World):Calls prog 86 #[.int .i64 (n:Int)] w (RB (.string (bz (Lib.decDigits n))) w):=by
 refine (Xb 5 n w FJ FJ).mono ?_;rintro e w2 ⟨rfl,j,rfl⟩;exact ⟨rfl,D7 (Below.refl _ _) j⟩
def N3 (i:Nat) (e:ByteArray):ByteArray:=bz (Lib.itoa ((i:Nat):Int))++⟨#[32]⟩++e
def Vk (i:Nat) (es:List ByteArray):List ByteArray:=es.map (N3 i)
def N5 (i:Nat):Int:=1+((i:Nat):Int) % 3
section
variable {c:Cx} {fr:Fr} {H:List Pc} {Φ:Gl}
theorem Qq {a:Option Addr} {n cp:Nat} {xs:List Ar} {F:List Nat} (i:Nat) (h:∀(hi:i < xs.length) (b o:Nat),a=some ⟨b,o,none⟩→xs[i].data.size≤maxLen→T c fr (.cel b (o+i * 5) [.int .i64 xs[i].Cp,.int .i64 xs[i].Ae,.int .i64 xs[i].Ap,.int .i64 xs[i].Fv,.string xs[i].data]::H) Φ) (hm:.sl Ak (.slice a n cp) xs F∈H:=by exact A9) (hi:i < xs.length:=by omega):T c fr H Φ:=.mk fun ac w s g=>by
 exact CN
theorem Awg {t:TypeId} {a:Option Addr} {n cp:Nat} {xs:List Ar} {F:List Nat} {S:List Pc} (i:Nat) (h:∀(_:i < xs.length) g A B,a=some ⟨g,0,none⟩→F=[g]→xs[i].data.size≤maxLen→Aza Ak t g (.slice (some ⟨g,0,none⟩) n cp) xs i A B→T c fr (.row g t (0+i * 5) A [.int .i64 xs[i].Cp,.int .i64 xs[i].Ae,.int .i64 xs[i].Ap,.int .i64 xs[i].Fv,.string xs[i].data] B::S) Φ) (hp:Co H (.ow Ak t (.slice a n cp) xs F) S:=by exact De) (hi:i < xs.length:=by omega):T c fr H Φ :=
 P5 I8 i (fun hi g A cs B ha hF hr hh=>by obtain ⟨rfl,s1, -⟩:=hr default;exact h hi g A B ha hF s1 hh) hp rfl hi
theorem Dh (x:Ar) (s1:x.data.size≤maxLen) (w:World):C1 Ak w [.int .i64 x.Cp,.int .i64 x.Ae,.int .i64 x.Ap,.int .i64 x.Fv,.string x.data] [x] []:=⟨_,[],[],[],FK,FK,⟨rfl,s1,rfl⟩,rfl,rfl⟩
end
section
variable {c:Cx} {fr:Fr} {H:List Pc} {Φ:Gl}
theorem Np {α:Type} {E:Br α} {hz:0 < E.sz} {a:Option Addr} {n cp:Nat} {xs:List (List α)} {F:List Nat} (i:Nat) (h:∀(hi:i < xs.length) (b o:Nat) (a1:Option Addr) (c1:Nat) (F1:List Nat),a=some ⟨b,o,none⟩→xs[i].length≤maxLen→T c fr (.cel b (o+i * 1) [.slice a1 xs[i].length c1]::.sl E (.slice a1 xs[i].length c1) xs[i] F1::H) Φ) (hm:.sl (Mr E hz) (.slice a n cp) xs F∈H:=by exact A9) (hi:i < xs.length:=by omega):T c fr H Φ:=.mk fun ac w s g=>by
 obtain ⟨b,o,cs,G,ha,hrep,hG,hb,hne,hr⟩:=Y9 (s.get hm) i hi;obtain ⟨v1,rfl,h1⟩:=hrep;obtain ⟨a1,c1,rfl⟩:=h1.slice;have l1:=h1.len;have t1:=s.ro (p:=.sl E (.slice a1 xs[i].length c1) xs[i] G) hm rfl rfl ⟨hz,h1⟩ HG;exact (h hi b o a1 c1 G ha l1).h ac w (t1.ro (List.mem_cons_of_mem _ hm) rfl rfl ⟨hne,hr⟩ HD) g
theorem U7 {α:Type} {O:Br α} {t:TypeId} {v:Value} {xs:List α} {F:List Nat} {S:List Pc} (h:∀(a1:Option Addr) (c1:Nat),v=.agg #[.slice a1 xs.length c1]→xs.length≤maxLen→T c fr (.ow O t (.slice a1 xs.length c1) xs F::S) Φ) (hp:Co H (.own (Kx O t) v xs F) S:=by exact De):T c fr H Φ:=.mk fun a w s g=>by
 have z1:=s.pick hp;obtain ⟨hn,cs,rfl,v1,rfl,h1⟩:=z1.on (.own (Kx O t) v xs F) FK;obtain ⟨a1,c1,rfl⟩:=h1.slice;have l1:=h1.len;exact (h a1 c1 rfl l1).h a w (z1.conv rfl ⟨hn,h1⟩ (fun b hb=>hb)) g
theorem J0 {α:Type} {O:Br α} {t:TypeId} (xs:List α) {a1:Option Addr} {c1:Nat} {F:List Nat} {S:List Pc} (h:T c fr (.own (Kx O t) (.agg #[.slice a1 xs.length c1]) xs F::S) Φ) (hp:Co H (.ow O t (.slice a1 xs.length c1) xs F) S:=by exact De):T c fr H Φ:=.mk fun a w s g=>by
 have z1:=s.pick hp;obtain ⟨hn,h1⟩:=z1.on (.ow O t (.slice a1 xs.length c1) xs F) FK;exact h.h a w (z1.conv rfl ⟨hn,_,rfl,_,rfl,h1⟩ (fun b hb=>hb)) g
end
theorem Anr:∀(A:List Pc),A.all (fun p=>!p.mu)=true→Tg A
 | [],_=>trivial
 | p::A,h=>by
  simp only [List.all_cons,Bool.and_eq_true,Bool.not_eq_true'] at h;exact ⟨fun q hq hm=>by
   have hq':=List.all_eq_true.1 h.2 q hq;simp only [Bool.not_eq_true'] at hq';rw [h.1,hq'] at hm;simp at hm,Anr A h.2⟩
section
variable {c:Cx} {fr:Fr} {H:List Pc} {d:Nat} {Φ:Gl}
theorem cfr {f:Nat} {vs:List Value} {σ:Type} {C:σ→Prop} {vv:σ→Value} {N:σ→List Pc} (hf:∀w,St c.G c.D c.w0 H w→∃A,Om A w∧A.all (fun p=>!p.mu)=true∧Fn c.P f vs A [] C vv N)
  (h:∀s,C s→T c ((d,vv s)::fr) (N s++H) Φ) (hN:∀s,(N s).all (·.mu)=true:=by intro s;rfl):Cl c fr H d f vs Φ :=
 Aaf (R:=fun w e w'=>∃s,C s∧e=.returned (vv s)∧Om (N s) w'∧Tg (N s)∧D6 [] w w'∧∀p∈N s,∀b∈p.F,w.heap.size≤b)
  (fun w s=>by
   obtain ⟨A,hA,hm,hF⟩:=hf w s;refine (hF w JW (by simpa using Anr A hm)).mono fun e w' ⟨z,hz,he,h1,h2,h3,h4⟩=>⟨z,hz,he,h1,h2,h3,fun p hp b hb=>?_⟩;rcases h4 p hp b hb with h|⟨q,hq, -⟩|⟨hp', -⟩
   ·exact h
   ·cases hq
   ·have:=List.all_eq_true.1 (hN z) p hp;rw [hp'] at this;cases this)
  (fun w e w' s ⟨z,hz,he,h1,h2,h3,h4⟩=>⟨_,he,fun a g=>(h z hz).h a w' (St.turn (M:=[]) (R:=H) (N:=N z) s h3 h1 h2 fun p hp b hb=>.inl (h4 p hp b hb)) g⟩)
theorem Bcc {M A R:List Pc} (hm:M.all (·.mu)=true) (hA:A.all (fun p=>!p.mu)=true) (hb:∀p∈A,∀b∈p.F,∃q∈R,b∈q.F):Tg (M++R)→Tg (M++A):=by
 induction M with
 | nil=>intro _;exact Anr A hA
 | cons p M ih =>
  simp only [List.all_cons,Bool.and_eq_true] at hm;intro s;refine ⟨fun q hq=>?_,ih hm.2 s.2⟩;rcases List.mem_append.1 hq with h|h
  ·exact s.1 q JS
  ·intro _ b hp hq2;obtain ⟨r,hr,hbr⟩:=hb q h b hq2;exact s.1 r (by simp [hr]) (by rw [hm.1];rfl) b hp hbr
theorem cfm {f:Nat} {vs:List Value} {M R:List Pc} {σ:Type} {C:σ→Prop} {vv:σ→Value} {N:σ→List Pc} (hM:Io H M R) (hf:∀w,St c.G c.D c.w0 (M++R) w→∃A,Om A w∧A.all (fun p=>!p.mu)=true∧(∀p∈A,∀b∈p.F,∃q∈R,b∈q.F)∧Fn c.P f vs A M C vv N)
  (h:∀s,C s→T c ((d,vv s)::fr) (N s++R) Φ) (hmM:M.all (·.mu)=true:=by rfl) (hN:∀s,(N s).all (·.mu)=true:=by intro s;rfl):Cl c fr H d f vs Φ :=
 have hMR:∀w,St c.G c.D c.w0 H w→St c.G c.D c.w0 (M++R) w:=fun w s=>by simpa using hM.st (X:=[]) HN
 have hmu:∀p∈M,p.mu=true:=fun p hp=>List.all_eq_true.1 hmM p hp
 Aaf (R:=fun w e w'=>∃s,C s∧e=.returned (vv s)∧Om (N s) w'∧Tg (N s)∧D6 (fp M) w w'∧∀p∈N s,∀b∈p.F,w.heap.size≤b∨∃q∈M,b∈q.F)
  (fun w s=>by
   obtain ⟨A,hA,hm,hb,hF⟩:=hf w (hMR w s);have s2:=hMR w s;refine (hF w (fun p hp=>?_) (Bcc hmM hm hb s2.sep)).mono fun e w' ⟨z,hz,he,h1,h2,h3,h4⟩=>⟨z,hz,he,h1,h2,h3,fun p hp b hb=>?_⟩
   ·rcases List.mem_append.1 hp with hp|hp
    ·exact s2.on p IC
    ·exact hA p hp
   ·rcases h4 p hp b hb with h|h|⟨hp', -⟩
    ·exact .inl h
    ·exact .inr h
    ·have:=List.all_eq_true.1 (hN z) p hp;rw [hp'] at this;cases this)
  (fun w e w' s ⟨z,hz,he,h1,h2,h3,h4⟩=>⟨_,he,fun a g=>(h z hz).h a w' (St.turn (hMR w s) (by rwa [List.filter_eq_self.2 hmu]) h1 h2 fun p hp b hb=>by
   rcases h4 p hp b hb with h|⟨q,hq,hqb⟩
   ·exact .inl h
   ·exact .inr (.inl ⟨q,hq,hmu q hq,hqb⟩)) g⟩)
theorem Anz {α:Type} {E:Br α} (Q:α→Prop) (hQ:∀w cs x F,E.Ky w cs x F→Q x) {a:Option Addr} {n cp:Nat} {xs:List α} {F:List Nat} (h:(∀x∈xs,Q x)→T c fr H Φ) (hm:.sl E (.slice a n cp) xs F∈H:=by exact A9):T c fr H Φ:=.mk fun ac w s g =>
 (h fun x hx=>by
  obtain ⟨k,hk,rfl⟩:=List.getElem_of_mem hx;obtain ⟨-,hs⟩:=s.get hm;obtain ⟨-, -,cs,F1, -,h1, -, -⟩:=hs.at k hk;exact hQ _ _ _ _ h1).h ac w s g
theorem Xp {P:Program} {fn:Func} {G D:List Nat} {w0:World} {n:Nat} {R:Ending→World→Prop} (h:T ⟨P,G,D,w0,n,bodyPost P fn R⟩ fr H (.fin .ret)):T ⟨P,G,D,w0,n,bodyPost P fn R⟩ fr H (.norm []):=Bjb ⟨fun a w s g=>h.h a w s g⟩
end
section
variable {P:Program} {ops:Array Oper} {Q:Exit→Act→World→Prop} {md:Region.Mode} {S:World→Prop} {X:Nat→Bool}
theorem Fm.firstP {i:Nat} {oi:Oper} {v:Value} (hi:ops[i]?=some oi) (hsel:∀(j:Nat) (o:Oper) cs b,ops[j]?=some o→o.op≠.select cs b)
  (hQ:∀c a w,Q (.panic c) (a.put oi.dst v) w→Q (.panic c) a w) (hXi:X i=true) :
  ∀(f:Nat) (listed:Array Bool) (a:Act) (w:World),
   (∀j oj,ops[j]?=some oj→j≠i→listed.getD j true=false→(∀e∈oj.after,Region.binds md e=true→e.on≠i)→oi.apart ops oj=true) →
   i∈Region.ready md ops listed→YieldsIf P ops (fun _=>True) oi v a→Fm P md ops Q S X f (listed.setIfInBounds i true) (a.put oi.dst v) w→Fm P md ops Q S X (f+1) listed a w:=by
 intro f
 induction f with
 | zero =>
  intro listed a w _ hr hy H;refine ⟨fun h=>IK,fun j hj=>?_⟩;by_cases hji:j=i
  ·subst hji;exact hy.wpOp hi trivial ⟨(fun h=>by rw [hXi] at h;cases h),H⟩
  ·have:=ready_mono hj hji;rw [H.1] at this;cases this
 | succ f ih =>
  intro listed a w hfree hr hy H;refine ⟨fun h=>IK,fun j hj=>?_⟩;by_cases hji:j=i
  ·subst hji;exact hy.wpOp hi trivial ⟨(fun h=>by rw [hXi] at h;cases h),H⟩
  ·obtain ⟨hju,oj,hoj,hall⟩:=mem_ready.1 hj;have hiu:=Zg (mem_ready.1 hr).1;have hnot:∀e∈oj.after,Region.binds md e=true→e.on≠i:=fun e he hb heq=>by
    have h1:=hall e he hb;rw [heq,hiu] at h1;cases h1
   have h2:=wpOp_putIf hoj (hfree j oj hoj hji hju hnot) (fun cs b=>hsel i oi cs b hi) (fun cs b=>hsel j oj cs b hoj) hQ hy (H.2 j (ready_mono hj hji));refine wpOp_mono (fun a' w' h3=>⟨h3.2.1,ih (listed.setIfInBounds j true) a' w' (fun k ok hk hki hun hno=>hfree k ok hk hki ?_ hno) (ready_mono hr (Ne.symm hji)) h3.1 ?_⟩) h2
   ·by_cases hjk:j=k
    ·subst hjk;exact hju
    ·rw [getD_set_ne true hjk] at hun;exact hun
   ·rw [Array.setIfInBounds_comm _ _ hji];exact h3.2.2
theorem Fm.takeP {i:Nat} {oi:Oper} {v:Value} {f:Nat} {listed:Array Bool} {a:Act} {w:World} (hi:ops[i]?=some oi)
  (hs:Region.noSelect ops=true) (hf:Region.free md ops listed i=true) (hr:(Region.ready md ops listed).contains i=true) (hXi:X i=true)
  (hQ:∀c a w,Q (.panic c) (a.put oi.dst v) w→Q (.panic c) a w) (hy:YieldsIf P ops (fun _=>True) oi v a)
  (h:Fm P md ops Q S X f (listed.setIfInBounds i true) (a.put oi.dst v) w):Fm P md ops Q S X (f+1) listed a w :=
 Fm.firstP hi (Region.noSelect_spec hs) hQ hXi f listed a w (Region.free_spec hi hf) HH hy h
end
section
variable {c:Cx} {fr:Fr} {H H0:List Pc} {k:List It} {X:List Nat} {ops:Array Oper} {f:Nat} {listed:Array Bool} {d:Nat} {o:Op} {ty:TypeId} {pos:String} {Ci:Array Edge} {v:Value}
theorem dtp (i:Nat) (h:T c ((d,v)::fr) H (.dx k H0 X ops f (listed.setIfInBounds i true))) (ho:ops[i]?=some ⟨some d,o,ty,pos,Ci,none⟩:=by rw [List.getElem?_toArray];rfl) (hy:Yd c.P c.n fr [] o ty v:=by exact ydE) (hX:X.contains i=true:=by rfl)
  (h1:Region.noSelect ops=true:=by kernel_rfl) (h2:Region.free .any ops listed i=true:=by kernel_rfl) (h3:(Region.ready .any ops listed).contains i=true:=by kernel_rfl) (hR:Yg c:=by exact Aan) (hd:Nat.blt d c.n=true:=by rfl) :
  T c fr H (.dx k H0 X ops (f+1) listed):=.mk fun a w s g =>
 Fm.takeP (v:=v) ho h1 h2 h3 hX (fun ch a w hp=>by rw [Nd] at hp ⊢;exact hR _ _ _ _ _ hp) (.inl ⟨rfl,fun w' _=>hy.h a w' _ _ _ _ g (by intro p hp;simp at hp)⟩) (h.h _ _ s (g.put hd))
theorem Bd7 {c:Cx} {fr:Fr} {H:List Pc} {k:List It} {x y:Code} {σ:Type} {cst:Fr} {rest:List Pc} (ks rs:List Nat) (upd:σ→Fr) (chg:σ→List Pc) (C:σ→Prop) (h:T c fr H (.code (.cd y::.lp (Jn c (fun s=>upd s++cst) (fun s=>chg s++rest) C)::k) x)) (h2:∀s,C s→T c (upd s++cst) (chg s++rest) (.norm k))
  (_hk:Kf fr ks cst:=by repeat (first|exact Kf.nil|apply Kf.cons GG)) (_hr:Sel H rs rest:=by repeat constructor):T c fr H (.code (.cd y::k) x):=.mk fun a w s g=>by
 refine wp_mono (h.h a w s g) fun e a1 w1 he=>?_;cases e with
 | normal =>
  refine wp_mono he fun e a2 w2 he=>?_;cases e with
  | normal=>obtain ⟨s,hC,hs,hg⟩:=he;exact (h2 s hC).h a2 w2 hs hg
  | _=>exact he
 | _=>exact he
end
section
variable {c:Cx} {fr:Fr} {H H0:List Pc} {k:List It} {Φ:Gl} {X:List Nat} {ops:Array Oper} {f:Nat} {listed:Array Bool} {d:Nat} {o:Op} {ty:TypeId} {v u:Value} {x y:Operand}
theorem An5 {α:Type} {O R:Br α} (hW:Ng O R) {v:Value} {x:α} {F:List Nat} {S:List Pc} (h:∀F',T c fr (.isv R v x F'::S) Φ) (hp:Co H (.own O v x F) S:=by exact De):T c fr H Φ:=.mk fun a w s g=>by
 exact DW
theorem Agv {α:Type} {O R:Br α} (hW:Ng O R) {t:TypeId} {v:Value} {xs:List α} {F:List Nat} {S:List Pc} (h:∀F',T c fr (.sl R v xs F'::S) Φ) (hp:Co H (.ow O t v xs F) S:=by exact De) (hz:0 < R.sz:=by decide):T c fr H Φ:=.mk fun a w s g=>by
 have s1:=s.pick hp;obtain ⟨-,ho⟩:=s1.on (.ow O t v xs F) FK;obtain ⟨F',hF,hs⟩:=ho.sl hW;exact (h F').h a w (s1.conv rfl ⟨hz,hs⟩ hF) g
theorem Bcn {α:Type} {E:Br α} {v:Value} {x:α} {F:List Nat} (one:Yf E) (h:∀cs:List Value,v=.agg cs.toArray→cs.length=E.sz→cs.all (·.oneCell')=true→T c fr H Φ) (hm:.isv E v x F∈H:=by exact A9):T c fr H Φ:=.mk fun a w s g=>by
 obtain ⟨cs,hv,hx⟩:=s.get hm;exact (h cs hv (E.len hx) (List.all_eq_true.2 fun u hu=>one hx u hu)).h a w s g
theorem Ajf {α:Type} {E:Br α} {v:Value} {x:α} {F:List Nat} (one:Yf E) (h:∀cs:List Value,v=.agg cs.toArray→cs.length=E.sz→cs.all (·.oneCell')=true→T c fr H Φ) (hm:.own E v x F∈H:=by exact A9):T c fr H Φ:=.mk fun a w s g=>by
 obtain ⟨-,cs,hv,hx⟩:=s.get hm;exact (h cs hv (E.len hx) (List.all_eq_true.2 fun u hu=>one hx u hu)).h a w s g
theorem Put.all:∀{zs l:List Value},zs.length=l.length→Put zs 0 l l
 | [],[],_=>.zero
 | [],_::_,h=>by simp at h
 | _::_,[],h=>by simp at h
 | _::zs,_::l,h=>.one (Put.all GE)
theorem Aud {P:Program} {n:Nat} {H:List Pc} {t g o tt m:Nat} {A cs B:List Value} [AggC P t m] (hx:ev fr x=some (Iq g o 0)) (hm:Pc.row g tt o A cs B∈H) (hl:cs.length=m):Yd P n fr H (.load t x) ty (.agg cs.toArray):=Bdk hx hm (hl▸Cut.whole cs)
theorem cm {f:Nat} {vs:List Value} {σ:Type} {C:σ→Prop} {vv:σ→Value} {N:σ→List Pc} (hc:∀w,St c.G c.D c.w0 H w→Calls c.P f vs.toArray w fun e w'=>∃s,C s∧e=.returned (vv s)∧Om (N s) w'∧(fp (N s)).Nodup∧(∀b∈fp (N s),w.heap.size≤b)∧Below w.heap.size w w')
  (h:∀s,C s→T c ((d,vv s)::fr) (N s++H) Φ):Cl c fr H d f vs Φ :=
 Aaf hc (fun w e w' s hR=>by
  obtain ⟨z,hz,he,hN,hn,hF,hB⟩:=hR;have sep:∀{N:List Pc},(fp N).Nodup→Tg N:=by
   intro N
   induction N with
   | nil=>intro _;trivial
   | cons p N ih =>
    intro h;rw [fp,List.nodup_append] at h;exact ⟨fun q hq _ b hb hq2=>h.2.2 b hb b (Qz.2 ⟨q,hq,hq2⟩) rfl,ih h.2.1⟩
  exact ⟨_,he,fun ac g=>(h z hz).h ac w' (s.add (N:=N z) hB hN (sep hn) (fun p hp b hb=>.inl (hF b (Qz.2 ⟨p,hp,hb⟩)))) g⟩)
theorem Ahg {id:Nat} {l:List Oper} (X:List Nat) (h:T c fr H (.dx k H X l.toArray l.length (Array.replicate l.length false))) (hm:c.P.follows .mixedOrders=true:=by kernel_rfl):T c fr H (.code k (Code.region id l.toArray true)):=.mk fun a w s g=>by
 refine Fm.start (S:=Om H) (X:=fun i=>X.contains i) hm ?_;exact DR
theorem Bjh {t g tt m:Nat} {cs l:List Value} {S:List Pc} (hx:ev fr x=some (Iq g 0 0)) (hy:ev fr y=some (.agg l.toArray)) (hs:(c.P.info? t).map (·.size)=some m) (hr:Rpl H (.row g tt 0 [] cs []) (.row g tt 0 [] l []) S) (hl:l.length=m) (hc:cs.length=m) (h1:l.all (·.oneCell')=true) (h:T c fr S Φ):On c fr H none (.store t x y) ty Φ :=
 Axx hx hy rfl hs hl hr (Put.all FJ) h1 h
end
/-! contracts, with what they ask read off pieces -/
theorem ex1 {α:Type} {A:α→Prop} {C:Prop} (f:∀a,A a→C):(∃a,A a)→C:=fun ⟨a,h⟩=>f a h
theorem ex2 {α β:Type} {A:α→Prop} {B:β→Prop} {C:Prop} (f:∀a b,A a→B b→C):(∃a,A a)→(∃b,B b)→C:=fun ⟨a,h⟩ ⟨b,h2⟩=>f a b h h2
section
variable {G D:List Nat} {w0 w:World} {H:List Pc}
theorem St.rI {α:Type} {E:Br α} {v:Value} {x:α} {F:List Nat} (s:St G D w0 H w) (hm:.isv E v x F∈H:=by exact A9):∃F',Jy E w v x F':=⟨F,s.get hm⟩
theorem St.rO {α:Type} {O R:Br α} (hW:Ng O R) {v:Value} {x:α} {F:List Nat} (s:St G D w0 H w) (hm:.own O v x F∈H:=by exact A9):∃F',Jy R w v x F':=by
 obtain ⟨-,ho⟩:=s.get hm;obtain ⟨F', -,h⟩:=Jy.weak hW ho;exact ⟨F',h⟩
end
theorem Qu {α:Type} {l:List α} {i:Nat} (h:i < l.length) (x:α):l.getD i x=l[i]:=by rw [List.getD_eq_getElem?_getD,List.getElem?_eq_getElem h];rfl
theorem Aek (d:List (List Ar)) (i:Nat) (p:Ar) (a:Option Addr) (n c:Nat) (F:List Nat) (hn:n=d.length) (hi:i < d.length) (hs:p.data.size≤maxLen):Fn prog 279 [.slice a n c,.int .i64 (i:Nat),.agg #[.int .i64 (p).Cp,.int .i64 (p).Ae,.int .i64 (p).Ap,.int .i64 (p).Fv,.string (p).data]] [] [.ow (Kx Ak 223) 142 (.slice a n c) d F] (fun (_:List Nat)=>True) (fun _=>.tuple #[]) (fun G=>[.ow (Kx Ak 223) 142 (.slice a n c) (d.set i (Wk d[i] p)) G]):=by
 refine enter func279 rfl ntmps279 fun w0=>?_;refine W5 (m:=1) i ?_ rfl hi;rintro _ g A cs B k1 k2 G1 Gi G2 rfl - hc hH;refine U7 ?_;rintro a5 c5 ev l5;obtain rfl:=Uv ev;refine go ?_;intros;refine Ax rfl (fun h1=>?_) (fun h1=>?_)
 ·have h6:d[i].length < 6:=FJ
  rw [show Wk d[i] p=d[i]++[p] by unfold Wk;rw [if_pos h6]];refine go ?_;refine As [0,2] [10] ?_;refine Ds 0 1 2 3 ?_;refine Ed 4 5 ?_;refine dt 6 ?_;refine dN 7 ?_;apply Lx;rfl;rfl;rfl;rfl;exact Lr;exact La;intro _;refine dk ?_;refine dN 8 ?_;refine Qa (ys:=[p]) (Dh p hs) Hq fun a7 c7 F7=>?_;refine dk ?_;refine dt 9 ?_;refine dN 10 ?_;refine oS ?_;refine Tx ?_;refine dd ?_;refine J0 (d[i]++[p]) ?_;refine go ?_;refine Ta _ hH rfl fun F6=>?_;refine Xp ?_;refine ret F6 trivial rfl
 ·rw [show Wk d[i] p=d[i] by unfold Wk;rw [if_neg FJ]];refine go ?_;refine J0 d[i] ?_;refine Ta _ hH rfl fun F6=>?_;refine Xp ?_;refine ret F6 trivial rfl
theorem Al3 (q l:List Ar) (p:Ar):H5 q (l++[p])=Wk (H5 q l) p:=by
 unfold H5 Wk;by_cases h:l.length < 6 - q.length
 ·rw [List.take_of_length_le (by rw [List.length_append];simp;omega),List.take_of_length_le FJ,if_pos HI,List.append_assoc]
 ·have e:(l++[p]).take (6 - q.length)=l.take (6 - q.length):=by rw [List.take_append_of_le_length FJ]
  rw [e,if_neg (by rw [List.length_append,List.length_take];omega)]
def Ss (s:List (List Ar)) (i:Nat) (ps:List Ar):List (List Ar):=s.modify i fun q=>H5 q ps
theorem Al1 (s:List (List Ar)) (i:Nat) (ps:List Ar):(Ss s i ps).length=s.length:=List.length_modify ..
theorem Al2 (s:List (List Ar)) (i:Nat):Ss s i []=s:=by
 unfold Ss;by_cases h:i < s.length
 ·rw [Ip h,Aqo,List.set_getElem_self]
 ·exact Abj h
theorem Aiq {s:List (List Ar)} {i j:Nat} {ps:List Ar} (hi:i < s.length) (hj:j < ps.length) (h:i < (Ss s i (ps.take j)).length):(Ss s i (ps.take j)).set i (Wk (Ss s i (ps.take j))[i] ps[j])=Ss s i (ps.take (j+1)):=by
 unfold Ss;simp only [Ip hi];rw [List.getElem_set_self,List.set_set,List.take_succ_eq_append_getElem hj,Al3]
theorem Afz {d:List (List Ar)} {nodes:List Int} {ps:List Ar} {k:Nat} (hk:k < nodes.length):Dq d (nodes.take (k+1)) ps=Ss (Dq d (nodes.take k) ps) nodes[k].toNat ps:=by rw [List.take_succ_eq_append_getElem hk,Aq0];rfl
structure KF where
 k:Nat
 F:List Nat
theorem Aa5 (d:List (List Ar)) (nodes:List Int) (ps:List Ar) (g:Nat) (v0 v1 v2 v3 v4 v5 v6 v7 v8 v10:Value) (a:Option Addr) (n c:Nat) (F:List Nat) (an:Option Addr) (cn:Nat) (Fn_:List Nat) (ap:Option Addr) (cp:Nat) (Fp:List Nat) (hn:n=d.length) (hx:∀x∈nodes,0≤x∧x.toNat < d.length) :
  Fn prog 209 [Iq g 0 0,.slice an nodes.length cn,.slice ap ps.length cp] [.sl Bb (.slice an nodes.length cn) nodes Fn_,.sl Ak (.slice ap ps.length cp) ps Fp] [.row g 50 0 [] [v0,v1,v2,v3,v4,v5,v6,v7,v8,.slice a n c,v10] [],.ow (Kx Ak 223) 142 (.slice a n c) d F] (fun (_:List Nat)=>True) (fun _=>.tuple #[]) (fun G=>[.row g 50 0 [] [v0,v1,v2,v3,v4,v5,v6,v7,v8,.slice a n c,v10] [],.ow (Kx Ak 223) 142 (.slice a n c) (Dq d nodes ps) G]):=by
 refine enter func209 rfl ntmps209 fun w0=>?_;refine Xq (E:=Bb) (xs:=nodes) ?_;rintro _ _ e0 hn1 hn2;refine Xq (E:=Ak) (xs:=ps) ?_;rintro _ _ e3 hp1 hp2;refine Anz (E:=Ak) (fun p:Ar=>p.data.size≤maxLen) (fun w cs x F h=>by obtain ⟨_,h,_⟩:=h;exact h) ?_;intro hz;cases e0;cases e3;refine go ?_;refine Cj [0,2,10,11] (fun z:KF=>[(12,.int .i64 (z.k:Nat))]) (fun z=>[.ow (Kx Ak 223) 142 (.slice a n c) (Dq d (nodes.take z.k) ps) z.F]) (fun z=>z.k≤nodes.length) (fun z=>nodes.length - z.k) ⟨0,_⟩ (Nat.zero_le _) fun z hz0=>?_;have hsl:=Abs ps (nodes.take z.k) d;refine go ?_
 refine Ax rfl (fun h1=>?_) (fun h1=>?_)
 ·have hk:z.k < nodes.length:=FJ
  obtain ⟨x0,x1⟩:=hx _ (List.getElem_mem hk);obtain ⟨i,hi⟩:∃i:Nat,nodes[z.k]=((i:Nat):Int):=⟨nodes[z.k].toNat,FJ⟩;have hil:i < (Dq d (nodes.take z.k) ps).length:=FJ
  have hst:=Afz (d:=d) (ps:=ps) hk;rw [show nodes[z.k].toNat=i by omega] at hst;refine I5 (xs:=nodes) z.k ?_;rintro hi2 b o e1;rw [e1,hi];refine go ?_;rw [show Dq d (nodes.take z.k) ps=Ss (Dq d (nodes.take z.k) ps) i (ps.take 0) by rw [List.take_zero,Al2]];refine Cj [0,2,7,10,11,12,13,14,15,16,17] (fun y:KF=>[(18,.int .i64 (y.k:Nat))]) (fun y=>[.ow (Kx Ak 223) 142 (.slice a n c) (Ss (Dq d (nodes.take z.k) ps) i (ps.take y.k)) y.F]) (fun y=>y.k≤ps.length) (fun y=>ps.length - y.k) ⟨0,z.F⟩ (Nat.zero_le _) fun y hy0=>?_;have hpl:=Al1 (Dq d (nodes.take z.k) ps) i (ps.take y.k);refine go ?_
  refine Ax rfl (fun h2=>?_) (fun h2=>?_)
  ·have hj:y.k < ps.length:=FJ
   refine Qq (xs:=ps) y.k ?_;rintro hi3 b3 o3 e3 s3;rw [e3];refine go ?_;intros;refine As [0,4] [] ?_;refine Ds 0 1 2 3 ?_;refine Ed 4 5 ?_;refine dN 6 ?_;refine oC ?_;refine Cb (Aek (Ss (Dq d (nodes.take z.k) ps) i (ps.take y.k)) i ps[y.k] a n c y.F FJ FJ s3) fun f1 _=>?_;rw [Aiq hil hj];refine dk ?_;refine dd ?_;refine go ?_;refine Ce ⟨y.k+1,f1⟩ hj (by show ps.length - (y.k+1) < ps.length - y.k;omega)
  ·rw [show ps.take y.k=ps from List.take_of_length_le FJ,←hst];refine go ?_;refine Ce ⟨z.k+1,y.F⟩ hk (by show nodes.length - (z.k+1) < nodes.length - z.k;omega)
 ·rw [show nodes.take z.k=nodes from List.take_of_length_le FJ];refine go ?_;refine Xp ?_;refine ret z.F trivial rfl
section
variable {c:Cx} {fr:Fr} {H:List Pc} {Φ:Gl}
theorem I9 {a:Option Addr} {n cp:Nat} {xs:List Ay} {F:List Nat} (i:Nat) (h:∀(hi:i < xs.length) (b o:Nat),a=some ⟨b,o,none⟩→T c fr (.cel b (o+i * 4) [.int .i64 xs[i].Ae,.int .i64 xs[i].state,.int .i64 xs[i].Ch,.int .i64 xs[i].D5]::H) Φ) (hm:.sl Av (.slice a n cp) xs F∈H:=by exact A9) (hi:i < xs.length:=by omega):T c fr H Φ:=.mk fun ac w s g=>by
 exact CQ
theorem Ahs {t:TypeId} {a:Option Addr} {n cp:Nat} {xs:List Ay} {F:List Nat} {S:List Pc} (i:Nat) (h:∀(_:i < xs.length) g A B,a=some ⟨g,0,none⟩→F=[g]→Aza Av t g (.slice (some ⟨g,0,none⟩) n cp) xs i A B→T c fr (.row g t (0+i * 4) A [.int .i64 xs[i].Ae,.int .i64 xs[i].state,.int .i64 xs[i].Ch,.int .i64 xs[i].D5] B::S) Φ) (hp:Co H (.ow Av t (.slice a n cp) xs F) S:=by exact De) (hi:i < xs.length:=by omega):T c fr H Φ :=
 P5 Dp i (fun hi g A cs B ha hF hr hh=>by obtain ⟨rfl, -⟩:=hr default;exact h hi g A B ha hF  hh) hp rfl hi
theorem Oq (x:Ay)  (w:World):C1 Av w [.int .i64 x.Ae,.int .i64 x.state,.int .i64 x.Ch,.int .i64 x.D5] [x] []:=⟨_,[],[],[],FK,FK,⟨rfl,rfl⟩,rfl,rfl⟩
end
theorem Aoc {P:Program} {n:Nat} {fr:Fr} {H:List Pc} {ty t':TypeId} {x:Operand} {t e m:Nat} [hS:SlC P t e m] {a:Option Addr} {l c:Nat} (hx:ev fr x=some (.slice a l c)):Yd P n fr H (.binOp .eql t x (.const (.slice none 0 0)) t') ty (.bool a.isNone):=.mk fun ac w d pos Ci gd hA _=>by
 have he:ac.eval (.const (.slice none 0 0))=.slice none 0 0:=rfl;have eg:eqGuard .eql t x (.const (.slice none 0 0)) (.slice a l c) (.slice none 0 0)=pure ():=by unfold eqGuard;simp
 simp only [execOp,hA.ev hx,he,eg,Sem.run_bind,Sem.run_pure,Result.andThen_ok,Lib.run_eql_slice_nil w t e a l c 0 0 hS.u]
theorem Bcs {c:Cx} {fr:Fr} {H:List Pc} {Φ:Gl} {α:Type} {E:Br α} {n cp:Nat} {xs:List α} {F:List Nat} (h:xs=[]→T c fr H Φ) (hm:.sl E (.slice none n cp) xs F∈H:=by exact A9):T c fr H Φ:=.mk fun ac w s g=>by
 obtain ⟨-,a,cap,hv, -,⟨rfl, -, -⟩|⟨b,off,F',rfl, -⟩⟩:=s.get hm
 ·exact (h rfl).h ac w s g
 ·cases hv
theorem Uy (xs:List Ay) (a:Option Addr) (c:Nat) (F:List Nat) (hl:xs.length≤1000000000) :
  Fn prog 186 [.slice a xs.length c] [.sl Av (.slice a xs.length c) xs F] [] (fun (_:Option Addr × Nat × List Nat)=>True) (fun z=>.slice z.1 xs.length z.2.1) (fun z=>[.ow Av 250 (.slice z.1 xs.length z.2.1) xs z.2.2]):=by
 refine enter func186 rfl ntmps186 fun w0=>?_;refine go ?_;cases a with
 | none =>
  refine Bcs (xs:=xs) fun h0=>?_;subst h0;apply wO;apply oc;rfl;exact Aoc rfl;refine Dj Av 250 ?_;refine go ?_;refine ret (none,0,[]) trivial rfl
 | some ad =>
  apply wO;apply oc;rfl;exact Aoc rfl;refine go ?_;intros;refine Dc Av ?_;apply wO;refine Pm C4 Dp fun a2 c2 F2=>?_;rw [List.nil_append];exact DM
section
variable {P:Program} {n:Nat} {fr:Fr} {H:List Pc} {ty:TypeId} {x y z u:Operand}
theorem Bdm {t e m i g o len cp:Nat} {kd:IntKind} {q:Int} [hS:SlC P t e m] (hx:ev fr x=some (.slice (some ⟨g,o,none⟩) len cp)) (hy:ev fr y=some (.int kd q)) (hq:q=(i:Int)) (hi:i≤len) (hlc:len≤cp):Yd P n fr H (.slice t x (some y) none none) ty (.slice (some ⟨g,if cp=i then o else o+i * m,none⟩) (len - i) (cp - i)):=.mk fun ac w d pos Ci gd hA _=>by
 subst hq;have he2:P.elem t=e:=KI
 have h3:(Instr.sliceAt t (.slice (some ⟨g,o,none⟩) len cp) (some (.int kd (i:Int))) none none).run P w=.ok (.slice (some ⟨g,if cp=i then o else o+i * m,none⟩) (len - i) (cp - i)) w:=by
  rw [run_sliceAt_slice (h:=GU),run_slice_l (ht:=GU) (h0:=FJ) (h1:=FJ),he2,Nv hS.s];simp only [Result.andThen,sliced,Option.map_some,Addr.add_lit,Int.toNat_natCast]
  split <;> rfl
 exact AV
theorem Avo {t e m i j g o len cp:Nat} {kd kd2:IntKind} {q r:Int} [hS:SlC P t e m] (hx:ev fr x=some (.slice (some ⟨g,o,none⟩) len cp)) (hy:ev fr y=some (.int kd q)) (hz:ev fr z=some (.int kd2 r)) (hq:q=(i:Int)) (hr:r=(j:Int)) (hi:i < cp) (hij:i≤j) (hj:j≤cp):Yd P n fr H (.slice t x (some y) (some z) none) ty (.slice (some ⟨g,o+i * m,none⟩) (j - i) (cp - i)):=.mk fun ac w d pos Ci gd hA _=>by
 subst hq hr;have he2:P.elem t=e:=KI
 have h3:(Instr.sliceAt t (.slice (some ⟨g,o,none⟩) len cp) (some (.int kd (i:Int))) (some (.int kd2 (j:Int))) none).run P w=.ok (.slice (some ⟨g,o+i * m,none⟩) (j - i) (cp - i)) w:=by
  rw [run_sliceAt_slice (h:=GU),run_slice_lh (ht:=GU) (h0:=FJ) (h1:=FJ) (h2:=FJ),he2,Nv hS.s];simp only [Result.andThen,sliced,Option.map_some,Addr.add_lit,Int.toNat_natCast];rw [if_neg FJ]
 exact EX
end
section
variable {c:Cx} {fr:Fr} {H:List Pc} {k:List It} {Φ:Gl} {d:Nat} {ty:TypeId} {x y z u:Operand}
theorem Aqc {t e m n cp i j l:Nat} {a:Option Addr} {q r s:Int} [hS:SlC c.P t e m] (hd:Nat.blt d c.n=true) (hx:ev fr x=some (.slice a n cp)) (hy:ev fr y=some (.int .i64 q)) (hz:ev fr z=some (.int .i64 r)) (hu:ev fr u=some (.int .i64 s)) (hq:q=(i:Int)) (hr:r=(j:Int)) (hs:s=(l:Int)) (hij:i≤j) (hjl:j≤l) (hl:l≤cp) (h:∀v,T c ((d,v)::fr) H Φ):On c fr H (some d) (.slice t x (some y) (some z) (some u)) ty Φ:=⟨fun _ _ _=>Qe fun Q ac w st g=>by
 subst hq hr hs;have he2:=Agm hS;obtain ⟨v,h3⟩:∃v,(Instr.sliceAt t (.slice a n cp) (some (.int .i64 (i:Int))) (some (.int .i64 (j:Int))) (some (.int .i64 (l:Int)))).run c.P w=.ok v w:=by
  rw [run_sliceAt_slice (h:=GU),run_slice_lhm (ht:=GU) (h0:=FJ) (h1:=FJ) (h2:=FJ) (h3:=FJ),he2,Nv hS.s];exact ⟨_,rfl⟩
 have e1:∀pos Ci gd,(execOp ac.eval ⟨some d,.slice t x (some y) (some z) (some u),ty,pos,Ci,gd⟩).run c.P w=.ok (.value v) w:=by
  intro pos Ci gd;simp only [execOp,Option.map_none,Option.map_some,g.ev hx,g.ev hy,g.ev hz,g.ev hu,Sem.run_bind,h3,Result.andThen_ok,Sem.run_pure]
 rw [e1];exact (h v).h _ w st (g.put hd)⟩
theorem Bbf {α:Type} {E:Br α} (sc:Ab1 E) (one:Yf E) {t e m b g n cp i j q c2:Nat} {zv:Value} [hS:SlC c.P t e m] [hE:ElT c.P e zv m b] (hm:E.sz=m) {xs:List α} {F:List Nat} {S:List Pc}
  (hd:Nat.blt d c.n=true) (hx:ev fr x=some (.slice (some ⟨g,0,none⟩) i cp)) (hy:ev fr y=some (.slice (some ⟨g,q,none⟩) (n - j) c2)) (hq:j < n→q=j * m) (hij:i≤j) (hj:j≤n) (hn:n=xs.length)
  (hp:Co H (.ow E e (.slice (some ⟨g,0,none⟩) n cp) xs F) S) (h:T c ((d,.slice (some ⟨g,0,none⟩) (i+(n - j)) cp)::fr) (.ow E e (.slice (some ⟨g,0,none⟩) n cp) (xs.take i++xs.drop j++xs.drop (i+(n - j))) F::S) Φ) :
  On c fr H (some d) (.call { callee:=.builtin .append,args:=#[x,y],argTypes:=#[t,t] }) ty Φ:=⟨fun _ _ _=>Qe fun Q a w s ag=>by
 subst hm hn;have s1:=s.pick hp;obtain ⟨hnd,ho⟩:=s1.on (.ow E e (.slice (some ⟨g,0,none⟩) xs.length cp) xs F) FK;have hF:=ho.scal sc;rcases ho with ⟨h1, -, -⟩|⟨g2,cap,cs,rest,G,h1,h2,h3,h4,h5,h6,h7⟩
 ·cases h1
 cases h1;have hG:G=[]:=JI
 subst hG h7;obtain ⟨ti,hi,hiz⟩:=Option.map_eq_some_iff.1 hE.i;simp only [Prod.mk.injEq] at hiz;obtain ⟨-,i2, -⟩:=hiz;have hl:=h6.len;have hle:i+(xs.length - j)≤xs.length:=FJ
 have fi:=(h6.cutL i FJ).1;have fj:=(h6.cutL j hj).2;have fk:=(h6.cutL (i+(xs.length - j)) hle).2;have hd1:(cs.take (i * E.sz)).length=i * E.sz:=by have:=fi.len;rw [List.length_take (l:=xs),Nat.min_eq_left FJ] at this;exact this
 have hd2:(cs.drop (j * E.sz)).length=(xs.length - j) * E.sz:=by have:=fj.len;rwa [List.length_drop (l:=xs)] at this
 have h1c:=h6.one' one;have hsm:(i+(xs.length - j)) * E.sz≤xs.length * E.sz:=Nat.mul_le_mul_right _ hle;have hadd:(i+(xs.length - j)) * E.sz=i * E.sz+(xs.length - j) * E.sz:=Nat.add_mul _ _ _;have hsrc:∀r u,(cs.drop (j * E.sz))[r]?=some u→w.cell? ((⟨g,q,none⟩:Addr).add r)=some u:=fun r u hu=>by
  have hr:r < (cs.drop (j * E.sz)).length:=(List.getElem?_eq_some_iff.1 hu).1;have hlt:j < xs.length:=by
   rcases Nat.lt_or_ge j xs.length with h|h
   ·exact h
   ·rw [hd2,show xs.length - j=0 by omega] at hr;simp at hr
  rw [hq hlt,Addr.add_lit,h2.cell,List.getElem?_append_left (by rw [List.length_drop] at hr;omega)];rw [List.getElem?_drop] at hu;exact hu
 have hr:=fun ty=>run_append_room_cells (P:=c.P) w t ty e ti hS.u hi g 0 i cp ⟨g,q,none⟩ (xs.length - j) c2 (cs.drop (j * E.sz)) (by rw [hd2,i2]) hsrc (fun u hu=>h1c u (List.mem_of_mem_drop hu)) FJ
  (fun r hr=>by rw [i2,h2.cell,List.getElem?_eq_getElem HI];rfl) (fun r _=>h2.frozen _)
 have e1:∀pos Ci gd,(execOp a.eval ⟨some d,.call { callee:=.builtin .append,args:=#[x,y],argTypes:=#[t,t] },ty,pos,Ci,gd⟩).run c.P w=.ok (.value (.slice (some ⟨g,0,none⟩) (i+(xs.length - j)) cp)) (w.setCells g (0+i * E.sz) (cs.drop (j * E.sz))):=by
  intro pos Ci gd;simp only [execOp,resolve,invoke,builtin,Sem.run_bind,Sem.run_pure,Result.andThen_ok,List.map_toArray,List.map_cons,List.map_nil,ag.ev hx,ag.ev hy,hr,i2]
 rw [e1];have R0:Ir w g e (cs.take (i * E.sz)++(cs.drop (i * E.sz)).take ((xs.length - j) * E.sz)++(cs.drop ((i+(xs.length - j)) * E.sz)++rest)):=by
  rw [hadd,←List.drop_drop,List.append_assoc,←List.append_assoc _ _ rest,List.take_append_drop,←List.append_assoc,List.take_append_drop];exact h2
 have R1:=Ir.put (cs.drop (j * E.sz)) _ R0 (p:=0+i * E.sz) FJ (by rw [hd2,List.length_take,List.length_drop];omega);have hk:=Mu (g:=g) (cs.drop (j * E.sz)) w (0+i * E.sz);rw [Nj w g] at R1 hk;have hW:(Pc.ow E e (.slice (some ⟨g,0,none⟩) xs.length cp) (xs.take i++xs.drop j++xs.drop (i+(xs.length - j))) [g]).P (w.setCells g (0+i * E.sz) (cs.drop (j * E.sz))):=by
  have hll:(xs.take i++xs.drop j++xs.drop (i+(xs.length - j))).length=xs.length:=by simp only [List.length_append,List.length_take,List.length_drop];omega
  refine ⟨FK,.inr ⟨g,cp,cs.take (i * E.sz)++cs.drop (j * E.sz)++cs.drop ((i+(xs.length - j)) * E.sz),rest,[],by rw [hll],by simpa [List.append_assoc] using R1,by rw [hll];exact h3,h4,?_,?_,rfl⟩⟩
  ·rw [List.length_append,List.length_append,hd1,hd2,List.length_drop,hl,←h5];omega
  ·have:=((fi.all (w.setCells g (0+i * E.sz) (cs.drop (j * E.sz)))).append (fj.all _)).append (fk.all _);exact EN
 exact h.h _ _ (St.turn (M:=[.ow E e (.slice (some ⟨g,0,none⟩) xs.length cp) xs [g]]) (N:=[.ow E e (.slice (some ⟨g,0,none⟩) xs.length cp) (xs.take i++xs.drop j++xs.drop (i+(xs.length - j))) [g]]) s1 HY LJ ⟨FK,trivial⟩ (by
   intro q hq b hb;rw [List.mem_singleton] at hq;subst hq;exact .inr (.inl ⟨_,List.mem_singleton.2 rfl,rfl,hb⟩))) (ag.put hd)⟩
end
theorem Bgs (xs:List (List Value)) (n i:Nat) (j:Int) (a:Option Addr) (c:Nat) (F:List Nat) (hn:n=xs.length) (hi:i < xs.length) (hj:j=(i:Int)+1) (hl:xs.length≤1000000) :
  Fn prog 392 [.slice a n c,.int .i64 i,.int .i64 j] [] [.ow (EC 3) 212 (.slice a n c) xs F] (fun (_:Option Addr × Nat × List Nat)=>True)
   (fun z=>.slice z.1 (xs.take i++xs.drop (i+1)).length z.2.1) (fun z=>[.ow (EC 3) 212 (.slice z.1 (xs.take i++xs.drop (i+1)).length z.2.1) (xs.take i++xs.drop (i+1)) z.2.2]):=by
 subst hn;refine enter func392 rfl ntmps392 fun w0=>?_;refine An0 (xs:=xs) (Mn 3) (by rintro rfl;simp at hi) ?_;rintro g rfl rfl - hc1 hc2;refine go ?_;apply wO;refine Aqc (i:=i) (j:=i+1) (l:=xs.length) rfl rfl rfl rfl rfl rfl FJ rfl FJ FJ hc1 (fun _=>?_);refine go ?_;refine Ax rfl (fun h=>absurd h FJ) (fun _=>?_);refine go ?_;refine As [] [] ?_;refine Ed 0 1 ?_;refine dt 2 ?_ (hy:=P9 (i:=i) rfl rfl rfl FJ FJ);refine Ed 3 4 ?_;refine dt 5 ?_ (hy:=Bdm (i:=i+1) rfl rfl FJ FJ hc1);refine dN 6 ?_
 refine Bbf (m:=3) (i:=i) (j:=i+1) (q:=if c=i+1 then 0 else 0+(i+1) * 3) (g:=g) (cp:=c) (n:=xs.length) (Mn 3) (Atc 3) rfl rfl rfl rfl (fun h=>by rw [if_neg FJ];omega) FJ FJ rfl FP ?_;refine dk ?_;refine dt 7 ?_;refine dd ?_;refine go ?_;apply wO;apply oc;rfl;exact Avo (i:=i+(xs.length - (i+1))) (j:=xs.length) rfl rfl rfl rfl rfl FJ FJ hc1;refine go ?_;apply wO
 refine Au5 (xs:=xs.take i++xs.drop (i+1)++xs.drop (i+(xs.length - (i+1)))) (z0:=[.int .i64 0,.slice none 0 0,.int .i64 0]) (n:=xs.length) (cp:=c) (i:=i+(xs.length - (i+1))) (g:=g) (Mn 3) (fun w=>⟨rfl,⟨rfl,GV⟩,rfl⟩) FM rfl rfl FJ JO FP ?_;have hk:(xs.take i++xs.drop (i+1)).length=i+(xs.length - (i+1)):=JO
 refine An4 (xs:=(xs.take i++xs.drop (i+1)++xs.drop (i+(xs.length - (i+1)))).take (i+(xs.length - (i+1)))++List.replicate (xs.length - (i+(xs.length - (i+1)))) [.int .i64 0,.slice none 0 0,.int .i64 0]) (i+(xs.length - (i+1))) (fun F2=>?_) JO;exact FE
section
variable {c:Cx} {fr:Fr} {H:List Pc} {k:List It} {Φ:Gl} {ops:Array Oper} {o:Op} {ty:TypeId} {pos:String} {Ci:Array Edge} {H0:List Pc} {X:List Nat} {f:Nat} {listed:Array Bool}
theorem Aid (z:List Value) (n:Nat):madeCells z.toArray (n * z.length)=((List.replicate n z).flatten).toArray:=by
 have:=Oy z.toArray n;rw [List.size_toArray] at this;rw [←Array.toArray_toList (xs:=madeCells z.toArray (n * z.length)),this]
end
def zP:Ar:=⟨0,0,0,0,⟨#[]⟩⟩
def Ob (q:List Ar):Ar:=q.headD zP
theorem Y3 {q:List Ar} (h:0 < q.length):Ob q=q[0]:=by
 cases q with
 | nil=>cases h
 | cons p r=>rfl
theorem Bgt (xs:List Ar) (n i:Nat) (j:Int) (a:Option Addr) (c:Nat) (F:List Nat) (hn:n=xs.length) (hi:i < xs.length) (hj:j=(i:Int)+1) (hl:xs.length≤1048576) :
  Fn prog 349 [.slice a n c,.int .i64 i,.int .i64 j] [] [.ow Ak 223 (.slice a n c) xs F] (fun (_:Option Addr × Nat × List Nat)=>True)
   (fun z=>.slice z.1 (xs.take i++xs.drop (i+1)).length z.2.1) (fun z=>[.ow Ak 223 (.slice z.1 (xs.take i++xs.drop (i+1)).length z.2.1) (xs.take i++xs.drop (i+1)) z.2.2]):=by
 subst hn;refine enter func349 rfl ntmps349 fun w0=>?_;refine An0 (xs:=xs) I8 (by rintro rfl;simp at hi) ?_;rintro g rfl rfl - hc1 hc2;refine go ?_;apply wO;refine Aqc (i:=i) (j:=i+1) (l:=xs.length) rfl rfl rfl rfl rfl rfl FJ rfl FJ FJ hc1 (fun _=>?_);refine go ?_;refine Ax rfl (fun h=>absurd h FJ) (fun _=>?_);refine go ?_;refine As [] [] ?_;refine Ed 0 1 ?_;refine dt 2 ?_ (hy:=P9 (i:=i) rfl rfl rfl FJ FJ);refine Ed 3 4 ?_;refine dt 5 ?_ (hy:=Bdm (i:=i+1) rfl rfl FJ FJ hc1);refine dN 6 ?_
 refine Bbf (m:=5) (i:=i) (j:=i+1) (q:=if c=i+1 then 0 else 0+(i+1) * 5) (g:=g) (cp:=c) (n:=xs.length) I8 Hq rfl rfl rfl rfl (fun h=>by rw [if_neg FJ];omega) FJ FJ rfl FP ?_;refine dk ?_;refine dt 7 ?_;refine dd ?_;refine go ?_;apply wO;apply oc;rfl;exact Avo (i:=i+(xs.length - (i+1))) (j:=xs.length) rfl rfl rfl rfl rfl FJ FJ hc1;refine go ?_;apply wO
 refine Au5 (xs:=xs.take i++xs.drop (i+1)++xs.drop (i+(xs.length - (i+1)))) (z0:=zP) (n:=xs.length) (cp:=c) (i:=i+(xs.length - (i+1))) (g:=g) I8 (fun w=>⟨rfl,Nat.zero_le _,rfl⟩) FM rfl rfl FJ JO FP ?_;have hk:(xs.take i++xs.drop (i+1)).length=i+(xs.length - (i+1)):=JO
 refine An4 (xs:=(xs.take i++xs.drop (i+1)++xs.drop (i+(xs.length - (i+1)))).take (i+(xs.length - (i+1)))++List.replicate (xs.length - (i+(xs.length - (i+1)))) zP) (i+(xs.length - (i+1))) (fun F2=>?_) JO;exact FE
theorem Biw (xs:List Ar) (a:Option Addr) (c:Nat) (F:List Nat) (hl:xs.length≤1000000000) :
  Fn prog 183 [.slice a xs.length c] [.sl Ak (.slice a xs.length c) xs F] [] (fun (_:Option Addr × Nat × List Nat)=>True) (fun z=>.slice z.1 xs.length z.2.1) (fun z=>[.ow Ak 223 (.slice z.1 xs.length z.2.1) xs z.2.2]):=by
 refine enter func183 rfl ntmps183 fun w0=>?_;refine go ?_;cases a with
 | none =>
  refine Bcs (xs:=xs) fun h0=>?_;subst h0;apply wO;apply oc;rfl;exact Aoc rfl;refine Dj Ak 223 ?_;refine go ?_;refine ret (none,0,[]) trivial rfl
 | some ad =>
  apply wO;apply oc;rfl;exact Aoc rfl;refine go ?_;intros;refine Dc Ak ?_;apply wO;refine Pm Hq I8 fun a2 c2 F2=>?_;rw [List.nil_append];exact DM
theorem Aij (d:List (List Ar)) (i:Nat) (a:Option Addr) (n c:Nat) (F:List Nat) (hn:n=d.length) (hi:i < d.length) (h6:d[i].length≤6):Fn prog 287 [.slice a n c,.int .i64 (i:Nat)] [] [.ow (Kx Ak 223) 142 (.slice a n c) d F] (fun (_:List Nat)=>True) (fun _=>.tuple #[.agg #[.int .i64 (Ob d[i]).Cp,.int .i64 (Ob d[i]).Ae,.int .i64 (Ob d[i]).Ap,.int .i64 (Ob d[i]).Fv,.string (Ob d[i]).data],.bool (decide (0 < d[i].length))]) (fun G=>[.ow (Kx Ak 223) 142 (.slice a n c) (d.set i (d[i].drop 1)) G]):=by
 refine enter func287 rfl ntmps287 fun w0=>?_;refine W5 (m:=1) i ?_ rfl hi;rintro _ g A cs B k1 k2 G1 Gi G2 rfl - hc hH;refine U7 ?_;rintro a5 c5 ev l5;obtain rfl:=Uv ev;refine go ?_;intros;refine Ax rfl (fun h1=>?_) (fun h1=>?_)
 ·have h0:d[i]=[]:=List.length_eq_zero_iff.1 FJ;rw [h0];refine go ?_;refine J0 [] ?_;refine Ta _ hH rfl fun F6=>?_;refine ret F6 trivial rfl
 ·have h0:0 < d[i].length:=FJ
  rw [decide_eq_true h0,Y3 h0];refine Awg (xs:=d[i]) 0 ?_;rintro _ g2 A2 B2 rfl rfl sz hH2;refine O3 ?_;intros;refine Pd d[i][0] hH2 (fun w=>⟨rfl,sz,rfl⟩) ?_;rw [List.set_getElem_self];refine go ?_;refine Cb (Bgt d[i] d[i].length 0 1 _ c5 _ rfl h0 rfl FJ) fun z _=>?_;rw [show d[i].take 0++d[i].drop (0+1)=d[i].drop 1 by simp];refine go ?_;refine J0 (d[i].drop 1) ?_;refine Ta _ hH rfl fun F6=>?_;refine ret F6 trivial rfl
def Yn (l:List (List Ar)) (k:Nat):List (List Ar):=l.take k++List.replicate (l.length - k) []
theorem Awe {l:List (List Ar)} {k:Nat} (h:k≤l.length):(Yn l k).length=l.length:=by unfold Yn;simp;omega
theorem Awf {l:List (List Ar)} {k:Nat} (h:k < l.length):(Yn l k).set k l[k]=Yn l (k+1):=by
 unfold Yn;have e:List.replicate (l.length - k) ([]:List Ar)=[]::List.replicate (l.length - (k+1)) []:=HT
 have hl:(l.take k).length=k:=GA
 exact EG
theorem Jt (l:List (List Ar)) (a:Option Addr) (c:Nat) (F:List Nat) (hl:l.length≤1048576) (hq:∀q∈l,q.length≤1000000000):Fn prog 106 [.slice a l.length c] [.sl (Mr Ak FM) (.slice a l.length c) l F] [] (fun (_:Nat × List Nat)=>True) (fun z=>.slice (some ⟨z.1,0,none⟩) l.length l.length) (fun z=>[.ow (Kx Ak 223) 142 (.slice (some ⟨z.1,0,none⟩) l.length l.length) l z.2]):=by
 refine enter func106 rfl ntmps106 fun w0=>?_;refine go ?_;apply wO;refine Axw l.length (cs:=(List.replicate l.length ([.slice none 0 0]:List Value)).flatten) rfl rfl rfl (Aid _ _) FJ FJ fun g=>?_;refine Ll (E:=Kx Ak 223) (xs:=List.replicate l.length []) (fun w=>C1.rep0 (E:=Kx Ak 223) (w:=w) (zs:=[.slice none 0 0]) (z:=([]:List Ar)) ⟨_,rfl,.inl ⟨rfl,rfl,rfl⟩⟩ _) ?_ (by rw [List.length_replicate];omega);rw [List.length_replicate,show List.replicate l.length ([]:List Ar)=Yn l 0 by unfold Yn;simp];refine go ?_
 refine Cj [2,3,9,10] (fun z:KF=>[(11,.int .i64 (z.k:Nat))]) (fun z=>[.ow (Kx Ak 223) 142 (.slice (some ⟨g,0,none⟩) l.length l.length) (Yn l z.k) z.F]) (fun z=>z.k≤l.length) (fun z=>l.length - z.k) ⟨0,_⟩ (Nat.zero_le _) fun z hz0=>?_;have hfl:=Awe hz0;refine go ?_;refine Ax rfl (fun h1=>?_) (fun h1=>?_)
 ·have hk:z.k < l.length:=FJ
  refine Np (E:=Ak) (hz:=FM) (xs:=l) z.k ?_;rintro hi6 b6 o6 a11 c11 F11 rfl l11;refine W5 (xs:=Yn l z.k) (m:=1) z.k ?_ rfl FJ;rintro _ g2 A cs B k1 k2 G1 Gi G2 e2 - hc hH;cases e2;refine U7 ?_;rintro a5 c5 ev l5;obtain rfl:=Uv ev;refine go ?_;refine Cb (Biw l[z.k] a11 c11 F11 (hq _ (List.getElem_mem hk))) fun y _=>?_;refine go ?_;refine J0 l[z.k] ?_;refine Ta _ hH rfl fun F6=>?_;rw [Awf hk];refine go ?_;refine Ce ⟨z.k+1,F6⟩ hk (by show l.length - (z.k+1) < l.length - z.k;omega)
 ·rw [show Yn l z.k=l by unfold Yn;rw [show z.k=l.length by omega];simp];refine go ?_;refine ret (g,z.F) trivial rfl
theorem Ag1 (fid:FuncId) (hbd:Z4 prog fid) (caps:Array Value) (v:Value) (xs:List Hz) (F:List Nat) (p:Hz→Bool) (w:World) (h:Sl Bn w v xs F)
  (hp:∀(k:Nat) (hk:k < xs.length) (wr:World) (u:Value) (G:List Nat),Below w.heap.size w wr→Jy Bn wr u xs[k] G→Calls prog fid (#[u]++caps) wr fun e w'=>e=.returned (.bool (p xs[k]))∧Below wr.heap.size wr w') :
  Calls prog 382 #[v,.func (.func fid) #[] caps] w (RB (.int .i64 (S0 p xs)) w):=by
 obtain ⟨a,cap,rfl⟩:=h.slice;have hl:=h.len;unfold maxLen at hl
 go_enter func382,ntmps382
 go_wp2
 go_loopw [5,8] (fun _ i wr=>∃k:Nat,k≤xs.length∧i=.int .i64 k∧Hid (∀j,j < k→∀hj:j < xs.length,p xs[j]=false)∧Below w.heap.size w wr) (fun _ i _=>xs.length - (intOf i).toNat)
 case atStart=>exact ⟨0,Nat.zero_le _,rfl,fun j hj=>by omega,Below.refl _ _⟩
 case round =>
  obtain ⟨k,hk,rfl,hz,hB⟩:=hrel;by_cases hlt:k < xs.length
  ·have hz0:=hz;clear hz;obtain ⟨b,off,_,F1,rfl,hx, -,ja⟩:=(h.below FM hB).at k hlt;obtain ⟨rfl,rfl⟩:=id hx;have a0:=ja 0 FM;have a1:=ja 1 FM;simp only [show Bn.sz=2 from rfl,Nat.mul_one,Nat.add_zero,List.getElem?_cons_zero,List.getElem?_cons_succ] at a0 a1;clear ja;have hr:=hp k hlt wr _ _ hB ⟨_,rfl,hx⟩;have hp:=Lib.hid hp;cases hpk:p xs[k]
   all_goals
    rw [hpk] at hr;have hpk:=Lib.hid hpk;have hr:=Lib.hid hr;go_wp2_with fail;refine hbd.upon hr.out ?_;rintro e w1 ⟨rfl,hb1⟩;refine ⟨_,rfl,?_⟩;have hB:=tr hB hb1 (Nat.le_refl _);clear hb1;go_wp2_with fail
   ·exact AM
   ·go_ret
    exact EW
  ·go_wp2
   go_ret
   exact DI
theorem Arx (v:Value) (xs:List Hz) (F:List Nat) (w:World) (h:Sl Bn w v xs F) (hm:xs.length≤4294967296) :
  Calls prog 182 #[v] w (No Bn 215 xs w):=by
 obtain ⟨ao,c,news,Fy,rfl,hl,hfy,hFy,hsrc⟩:=h.src;have hFl:=hfy.lt;have he:=fun w (a:Option Addr) (n c:Nat)=>Lib.run_eql_slice_nil (P:=prog) w 43 _ a n c 0 0 underlying43
 go_enter func182,ntmps182
 rcases hsrc with ⟨rfl,rfl,rfl⟩|⟨ad,rfl,hn⟩
 ·go_wp2
  go_ret
  exact CA
 ·go_wp2_with (at_builtin;refine P8 Jp FM GG _ _ _ GG 215 (.agg #[.int .i64 0,.int .i64 0]) 16 underlying43 Alh rfl (.slice (some ⟨w.heap.size,0,none⟩) 0 0) [] [w.heap.size] GG (Ow.empty (Ir.made _ _ _)) (Hd.one _) (some ad) xs c GG news Fy (hfy.frame fun b hb=>Below.heap_alloc _ _ _ (hFl b hb)) (.inr ⟨ad,rfl,fun j u hu=>kc ((Below.refl _ _).alloc (Nat.le_refl _) _) (hn j u hu)⟩) (fun b hb e=>by have:=hFl b hb;simp [Value.ownBlock] at e;omega) HP HM ?_);intro v2 w2 F2 hA;go_wp2_with fail
  go_ret
  have hB:Below w.heap.size w w2:=((Below.refl _ _).alloc (Nat.le_refl _) _).trans (hA.Jd.below FK FK);have hs:∀b,v2.ownBlock=some b→w.heap.size≤b:=fun b hb=>by rcases hA.Atq with e|e <;> rw [e] at hb <;> simp [Value.ownBlock] at hb <;> omega
  refine ⟨v2,F2,rfl,JJ,hA.ow.scal Lj▸?_,fun b hb=>?_,hB⟩
  ·cases v2.ownBlock <;> simp
  ·rw [hA.ow.scal Lj] at hb;exact hs b JV
theorem Xx (fid:FuncId) (hbd:Z4 prog fid) (caps:Array Value) (v:Value) (xs:List Hz) (F:List Nat) (p:Hz→Bool) (w:World) (h:Ow Bn 215 w v xs F) (hn:F.Nodup)
  (hp:∀(k:Nat) (hk:k < xs.length) (wr:World) (u:Value) (G:List Nat),D6 F w wr→Jy Bn wr u xs[k] G→Calls prog fid (#[u]++caps) wr fun e w'=>e=.returned (.bool (p xs[k]))∧Below wr.heap.size wr w') :
  Calls prog 340 #[v,.func (.func fid) #[] caps] w fun e w'=>∃v' F',e=.returned v'∧Ow Bn 215 w' v' (xs.filter fun x=>!p x) F'∧F'.Nodup∧(∀b∈F',b∈F)∧D6 F w w':=by
 obtain ⟨F1,hF1,hs⟩:=h.sl (Ng.refl _);obtain ⟨a,cap,rfl⟩:=h.slice;have hl:=h.len;unfold maxLen at hl;have hp:=Lib.hid hp
 go_enter func340,ntmps340
 go_wp2_with fail;refine (Ag1 fid hbd caps _ xs F1 p _ hs (fun k hk wr u G hb hu=>hp.out k hk wr u G (D6.ofBelow hb) hu)).mono ?_;rintro e w1 ⟨rfl,hb1⟩;have hK1:=D6.ofBelow (F:=F) hb1;by_cases hany:xs.any p=true
 ·obtain ⟨k0,hk0,hfx,hpk,hfl⟩:=Zo hany;rw [hfx];obtain ⟨g,rfl, -,hg0⟩:=Gap.start (h.below hb1) hn (ys:=xs.take k0) (zs:=xs[k0]::xs.drop (k0+1)) FK FJ;obtain ⟨F0,hg0,hF0⟩:=hg0.skip;have hG0:=Lib.hid hg0;clear hg0;have hk1:((k0:Int) == -1)=false:=FK
  go_wp2_with fail
  go_loopw [5,6,7] (fun i j _ wr=>∃(q m:Nat) (F1:List Nat),q≤xs.length∧0 < m∧((xs.take q).filter fun x=>!p x).length+m=q∧i=.int .i64 ((xs.take q).filter fun x=>!p x).length∧j=.int .i64 q∧Hid (Gap Bn 215 wr g xs.length cap ((xs.take q).filter fun x=>!p x) m (xs.drop q) F1)∧(∀b∈F1,b∈F)∧D6 F w wr) (fun _ j _ _=>xs.length - (intOf j).toNat)
  case atStart=>exact ⟨k0+1,1,F0,hk0,FJ,IB,IB,HX,by rw [Da hk0 KY,hfl];exact hG0,hF0,hK1⟩
  case round =>
   obtain ⟨q,m,F1,hq,hm,hlen,rfl,rfl,hG,hF1,hK⟩:=hrel;obtain ⟨-,hcap, -⟩:=hG.out.caps;generalize hys:((xs.take q).filter fun x=>!p x)=ys at *;by_cases hlt:q < xs.length
   ·rw [List.drop_eq_getElem_cons hlt] at hG;obtain ⟨c,Fx,hx,hFx,hcell⟩:=hG.out.first
    obtain ⟨Fx2, -,hxe⟩:=(Ng.refl _).Ky hx;obtain ⟨rfl,rfl⟩:=id hx;have a0:=hcell 0 FM;have a1:=hcell 1 FM;simp only [hlen,show Bn.sz=2 from rfl,Nat.mul_one,Nat.add_zero,List.getElem?_cons_zero,List.getElem?_cons_succ] at a0 a1;have hr:=fun A=>hp.out q hlt (wr.alloc A) _ Fx2 (hK.alloc A) ⟨_,rfl,Bn.below hxe ((Below.refl wr.heap.size wr).alloc (Nat.le_refl _) A)⟩;cases hpq:p xs[q]
    ·obtain ⟨st,c2,Fx3,hx3, -,hcell2,back⟩:=hG.out.move hm;simp only [hpq] at hr;obtain rfl:=Ai2 (Bn.len hx) (Bn.len hx3) hcell hcell2;have st:=st;obtain ⟨⟨x0,z0⟩,g0⟩:=st 0 FM;obtain ⟨⟨x1,z1⟩,g1⟩:=st 1 FM;simp only [show Bn.sz=2 from rfl,Nat.mul_one,Nat.add_zero] at z0 g0 z1 g1;have hr:=Lib.hid hr;have hbk:=Lib.hid back;have hpq:=Lib.hid hpq;have hys:=Lib.hid hys;have hlen:=Lib.hid hlen;have hyl:ys.length < xs.length:=by have:=hlen.out;omega
     clear hx hxe hcell hcell2 hx3 back st hfx hpk hfl;go_wp2_with fail;refine hbd.upon (hr.out _) ?_;rintro e w2 ⟨rfl,hb2⟩;refine ⟨_,rfl,?_⟩;have b2:=(Ir.below (g:=wr.heap.size) (t:=215) (cs:=[.int .i64 xs[q].Ae,.int .i64 xs[q].Ch]) (by simp [Jq]) hb2).cells;have hbb:=tr ((Below.refl wr.heap.size wr).alloc (Nat.le_refl _) _) hb2 (Nat.le_refl _);clear hb2;have g0:=(kf hbb z0).trans g0;have z0:=kc hbb z0;have g1:=(kf hbb z1).trans g1;have z1:=kc hbb z1;obtain ⟨F2,hg2,hF2⟩:=hbk.out w2 hbb;simp only [Oz,show Bn.sz=2 from rfl,Nat.mul_one] at hg2;have hg2:=Lib.hid hg2
     have hgF:g∈F:=hF1 g hG.out.caps.2.2.2.2.1;go_wp2_with fail;exact ⟨⟨q+1,m,F2,FJ,hm,LC,LD,HX,by rw [Hx hlt JQ,hys.out];exact hg2.out,fun b hb=>hF1 b (hF2 b hb),KV⟩,GT⟩
    ·obtain ⟨F2,hg2,hF2⟩:=hG.out.skip;simp only [hpq] at hr;have hr:=Lib.hid hr;have hg2:=Lib.hid hg2;have hpq:=Lib.hid hpq;have hys:=Lib.hid hys;have hlen:=Lib.hid hlen;clear hx hxe hcell hfx hpk hfl;go_wp2_with fail;refine hbd.upon (hr.out _) ?_;rintro e w2 ⟨rfl,hb2⟩;refine ⟨_,rfl,?_⟩;have hbb:=tr ((Below.refl wr.heap.size wr).alloc (Nat.le_refl _) _) hb2 (Nat.le_refl _);clear hb2;go_wp2_with fail
     exact BN
   ·have hqe:q=xs.length:=FJ
    subst hqe;simp only [List.drop_length,List.take_length] at hG hys;obtain ⟨hc,F2,ho2,hn2,hF2⟩:=hG.out.done (z:=#[.int .i64 0,.int .i64 0]) rfl;have hmm:xs.length - ys.length=m:=FJ
    have hcl:=fun ty=>Uq (P:=prog) wr 43 215 ty (.agg #[.int .i64 0,.int .i64 0]) underlying43 (Xw Alh) (by simp [Value.cells,Value.oneCell']) g (ys.length * 2) m (cap - ys.length) hm (fun j hj=>(hc j hj).1) (fun j hj=>(hc j hj).2);have hyl:ys.length < xs.length:=FJ
    have hgF:g∈F:=hF1 g hG.out.caps.2.2.2.2.1;have hO:=Lib.hid ho2;have hlen:=Lib.hid hlen;have hys:=Lib.hid hys;clear ho2 hc hfx hpk hfl;go_wp2_with fail
    go_ret
    exact DD
 ·obtain ⟨hfx,hfl⟩:=Acc hany;rw [hfx];go_wp2_with fail
  go_ret
  exact ⟨_,F,rfl,by rw [hfl];exact h.below hb1,hn,fun b hb=>hb,hK1⟩
theorem Ag4 (x:Ck) (v:Value) (F:List Nat) (hl:x.Aa.Ao.length≤4294967296) (hl2:x.holds.length≤4294967296):Fn prog 105 [v] [.isv Do v x F] [] (fun (_:Value × List Nat)=>True)
  (fun s=>s.1) (fun s=>[.own Tf s.1 x s.2]):=by
 refine enter func105 rfl ntmps105 fun w0=>?_;refine Ht ?_;rintro a1 c1 F1 a2 c2 F2 rfl l1 l2;refine Cv x.Aa ?_;generalize F1=F3;refine go ?_;intros;refine cv (fun w s=>Aay _ x.Aa _ w (s.get (p:=.isv Bv (.agg #[.int .i64 x.Aa.Ap,.int .i64 x.Aa.size,.slice a1 x.Aa.Ao.length c1]) x.Aa F3) FK) hl) fun v F'=>?_;refine Hy ?_;rintro a5 c5 F5 rfl l5;refine go ?_;refine cn (fun w s=>Arx _ _ _ _ (s.get (p:=.sl Bn (.slice a2 x.holds.length c2) x.holds F2) FK).2 hl2) fun a6 c6 F6=>?_;refine go ?_;refine Tk x ?_;exact BE
theorem Bep (W:Aw) (h:Hz) (gb g o:Nat) (u:Value) (a:Option Addr) (c:Nat) (cl q:Value) (Hs:Value) (G Fw:List Nat) (t0:0≤W.Ap) (t1:W.Ap≤65535) (n0:0≤h.Ae) (n1:h.Ae≤65535) :
  FV 341 [u,Iq gb 0 0] [.isv Bn u h G,.cel gb 0 [Iq g o 0],.cel g o [.int .i64 W.Ap,.int .i64 W.size,.slice a W.Ao.length c,cl,q,Hs],.isv Bv (.agg #[.int .i64 W.Ap,.int .i64 W.size,.slice a W.Ao.length c]) W Fw] (.bool (!Jh W h.Ae)):=by
 refine enter func341 rfl ntmps341 fun w0=>?_;refine Aqe ?_;rintro _ rfl;refine go ?_;intros;refine As [0,2,3] [] ?_;refine Ds 0 1 2 3 ?_;refine Ed 4 5 ?_;refine dN 6 ?_;refine oC ?_;refine cb (fun w st=>(Yq W h.Ae _ _ t0 t1 n0 n1).val w (En (st.get (p:=.isv Bv (.agg #[.int .i64 W.Ap,.int .i64 W.size,.slice a W.Ao.length c]) W Fw) FK))) ?_;refine dk ?_;refine Ed 7 8 ?_;refine dd ?_;refine go ?_;refine ret () trivial ?_;simp only [Jh,Ux,decide_not]
theorem Asm {P:Program} {f:FuncId} {args:List Value} {p:Pc} {R:List Pc} {σ:Type} {C:σ→Prop} {v:σ→Value} {N:σ→Pc} (hm:p.mu=true)
  (h:∀w,p.P w→Om R w→(∀wr,D6 p.F w wr→Om R wr)→Calls P f args.toArray w fun e w'=>∃s,C s∧e=.returned (v s)∧(N s).P w'∧(∀b∈(N s).F,b∈p.F∨w.heap.size≤b)∧D6 p.F w w'):Fn P f args [] (p::R) C v (fun s=>N s::R):=fun w hH hS=>by
 rw [List.append_nil] at hH hS;have hR:Om R w:=fun q hq=>hH q GR;have ap:∀q∈R,∀b∈q.F,b ∉ p.F:=fun q hq b hb hp=>hS.1 q hq (by simp [hm]) b hp hb;have hk:∀wr,D6 p.F w wr→Om R wr:=fun wr k q hq=>q.st (hR q hq) fun b hb=>k.block b (q.lt (hR q hq) b hb) (ap q hq b hb);refine (h w (hH p FK) hR hk).mono ?_;rintro e w' ⟨s,hC,he,hN,hF,k⟩;refine ⟨s,hC,he,?_,⟨fun q hq _ b hb hbq=>?_,hS.2⟩,k.mono (fun b hb _=>by simp [fp,hb]),?_⟩
 ·intro q hq;rcases List.mem_cons.1 hq with rfl|hq
  ·exact hN
  ·exact hk w' k q hq
 ·rcases hF b hb with h|h
  ·exact ap q hq b hbq h
  ·have:=q.lt (hR q hq) b hbq;omega
 ·intro q hq b hb;rcases List.mem_cons.1 hq with rfl|hq
  ·rcases hF b hb with h|h
   ·exact .inr (.inl ⟨p,FK,h⟩)
   ·exact .inl h
  ·exact .inr (.inl ⟨q,GR,hb⟩)
theorem Bjc {P:Program} {fn:Func} {R:Ending→World→Prop} {G D:List Nat} {w0:World} {n:Nat} {fr:Fr} {H:List Pc} (h:T ⟨P,G,D,w0,n,bodyPost P fn R⟩ fr H (.fin .ret)):T ⟨P,G,D,w0,n,bodyPost P fn R⟩ fr H (.norm []):=.mk fun a w s g=>h.h a w s g
def Ou (W:Aw) (hs:List Hz):List Hz:=hs.filter fun h=>Jh W h.Ae
theorem Beq (W:Aw) (hs:List Hz) (gb tb g t o:Nat) (A B:List Value) (a a2:Option Addr) (c c2:Nat) (cl q:Int) (F F2:List Nat) (t0:0≤W.Ap) (t1:W.Ap≤65535) (hn:∀h∈hs,Cc h.Ae=true) :
  Fn prog 340 [.slice a2 hs.length c2,.func (.func 341) #[] #[Iq gb 0 0]] [] [.ow Bn 215 (.slice a2 hs.length c2) hs F2,.row gb tb 0 [] [Iq g o 0] [],.row g t o A [.int .i64 W.Ap,.int .i64 W.size,.slice a W.Ao.length c,.int .i64 cl,.int .i64 q,.slice a2 hs.length c2] B,.ow A8 9 (.slice a W.Ao.length c) W.Ao F] (fun (_:Option Addr × Nat × List Nat)=>True)
   (fun z=>.slice z.1 (Ou W hs).length z.2.1) (fun z=>[.ow Bn 215 (.slice z.1 (Ou W hs).length z.2.1) (Ou W hs) z.2.2,.row gb tb 0 [] [Iq g o 0] [],.row g t o A [.int .i64 W.Ap,.int .i64 W.size,.slice a W.Ao.length c,.int .i64 cl,.int .i64 q,.slice a2 hs.length c2] B,.ow A8 9 (.slice a W.Ao.length c) W.Ao F]):=by
 refine Asm rfl fun w ⟨hnd,ho⟩ _ hk=>?_;refine (Xx _ (Wx FL) #[Iq gb 0 0] _ hs F2 (fun h=>!Jh W h.Ae) w ho hnd fun k hk2 wr u G hK hu=>?_).mono ?_
 ·have hr:=hk wr hK;have r1:=hr (.row gb tb 0 [] [Iq g o 0] []) FK;have r2:=hr (.row g t o A [.int .i64 W.Ap,.int .i64 W.size,.slice a W.Ao.length c,.int .i64 cl,.int .i64 q,.slice a2 hs.length c2] B) FK;obtain ⟨Fw, -,hw⟩:=(hr (.ow A8 9 (.slice a W.Ao.length c) W.Ao F) FK).2.read;obtain ⟨n0,n1⟩:=Bc.1 (hn hs[k] (List.getElem_mem hk2));refine (Bep W hs[k] gb g o u a c (.int .i64 cl) (.int .i64 q) (.slice a2 hs.length c2) G Fw t0 t1 n0 n1).val wr ?_;intro p hp;simp only [List.mem_cons,List.not_mem_nil,or_false] at hp;rcases hp with rfl|rfl|rfl|rfl
  ·exact hu
  ·exact ⟨FK,I0 r1⟩
  ·exact ⟨FK,I0 r2⟩
  ·exact ⟨_,rfl,_,rfl,hw⟩
 ·rintro e w' ⟨v',F',rfl,h1,h2,h3,h4⟩;have e:(hs.filter fun x=>!(fun h:Hz=>!Jh W h.Ae) x)=Ou W hs:=by simp [Ou]
  rw [e] at h1;exact CP
theorem Aps (W:Aw) (hs:List Hz) (g t o:Nat) (A B:List Value) (a a2:Option Addr) (c c2:Nat) (cl q:Int) (F F2:List Nat) (t0:0≤W.Ap) (t1:W.Ap≤65535) (hn:∀h∈hs,Cc h.Ae=true) :
  Fn prog 281 [Iq g o 0] [] [.row g t o A [.int .i64 W.Ap,.int .i64 W.size,.slice a W.Ao.length c,.int .i64 cl,.int .i64 q,.slice a2 hs.length c2] B,.ow Bn 215 (.slice a2 hs.length c2) hs F2,.ow A8 9 (.slice a W.Ao.length c) W.Ao F] (fun (_:Option Addr × Nat × List Nat)=>True)
   (fun _=>.tuple #[]) (fun z=>[.row g t o A [.int .i64 W.Ap,.int .i64 W.size,.slice a W.Ao.length c,.int .i64 cl,.int .i64 q,.slice z.1 (Ou W hs).length z.2.1] B,.ow Bn 215 (.slice z.1 (Ou W hs).length z.2.1) (Ou W hs) z.2.2,.ow A8 9 (.slice a W.Ao.length c) W.Ao F]):=by
 refine enter func281 rfl ntmps281 fun w0=>?_;refine go ?_;intros;refine As [0,1] [9] ?_;refine Ds 0 1 2 3 ?_;refine Ed 4 5 ?_;refine dN 6 ?_;refine oC ?_;refine Cb (Beq W hs _ _ g t o A B a a2 c c2 cl q F F2 t0 t1 hn) fun z _=>?_;refine dk ?_;refine Ed 7 8 ?_;refine dN 9 ?_;refine oS ?_;refine Tx ?_;refine dd ?_;refine Bjc ?_;exact BM
theorem Z0 {a t:Int}:Ez a t≤(gp a t).toNat:=by unfold Ez;split <;> omega
theorem We {w:Aj} {t:Int} (hg:Cu w=true):(Jo w t).next=Ci w.next ((Jm w t).length:Nat)∧(Jo w t).Am=w.Am.drop (Jm w t).length∧(Jm w t).length≤Ez w.next t+8∧Ez w.next t≤(Jm w t).length:=by
 obtain ⟨h0,h1⟩:0≤w.next∧w.next≤65535:=by
  exact EK
 have hl:w.Am.length≤8:=by
  unfold Cu at hg;simp only [Bool.and_eq_true,decide_eq_true_eq] at hg;have:=hg.1.1.2;omega
 have e1:∀k (x:Aj),(Pf k x).length=k:=by
  intro k
  induction k with
  | zero=>intro x;rfl
  | succ k ih=>intro x;simp [Pf,ih]
 have h2:=Afb (Ez w.next t) w h0 h1;have h3:=Y6 (Jc (Ez w.next t) w).Am (Jc (Ez w.next t) w).next
 have h4:=Ue (Ez w.next t) w;have h5:=Avd (Jc (Ez w.next t) w);rw [h4,List.length_drop] at h5;refine ⟨h2,?_,?_,?_⟩
 ·have e:(Jo w t).Am=(Jc (Ez w.next t) w).Am.drop (Su (Jc (Ez w.next t) w)).length:=h3.1;rw [e,h4,List.drop_drop];unfold Jm;rw [List.length_append,e1]
 ·unfold Jm;rw [List.length_append,e1];omega
 ·unfold Jm;rw [List.length_append,e1];omega
theorem Auw (w:Aj) (n:Int):Jb w n=J4 w.Am (gp w.next n).toNat:=rfl
theorem Be1 {w:Aj} {t n:Int} (hg:Cu w=true) (ht:gp w.next t≤8) (hn:Cc n=true) (h8:gp w.next n < 8) (hh:Jb w n=false) :
  (Uu n (Jo w t).next=true∧gp w.next n < ((Jm w t).length:Nat))∨(Uu n (Jo w t).next=false∧Jb (Jo w t) n=false∧gp w.next n=((Jm w t).length:Nat)+gp (Jo w t).next n):=by
 obtain ⟨e1,e2,e3, -⟩:=We (t:=t) hg;have hs:=@Z0 w.next t
 obtain ⟨n0,n1⟩:=Bc.1 hn;obtain ⟨w0,w1⟩:0≤w.next∧w.next≤65535:=by
  exact EK
 have hm:(Jm w t).length≤16:=FJ
 have hb:=Mf w.next n
 rw [Auw,e1,e2,W8];rw [Auw] at hh;generalize hM:(Jm w t).length=m at *;clear e1 e2 e3 hs hM hg ht;by_cases hc:gp w.next n < (m:Nat)
 ·left;refine ⟨?_,hc⟩;unfold Uu Gj gp Ci at *;simp only [Bool.and_eq_true,decide_eq_true_eq];omega
 ·right;have e:gp w.next n=m+gp (Ci w.next m) n:=by unfold gp Ci at *;omega
  refine ⟨?_,?_,e⟩
  ·have:¬(1≤gp n (Ci w.next m)∧gp n (Ci w.next m)≤32767):=by unfold gp Ci at *;omega
   unfold Uu Gj;exact EN
  ·have hb2:=Mf (Ci w.next m) n;rw [show m+(gp (Ci w.next m) n).toNat=(gp w.next n).toNat by omega];exact hh
theorem Ani {w:Aj} {t:Int} (hg:Cu w=true) (ht:gp w.next t≤8) {l:List Ay} (hl:∀q∈l,Cc q.Ae=true∧gp w.next q.Ae < 8∧Jb w q.Ae=false):Ek l (Jo w t)=Aal l (Jo w t).next:=by
 unfold Ek Aal;refine List.filter_congr fun q hq=>?_;obtain ⟨a,b,c⟩:=hl q hq;rcases Be1 hg ht a b c with ⟨h, -⟩|⟨h,h2,h3⟩
 ·simp [h]
 ·have:=Mf (Jo w t).next q.Ae
  simp [h,h2,show gp (Jo w t).next q.Ae < 8 by omega]
theorem An6 {c d:Int} {r q:Ay} (h:Va c d r=some q):q.Ae=r.Ae:=by
 unfold Va at h
 split at h
 ·cases h;rfl
 ·split at h
  ·cases h
  ·split at h <;> cases h <;> rfl
theorem Bfv {c:Int} {r:Ay} {n:Int} (h:Vl c r=some n):n=r.Ae:=by
 unfold Vl at h
 split at h
 ·cases h
 ·split at h <;> cases h <;> rfl
theorem Y7 {r:Az} (hg:Mv r) {q:Ay} (hq:q∈r.Al):Cc q.Ae=true∧gp r.Aa.next q.Ae < 8∧Jb r.Aa q.Ae=false:=by
 obtain ⟨-, -,h3, -⟩:=Dg.1 hg.q;have:=Ew.1 (h3 q hq);exact ⟨this.n,this.g,hg.f q hq⟩
theorem Adb {r:Az} {d:Int} (hg:Mv r) {q:Ay} (hq:q∈Ok r d):Cc q.Ae=true∧gp r.Aa.next q.Ae < 8∧Jb r.Aa q.Ae=false:=by
 obtain ⟨q',hq',h⟩:=List.mem_filterMap.1 hq;rw [An6 h];exact Y7 hg hq'
theorem Ae0 {r:Az} (hg:Mv r) {n:Int} (hn:n∈C8 r):Cc n=true∧gp r.Aa.next n < 8:=by
 obtain ⟨q',hq',h⟩:=List.mem_filterMap.1 hn;rw [Bfv h];exact ⟨(Y7 hg hq').1,(Y7 hg hq').2.1⟩
theorem Iw {w:Aj} (hg:Cu w=true):0≤w.next∧w.next≤65535:=by
 exact EK
theorem Agp {r:Az} (hg:Mv r) (h:C8 r≠[]):gp r.Aa.next (Dl (C8 r))≤8∧Cc (Dl (C8 r))=true:=by
 unfold Dl;have hm:(C8 r).getLastD 0∈C8 r:=by
  rw [List.getLastD_eq_getLast?,List.getLast?_eq_some_getLast h];exact List.getLast_mem h
 obtain ⟨a,b⟩:=Ae0 hg hm;refine ⟨?_,Wv _ _⟩;obtain ⟨n0,n1⟩:=Bc.1 a;obtain ⟨w0,w1⟩:=Iw hg.w;unfold gp Ci at *;omega
theorem Af3 {r:Az} {d:Int} (hg:Mv r) (h:C8 r≠[]):Ek (Ok r d) (Jo r.Aa (Dl (C8 r)))=Aal (Ok r d) (Jo r.Aa (Dl (C8 r))).next :=
 Ani hg.w (Agp hg h).1 fun _ hq=>Adb hg hq
theorem Bcr {P:Program} {f:FuncId} {α:Type} {E:Br α} {v:Value} {xs:List α} {F:List Nat} {rest:List Value} {A M:List Pc} {σ:Type} {C:σ→Prop} {w:σ→Value} {N:σ→List Pc} (h:∀a c,Fn P f (.slice a xs.length c::rest) (.sl E (.slice a xs.length c) xs F::A) M C w N):Fn P f (v::rest) (.sl E v xs F::A) M C w N:=fun w0 hH hS=>by
 obtain ⟨-,hs⟩:=hH (.sl E v xs F) FK;obtain ⟨a,c,rfl⟩:=hs.slice;exact h a c w0 hH hS
theorem Awt (d:Int):FV 437 [.int .i64 d] [] (.bool (Bao d)):=by
 refine enter func437 rfl ntmps437 fun w0=>?_;refine go ?_;refine ce (fun w s=>Ik _ _ _ _) ?_;exact AA
theorem Ys (r:Ay) (base:Int) (b0:0≤base) (b1:base≤65535):FV 320 [.agg #[.int .i64 r.Ae,.int .i64 r.state,.int .i64 r.Ch,.int .i64 r.D5],.int .i64 base] [] (.bool (N1 base r)):=by
 refine enter func320 rfl ntmps320 fun w0=>?_;refine go ?_;intros;refine ce (fun w s=>Jj _ _) ?_;cases g1:Cc r.Ae
 ·refine go ?_;refine ret () trivial ?_;simp [N1,g1,Ux]
 obtain ⟨n0,n1⟩:=Bc.1 g1;refine go ?_;refine ce (fun w s=>Qg _ _ _ FJ FJ FJ FJ) ?_;refine go ?_;refine Dx rfl rfl (fun g2=>?_) (fun g2=>?_)
 rotate_left
 ·refine go ?_;refine ret () trivial ?_;simp [N1,g2,Ux]
 refine go ?_;refine ce (fun w s=>Ik _ _ _ _) ?_;cases g3:Gj 1 r.state 3
 ·refine go ?_;refine ret () trivial ?_;simp [N1,g3,Ux]
 refine go ?_;refine ce (fun w s=>Ik _ _ _ _) ?_;cases g4:Gj 0 r.Ch 10007
 ·refine go ?_;refine ret () trivial ?_;simp [N1,g4,Ux]
 refine go ?_;refine ce (fun w s=>Ik _ _ _ _) ?_;refine go ?_;refine ret () trivial ?_;simp [N1,g1,g2,g3,g4,Ux]
theorem Rx (l:List Ay) (base:Int) (v:Value) (F:List Nat):FV 264 [v,.int .i64 base] [.sl Av v l F] (.bool (M0 l base)):=by
 refine Bcr (fun a c=>?_);refine enter func264 rfl ntmps264 fun w0=>?_;refine go ?_;refine ce (fun w s=>Jj _ _) ?_;cases g1:Cc base
 ·refine go ?_;refine ret () trivial ?_;simp [M0,g1,Ux]
 obtain ⟨b0,b1⟩:=Bc.1 g1;refine go ?_;refine Ax rfl (fun g2=>?_) (fun g2=>?_)
 ·refine go ?_;refine ret () trivial ?_;rw [show M0 l base=false by unfold M0;rw [decide_eq_false FJ];simp];rfl
 refine go ?_;refine D8 [0,1,4,15,16] (fun k:Nat=>[(17,.int .i64 (k:Nat))]) (fun k=>k≤l.length∧∀j,j < k→Ajz l base j=true) (fun k=>l.length - k) 0 ⟨Nat.zero_le _,fun j h=>by omega⟩ fun k hk=>?_;obtain ⟨hk1,hk2⟩:=hk;refine go ?_;refine Ax rfl (fun h3=>?_) (fun h3=>?_)
 ·have hk3:k < l.length:=FJ
  have bad:Ajz l base k=false→M0 l base=false:=fun h=>Auk hk3 h;have hck:=Wz (base:=base) hk3;refine I9 (xs:=l) k ?_;rintro hi b o e;rw [e];have p4:0 < k→∃h:k - 1 < l.length,Azg base l[k - 1]:=fun h0=>by
   have hk4:k - 1 < l.length:=FJ
   have hp:=hk2 (k - 1) FJ;rw [Wz hk4] at hp;simp only [Bool.and_eq_true] at hp;exact ⟨hk4,Ew.1 hp.1⟩
  refine go ?_;intros;cases g4:N1 base l[k]
  ·skip
   refine As [0] [] ?_;refine Ed 0 1 ?_;refine dN 2 ?_;refine oC ?_;refine Cb (Ys l[k] base b0 b1) fun _ _=>?_;rw [g4];refine dk ?_;refine Ed 3 4 ?_;refine ds 5 ?_;refine ds 6 ?_;refine ds 7 ?_;refine dsu 8 ?_;refine dsu 9 ?_;refine dsu 10 ?_;refine dsu 11 ?_;refine dsu 12 ?_;refine dsu 13 ?_;refine dsu 14 ?_;refine dsu 15 ?_;refine dsu 16 ?_;refine dsu 17 ?_;refine dsu 18 ?_;refine dsu 19 ?_;refine dsu 20 ?_;refine ds 21 ?_;refine dt 22 ?_;refine dd ?_;exact EI
  obtain ⟨q0,q1⟩:=Bc.1 (Ew.1 g4).n;by_cases hk0:0 < k
  ·obtain ⟨hk4,p5⟩:=p4 hk0;obtain ⟨p0,p1⟩:=Bc.1 p5.n;rw [←e];refine I9 (xs:=l) (k - 1) ?_;rintro hi5 b5 o5 e5;rw [e5];refine As [0,1] [] ?_;refine Ed 0 1 ?_;refine dN 2 ?_;refine oC ?_;refine Cb (Ys l[k] base b0 b1) fun _ _=>?_;rw [g4];refine dk ?_;refine Ed 3 4 ?_;refine Dr 5 ?_;refine Dr 6 ?_;rw [decide_eq_true (show (0:Int) < k by omega)];refine Dr 7 ?_;refine Dr 8 ?_;refine Dr 9 ?_;refine Dr 10 ?_;refine Dr 11 ?_;rw [show (k:Int) - 1=((k - 1:Nat):Int) by omega];refine Dr 12 ?_;refine Dr 13 ?_;refine Dr 14 ?_;refine Dr 16 ?_;refine Dr 17 ?_;refine Dr 18 ?_;refine d1g 15 ?_;apply On.h
   refine oC ?_;refine ce (fun w s=>Qg _ _ _ FJ FJ FJ FJ) ?_;refine dk ?_;refine d1g 19 ?_;apply On.h;refine oC ?_;refine ce (fun w s=>Qg _ _ _ FJ FJ FJ FJ) ?_;refine dk ?_;refine Dr 20 ?_;refine Dr 21 ?_;refine dt 22 ?_;refine dd ?_;refine go ?_;refine Ax rfl (fun h6=>?_) (fun h6=>?_)
   ·exact BF
   ·refine go ?_;refine Ce (k+1) ⟨FJ,fun j hj=>?_⟩ FJ;rcases Nat.lt_or_eq_of_le (Nat.lt_succ_iff.1 hj) with h|rfl
    ·exact hk2 j h
    ·rw [hck,g4,decide_eq_false h6];simp
  ·have hz:k=0:=FJ
   refine As [0] [] ?_;refine Ed 0 1 ?_;refine dN 2 ?_;refine oC ?_;refine Cb (Ys l[k] base b0 b1) fun _ _=>?_;rw [g4];refine dk ?_;refine Ed 3 4 ?_;refine Dr 5 ?_;refine Dr 6 ?_;rw [decide_eq_false (show ¬(0:Int) < k by omega)];refine Dr 7 ?_;refine ds 8 ?_;refine ds 9 ?_;refine ds 10 ?_;refine ds 11 ?_;refine ds 12 ?_;refine ds 13 ?_;refine ds 14 ?_;refine ds 15 ?_;refine ds 16 ?_;refine ds 17 ?_;refine ds 18 ?_;refine ds 19 ?_;refine ds 20 ?_;refine Dr 21 ?_;refine dt 22 ?_;refine dd ?_;refine go ?_;refine Ce (k+1) ⟨FJ,fun j hj=>?_⟩ FJ
   rcases Nat.lt_or_eq_of_le (Nat.lt_succ_iff.1 hj) with h|rfl
   ·exact hk2 j h
   ·rw [hck,g4,decide_eq_true hz];simp
 have hkl:k=l.length:=FJ
 refine go ?_;refine ret () trivial ?_;rw [Aou g1 FJ (hkl▸hk2)];rfl
theorem Aw6 (l:List Ay) (base:Int) (v:Value) (F:List Nat):FV 237 [v,.int .i64 base] [.sl Av v l F] (.bool (M0 l base)):=by
 refine Bcr (fun a c=>?_);refine enter func237 rfl ntmps237 fun w0=>?_;refine go ?_;refine ce (fun w s=>Pq _ _) ?_;cases g1:Cc base
 ·refine go ?_;refine ret () trivial ?_;simp [M0,g1,Ux]
 obtain ⟨b0,b1⟩:=Bc.1 g1;refine go ?_;refine Ax rfl (fun g2=>?_) (fun g2=>?_)
 ·refine go ?_;refine ret () trivial ?_;rw [show M0 l base=false by unfold M0;rw [decide_eq_false FJ];simp];rfl
 refine go ?_;refine D8 [0,1,4] (fun k:Nat=>[(5,.int .i64 (k:Nat))]) (fun k=>k≤l.length∧∀j,j < k→Ajz l base j=true) (fun k=>l.length - k) 0 ⟨Nat.zero_le _,fun j h=>by omega⟩ fun k hk=>?_;obtain ⟨hk1,hk2⟩:=hk;refine go ?_;refine Ax rfl (fun h3=>?_) (fun h3=>?_)
 ·have hk3:k < l.length:=FJ
  have bad:Ajz l base k=false→M0 l base=false:=fun h=>Auk hk3 h;have hck:=Wz (base:=base) hk3;refine I9 (xs:=l) k ?_;rintro hi b o e;rw [e];have p4:0 < k→∃h:k - 1 < l.length,Azg base l[k - 1]:=fun h0=>by
   have hk4:k - 1 < l.length:=FJ
   have hp:=hk2 (k - 1) FJ;rw [Wz hk4] at hp;simp only [Bool.and_eq_true] at hp;exact ⟨hk4,Ew.1 hp.1⟩
  refine go ?_;intros;refine ce (fun w s=>Pq _ _) ?_;cases g5:Cc l[k].Ae
  ·refine go ?_;refine ret () trivial ?_;rw [bad (by rw [hck,show N1 base l[k]=false by unfold N1;simp [g5]];rfl)];rfl
  obtain ⟨q0,q1⟩:=Bc.1 g5;refine go ?_;refine ce (fun w s=>Ju _ _ _ FJ FJ) ?_;refine go ?_;refine Dx rfl rfl (fun g6=>?_) (fun g6=>?_)
  ·refine go ?_;refine ret () trivial ?_;rw [bad (by rw [hck,show N1 base l[k]=false by unfold N1;rw [decide_eq_false FJ];simp];rfl)];rfl
  refine go ?_;refine ce (fun w s=>Ku _ _ _ _) ?_;cases g7:Gj 1 l[k].state 3
  ·refine go ?_;refine ret () trivial ?_;rw [bad (by rw [hck,show N1 base l[k]=false by unfold N1;simp [g7]];rfl)];rfl
  refine go ?_;refine ce (fun w s=>Ku _ _ _ _) ?_;cases g8:Gj 0 l[k].Ch 10007
  ·refine go ?_;refine ret () trivial ?_;rw [bad (by rw [hck,show N1 base l[k]=false by unfold N1;simp [g8]];rfl)];rfl
  refine go ?_;refine ce (fun w s=>Ku _ _ _ _) ?_;cases g9:Gj 0 l[k].D5 3
  ·refine go ?_;refine ret () trivial ?_;rw [bad (by rw [hck,show N1 base l[k]=false by unfold N1;simp [g9]];rfl)];rfl
  refine go ?_;have g4:N1 base l[k]=true:=by unfold N1;rw [g5,g7,g8,g9,decide_eq_true FJ];rfl
  by_cases hk0:0 < k
  ·obtain ⟨hk4,p5⟩:=p4 hk0;obtain ⟨p0,p1⟩:=Bc.1 p5.n;rw [←e];refine I9 (xs:=l) (k - 1) ?_;rintro hi5 b5 o5 e5;rw [e5];refine As [1,0] [] ?_;refine Ed 0 1 ?_;rw [decide_eq_true (show (0:Int) < k by omega)];refine dt 2 ?_;refine Dr 3 ?_;refine Dr 4 ?_;refine Dr 5 ?_;refine Dr 6 ?_;rw [show (k:Int) - 1=((k - 1:Nat):Int) by omega];refine Dr 7 ?_;refine Dr 8 ?_;refine Dr 9 ?_;refine Dr 11 ?_;refine Dr 12 ?_;refine Dr 13 ?_;refine d1g 10 ?_;apply On.h;refine oC ?_;refine ce (fun w s=>Ju _ _ _ FJ FJ) ?_;refine dk ?_;refine d1g 14 ?_;apply On.h;refine oC ?_
   refine ce (fun w s=>Ju _ _ _ FJ FJ) ?_;refine dk ?_;refine Dr 15 ?_;refine dt 16 ?_;refine dd ?_;refine go ?_;refine Ax rfl (fun h6=>?_) (fun h6=>?_)
   ·exact BF
   ·refine go ?_;refine Ce (k+1) ⟨FJ,fun j hj=>?_⟩ FJ;rcases Nat.lt_or_eq_of_le (Nat.lt_succ_iff.1 hj) with h|rfl
    ·exact hk2 j h
    ·rw [hck,g4,decide_eq_false h6];simp
  ·have hz:k=0:=FJ
   refine As [0] [] ?_;refine Ed 0 1 ?_;rw [decide_eq_false (show ¬(0:Int) < k by omega)];refine dt 2 ?_;refine ds 3 ?_;refine ds 4 ?_;refine ds 5 ?_;refine ds 6 ?_;refine ds 7 ?_;refine ds 8 ?_;refine ds 9 ?_;refine ds 10 ?_;refine ds 11 ?_;refine ds 12 ?_;refine ds 13 ?_;refine ds 14 ?_;refine ds 15 ?_;refine dt 16 ?_;refine dd ?_;refine go ?_;refine Ce (k+1) ⟨FJ,fun j hj=>?_⟩ FJ;rcases Nat.lt_or_eq_of_le (Nat.lt_succ_iff.1 hj) with h|rfl
   ·exact hk2 j h
   ·rw [hck,g4,decide_eq_true hz];simp
 have hkl:k=l.length:=FJ
 refine go ?_;refine ret () trivial ?_;rw [Aou g1 FJ (hkl▸hk2)];rfl
section
variable {c:Cx} {fr:Fr} {H:List Pc} {Φ:Gl}
theorem Es {v:Value} {x:Az} {F:List Nat} (h:∀(a1:Option Addr) (c1:Nat) (F1:List Nat) (a2:Option Addr) (c2:Nat) (F2:List Nat),v=.agg #[.bool x.Be,.int .i64 x.Ai,.int .i64 x.Aa.next,.slice a1 x.Aa.Am.length c1,.slice a2 x.Al.length c2]→x.Aa.Am.length≤maxLen→x.Al.length≤maxLen→T c fr (.sl B9 (.slice a1 x.Aa.Am.length c1) x.Aa.Am F1::.sl Av (.slice a2 x.Al.length c2) x.Al F2::H) Φ) (hm:.isv Bi v x F∈H:=by exact A9):T c fr H Φ:=.mk fun a w s g=>by
 exact AR
theorem Ev (x:Az) {a1:Option Addr} {c1:Nat} {F1:List Nat} {a2:Option Addr} {c2:Nat} {F2:List Nat}  (h:T c fr (.isv Bi (.agg #[.bool x.Be,.int .i64 x.Ai,.int .i64 x.Aa.next,.slice a1 x.Aa.Am.length c1,.slice a2 x.Al.length c2]) x (F1++F2)::H) Φ) (m1:.sl B9 (.slice a1 x.Aa.Am.length c1) x.Aa.Am F1∈H:=by exact A9) (m2:.sl Av (.slice a2 x.Al.length c2) x.Al F2∈H:=by exact A9):T c fr H Φ:=.mk fun a w s g=>by
 refine h.h a w (s.add (N:=[_]) (Below.refl _ _) JA ⟨FK,trivial⟩ fun q hq b hb=>?_) g;obtain rfl:=List.mem_singleton.1 hq;simp only [Pc.F,List.mem_append] at hb;rcases hb with hb|hb
 ·exact .inr ⟨rfl,_,m1,rfl,hb⟩
 ·exact .inr ⟨rfl,_,m2,rfl,hb⟩
theorem Ij {v:Value} {x:Az} {F:List Nat} {S:List Pc} (h:∀(a1:Option Addr) (c1:Nat) (F1:List Nat) (a2:Option Addr) (c2:Nat) (F2:List Nat),v=.agg #[.bool x.Be,.int .i64 x.Ai,.int .i64 x.Aa.next,.slice a1 x.Aa.Am.length c1,.slice a2 x.Al.length c2]→x.Aa.Am.length≤maxLen→x.Al.length≤maxLen→T c fr (.ow B9 275 (.slice a1 x.Aa.Am.length c1) x.Aa.Am F1::.ow Av 250 (.slice a2 x.Al.length c2) x.Al F2::S) Φ) (hp:Co H (.own By v x F) S:=by exact De):T c fr H Φ:=.mk fun a w s g=>by
 obtain ⟨hn,cs,rfl,v1,v2,G1,G2,rfl,h1,h2,rfl⟩:=(s.pick hp).on (.own By v x F) FK;obtain ⟨a1,c1,rfl⟩:=h1.slice;have l1:=h1.len;obtain ⟨a2,c2,rfl⟩:=h2.slice;have l2:=h2.len;exact (h a1 c1 G1 a2 c2 G2 rfl  l1 l2).h a w (s.mer (M:=[.own By _ x _]) (N:=[.ow B9 _ _ _ G1,.ow Av _ _ _ G2]) (.cons hp .nil) (fun _ _=>⟨Q8 ⟨(Mk hn),h1⟩ (Q8 ⟨Acq hn,h2⟩ (Aux)),GD⟩) HB) g
theorem I6 (x:Az) {a1:Option Addr} {c1:Nat} {F1:List Nat} {a2:Option Addr} {c2:Nat} {F2:List Nat} {S1 S2:List Pc}  (h:T c fr (.own By (.agg #[.bool x.Be,.int .i64 x.Ai,.int .i64 x.Aa.next,.slice a1 x.Aa.Am.length c1,.slice a2 x.Al.length c2]) x (F1++F2)::S2) Φ) (m1:Co H (.ow B9 275 (.slice a1 x.Aa.Am.length c1) x.Aa.Am F1) S1:=by exact De) (m2:Co S1 (.ow Av 250 (.slice a2 x.Al.length c2) x.Al F2) S2:=by exact De)  : T c fr H Φ:=.mk fun a w s g =>
 h.h a w (s.mer (M:=[.ow B9 _ _ _ F1,.ow Av _ _ _ F2]) (N:=[.own By _ x (F1++F2)]) (.cons m1 (.cons m2 (.nil))) (fun hk hn=>⟨En ⟨GD,_,rfl,_,_,_,_,rfl,(Q9 hk).2,(Q9 (Ie hk)).2,rfl⟩,GD⟩) HB) g
theorem Kg {a:Option Addr} {n cp:Nat} {xs:List Az} {F:List Nat} (i:Nat) (h:∀(hi:i < xs.length) (b o:Nat) (a1:Option Addr) (c1:Nat) (F1:List Nat) (a2:Option Addr) (c2:Nat) (F2:List Nat),a=some ⟨b,o,none⟩→xs[i].Aa.Am.length≤maxLen→xs[i].Al.length≤maxLen→T c fr (.cel b (o+i * 5) [.bool xs[i].Be,.int .i64 xs[i].Ai,.int .i64 xs[i].Aa.next,.slice a1 xs[i].Aa.Am.length c1,.slice a2 xs[i].Al.length c2]::.sl B9 (.slice a1 xs[i].Aa.Am.length c1) xs[i].Aa.Am F1::.sl Av (.slice a2 xs[i].Al.length c2) xs[i].Al F2::H) Φ) (hm:.sl Bi (.slice a n cp) xs F∈H:=by exact A9) (hi:i < xs.length:=by omega):T c fr H Φ:=.mk fun ac w s g=>by
 obtain ⟨b,o,cs,G,ha,hrep,hG,hb,hne,hr⟩:=Y9 (s.get hm) i hi;obtain ⟨v1,v2,G1,G2,rfl,h1,h2,rfl⟩:=hrep;obtain ⟨a1,c1,rfl⟩:=h1.slice;have l1:=h1.len;obtain ⟨a2,c2,rfl⟩:=h2.slice;have l2:=h2.len;have t2:=s.ro (p:=.sl _ _ _ _) hm rfl rfl ⟨FM,h2⟩ HG;have t1:=t2.ro (p:=.sl _ _ _ _) (List.mem_cons_of_mem _ hm) rfl rfl ⟨FM,h1⟩ HG
 exact (h hi b o a1 c1 G1 a2 c2 G2 ha  l1 l2).h ac w (t1.ro (List.mem_cons_of_mem _ (List.mem_cons_of_mem _ hm)) rfl rfl ⟨hne,hr⟩ HD) g
end
theorem An1 {c:Cx} {fr:Fr} {H S:List Pc} {Φ:Gl} {g t:Nat} {cs:List Value} (h:T c fr (.cel g 0 cs::S) Φ) (h0:cs≠[]) (hp:Co H (.row g t 0 [] cs []) S:=by exact De):T c fr H Φ:=.mk fun ac w s ag=>by
 have s1:=s.pick hp;exact h.h ac w (s1.conv rfl ⟨h0,I0 (s1.on (.row g t 0 [] cs []) FK)⟩ (fun b hb=>hb)) ag
theorem Avj {c:Cx} {fr:Fr} {H S:List Pc} {Φ:Gl} {g t o k:Nat} {A B L:List Value} (X cs Y:List Value) (h:T c fr (.row g t (o+k) (A++X) cs (Y++B)::S) Φ) (hL:L=X++cs++Y:=by rfl) (hk:X.length=k:=by rfl) (hp:Co H (.row g t o A L B) S:=by exact De):T c fr H Φ:=.mk fun ac w s ag=>by
 subst hL hk;have s1:=s.pick hp;obtain ⟨hA,hr⟩:=s1.on (.row g t o A (X++cs++Y) B) FK;exact h.h ac w (s1.conv rfl ⟨by simp [hA],by simpa [List.append_assoc] using hr⟩ (fun b hb=>hb)) ag
theorem Ajg {c:Cx} {fr:Fr} {H S:List Pc} {Φ:Gl} {g t o k:Nat} {A B L:List Value} (X cs Y:List Value) (h:T c fr (.row g t o A L B::S) Φ) (hL:L=X++cs++Y:=by rfl) (hk:X.length=k:=by rfl) (hp:Co H (.row g t (o+k) (A++X) cs (Y++B)) S:=by exact De):T c fr H Φ:=.mk fun ac w s ag=>by
 subst hL hk;have s1:=s.pick hp;obtain ⟨hA,hr⟩:=s1.on (.row g t (o+X.length) (A++X) cs (Y++B)) FK;exact h.h ac w (s1.conv rfl ⟨JW,by simpa [List.append_assoc] using hr⟩ (fun b hb=>hb)) ag
theorem Ad3 {p:Pc}:∀(A:List Pc),Mc (p::A) A
 | []=>.nil
 | _::r=>.cons (.there .here) (Ad3 r)
theorem Aoj (fid:FuncId) (bd caps:List Value) (A:List Pc) (hA:A.all (fun p=>!p.mu)=true) (xs:List Ay) (a:Option Addr) (c:Nat) (F:List Nat) (p:Ay→Bool) (hb:Si prog fid=true) (hl:xs.length≤1000000000)
  (hp:∀x∈xs,∀w,Om A w→Calls prog fid (bd++[(.agg #[.int .i64 (x).Ae,.int .i64 (x).state,.int .i64 (x).Ch,.int .i64 (x).D5]:Value)]++caps).toArray w (RB (.bool (p x)) w)) :
  Fn prog 321 [.slice a xs.length c,.func (.func fid) bd.toArray caps.toArray] (.sl Av (.slice a xs.length c) xs F::A) [] (fun (_:Unit)=>True) (fun _=>.int .i64 (S0 p xs)) (fun _=>[]):=by
 refine enter func321 rfl ntmps321 (fun w0=>?_) rfl GQ .nil;refine go ?_;refine D8 [0,1,4,7] (fun k:Nat=>[(8,.int .i64 (k:Nat))]) (fun k=>k≤xs.length∧∀j (_:j < k) (hj:j < xs.length),p xs[j]=false) (fun k=>xs.length - k) 0 ⟨Nat.zero_le _,fun j h=>by omega⟩ fun k hk=>?_;obtain ⟨hk1,hk2⟩:=hk;refine go ?_;refine Ax rfl (fun h5=>?_) (fun h5=>?_)
 ·have hh:k < xs.length:=FJ
  refine go ?_;refine I9 (xs:=xs) k ?_;rintro hi b o e;rw [e];refine go ?_;apply wO;refine Acs rfl rfl hb X8 ?_;refine cb (fun w st=>hp xs[k] (List.getElem_mem hh) w (fun q hq=>st.on q GR)) ?_;cases hpk:p xs[k]
  ·refine go ?_;refine Xo ?_;refine Ce (hH:=Lz _) (k+1) ⟨hh,fun j hj h=>?_⟩ FJ;rcases Nat.lt_or_eq_of_le (Nat.lt_succ_iff.1 hj) with h2|rfl
   ·exact hk2 j h2 h
   ·exact hpk
  ·refine go ?_;refine ret () trivial ?_;rw [Pp hh hk2 hpk];rfl
 ·obtain rfl:k=xs.length:=FJ
  exact BR
structure Ay8 where
 i:Nat
 j:Nat
 zs:List Ay
theorem Aoh (fid:FuncId) (bd caps:List Value) (A:List Pc) (hA:A.all (fun p=>!p.mu)=true) (xs:List Ay) (a:Option Addr) (c:Nat) (F:List Nat) (p:Ay→Bool) (hb:Si prog fid=true) (hl:xs.length≤1000000000)
  (hp:∀x∈xs,∀w,Om A w→Calls prog fid (bd++[(.agg #[.int .i64 (x).Ae,.int .i64 (x).state,.int .i64 (x).Ch,.int .i64 (x).D5]:Value)]++caps).toArray w (RB (.bool (p x)) w)) :
  Fn prog 386 [.slice a xs.length c,.func (.func fid) bd.toArray caps.toArray] A [.ow Av 250 (.slice a xs.length c) xs F] (fun (_:Option Addr × Nat × List Nat)=>True)
   (fun z=>.slice z.1 (xs.filter fun x=>!p x).length z.2.1) (fun z=>[.ow Av 250 (.slice z.1 (xs.filter fun x=>!p x).length z.2.1) (xs.filter fun x=>!p x) z.2.2]):=by
 refine enter func386 rfl ntmps386 (fun w0=>?_) rfl GQ (.cons .nil);refine go ?_;refine cb (fun w st=>by
  obtain ⟨Fw, -,hw⟩:=(st.get (p:=.ow Av 250 (.slice a xs.length c) xs F) FK).2.read;refine (Aoj fid bd caps A hA xs a c Fw p hb hl hp).val w ?_ GQ;intro q hq;rcases List.mem_cons.1 hq with rfl|hq
  ·exact ⟨FM,hw⟩
  ·exact st.on q GR) ?_
 by_cases hany:xs.any p=true
 ·obtain ⟨i0,hi0,hfx,hpi,hfl⟩:=Zo hany;rw [hfx];refine An0 (xs:=xs) Dp (by rintro rfl;simp at hi0) ?_;rintro g rfl rfl - hc1 hc2;refine go ?_;refine Cj [0,1,4] (fun s:Ay8=>[(5,.int .i64 (s.i:Nat)),(6,.int .i64 (s.j:Nat))]) (fun s=>[.ow Av 250 (.slice (some ⟨g,0,none⟩) xs.length c) s.zs [g]]) (fun s=>s.zs.length=xs.length∧s.j≤xs.length∧s.i < s.j∧s.zs.take s.i=(xs.take s.j).filter (fun x=>!p x)∧s.zs.drop s.j=xs.drop s.j) (fun s=>xs.length - s.j) ⟨i0,i0+1,xs⟩ ⟨rfl,hi0,Nat.lt_succ_self _,by rw [Da hi0 (by simp [hpi]),hfl],rfl⟩ fun s hs=>?_;obtain ⟨i,j,zs⟩:=s;obtain ⟨h1,h2,h3,h4,h5⟩:=hs
  dsimp only at h1 h2 h3 h4 h5 ⊢;refine go ?_;refine Ax rfl (fun h6=>?_) (fun h6=>?_)
  ·have hj:j < xs.length:=FJ
   have hjz:j < zs.length:=FJ
   have hx:zs[j]=xs[j]:=by
    exact EV
   have hdz:zs.drop (j+1)=xs.drop (j+1):=by
    rw [←List.drop_drop,h5,List.drop_drop]
   refine go ?_;refine P5 (m:=4) Dp j ?_ FP rfl hjz;rintro _ g2 A2 cs2 B2 e1 e2 hc3 hh;cases e1;obtain ⟨rfl, -⟩:=hc3 w0;refine go ?_;intros;refine Pd zs[j] hh hc3 ?_;rw [List.set_getElem_self,hx];apply wO;refine Acs rfl rfl hb X8 ?_;refine cb (fun w st=>hp xs[j] (List.getElem_mem hj) w (fun q hq=>st.on q GR)) ?_;cases hpj:p xs[j]
   ·refine go ?_;refine P5 (m:=4) Dp i ?_ FP rfl FJ;rintro _ g3 A3 cs3 B3 e1 e2 hc4 hh3;cases e1;obtain ⟨rfl, -⟩:=hc4 w0;refine go ?_;refine Pd xs[j] hh3 (fun w=>⟨rfl,rfl⟩) ?_;refine Ce (hH:=.cons .here (Ad3 _)) (⟨i+1,j+1,zs.set i xs[j]⟩:Ay8) ⟨by simp [h1],hj,Nat.succ_lt_succ h3,?_,?_⟩ JF
    ·exact EH
    ·dsimp only;rw [List.drop_set_of_lt FJ,hdz]
   ·refine go ?_;refine Ce (hH:=.cons .here (Ad3 _)) (⟨i,j+1,zs⟩:Ay8) ⟨h1,hj,Nat.lt_succ_of_lt h3,?_,hdz⟩ JF;dsimp only;rw [Da hj (by simp [hpj]),h4]
  ·obtain rfl:j=xs.length:=FJ
   have h4':zs.take i=xs.filter fun x=>!p x:=by rw [h4,List.take_length]
   have hil:(xs.filter fun x=>!p x).length=i:=by rw [←h4',List.length_take];omega
   refine go ?_;apply wO;apply oc;rfl;exact Ln (i:=i) rfl rfl rfl FJ FJ FJ;refine go ?_;apply wO;refine Au5 (z0:=⟨0,0,0,0⟩) (n:=xs.length) (cp:=c) (i:=i) (g:=g) Dp (fun w=>⟨rfl,rfl⟩) FM rfl rfl h3 h1.symm FP ?_;refine go ?_;refine An4 (xs:=zs.take i++List.replicate (xs.length - i) ⟨0,0,0,0⟩) i (fun F2=>?_) HW;rw [List.take_left' GA,h4'];apply wO;apply oc;rfl;exact P9 (i:=i) rfl rfl rfl FJ FJ
   refine go ?_;subst hil;refine ret (_,c,F2) trivial rfl
 ·obtain ⟨hfx,hfl⟩:=Acc hany;rw [hfx,hfl];refine go ?_;refine ret (a,c,F) trivial rfl
theorem Ay5 (fid:FuncId) (bd caps:List Value) (A:List Pc) (hA:A.all (fun p=>!p.mu)=true) (xs:List Ay) (a:Option Addr) (c:Nat) (F:List Nat) (p:Ay→Bool) (hb:Si prog fid=true) (hl:xs.length≤1000000000)
  (hp:∀x∈xs,∀w,Om A w→Calls prog fid (bd++[(.agg #[.int .i64 (x).Ae,.int .i64 (x).state,.int .i64 (x).Ch,.int .i64 (x).D5]:Value)]++caps).toArray w (RB (.bool (p x)) w)) :
  Fn prog 265 [.slice a xs.length c,.func (.func fid) bd.toArray caps.toArray] (.sl Av (.slice a xs.length c) xs F::A) [] (fun (_:Unit)=>True) (fun _=>.bool (xs.any p)) (fun _=>[]):=by
 refine enter func265 rfl ntmps265 (fun w0=>?_) rfl GQ .nil;refine go ?_;refine cb (fun w st=>(Aoj fid bd caps A hA xs a c F p hb hl hp).val w (fun q hq=>st.on q (by simpa using hq)) GQ) ?_;refine go ?_;refine ret () trivial ?_;rw [Ud];rfl
theorem Bfg (x:Aj) (r:Ay) (g:Nat) (b:Bool) (ck:Int) (q:Value) (a1:Option Addr) (c1:Nat) (F:List Nat) (h0:0≤x.next) (h1:x.next≤65535) (n0:0≤r.Ae) (n1:r.Ae≤65535):FV 266 [.agg #[.int .i64 r.Ae,.int .i64 r.state,.int .i64 r.Ch,.int .i64 r.D5],Iq g 0 0] [.cel g 0 [.bool b,.int .i64 ck,.int .i64 x.next,.slice a1 x.Am.length c1,q],.isv Bh (.agg #[.int .i64 x.next,.slice a1 x.Am.length c1]) x F] (.bool (Jb x r.Ae)):=by
 refine enter func266 rfl ntmps266 fun w0=>?_;refine go ?_;intros;refine Cb (Ab0 x r.Ae _ F h0 h1 n0 n1) fun _ _=>?_;exact AA
theorem Uz (x:Az) (v:Value) (F:List Nat):FV 198 [v] [.isv Bi v x F] (.bool (Bx x)):=by
 refine enter func198 rfl ntmps198 fun w0=>?_;refine Es ?_;rintro a1 c1 F1 a2 c2 F2 rfl l1 l2;unfold maxLen at l1 l2;refine B4 x.Aa ?_;generalize F1=F3;refine go ?_;intros;refine ce (fun w s=>T0 _ _) ?_;cases g1:Ld x.Ai
 ·refine go ?_;refine ret () trivial ?_;simp [Bx,g1,Ux]
 refine go ?_;cases hs:x.Be
 ·have nog:P3 x=false→Bx x=false:=fun h=>by unfold Bx;rw [g1,hs];simpa using h
  refine go ?_;refine Dx rfl rfl (fun h1=>?_) (fun h1=>?_)
  rotate_left
  ·refine go ?_;refine ret () trivial ?_;rw [nog (by unfold P3;rw [decide_eq_false h1];rfl)];rfl
  refine go ?_;refine Dx rfl rfl (fun h2=>?_) (fun h2=>?_)
  rotate_left
  ·exact ER
  exact CV
 rename_i g;refine An1 (cs:=[.bool true,.int .i64 x.Ai,.int .i64 x.Aa.next,.slice a1 x.Aa.Am.length c1,.slice a2 x.Al.length c2]) ?_ FK;refine go ?_;refine Cb (Azh x.Aa _ F3) fun _ _=>?_;cases g2:Cu x.Aa
 ·refine go ?_;refine ret () trivial ?_;simp [Bx,g1,g2,hs,Ux]
 obtain ⟨w0_,w1_⟩:=Iw g2;refine go ?_;refine Cb (Rx x.Al x.Aa.next _ F2) fun _ _=>?_;cases g3:M0 x.Al x.Aa.next
 ·refine go ?_;refine ret () trivial ?_;simp [Bx,g1,g2,g3,hs,Ux]
 obtain ⟨-,q1,q2, -⟩:=Dg.1 g3;refine go ?_;refine cb (fun w st=>(Ay5 266 [] [Iq g 0 0] [.cel g 0 [.bool true,.int .i64 x.Ai,.int .i64 x.Aa.next,.slice a1 x.Aa.Am.length c1,.slice a2 x.Al.length c2],.isv Bh (.agg #[.int .i64 x.Aa.next,.slice a1 x.Aa.Am.length c1]) x.Aa F3] rfl x.Al a2 c2 F2 (fun z=>Jb x.Aa z.Ae) FL FJ (fun z hz w hA=>by
  obtain ⟨n0,n1⟩:=Bc.1 (Ew.1 (q2 z hz)).n;exact (Bfg x.Aa z g true x.Ai _ a1 c1 F3 w0_ w1_ n0 n1).val w hA)).val w (fun q hq=>by
   simp only [List.mem_cons,List.not_mem_nil,or_false] at hq;rcases hq with rfl|rfl|rfl <;> exact st.get FO)) ?_
 refine go ?_;refine ret () trivial ?_;rw [show Bx x = !(x.Al.any fun z=>Jb x.Aa z.Ae) by unfold Bx Ale;rw [g1,g2,g3,hs,List.not_any_eq_all_not];simp];rfl
theorem Bag {x:Az} {k:Nat} (h:k < x.Al.length) (hh:Jb x.Aa x.Al[k].Ae=true):Ale x=false:=List.all_eq_false.2 ⟨_,List.getElem_mem h,by simp [hh]⟩
theorem Bak {w:Aj} {n:Int} (hw:Cu w=true) (hn:Cc n=true) (h8:gp w.next n < 8):(Uu n w.next || Jb w n)=Jb w n:=by
 obtain ⟨w0,w1⟩:=Iw hw;obtain ⟨n0,n1⟩:=Bc.1 hn;have:Uu n w.next=false:=by
  have:¬(1≤gp n w.next∧gp n w.next≤32767):=by unfold gp at *;omega
  unfold Uu Gj;exact EN
 rw [this];rfl
theorem Alm (x:Az) (v:Value) (F:List Nat):FV 159 [v] [.isv Bi v x F] (.bool (Bx x)):=by
 refine enter func159 rfl ntmps159 fun w0=>?_;refine Es ?_;rintro a1 c1 F1 a2 c2 F2 rfl l1 l2;unfold maxLen at l1 l2;refine B4 x.Aa ?_;generalize F1=F3;refine go ?_;intros;refine ce (fun w s=>Abe _ _) ?_;cases g1:Ld x.Ai
 ·refine go ?_;refine ret () trivial ?_;simp [Bx,g1,Ux]
 refine go ?_;refine Cb (Awy x.Aa _ F3) fun _ _=>?_;cases g2:Cu x.Aa
 ·refine go ?_;refine ret () trivial ?_;cases hg:Bx x
  ·rfl
  ·rw [(Eb.1 hg).w] at g2;cases g2
 obtain ⟨w0_,w1_⟩:=Iw g2;refine go ?_;refine Cb (Aw6 x.Al x.Aa.next _ F2) fun _ _=>?_;cases g3:M0 x.Al x.Aa.next
 ·refine go ?_;refine ret () trivial ?_;cases hg:Bx x
  ·rfl
  ·rw [(Eb.1 hg).q] at g3;cases g3
 obtain ⟨-,q1,q2, -⟩:=Dg.1 g3;refine go ?_;cases hs:x.Be
 ·have nog:P3 x=false→Bx x=false:=fun h=>by unfold Bx;rw [g1,hs];simpa using h
  refine go ?_;refine Dx rfl rfl (fun h1=>?_) (fun h1=>?_)
  rotate_left
  ·refine go ?_;refine ret () trivial ?_;rw [nog (by unfold P3;rw [decide_eq_false h1];rfl)];rfl
  refine go ?_;refine Dx rfl rfl (fun h2=>?_) (fun h2=>?_)
  rotate_left
  ·exact ER
  exact CV
 refine go ?_;refine D8 [1,2] (fun k:Nat=>[(3,.int .i64 (k:Nat))]) (fun k=>k≤x.Al.length∧∀j (_:j < k) (h:j < x.Al.length),Jb x.Aa x.Al[j].Ae=false) (fun k=>x.Al.length - k) 0 ⟨Nat.zero_le _,fun j h=>by omega⟩ fun k hk=>?_;obtain ⟨hk1,hk2⟩:=hk;refine go ?_;refine Ax rfl (fun h3=>?_) (fun h3=>?_)
 ·have hk3:k < x.Al.length:=FJ
  have hq:=Ew.1 (q2 _ (List.getElem_mem hk3));obtain ⟨n0,n1⟩:=Bc.1 hq.n;refine I9 (xs:=x.Al) k ?_;rintro hi b o e;rw [e];refine go ?_;refine As [0,1] [] ?_;refine Ds 0 1 2 3 ?_;refine Ds 4 5 6 7 ?_;refine dN 8 ?_;refine oC ?_;refine Cb (Ad7 x.Aa x.Al[k].Ae _ F3 w0_ w1_ n0 n1) fun _ _=>?_;refine dk ?_;refine dd ?_;rw [show Hw x.Aa x.Al[k].Ae=Jb x.Aa x.Al[k].Ae from Bak g2 hq.n hq.g];cases g5:Jb x.Aa x.Al[k].Ae
  ·refine go ?_;refine Ce (k+1) ⟨FJ,fun j hj h=>?_⟩ FJ;rcases Nat.lt_or_eq_of_le (Nat.lt_succ_iff.1 hj) with h'|rfl
   ·exact hk2 j h' h
   ·exact g5
  ·refine go ?_;refine ret () trivial ?_;rw [show Bx x=false by unfold Bx;rw [g1,g2,g3,hs,Bag hk3 g5];rfl];rfl
 have hkl:k=x.Al.length:=FJ
 refine go ?_;refine ret () trivial ?_;rw [show Bx x=true by
  unfold Bx Ale;rw [g1,g2,g3,hs,List.all_eq_true.2 fun z hz=>?_];rfl;obtain ⟨i,hi,rfl⟩:=List.getElem_of_mem hz;rw [hk2 i FJ hi];rfl];rfl
theorem I1 {α β:Type} {f:α→Option β} {l:List α} {k:Nat} (h:k < l.length):(l.take (k+1)).filterMap f=(l.take k).filterMap f++(f l[k]).toList:=by
 rw [List.take_add_one,List.getElem?_eq_getElem h,List.filterMap_append];cases hf:f l[k] <;> simp [hf]
theorem Ady {α β:Type} (f:α→Option β) (l:List α) (k:Nat):((l.take k).filterMap f).length≤k:=by
 have:=List.length_filterMap_le f (l.take k);rw [List.length_take] at this;omega
structure TkS where
 k:Nat
 a:Option Addr
 c:Nat
 F:List Nat
 a2:Option Addr
 c2:Nat
 F2:List Nat
 a3:Option Addr
 c3:Nat
 F3:List Nat
theorem Ajk (l:List Ay) (c d:Int) (a0:Option Addr) (c0:Nat) (F:List Nat) (hl:l.length≤1000000) (ht:∀r∈l,0≤r.D5∧r.D5≤3) (c0_:0≤c) (c1_:c≤1000000) (d0_:-1000000≤d) (d1_:d≤1000000) :
  Fn prog 346 [.slice a0 l.length c0,.int .i64 c,.int .i64 d] [.sl Av (.slice a0 l.length c0) l F] [] (fun (_:TkS)=>True) (fun s=>.tuple #[.slice s.a (l.filterMap (Va c d)).length s.c,.slice s.a2 (l.filterMap (Re c)).length s.c2,.slice s.a3 (l.filterMap (Vl c)).length s.c3]) (fun s=>[.ow Av 250 (.slice s.a (l.filterMap (Va c d)).length s.c) (l.filterMap (Va c d)) s.F,.ow Bb 3 (.slice s.a2 (l.filterMap (Re c)).length s.c2) (l.filterMap (Re c)) s.F2,.ow Bb 3 (.slice s.a3 (l.filterMap (Vl c)).length s.c3) (l.filterMap (Vl c)) s.F3]):=by
 refine enter func346 rfl ntmps346 fun w0=>?_;refine go ?_;refine Dj Av 250 ?_;refine Dj Bb 3 ?_;refine Dj Bb 3 ?_
 refine Cj [1,2,6,7,8,14,15] (fun s:TkS=>[(16,.int .i64 (s.k:Nat)),(9,.slice s.a ((l.take s.k).filterMap (Va c d)).length s.c),(10,.slice s.a2 ((l.take s.k).filterMap (Re c)).length s.c2),(11,.slice s.a3 ((l.take s.k).filterMap (Vl c)).length s.c3)]) (fun s=>[.ow Av 250 (.slice s.a ((l.take s.k).filterMap (Va c d)).length s.c) ((l.take s.k).filterMap (Va c d)) s.F,.ow Bb 3 (.slice s.a2 ((l.take s.k).filterMap (Re c)).length s.c2) ((l.take s.k).filterMap (Re c)) s.F2,.ow Bb 3 (.slice s.a3 ((l.take s.k).filterMap (Vl c)).length s.c3) ((l.take s.k).filterMap (Vl c)) s.F3]) (fun s=>s.k≤l.length) (fun s=>l.length - s.k) ⟨0,_,_,_,_,_,_,_,_,_⟩ (Nat.zero_le _) fun s hs=>?_
 obtain ⟨k,a4,c4,F4,a5,c5,F5,a6,c6,F6⟩:=s;dsimp only at hs ⊢;have h1:=Ady (Va c d) l k;have h2:=Ady (Re c) l k;have h3:=Ady (Vl c) l k;refine go ?_;refine Ax rfl (fun h4=>?_) (fun h4=>?_)
 ·have hk:k < l.length:=FJ
  obtain ⟨t0,t1⟩:=ht _ (List.getElem_mem hk);refine I9 (xs:=l) k ?_;rintro hi b o e;rw [e];refine go ?_;intros;refine Ax rfl (fun h5=>?_) (fun h5=>?_)
  ·have h5':c < l[k].Ch:=FJ
   refine go ?_;intros;have eo:((l.take (k+1)).filterMap (Va c d))=((l.take k).filterMap (Va c d))++[l[k]]:=by rw [I1 hk];simp [Va,h5']
   have es:((l.take (k+1)).filterMap (Re c))=((l.take k).filterMap (Re c)):=by rw [I1 hk];simp [Re,h5']
   have el:((l.take (k+1)).filterMap (Vl c))=((l.take k).filterMap (Vl c)):=by rw [I1 hk];simp [Vl,h5']
   apply wO;refine Qa (ys:=[l[k]]) (Oq l[k]) C4 fun a7 c7 F7=>?_;exact AD
  refine go ?_;refine Ax rfl (fun h6=>?_) (fun h6=>?_)
  ·refine go ?_;intros;have eo:((l.take (k+1)).filterMap (Va c d))=((l.take k).filterMap (Va c d)):=by rw [I1 hk];simp [Va,h5,h6]
   have es:((l.take (k+1)).filterMap (Re c))=((l.take k).filterMap (Re c)):=by rw [I1 hk];simp [Re,h5,h6]
   have el:((l.take (k+1)).filterMap (Vl c))=((l.take k).filterMap (Vl c))++[l[k].Ae]:=by rw [I1 hk];simp [Vl,h5,h6]
   apply wO;refine Qa (ys:=[l[k].Ae]) (Tq _) Dd fun a8 c8 F8=>?_;exact AD
  refine go ?_;refine Ax rfl (fun h7=>?_) (fun h7=>?_)
  ·refine go ?_;intros;have eo:((l.take (k+1)).filterMap (Va c d))=((l.take k).filterMap (Va c d))++[(⟨l[k].Ae,2,c+3,l[k].D5+1⟩:Ay)]:=JL
   have es:((l.take (k+1)).filterMap (Re c))=((l.take k).filterMap (Re c))++[l[k].Ae]:=JM
   have el:((l.take (k+1)).filterMap (Vl c))=((l.take k).filterMap (Vl c)):=JK
   exact CK
  ·refine go ?_;intros;have eo:((l.take (k+1)).filterMap (Va c d))=((l.take k).filterMap (Va c d))++[(⟨l[k].Ae,1,c+d,l[k].D5⟩:Ay)]:=JL
   have es:((l.take (k+1)).filterMap (Re c))=((l.take k).filterMap (Re c)):=JM
   have el:((l.take (k+1)).filterMap (Vl c))=((l.take k).filterMap (Vl c)):=JK
   exact ET
 ·obtain rfl:k=l.length:=FJ
  rw [List.take_length];refine go ?_;refine ret ⟨0,_,_,_,_,_,_,_,_,_⟩ trivial rfl
theorem Aw7 (l:List Ay) (c d:Int) (a0:Option Addr) (c0:Nat) (F:List Nat) (hl:l.length≤1000000) (ht:∀r∈l,0≤r.D5∧r.D5≤3) (c0_:0≤c) (c1_:c≤1000000) (d0_:-1000000≤d) (d1_:d≤1000000) :
  Fn prog 306 [.slice a0 l.length c0,.int .i64 c,.int .i64 d] [.sl Av (.slice a0 l.length c0) l F] [] (fun (_:TkS)=>True) (fun s=>.tuple #[.slice s.a (l.filterMap (Va c d)).length s.c,.slice s.a2 (l.filterMap (Re c)).length s.c2,.slice s.a3 (l.filterMap (Vl c)).length s.c3]) (fun s=>[.ow Av 250 (.slice s.a (l.filterMap (Va c d)).length s.c) (l.filterMap (Va c d)) s.F,.ow Bb 3 (.slice s.a2 (l.filterMap (Re c)).length s.c2) (l.filterMap (Re c)) s.F2,.ow Bb 3 (.slice s.a3 (l.filterMap (Vl c)).length s.c3) (l.filterMap (Vl c)) s.F3]):=by
 refine enter func306 rfl ntmps306 fun w0=>?_;refine go ?_;intros;refine Dc Bb ?_;refine Dc Bb ?_;refine Dc Av ?_
 refine Cj [0,1,2,6,7,8] (fun s:TkS=>[(12,.int .i64 (s.k:Nat)),(9,.slice s.a ((l.take s.k).filterMap (Va c d)).length s.c),(10,.slice s.a2 ((l.take s.k).filterMap (Re c)).length s.c2),(11,.slice s.a3 ((l.take s.k).filterMap (Vl c)).length s.c3)]) (fun s=>[.ow Av 250 (.slice s.a ((l.take s.k).filterMap (Va c d)).length s.c) ((l.take s.k).filterMap (Va c d)) s.F,.ow Bb 3 (.slice s.a2 ((l.take s.k).filterMap (Re c)).length s.c2) ((l.take s.k).filterMap (Re c)) s.F2,.ow Bb 3 (.slice s.a3 ((l.take s.k).filterMap (Vl c)).length s.c3) ((l.take s.k).filterMap (Vl c)) s.F3]) (fun s=>s.k≤l.length) (fun s=>l.length - s.k) ⟨0,_,_,_,_,_,_,_,_,_⟩ (Nat.zero_le _) fun s hs=>?_
 obtain ⟨k,a4,c4,F4,a5,c5,F5,a6,c6,F6⟩:=s;dsimp only at hs ⊢;have h1:=Ady (Va c d) l k;have h2:=Ady (Re c) l k;have h3:=Ady (Vl c) l k;refine go ?_;refine Ax rfl (fun h4=>?_) (fun h4=>?_)
 ·have hk:k < l.length:=FJ
  obtain ⟨t0,t1⟩:=ht _ (List.getElem_mem hk);refine I9 (xs:=l) k ?_;rintro hi b o e;rw [e];refine go ?_;intros;refine Ax rfl (fun h5=>?_) (fun h5=>?_)
  ·have h5':c < l[k].Ch:=FJ
   refine go ?_;intros;have eo:((l.take (k+1)).filterMap (Va c d))=((l.take k).filterMap (Va c d))++[l[k]]:=by rw [I1 hk];simp [Va,h5']
   have es:((l.take (k+1)).filterMap (Re c))=((l.take k).filterMap (Re c)):=by rw [I1 hk];simp [Re,h5']
   have el:((l.take (k+1)).filterMap (Vl c))=((l.take k).filterMap (Vl c)):=by rw [I1 hk];simp [Vl,h5']
   apply wO;refine Qa (ys:=[l[k]]) (Oq l[k]) C4 fun a7 c7 F7=>?_;exact AD
  refine go ?_;refine Ax rfl (fun h6=>?_) (fun h6=>?_)
  ·refine go ?_;intros;have eo:((l.take (k+1)).filterMap (Va c d))=((l.take k).filterMap (Va c d)):=by rw [I1 hk];simp [Va,h5,h6]
   have es:((l.take (k+1)).filterMap (Re c))=((l.take k).filterMap (Re c)):=by rw [I1 hk];simp [Re,h5,h6]
   have el:((l.take (k+1)).filterMap (Vl c))=((l.take k).filterMap (Vl c))++[l[k].Ae]:=by rw [I1 hk];simp [Vl,h5,h6]
   apply wO;refine Qa (ys:=[l[k].Ae]) (Tq _) Dd fun a8 c8 F8=>?_;exact AD
  refine go ?_;refine Ax rfl (fun h7=>?_) (fun h7=>?_)
  ·refine go ?_;intros;have eo:((l.take (k+1)).filterMap (Va c d))=((l.take k).filterMap (Va c d))++[(⟨l[k].Ae,2,c+3,l[k].D5+1⟩:Ay)]:=JL
   have es:((l.take (k+1)).filterMap (Re c))=((l.take k).filterMap (Re c))++[l[k].Ae]:=JM
   have el:((l.take (k+1)).filterMap (Vl c))=((l.take k).filterMap (Vl c)):=JK
   exact CK
  ·refine go ?_;intros;have eo:((l.take (k+1)).filterMap (Va c d))=((l.take k).filterMap (Va c d))++[(⟨l[k].Ae,1,c+d,l[k].D5⟩:Ay)]:=JL
   have es:((l.take (k+1)).filterMap (Re c))=((l.take k).filterMap (Re c)):=JM
   have el:((l.take (k+1)).filterMap (Vl c))=((l.take k).filterMap (Vl c)):=JK
   exact ET
 ·obtain rfl:k=l.length:=FJ
  rw [List.take_length];refine go ?_;refine ret ⟨0,_,_,_,_,_,_,_,_,_⟩ trivial rfl
theorem Azk (x:Az) (v:Value) (F:List Nat) (hl:x.Aa.Am.length≤1000000000) (hl2:x.Al.length≤1000000000):Fn prog 108 [v] [.isv Bi v x F] [] (fun (_:Value × List Nat)=>True) (fun s=>s.1) (fun s=>[.own By s.1 x s.2]):=by
 refine enter func108 rfl ntmps108 fun w0=>?_;refine Es ?_;rintro a1 c1 F1 a2 c2 F2 rfl l1 l2;refine B4 x.Aa ?_;generalize F1=F3;refine go ?_;intros;refine Cb (Avt x.Aa _ F3 FJ) fun z _=>?_;refine go ?_;refine Cb (Uy x.Al a2 c2 F2 hl2) fun q _=>?_;refine go ?_;refine I6 x ?_;exact BE
theorem Bjp (r:Ay) (n:Int) (gb:Nat) (h0:Cc r.Ae=true) (h1:0≤n) (h2:n≤65535):FV 387 [.agg #[.int .i64 r.Ae,.int .i64 r.state,.int .i64 r.Ch,.int .i64 r.D5],Iq gb 0 0] [.cel gb 0 [.int .i64 n]] (.bool (Uu r.Ae n)):=by
 obtain ⟨n0,n1⟩:=Bc.1 h0;refine enter func387 rfl ntmps387 fun w0=>?_;refine go ?_;intros;refine ce (fun w s=>Ot _ _ _ FJ FJ FJ FJ) ?_;exact AA
theorem Agi (l:List Ay) (n:Int) (a:Option Addr) (c:Nat) (F:List Nat) (hl:l.length≤1000000000) (hs:∀q∈l,Cc q.Ae=true) (h1:0≤n) (h2:n≤65535):Fn prog 348 [.slice a l.length c,.int .i64 n] [.sl Av (.slice a l.length c) l F] [] (fun (_:Option Addr × Nat × List Nat)=>True) (fun z=>.slice z.1 (Aal l n).length z.2.1) (fun z=>[.ow Av 250 (.slice z.1 (Aal l n).length z.2.1) (Aal l n) z.2.2]):=by
 refine enter func348 rfl ntmps348 fun w0=>?_;refine go ?_;intros;rename_i gb;refine Cb (Uy l a c F hl) fun q _=>?_;refine An1 (cs:=[.int .i64 n]) ?_ FK;refine go ?_;refine Cb (Aoh 387 [] [Iq gb 0 0] [.cel gb 0 [.int .i64 n]] rfl l q.1 q.2.1 q.2.2 (fun z=>Uu z.Ae n) FL hl (fun z hz w hA=>(Bjp z n gb (hs z hz) h1 h2).val w hA)) fun z _=>?_;refine go ?_;refine ret (z.1,z.2.1,z.2.2) trivial rfl
theorem Ae1 (r:Az) (d:Int):(Ok r d).length≤r.Al.length:=List.length_filterMap_le _ _
theorem Ajl (r:Az):(C8 r).length≤r.Al.length:=List.length_filterMap_le _ _
theorem Ajj {r:Az} {d:Int} (h:C8 r=[]):Cw r d=⟨r.Be,r.Ai+1,r.Aa,Ok r d⟩:=if_pos h
theorem Aez {r:Az} {d:Int} (h:C8 r≠[]):Cw r d=⟨r.Be,r.Ai+1,Jo r.Aa (Dl (C8 r)),Aal (Ok r d) (Jo r.Aa (Dl (C8 r))).next⟩:=if_neg h
theorem Ard {r:Az} (h:C8 r=[]):H8 r=[]:=if_pos h
theorem Ami {r:Az} (h:C8 r≠[]):H8 r=Jm r.Aa (Dl (C8 r)):=if_neg h
theorem Alv {l:List Int} (h:l≠[]):Dl l=Ci (l[l.length - 1]'(by have:=List.length_pos_iff.2 h;omega)) 1:=by
 unfold Dl;rw [List.getLastD_eq_getLast?,List.getLast?_eq_getElem?,List.getElem?_eq_getElem (by have:=List.length_pos_iff.2 h;omega)];rfl
theorem Kh {x:Aj} (hg:Cu x=true):x.Am.length≤8∧∀s∈x.Am,s.Dk.size≤8:=by
 have hg0:=hg;unfold Cu at hg;simp only [Bool.and_eq_true,decide_eq_true_eq] at hg;refine ⟨by have:=hg.1.1.2;omega,fun s hs=>?_⟩;have:=List.all_eq_true.1 hg.1.2 s hs;unfold H3 at this;simp only [Bool.and_eq_true] at this;exact Wa this.1
structure PkS where
 k:Nat
 a:Option Addr
 c:Nat
 F:List Nat
structure TkR where
 a1:Option Addr
 c1:Nat
 F1:List Nat
 a2:Option Addr
 c2:Nat
 F2:List Nat
 a3:Option Addr
 c3:Nat
 F3:List Nat
 a4:Option Addr
 c4:Nat
 F4:List Nat
theorem Bdw (r:Az) (d:Int) (g t o:Nat) (A B:List Value) (a1:Option Addr) (c1:Nat) (F1:List Nat) (a2:Option Addr) (c2:Nat) (F2:List Nat) (hg:Mv r) (d0:0≤d) (d1:d≤100) :
  Fn prog 284 [Iq g o 0,.int .i64 d] [] [.row g t o A [.bool r.Be,.int .i64 r.Ai,.int .i64 r.Aa.next,.slice a1 r.Aa.Am.length c1,.slice a2 r.Al.length c2] B,.ow B9 275 (.slice a1 r.Aa.Am.length c1) r.Aa.Am F1,.ow Av 250 (.slice a2 r.Al.length c2) r.Al F2] (fun (_:TkR)=>True)
   (fun s=>.tuple #[.slice s.a3 (Fj r).length s.c3,.slice s.a4 (H8 r).length s.c4]) (fun s=>[.row g t o A [.bool (Cw r d).Be,.int .i64 (Cw r d).Ai,.int .i64 (Cw r d).Aa.next,.slice s.a1 (Cw r d).Aa.Am.length s.c1,.slice s.a2 (Cw r d).Al.length s.c2] B,.ow B9 275 (.slice s.a1 (Cw r d).Aa.Am.length s.c1) (Cw r d).Aa.Am s.F1,.ow Av 250 (.slice s.a2 (Cw r d).Al.length s.c2) (Cw r d).Al s.F2,.ow Ak 223 (.slice s.a3 (Fj r).length s.c3) (Fj r) s.F3,.ow A8 9 (.slice s.a4 (H8 r).length s.c4) (H8 r) s.F4]):=by
 have k0:=hg.k0;have k1:=hg.k1;obtain ⟨-,q1,q2, -⟩:=Dg.1 hg.q;obtain ⟨w0_,w1_⟩:=Iw hg.w;obtain ⟨hw8,hit⟩:=Kh hg.w;have hpl:(r.Al.filterMap (Re (r.Ai+1))).length≤8:=Nat.le_trans (List.length_filterMap_le _ _) q1;refine enter func284 rfl ntmps284 fun w0=>?_;refine go ?_;refine A4 (E:=Av) fun F9=>?_;refine As [1] [] ?_;refine Ds 0 1 2 3 ?_;refine Ds 4 5 6 7 ?_;refine dt 8 ?_;refine dN 9 ?_;refine oC ?_;refine Cb (Ajk r.Al (r.Ai+1) d a2 c2 F9 FJ (fun q hq=>⟨(Ew.1 (q2 q hq)).t0,(Ew.1 (q2 q hq)).t1⟩) FJ FJ FJ FJ) fun z _=>?_
 rw [show r.Al.filterMap (Vl (r.Ai+1))=C8 r from rfl,show r.Al.filterMap (Va (r.Ai+1) d)=Ok r d from rfl];refine dk ?_;refine Ds 10 11 12 13 ?_;refine Ed 14 15 ?_;refine dt 16 ?_;refine dd ?_;refine A4 (E:=Bb) (xs:=r.Al.filterMap (Re (r.Ai+1))) fun G2=>?_;refine A4 (E:=Bb) (xs:=C8 r) fun G3=>?_;refine Dj Ak 223 ?_;refine go ?_
 refine Cj [0,4,5,6,9,44,45] (fun s:PkS=>[(46,.int .i64 (s.k:Nat)),(10,.slice s.a (((r.Al.filterMap (Re (r.Ai+1))).take s.k).map (pkR r.Aa.next)).length s.c)]) (fun s=>[.ow Ak 223 (.slice s.a (((r.Al.filterMap (Re (r.Ai+1))).take s.k).map (pkR r.Aa.next)).length s.c) (((r.Al.filterMap (Re (r.Ai+1))).take s.k).map (pkR r.Aa.next)) s.F]) (fun s=>s.k≤(r.Al.filterMap (Re (r.Ai+1))).length) (fun s=>(r.Al.filterMap (Re (r.Ai+1))).length - s.k) ⟨0,_,_,_⟩ (Nat.zero_le _) fun s hs=>?_;obtain ⟨k,a4,c4,F4⟩:=s;dsimp only at hs ⊢;generalize hsn:r.Al.filterMap (Re (r.Ai+1))=sn at *;refine go ?_
 refine Ax rfl (fun h4=>?_) (fun h4=>?_)
 ·have hk:k < sn.length:=FJ
  have hkl:((sn.take k).map (pkR r.Aa.next)).length≤k:=FR
  refine I5 (xs:=sn) k ?_;rintro hi b o2 e;rw [e];refine go ?_;intros;have eo:(sn.take (k+1)).map (pkR r.Aa.next)=(sn.take k).map (pkR r.Aa.next)++[pkR r.Aa.next sn[k]]:=KR
  apply wO;refine Qa (ys:=[pkR r.Aa.next sn[k]]) (Dh (pkR r.Aa.next sn[k]) (by show (0:Nat)≤maxLen;exact Nat.zero_le _)) Hq fun a7 c7 F7=>?_;exact EF
 have hk:k=sn.length:=FJ
 subst hk;rw [List.take_length];have ep:Fj r=sn.map (pkR r.Aa.next):=by unfold Fj;rw [hsn]
 rw [ep];refine go ?_;by_cases hL:C8 r=[]
 ·refine Ax rfl (fun _=>?_) (fun h=>absurd (show ((C8 r).length:Int)=0 by rw [hL];rfl) h);rw [Ajj hL,Ard hL];refine Dj A8 9 ?_;refine go ?_;refine ret ⟨_,_,_,_,_,_,_,_,_,_,_,_⟩ trivial rfl
 ·have hl0:=List.length_pos_iff.2 hL;refine Ax rfl (fun h=>absurd h FJ) (fun _=>?_);rw [Aez hL,Ami hL];obtain ⟨hs8,hsr⟩:=Agp hg hL;have hll8:=Ajl r;obtain ⟨hs0,hs1⟩:=Bc.1 hsr;have hll:=Alv hL;obtain ⟨l0,l1⟩:=Bc.1 (Ae0 hg (List.getElem_mem (show (C8 r).length - 1 < (C8 r).length by omega))).1;have hi1:((C8 r).length:Int) - 1=(((C8 r).length - 1:Nat):Int):=FJ
  refine I5 (xs:=C8 r) ((C8 r).length - 1) ?_;rintro hi b o2 e;rw [e];refine Avj [.bool r.Be,.int .i64 (r.Ai+1)] [.int .i64 r.Aa.next,.slice a1 r.Aa.Am.length c1] [.slice z.a (Ok r d).length z.c] ?_;refine go ?_;refine As [1] [] ?_;refine Ds 0 1 2 3 ?_;refine Ed 4 5 ?_;refine dt 6 ?_;rw [hi1];refine Ed 7 8 ?_;refine dN 9 ?_;refine oC ?_;refine ce (fun w s=>Th _ _ _ FJ FJ) ?_;rw [←hll];refine dk ?_;refine dN 10 ?_;refine oC ?_;refine Cb (Aom r.Aa (Dl (C8 r)) g t (o+2) (A++[.bool r.Be,.int .i64 (r.Ai+1)]) _ a1 c1 F1 w0_ w1_ hs0 hs1 hw8 hit) fun y hy=>?_;refine dk ?_
  refine dt 11 ?_;refine dd ?_;obtain ⟨hy1,hy2⟩:=hy;have hmv:=We (t:=Dl (C8 r)) hg.w;have hm0:0≤y.y.next:=by rw [hy1];show 0≤(Jo r.Aa (Dl (C8 r))).next;rw [hmv.1];exact (Kd _ _).1
  have hm1:y.y.next≤65535:=by rw [hy1];show (Jo r.Aa (Dl (C8 r))).next≤65535;rw [hmv.1];exact (Kd _ _).2
  refine Ajg [.bool r.Be,.int .i64 (r.Ai+1)] [.int .i64 y.y.next,.slice y.a y.y.Am.length y.c] [.slice z.a (Ok r d).length z.c] ?_;refine A4 (E:=Av) (xs:=Ok r d) fun F8=>?_;refine go ?_;refine As [1] [13] ?_;refine Ds 0 1 2 3 ?_;refine Ds 4 5 6 7 ?_;refine Ed 8 9 ?_;refine dN 10 ?_;refine oC ?_;refine Cb (Agi (Ok r d) y.y.next z.a z.c F8 (by have:=Ae1 r d;omega) (fun q hq=>(Adb hg hq).1) hm0 hm1) fun u _=>?_;refine dk ?_;refine Ed 11 12 ?_;refine dN 13 ?_;refine oS ?_;refine Tx ?_;refine dd ?_;refine go ?_
  rw [show Jo r.Aa (Dl (C8 r))=y.y from hy1.symm,show Jm r.Aa (Dl (C8 r))=y.es from hy2.symm];refine ret ⟨_,_,_,_,_,_,_,_,_,_,_,_⟩ trivial rfl
theorem Vo (v:Value) (xs:List Int) (F:List Nat) (w:World) (h:Sl Bb w v xs F) (hm:xs.length≤4294967296) :
  Calls prog 104 #[v] w (No Bb 3 xs w):=by
 obtain ⟨ao,c,news,Fy,rfl,hl,hfy,hFy,hsrc⟩:=h.src;have hFl:=hfy.lt;have he:=fun w (a:Option Addr) (n c:Nat)=>Lib.run_eql_slice_nil (P:=prog) w 22 _ a n c 0 0 underlying22
 go_enter func104,ntmps104
 rcases hsrc with ⟨rfl,rfl,rfl⟩|⟨ad,rfl,hn⟩
 ·go_wp2
  go_ret
  exact CA
 ·go_wp2_with (at_builtin;refine P8 Dd FM GG _ _ _ GG 3 (.int .i64 0) 8 underlying22 Ah2 rfl (.slice (some ⟨w.heap.size,0,none⟩) 0 0) [] [w.heap.size] GG (Ow.empty (Ir.made _ _ _)) (Hd.one _) (some ad) xs c GG news Fy (hfy.frame fun b hb=>Below.heap_alloc _ _ _ (hFl b hb)) (.inr ⟨ad,rfl,fun j u hu=>kc ((Below.refl _ _).alloc (Nat.le_refl _) _) (hn j u hu)⟩) (fun b hb e=>by have:=hFl b hb;simp [Value.ownBlock] at e;omega) HP HM ?_);intro v2 w2 F2 hA;go_wp2_with fail
  go_ret
  have hB:Below w.heap.size w w2:=((Below.refl _ _).alloc (Nat.le_refl _) _).trans (hA.Jd.below FK FK);have hs:∀b,v2.ownBlock=some b→w.heap.size≤b:=fun b hb=>by rcases hA.Atq with e|e <;> rw [e] at hb <;> simp [Value.ownBlock] at hb <;> omega
  refine ⟨v2,F2,rfl,JJ,hA.ow.scal D0▸?_,fun b hb=>?_,hB⟩
  ·cases v2.ownBlock <;> simp
  ·rw [hA.ow.scal D0] at hb;exact hs b JV
theorem Aco (v:Value) (xs:List Int) (F:List Nat) (w:World) (h:Sl Bb w v xs F) (hm:xs.length≤4294967296) :
  Calls prog 76 #[v] w (No Bb 3 xs w):=by
 obtain ⟨ao,c,news,Fy,rfl,hl,hfy,hFy,hsrc⟩:=h.src;have hFl:=hfy.lt;have hsrc2:(ao=none∧c=0∧xs=[])∨∃ad,ao=some ad∧∀j u,news[j]?=some u→(w.alloc (.cells #[] 3)).cell? (ad.add j)=some u:=by
  rcases hsrc with h|⟨ad,h1,h2⟩
  ·exact .inl h
  ·exact .inr ⟨ad,h1,fun j u hu=>kc ((Below.refl _ _).alloc (Nat.le_refl _) _) (h2 j u hu)⟩
 go_enter func76,ntmps76
 go_wp2_with (at_builtin;refine P8 Dd FM GG _ _ _ GG 3 (.int .i64 0) 8 underlying22 Ah2 rfl (.slice (some ⟨w.heap.size,0,none⟩) 0 0) [] [w.heap.size] GG (Ow.empty (Ir.made _ _ _)) (Hd.one _) ao xs c GG news Fy (hfy.frame fun b hb=>Below.heap_alloc _ _ _ (hFl b hb)) hsrc2 (fun b hb e=>by have:=hFl b hb;simp [Value.ownBlock] at e;omega) HP HM ?_);intro v2 w2 F2 hA;go_wp2_with fail
 go_ret
 have hB:Below w.heap.size w w2:=((Below.refl _ _).alloc (Nat.le_refl _) _).trans (hA.Jd.below FK FK);have hs:∀b,v2.ownBlock=some b→w.heap.size≤b:=fun b hb=>by rcases hA.Atq with e|e <;> rw [e] at hb <;> simp [Value.ownBlock] at hb <;> omega
 refine ⟨v2,F2,rfl,JJ,hA.ow.scal D0▸?_,fun b hb=>?_,hB⟩
 ·cases v2.ownBlock <;> simp
 ·rw [hA.ow.scal D0] at hb;exact hs b JV
theorem Af6 (v:Value) (e:Bf) (F:List Nat) (w:World) (h:Jy Bk w v e F) (hm:e.Ah.length≤4294967296) (hm2:∀x∈e.Ah,x.Bj.length≤4294967296) :
  Calls prog 107 #[v] w (Wt Ca e w):=by
 obtain ⟨_,rfl,v1,rfl,h1⟩:=h;obtain ⟨a,cap,rfl⟩:=h1.slice;have hl:=h1.len;unfold maxLen at hl;have hB0:∀A B:Obj,Below w.heap.size w ((w.alloc A).alloc B):=fun A B=>((Below.refl _ _).alloc (Nat.le_refl _) _).alloc FK _;have hFl:=h1.lt FM
 go_enter func107,ntmps107
 go_wp2_with fail;refine (Aof _ e.Ah F _ (h1.below FM (hB0 _ _)) hm).mono ?_;rintro e' w1 ⟨v2,F2,rfl,ho,hd,hs,hF2,hb1⟩;obtain ⟨a2,cap2,rfl⟩:=ho.slice;have r0:=Ir.below (g:=w.heap.size) (t:=133) (cs:=[.int .i64 e.Ai,.slice a e.Ah.length cap]) HF hb1;have r1:=Ir.below (g:=w.heap.size+1) (t:=133) (cs:=[.int .i64 0,.slice none 0 0]) HF hb1;have hB:=tr (hB0 _ _) hb1 (Nat.le_refl _);have hm1:=Lib.hid (Mix.start (O:=Dy) (R:=Dt) (B1:=w.heap.size) (B0:=w.heap.size+2) rfl ho (by simpa using hs) (fun b hb=>(hF2 b hb).imp id fun hb=>hFl b hb) hd)
 have c0:=r0.cells;have f0:=r0.frozens;have f1:=r1.frozens;have c1:=r1.cells;clear hb1 ho hs hd hF2;go_wp2_with fail;have R0:=r0.set 1 (.slice a2 e.Ah.length cap2);have R1:=r1.setOther (p:=⟨w.heap.size,1,none⟩) FK (.slice a2 e.Ah.length cap2);have M1:=Lib.hid (hm1.out.setFar (p:=⟨w.heap.size,1,none⟩) (Nat.le_refl _) FK (.slice a2 e.Ah.length cap2));clear hm1
 go_loopw [3,11] (fun _ i wr=>∃k:Nat,k≤e.Ah.length∧i=.int .i64 k∧Hid (Mix Dy Dt 212 w.heap.size (w.heap.size+2) wr (.slice a2 e.Ah.length cap2) e.Ah k)∧Ir wr w.heap.size 133 [.int .i64 e.Ai,.slice a2 e.Ah.length cap2]∧Ir wr (w.heap.size+1) 133 [.int .i64 0,.slice none 0 0]∧Below w.heap.size w wr) (fun _ i _=>e.Ah.length - (intOf i).toNat)
 case atStart=>exact ⟨0,Nat.zero_le _,rfl,M1,by simpa using R0,R1,hB.setCell (Nat.le_refl _) _⟩
 case round =>
  obtain ⟨k,hk,rfl,hM,hr,hr1,hB⟩:=hrel;have c0:=hr.cells;have f0:=hr.frozens;have hsz:=hr1.lt;by_cases hlt:k < e.Ah.length
  ·obtain ⟨g,cap3,A,c,B,Fk,hv,hg,hrow,hA,hcl,hx, -,back⟩:=hM.out.at rfl hlt FJ FJ;cases hv;obtain ⟨u1,rfl,hf⟩:=id hx;obtain ⟨fa,fc,rfl⟩:=hf.slice;have a1:=hrow.cellMid (p:=k * 3+1) (j:=1) (by rw [hA];rfl) FK;simp only [List.getElem?_cons_zero,List.getElem?_cons_succ] at a1;have hne:¬g=w.heap.size:=FJ
   have hne2:¬w.heap.size=g:=FJ
   have hbk:=Lib.hid back;clear back;have hfl:=hm2 e.Ah[k] (List.getElem_mem _);go_wp2_with fail
   go_region_law (first|(go_simp;go_at_call 104;refine (Vo _ e.Ah[k].Bj Fk wr.drew (hf.frame fun _ _=>rfl) hfl).mono ?_;rintro e' w2 ⟨v3,F3,rfl,o3,n3,g3,hb2⟩;obtain ⟨d3,p3,rfl⟩:=o3.slice;have z3:=kc hb2 (show wr.drew.cell? ⟨w.heap.size,1,none⟩=some (.slice (some ⟨g,0,none⟩) e.Ah.length cap2) by simpa using c0 1);have z1:=kc hb2 (by simpa using a1);have zf:=((show Ir wr.drew g 212 _ from hrow).below hb2).frozens (k * 3+1)))
   all_goals
    have hr2:=((show Ir wr.drew w.heap.size 133 _ from hr).below hb2).setOther (p:=⟨g,k * 3+1,none⟩) hne (.slice d3 e.Ah[k].Bj.length p3);have hr3:=((show Ir wr.drew (w.heap.size+1) 133 _ from hr1).below hb2).setOther (p:=⟨g,k * 3+1,none⟩) FR (.slice d3 e.Ah[k].Bj.length p3);have hro:=((show Ir wr.drew g 212 _ from hrow).below hb2).setMid (p:=k * 3+1) (j:=1) (by rw [hA];rfl) FK (.slice d3 e.Ah[k].Bj.length p3);have hg3:∀b∈F3,wr.heap.size≤b:=g3;have hgs:=hrow.lt
    have hMk:=Lib.hid (hbk.out _ _ F3 hro ⟨_,rfl,o3.setFar (fun hm=>by have:=hg3 _ hm;simp at this;omega) _⟩ n3 hg3 (fun b hb hbg=>(Below.heap_setCell _ _ _ _ hbg).trans (hb2.block b hb)));have hB3:Below w.heap.size w (w2.setCell ⟨g,k * 3+1,none⟩ (.slice d3 e.Ah[k].Bj.length p3)):=(tr (D7 hB 1) hb2 (Nat.le_refl _)).setCell FR _;go_wp2_with fail;exact ⟨⟨k+1,FJ,HX,hMk,hr2,hr3,hB3⟩,GT⟩
  ·have hk:k=e.Ah.length:=FJ
   subst hk;obtain ⟨F4,o4,n4,g4⟩:=hM.out.done;have O4:=Lib.hid o4;clear hM o4;have d1:=hr1.cells;have fd:=hr1.frozens;go_wp2_with fail;refine bodyPost_ret (v:=.agg #[.int .i64 e.Ai,.slice a2 e.Ah.length cap2]) ?_ rfl ?_
   ·simp [results,results107,go_sem,c0,d1,fd]
   ·refine ⟨_,F4,rfl,⟨_,rfl,_,rfl,?_⟩,n4,fun b hb=>by have:=g4 b hb;omega,?_⟩
    ·repeat refine Ow.setFar ?_ (fun hm=>by have:=g4 _ hm;simp at this <;> omega) _
     exact O4.out
    ·repeat refine Below.setCell ?_ GF _
     exact hB
section
variable {c:Cx} {fr:Fr} {H:List Pc} {Φ:Gl}
theorem Hm {v:Value} {x:Du} {F:List Nat} (h:∀(a1:Option Addr) (c1:Nat) (F1:List Nat) (a2:Option Addr) (c2:Nat) (F2:List Nat) (a3:Option Addr) (c3:Nat) (F3:List Nat) (a4:Option Addr) (c4:Nat) (F4:List Nat) (a5:Option Addr) (c5:Nat) (F5:List Nat) (a6:Option Addr) (c6:Nat) (F6:List Nat) (a7:Option Addr) (c7:Nat) (F7:List Nat),v=.agg #[.slice a1 x.An.Ad.length c1,.int .i64 x.Ab.Aa.Ap,.int .i64 x.Ab.Aa.size,.slice a2 x.Ab.Aa.Ao.length c2,.int .i64 x.Ab.Ai,.int .i64 x.Ab.quiet,.slice a3 x.Ab.holds.length c3,.slice a4 x.Af.length c4,.slice a5 x.Ac.length c5,.slice a6 x.down.length c6,.slice a7 x.up.length c7]→x.An.Ad.length≤maxLen→x.Ab.Aa.Ao.length≤maxLen→x.Ab.holds.length≤maxLen→x.Af.length≤maxLen→x.Ac.length≤maxLen→x.down.length≤maxLen→x.up.length≤maxLen→T c fr (.sl Bb (.slice a1 x.An.Ad.length c1) x.An.Ad F1::.sl A8 (.slice a2 x.Ab.Aa.Ao.length c2) x.Ab.Aa.Ao F2::.sl Bn (.slice a3 x.Ab.holds.length c3) x.Ab.holds F3::.sl Bk (.slice a4 x.Af.length c4) x.Af F4::.sl Bi (.slice a5 x.Ac.length c5) x.Ac F5::.sl (Mr Ak FM) (.slice a6 x.down.length c6) x.down F6::.sl (Mr Ak FM) (.slice a7 x.up.length c7) x.up F7::H) Φ) (hm:.isv Ny v x F∈H:=by exact A9):T c fr H Φ:=.mk fun a w s g=>by
 obtain ⟨cs,rfl,v1,v2,v3,v4,v5,v6,v7,G1,G2,G3,G4,G5,G6,G7,rfl,h1,h2,h3,h4,h5,h6,h7,rfl⟩:=s.get hm;obtain ⟨a1,c1,rfl⟩:=h1.slice;have l1:=h1.len;obtain ⟨a2,c2,rfl⟩:=h2.slice;have l2:=h2.len;obtain ⟨a3,c3,rfl⟩:=h3.slice;have l3:=h3.len;obtain ⟨a4,c4,rfl⟩:=h4.slice;have l4:=h4.len;obtain ⟨a5,c5,rfl⟩:=h5.slice;have l5:=h5.len;obtain ⟨a6,c6,rfl⟩:=h6.slice;have l6:=h6.len;obtain ⟨a7,c7,rfl⟩:=h7.slice;have l7:=h7.len;have t7:=s.ro (p:=.sl _ _ _ _) hm rfl rfl ⟨FM,h7⟩ FZ
 have t6:=t7.ro (p:=.sl _ _ _ _) (List.mem_cons_of_mem _ hm) rfl rfl ⟨FM,h6⟩ FZ;have t5:=t6.ro (p:=.sl _ _ _ _) (List.mem_cons_of_mem _ (List.mem_cons_of_mem _ hm)) rfl rfl ⟨FM,h5⟩ FZ;have t4:=t5.ro (p:=.sl _ _ _ _) (List.mem_cons_of_mem _ (List.mem_cons_of_mem _ (List.mem_cons_of_mem _ hm))) rfl rfl ⟨FM,h4⟩ FZ
 have t3:=t4.ro (p:=.sl _ _ _ _) (List.mem_cons_of_mem _ (List.mem_cons_of_mem _ (List.mem_cons_of_mem _ (List.mem_cons_of_mem _ hm)))) rfl rfl ⟨FM,h3⟩ FZ;have t2:=t3.ro (p:=.sl _ _ _ _) (List.mem_cons_of_mem _ (List.mem_cons_of_mem _ (List.mem_cons_of_mem _ (List.mem_cons_of_mem _ (List.mem_cons_of_mem _ hm))))) rfl rfl ⟨FM,h2⟩ FZ
 have t1:=t2.ro (p:=.sl _ _ _ _) (List.mem_cons_of_mem _ (List.mem_cons_of_mem _ (List.mem_cons_of_mem _ (List.mem_cons_of_mem _ (List.mem_cons_of_mem _ (List.mem_cons_of_mem _ hm)))))) rfl rfl ⟨FM,h1⟩ FZ;exact (h a1 c1 G1 a2 c2 G2 a3 c3 G3 a4 c4 G4 a5 c5 G5 a6 c6 G6 a7 c7 G7 rfl  l1 l2 l3 l4 l5 l6 l7).h a w t1 g
theorem Gz (x:Du) {a1:Option Addr} {c1:Nat} {F1:List Nat} {a2:Option Addr} {c2:Nat} {F2:List Nat} {a3:Option Addr} {c3:Nat} {F3:List Nat} {a4:Option Addr} {c4:Nat} {F4:List Nat} {a5:Option Addr} {c5:Nat} {F5:List Nat} {a6:Option Addr} {c6:Nat} {F6:List Nat} {a7:Option Addr} {c7:Nat} {F7:List Nat}  (h:T c fr (.isv Ny (.agg #[.slice a1 x.An.Ad.length c1,.int .i64 x.Ab.Aa.Ap,.int .i64 x.Ab.Aa.size,.slice a2 x.Ab.Aa.Ao.length c2,.int .i64 x.Ab.Ai,.int .i64 x.Ab.quiet,.slice a3 x.Ab.holds.length c3,.slice a4 x.Af.length c4,.slice a5 x.Ac.length c5,.slice a6 x.down.length c6,.slice a7 x.up.length c7]) x (F1++F2++F3++F4++F5++F6++F7)::H) Φ) (m1:.sl Bb (.slice a1 x.An.Ad.length c1) x.An.Ad F1∈H:=by exact A9) (m2:.sl A8 (.slice a2 x.Ab.Aa.Ao.length c2) x.Ab.Aa.Ao F2∈H:=by exact A9) (m3:.sl Bn (.slice a3 x.Ab.holds.length c3) x.Ab.holds F3∈H:=by exact A9) (m4:.sl Bk (.slice a4 x.Af.length c4) x.Af F4∈H:=by exact A9) (m5:.sl Bi (.slice a5 x.Ac.length c5) x.Ac F5∈H:=by exact A9) (m6:.sl (Mr Ak FM) (.slice a6 x.down.length c6) x.down F6∈H:=by exact A9) (m7:.sl (Mr Ak FM) (.slice a7 x.up.length c7) x.up F7∈H:=by exact A9):T c fr H Φ:=.mk fun a w s g=>by
 refine h.h a w (s.add (N:=[_]) (Below.refl _ _) (by intro q hq;obtain rfl:=List.mem_singleton.1 hq;exact ⟨_,rfl,_,_,_,_,_,_,_,_,_,_,_,_,_,_,rfl,(s.get m1).2,(s.get m2).2,(s.get m3).2,(s.get m4).2,(s.get m5).2,(s.get m6).2,(s.get m7).2,rfl⟩) ⟨FK,trivial⟩ fun q hq b hb=>?_) g;obtain rfl:=List.mem_singleton.1 hq;simp only [Pc.F,List.mem_append] at hb;rcases hb with (((((hb|hb)|hb)|hb)|hb)|hb)|hb
 ·exact .inr ⟨rfl,_,m1,rfl,hb⟩
 ·exact .inr ⟨rfl,_,m2,rfl,hb⟩
 ·exact .inr ⟨rfl,_,m3,rfl,hb⟩
 ·exact .inr ⟨rfl,_,m4,rfl,hb⟩
 ·exact .inr ⟨rfl,_,m5,rfl,hb⟩
 ·exact .inr ⟨rfl,_,m6,rfl,hb⟩
 ·exact .inr ⟨rfl,_,m7,rfl,hb⟩
theorem Um {v:Value} {x:Du} {F:List Nat} {S:List Pc} (h:∀(a1:Option Addr) (c1:Nat) (F1:List Nat) (a2:Option Addr) (c2:Nat) (F2:List Nat) (a3:Option Addr) (c3:Nat) (F3:List Nat) (a4:Option Addr) (c4:Nat) (F4:List Nat) (a5:Option Addr) (c5:Nat) (F5:List Nat) (a6:Option Addr) (c6:Nat) (F6:List Nat) (a7:Option Addr) (c7:Nat) (F7:List Nat),v=.agg #[.slice a1 x.An.Ad.length c1,.int .i64 x.Ab.Aa.Ap,.int .i64 x.Ab.Aa.size,.slice a2 x.Ab.Aa.Ao.length c2,.int .i64 x.Ab.Ai,.int .i64 x.Ab.quiet,.slice a3 x.Ab.holds.length c3,.slice a4 x.Af.length c4,.slice a5 x.Ac.length c5,.slice a6 x.down.length c6,.slice a7 x.up.length c7]→x.An.Ad.length≤maxLen→x.Ab.Aa.Ao.length≤maxLen→x.Ab.holds.length≤maxLen→x.Af.length≤maxLen→x.Ac.length≤maxLen→x.down.length≤maxLen→x.up.length≤maxLen→T c fr (.ow Bb 3 (.slice a1 x.An.Ad.length c1) x.An.Ad F1::.ow A8 9 (.slice a2 x.Ab.Aa.Ao.length c2) x.Ab.Aa.Ao F2::.ow Bn 215 (.slice a3 x.Ab.holds.length c3) x.Ab.holds F3::.ow Ca 133 (.slice a4 x.Af.length c4) x.Af F4::.ow By 140 (.slice a5 x.Ac.length c5) x.Ac F5::.ow (Kx Ak 223) 142 (.slice a6 x.down.length c6) x.down F6::.ow (Kx Ak 223) 142 (.slice a7 x.up.length c7) x.up F7::S) Φ) (hp:Co H (.own Aaw v x F) S:=by exact De):T c fr H Φ:=.mk fun a w s g=>by
 obtain ⟨hn,cs,rfl,v1,v2,v3,v4,v5,v6,v7,G1,G2,G3,G4,G5,G6,G7,rfl,h1,h2,h3,h4,h5,h6,h7,rfl⟩:=(s.pick hp).on (.own Aaw v x F) FK;obtain ⟨a1,c1,rfl⟩:=h1.slice;have l1:=h1.len;obtain ⟨a2,c2,rfl⟩:=h2.slice;have l2:=h2.len;obtain ⟨a3,c3,rfl⟩:=h3.slice;have l3:=h3.len;obtain ⟨a4,c4,rfl⟩:=h4.slice;have l4:=h4.len;obtain ⟨a5,c5,rfl⟩:=h5.slice;have l5:=h5.len;obtain ⟨a6,c6,rfl⟩:=h6.slice;have l6:=h6.len;obtain ⟨a7,c7,rfl⟩:=h7.slice;have l7:=h7.len
 exact (h a1 c1 G1 a2 c2 G2 a3 c3 G3 a4 c4 G4 a5 c5 G5 a6 c6 G6 a7 c7 G7 rfl  l1 l2 l3 l4 l5 l6 l7).h a w (s.mer (M:=[.own Aaw _ x _]) (N:=[.ow Bb _ _ _ G1,.ow A8 _ _ _ G2,.ow Bn _ _ _ G3,.ow Ca _ _ _ G4,.ow By _ _ _ G5,.ow (Kx Ak 223) _ _ _ G6,.ow (Kx Ak 223) _ _ _ G7]) (.cons hp .nil) (fun _ _=>⟨Q8 ⟨(Mk (Mk (Mk (Mk (Mk (Mk hn)))))),h1⟩ (Q8 ⟨Acq (Mk (Mk (Mk (Mk (Mk hn))))),h2⟩ (Q8 ⟨Acq (Mk (Mk (Mk (Mk hn)))),h3⟩ (Q8 ⟨Acq (Mk (Mk (Mk hn))),h4⟩ (Q8 ⟨Acq (Mk (Mk hn)),h5⟩ (Q8 ⟨Acq (Mk hn),h6⟩ (Q8 ⟨Acq hn,h7⟩ (Aux))))))),GD⟩) HB) g
theorem Qc (x:Du) {a1:Option Addr} {c1:Nat} {F1:List Nat} {a2:Option Addr} {c2:Nat} {F2:List Nat} {a3:Option Addr} {c3:Nat} {F3:List Nat} {a4:Option Addr} {c4:Nat} {F4:List Nat} {a5:Option Addr} {c5:Nat} {F5:List Nat} {a6:Option Addr} {c6:Nat} {F6:List Nat} {a7:Option Addr} {c7:Nat} {F7:List Nat} {S1 S2 S3 S4 S5 S6 S7:List Pc}  (h:T c fr (.own Aaw (.agg #[.slice a1 x.An.Ad.length c1,.int .i64 x.Ab.Aa.Ap,.int .i64 x.Ab.Aa.size,.slice a2 x.Ab.Aa.Ao.length c2,.int .i64 x.Ab.Ai,.int .i64 x.Ab.quiet,.slice a3 x.Ab.holds.length c3,.slice a4 x.Af.length c4,.slice a5 x.Ac.length c5,.slice a6 x.down.length c6,.slice a7 x.up.length c7]) x (F1++F2++F3++F4++F5++F6++F7)::S7) Φ) (m1:Co H (.ow Bb 3 (.slice a1 x.An.Ad.length c1) x.An.Ad F1) S1:=by exact De) (m2:Co S1 (.ow A8 9 (.slice a2 x.Ab.Aa.Ao.length c2) x.Ab.Aa.Ao F2) S2:=by exact De) (m3:Co S2 (.ow Bn 215 (.slice a3 x.Ab.holds.length c3) x.Ab.holds F3) S3:=by exact De) (m4:Co S3 (.ow Ca 133 (.slice a4 x.Af.length c4) x.Af F4) S4:=by exact De) (m5:Co S4 (.ow By 140 (.slice a5 x.Ac.length c5) x.Ac F5) S5:=by exact De) (m6:Co S5 (.ow (Kx Ak 223) 142 (.slice a6 x.down.length c6) x.down F6) S6:=by exact De) (m7:Co S6 (.ow (Kx Ak 223) 142 (.slice a7 x.up.length c7) x.up F7) S7:=by exact De)  : T c fr H Φ:=.mk fun a w s g =>
 h.h a w (s.mer (M:=[.ow Bb _ _ _ F1,.ow A8 _ _ _ F2,.ow Bn _ _ _ F3,.ow Ca _ _ _ F4,.ow By _ _ _ F5,.ow (Kx Ak 223) _ _ _ F6,.ow (Kx Ak 223) _ _ _ F7]) (N:=[.own Aaw _ x (F1++F2++F3++F4++F5++F6++F7)]) (.cons m1 (.cons m2 (.cons m3 (.cons m4 (.cons m5 (.cons m6 (.cons m7 (.nil)))))))) (fun hk hn=>⟨En ⟨GD,_,rfl,_,_,_,_,_,_,_,_,_,_,_,_,_,_,rfl,(Q9 hk).2,(Q9 (Ie hk)).2,(Q9 (Ie (Ie hk))).2,(Q9 (Ie (Ie (Ie hk)))).2,(Q9 (Ie (Ie (Ie (Ie hk))))).2,(Q9 (Ie (Ie (Ie (Ie (Ie hk)))))).2,(Q9 (Ie (Ie (Ie (Ie (Ie (Ie hk))))))).2,rfl⟩,GD⟩) HB) g
end
section
variable {c:Cx} {fr:Fr} {H:List Pc} {Φ:Gl}
theorem N2 {v:Value} {x:Qo} {F:List Nat} (h:∀(a1:Option Addr) (c1:Nat) (F1:List Nat),v=.agg #[.slice a1 x.Ad.length c1]→x.Ad.length≤maxLen→T c fr (.sl Bb (.slice a1 x.Ad.length c1) x.Ad F1::H) Φ) (hm:.isv Po v x F∈H:=by exact A9):T c fr H Φ:=.mk fun a w s g=>by
 exact AG
theorem Iu (x:Qo) {a1:Option Addr} {c1:Nat} {F1:List Nat}  (h:T c fr (.isv Po (.agg #[.slice a1 x.Ad.length c1]) x (F1)::H) Φ) (m1:.sl Bb (.slice a1 x.Ad.length c1) x.Ad F1∈H:=by exact A9):T c fr H Φ:=.mk fun a w s g=>by
 exact AH
theorem Aem {v:Value} {x:Qo} {F:List Nat} {S:List Pc} (h:∀(a1:Option Addr) (c1:Nat) (F1:List Nat),v=.agg #[.slice a1 x.Ad.length c1]→x.Ad.length≤maxLen→T c fr (.ow Bb 3 (.slice a1 x.Ad.length c1) x.Ad F1::S) Φ) (hp:Co H (.own Ae5 v x F) S:=by exact De):T c fr H Φ:=.mk fun a w s g=>by
 have z1:=s.pick hp;obtain ⟨hn,cs,rfl,v1,rfl,h1⟩:=z1.on (.own Ae5 v x F) FK;obtain ⟨a1,c1,rfl⟩:=h1.slice;have l1:=h1.len;refine (h a1 c1 F rfl  l1).h a w (St.turn (M:=[.own Ae5 (.agg #[.slice a1 x.Ad.length c1]) x _]) (N:=[.ow Bb 3 (.slice a1 x.Ad.length c1) x.Ad F]) z1 (D6.refl _ w) ?_ ?_ ?_) g
 ·exact DJ
 ·exact ⟨FK,trivial⟩
 ·exact DQ
theorem Aa3 (x:Qo) {a1:Option Addr} {c1:Nat} {F1:List Nat} {S1:List Pc}  (h:T c fr (.own Ae5 (.agg #[.slice a1 x.Ad.length c1]) x (F1)::S1) Φ) (m1:Co H (.ow Bb 3 (.slice a1 x.Ad.length c1) x.Ad F1) S1:=by exact De)  : T c fr H Φ:=.mk fun a w s g=>by
 have z1:St c.G c.D c.w0 ([.ow Bb 3 (.slice a1 x.Ad.length c1) x.Ad F1]++S1) w:=by simpa using (show Io H [.ow Bb 3 (.slice a1 x.Ad.length c1) x.Ad F1] S1 from Io.cons m1 (Io.nil)).st (X:=[]) HN
 obtain ⟨n1,k1⟩:=z1.on (.ow Bb 3 (.slice a1 x.Ad.length c1) x.Ad F1) FK;have hN:=n1;refine h.h a w (St.turn (M:=[.ow Bb 3 (.slice a1 x.Ad.length c1) x.Ad F1]) (N:=[.own Ae5 (.agg #[.slice a1 x.Ad.length c1]) x (F1)]) z1 (D6.refl _ w) GW ⟨FK,trivial⟩ fun q hq b hb=>?_) g;exact CB
end
structure Vd (n:Du):Prop where
 t:n.An.Ad.length≤1048576
 i:n.Ab.Aa.Ao.length≤1048576
 h:n.Ab.holds.length≤1048576
 e:n.Af.length≤1048576
 e1:∀x∈n.Af,x.Ah.length≤1048576
 e2:∀x∈n.Af,∀y∈x.Ah,y.Bj.length≤1048576
 rl:n.Ac.length≤1048576
 r:∀x∈n.Ac,x.Aa.Am.length≤1048576∧x.Al.length≤1048576
 d:n.down.length≤1048576
 dq:∀q∈n.down,q.length≤1048576
 u:n.up.length≤1048576
 uq:∀q∈n.up,q.length≤1048576
structure ClN where
 g:Nat
 a1:Option Addr
 c1:Nat
 F1:List Nat
 a2:Option Addr
 c2:Nat
 F2:List Nat
 a3:Option Addr
 c3:Nat
 F3:List Nat
 g6:Nat
 F6:List Nat
 g7:Nat
 F7:List Nat
structure NV where
 a1:Option Addr
 c1:Nat
 F1:List Nat
 a2:Option Addr
 c2:Nat
 F2:List Nat
 a3:Option Addr
 c3:Nat
 F3:List Nat
 a4:Option Addr
 c4:Nat
 F4:List Nat
 a5:Option Addr
 c5:Nat
 F5:List Nat
 a6:Option Addr
 c6:Nat
 F6:List Nat
 a7:Option Addr
 c7:Nat
 F7:List Nat
structure KA where
 k:Nat
 a:Option Addr
 c:Nat
 F:List Nat
theorem Aol (n:Du) (v:Value) (F:List Nat) (hs:Vd n):Fn prog 49 [v] [.isv Ny v n F] [] (fun (_:NV)=>True) (fun z=>.agg #[.slice z.a1 n.An.Ad.length z.c1,.int .i64 n.Ab.Aa.Ap,.int .i64 n.Ab.Aa.size,.slice z.a2 n.Ab.Aa.Ao.length z.c2,.int .i64 n.Ab.Ai,.int .i64 n.Ab.quiet,.slice z.a3 n.Ab.holds.length z.c3,.slice z.a4 n.Af.length z.c4,.slice z.a5 n.Ac.length z.c5,.slice z.a6 n.down.length z.c6,.slice z.a7 n.up.length z.c7]) (fun z=>[.ow Bb 3 (.slice z.a1 n.An.Ad.length z.c1) n.An.Ad z.F1,.ow A8 9 (.slice z.a2 n.Ab.Aa.Ao.length z.c2) n.Ab.Aa.Ao z.F2,.ow Bn 215 (.slice z.a3 n.Ab.holds.length z.c3) n.Ab.holds z.F3,.ow Ca 133 (.slice z.a4 n.Af.length z.c4) n.Af z.F4,.ow By 140 (.slice z.a5 n.Ac.length z.c5) n.Ac z.F5,.ow (Kx Ak 223) 142 (.slice z.a6 n.down.length z.c6) n.down z.F6,.ow (Kx Ak 223) 142 (.slice z.a7 n.up.length z.c7) n.up z.F7]):=by
 refine enter func49 rfl ntmps49 fun w0=>?_;refine Hm ?_;rintro a1 c1 F1 a2 c2 F2 a3 c3 F3 a4 c4 F4 a5 c5 F5 a6 c6 F6 a7 c7 F7 rfl l1 l2 l3 l4 l5 l6 l7;refine Gt n.Ab ?_;refine go ?_;intros
 refine E4 [1,2] [0,1,6,7] (fun z:ClN=>[(3,Iq z.g 0 0)]) (fun z=>[.row z.g 50 0 [] [.slice z.a1 n.An.Ad.length z.c1,.int .i64 n.Ab.Aa.Ap,.int .i64 n.Ab.Aa.size,.slice z.a2 n.Ab.Aa.Ao.length z.c2,.int .i64 n.Ab.Ai,.int .i64 n.Ab.quiet,.slice z.a3 n.Ab.holds.length z.c3,.slice none 0 0,.slice none 0 0,.slice (some ⟨z.g6,0,none⟩) n.down.length n.down.length,.slice (some ⟨z.g7,0,none⟩) n.up.length n.up.length] [],.ow Bb 3 (.slice z.a1 n.An.Ad.length z.c1) n.An.Ad z.F1,.ow A8 9 (.slice z.a2 n.Ab.Aa.Ao.length z.c2) n.Ab.Aa.Ao z.F2,.ow Bn 215 (.slice z.a3 n.Ab.holds.length z.c3) n.Ab.holds z.F3,.ow (Kx Ak 223) 142 (.slice (some ⟨z.g6,0,none⟩) n.down.length n.down.length) n.down z.F6,.ow (Kx Ak 223) 142 (.slice (some ⟨z.g7,0,none⟩) n.up.length n.up.length) n.up z.F7]) (fun _=>True) ?_ fun z _=>?_
 ·refine As [1] [] ?_;refine Ds 0 1 2 5 ?_;refine Ds 6 8 9 11 ?_;refine dt 12 ?_;refine dM 3 15 ?_ ?_
  ·refine oC ?_;refine cn (fun w st=>Vo _ n.An.Ad F1 w (st.get (p:=.sl _ _ _ _) FO).2 (by have:=hs.t;omega)) fun b1 d1 G1=>?_;refine dk ?_;refine dt 4 ?_;refine dM 7 15 ?_ ?_
   ·refine oC ?_;refine Cb (Ag4 n.Ab _ _ (by have:=hs.i;omega) (by have:=hs.h;omega)) fun s2 _=>?_;refine Qk (x:=n.Ab) ?_;rintro b2 d2 G2 b3 d3 G3 e2 - -;rw [e2];refine dk ?_;refine dM 10 15 ?_ ?_
    ·refine oC ?_;refine Cb (Jt n.down _ _ F6 (by have:=hs.d;omega) (fun q hq=>by have:=hs.dq q hq;omega)) fun s6 _=>?_;refine dk ?_;refine dM 13 15 ?_ ?_
     ·refine oC ?_;refine Cb (Jt n.up _ _ F7 (by have:=hs.u;omega) (fun q hq=>by have:=hs.uq q hq;omega)) fun s7 _=>?_;refine dk ?_;refine dt 14 ?_;refine dN 15 ?_;apply Cr;rfl;intro _;refine dk ?_;refine dN 16 ?_;refine oS ?_;refine dk ?_;refine dd ?_;refine Bt (⟨_,b1,d1,G1,b2,d2,G2,b3,d3,G3,_,_,_,_⟩:ClN) trivial
     ·apply Cr;rfl;intro _;refine dk ?_;refine dN 13 ?_;refine oC ?_;exact AN
    ·apply Cr;rfl;intro _;refine dk ?_;refine dN 10 ?_;refine oC ?_;refine Cb (Jt n.down _ _ F6 (by have:=hs.d;omega) (fun q hq=>by have:=hs.dq q hq;omega)) fun s6 _=>?_;refine dk ?_;refine dN 13 ?_;refine oC ?_;exact AN
   ·apply Cr;rfl;intro _;refine dk ?_;refine dN 7 ?_;refine oC ?_;refine Cb (Ag4 n.Ab _ _ (by have:=hs.i;omega) (by have:=hs.h;omega)) fun s2 _=>?_;refine Qk (x:=n.Ab) ?_;rintro b2 d2 G2 b3 d3 G3 e2 - -;rw [e2];refine dk ?_;refine dN 10 ?_;refine oC ?_;refine Cb (Jt n.down _ _ F6 (by have:=hs.d;omega) (fun q hq=>by have:=hs.dq q hq;omega)) fun s6 _=>?_;refine dk ?_;refine dN 13 ?_;refine oC ?_;refine Cb (Jt n.up _ _ F7 (by have:=hs.u;omega) (fun q hq=>by have:=hs.uq q hq;omega)) fun s7 _=>?_;refine dk ?_;refine dt 14 ?_;refine dN 16 ?_;refine oS ?_;refine dk ?_;refine dd ?_
    refine Bt (⟨_,b1,d1,G1,b2,d2,G2,b3,d3,G3,_,_,_,_⟩:ClN) trivial
  ·apply Cr;rfl;intro _;refine dk ?_;refine dN 3 ?_;refine oC ?_;refine cn (fun w st=>Vo _ n.An.Ad F1 w (st.get (p:=.sl _ _ _ _) FO).2 (by have:=hs.t;omega)) fun b1 d1 G1=>?_;refine dk ?_;refine dt 4 ?_;refine dN 7 ?_;refine oC ?_;refine Cb (Ag4 n.Ab _ _ (by have:=hs.i;omega) (by have:=hs.h;omega)) fun s2 _=>?_;refine Qk (x:=n.Ab) ?_;rintro b2 d2 G2 b3 d3 G3 e2 - -;rw [e2];refine dk ?_;refine dN 10 ?_;refine oC ?_;refine Cb (Jt n.down _ _ F6 (by have:=hs.d;omega) (fun q hq=>by have:=hs.dq q hq;omega)) fun s6 _=>?_;refine dk ?_;refine dN 13 ?_;refine oC ?_
   exact AN
 have he:=hs.e;have hr:=hs.rl;refine Dj Ca 133 ?_;refine go ?_
 refine Cj [1,2,3,24,25] (fun y:KA=>[(26,.int .i64 (y.k:Nat))]) (fun y=>[.row z.g 50 0 [] [.slice z.a1 n.An.Ad.length z.c1,.int .i64 n.Ab.Aa.Ap,.int .i64 n.Ab.Aa.size,.slice z.a2 n.Ab.Aa.Ao.length z.c2,.int .i64 n.Ab.Ai,.int .i64 n.Ab.quiet,.slice z.a3 n.Ab.holds.length z.c3,.slice y.a (n.Af.take y.k).length y.c,.slice none 0 0,.slice (some ⟨z.g6,0,none⟩) n.down.length n.down.length,.slice (some ⟨z.g7,0,none⟩) n.up.length n.up.length] [],.ow Ca 133 (.slice y.a (n.Af.take y.k).length y.c) (n.Af.take y.k) y.F]) (fun y=>y.k≤n.Af.length) (fun y=>n.Af.length - y.k) ⟨0,none,0,[]⟩ (Nat.zero_le _) fun y hy=>?_
 refine go ?_;refine Ax rfl (fun h1=>?_) (fun h1=>?_)
 ·have hk:y.k < n.Af.length:=FJ
  have htl:(n.Af.take y.k).length≤1048576:=GA
  refine Qb (xs:=n.Af) y.k ?_;rintro hi4 b4 o4 a8 c8 F8 e4 l8;rw [e4];refine Nr n.Af[y.k] ?_;refine go ?_;intros;refine As [0,4] [7] ?_;refine Ed 0 1 ?_;refine dt 2 ?_;refine dN 3 ?_;refine oC ?_;refine cv (fun w st=>Af6 _ n.Af[y.k] F8 w (st.get (p:=.isv _ _ _ _) FO) (by have:=hs.e1 _ (List.getElem_mem hk);omega) (fun x hx=>by have:=hs.e2 _ (List.getElem_mem hk) x hx;omega)) fun v9 F9=>?_;refine H4 (x:=n.Af[y.k]) ?_;rintro a9 c9 F10 rfl l9;refine Fc n.Af[y.k] ?_;refine dk ?_;refine dN 4 ?_;apply Lx;rfl;rfl;rfl;rfl;exact Lr;exact La;intro _;refine dk ?_;refine dN 5 ?_
  refine Ads Q1 n.Af[y.k] rfl fun a7 c7 F7=>?_;refine dk ?_;refine dt 6 ?_;refine dN 7 ?_;refine oS ?_;refine Tx ?_;refine dd ?_;rw [←List.take_succ_eq_append_getElem hk];refine go ?_;refine Ce ⟨y.k+1,a7,c7,F7⟩ hk (by show n.Af.length - (y.k+1) < n.Af.length - y.k;omega)
 rw [show n.Af.take y.k=n.Af from List.take_of_length_le FJ];obtain ⟨_,ea,ec,eF⟩:=y;dsimp only;refine Dj By 140 ?_;refine go ?_
 refine Cj [2,3,39,40] (fun y:KA=>[(41,.int .i64 (y.k:Nat))]) (fun y=>[.row z.g 50 0 [] [.slice z.a1 n.An.Ad.length z.c1,.int .i64 n.Ab.Aa.Ap,.int .i64 n.Ab.Aa.size,.slice z.a2 n.Ab.Aa.Ao.length z.c2,.int .i64 n.Ab.Ai,.int .i64 n.Ab.quiet,.slice z.a3 n.Ab.holds.length z.c3,.slice ea n.Af.length ec,.slice y.a (n.Ac.take y.k).length y.c,.slice (some ⟨z.g6,0,none⟩) n.down.length n.down.length,.slice (some ⟨z.g7,0,none⟩) n.up.length n.up.length] [],.ow By 140 (.slice y.a (n.Ac.take y.k).length y.c) (n.Ac.take y.k) y.F]) (fun y=>y.k≤n.Ac.length) (fun y=>n.Ac.length - y.k) ⟨0,none,0,[]⟩ (Nat.zero_le _) fun y hy=>?_
 refine go ?_;refine Ax rfl (fun h2=>?_) (fun h2=>?_)
 ·have hk:y.k < n.Ac.length:=FJ
  have htl:(n.Ac.take y.k).length≤1048576:=GA
  refine Kg (xs:=n.Ac) y.k ?_;rintro hi5 b5 o5 a8 c8 F8 a9 c9 F9 e5 l8 l9;rw [e5];refine Ev n.Ac[y.k] ?_;refine go ?_;intros;refine As [0,5] [7] ?_;refine Ed 0 1 ?_;refine dt 2 ?_;refine dN 3 ?_;refine oC ?_;refine Cb (Azk n.Ac[y.k] _ _ (by have:=(hs.r _ (List.getElem_mem hk)).1;omega) (by have:=(hs.r _ (List.getElem_mem hk)).2;omega)) fun s9 _=>?_;refine Ij (x:=n.Ac[y.k]) ?_;rintro a9 c9 G9 a10 c10 G10 e9 l9 l10;rw [e9];refine I6 n.Ac[y.k] ?_;refine dk ?_;refine dN 4 ?_;apply Lx;rfl;rfl;rfl;rfl;exact Lr;exact La;intro _;refine dk ?_;refine dN 5 ?_;refine Ads Pr n.Ac[y.k] rfl fun a7 c7 F7=>?_
  refine dk ?_;refine dt 6 ?_;refine dN 7 ?_;refine oS ?_;refine Tx ?_;refine dd ?_;rw [←List.take_succ_eq_append_getElem hk];refine go ?_;refine Ce ⟨y.k+1,a7,c7,F7⟩ hk (by show n.Ac.length - (y.k+1) < n.Ac.length - y.k;omega)
 rw [show n.Ac.take y.k=n.Ac from List.take_of_length_le FJ];refine go ?_;refine ret ⟨z.a1,z.c1,z.F1,z.a2,z.c2,z.F2,z.a3,z.c3,z.F3,ea,ec,eF,y.a,y.c,y.F,_,_,z.F6,_,_,z.F7⟩ trivial rfl
theorem Qw {v:Int} (h:0≤v):Lib.itoa v=Lib.decDigits v.natAbs:=by unfold Lib.itoa;rw [if_neg FJ,show v.toNat=v.natAbs by omega]
theorem Bhn (n:Int) (h0:0≤n) (h1:n≤999999) (w:World):Calls prog 86 #[.int .i64 n] w (RB (.string (bz (Lib.itoa n))) w):=by
 have:=Bgj n.toNat FJ w;rw [show ((n.toNat:Nat):Int)=n by omega,show n.toNat=n.natAbs by omega,←Qw h0] at this;exact this
theorem Ak3 (i:Nat) (hi:i≤100):FV 285 [.int .i64 (i:Nat)] [] (.int .i64 (N5 i)):=by
 refine enter func285 rfl ntmps285 fun w0=>?_;exact AA
theorem Xa (i:Nat) (hi:i≤100):FV 247 [.int .i64 (i:Nat)] [] (.int .i64 (N5 i)):=by
 refine enter func247 rfl ntmps247 fun w0=>?_;exact AA
theorem Bc2 (i:Nat) (es:List ByteArray) (a:Option Addr) (c:Nat) (F FT:List Nat) (hi:i≤100) (hl:es.length≤1000000) (hz:∀e∈es,e.size≤1000000):Fn prog 286 [.int .i64 (i:Nat),.slice a es.length c] [.sl A8 (.slice a es.length c) es F,Hp FT] [] (fun (_:KA)=>True) (fun z=>.slice z.a (Vk i es).length z.c) (fun z=>[.ow A8 9 (.slice z.a (Vk i es).length z.c) (Vk i es) z.F]):=by
 have hs0:(bz (Lib.itoa ((i:Nat):Int))).size≤6:=JZ
 refine enter func286 rfl ntmps286 fun w0=>?_;refine Dj A8 9 ?_;refine go ?_;refine Cj [0,4,8,9] (fun z:KA=>[(5,.slice z.a ((es.take z.k).map (N3 i)).length z.c),(10,.int .i64 (z.k:Nat))]) (fun z=>[.ow A8 9 (.slice z.a ((es.take z.k).map (N3 i)).length z.c) ((es.take z.k).map (N3 i)) z.F]) (fun z=>z.k≤es.length) (fun z=>es.length - z.k) ⟨0,none,0,[]⟩ (Nat.zero_le _) fun z hz0=>?_;have hml:((es.take z.k).map (N3 i)).length=z.k:=HZ
 refine go ?_;refine Ax rfl (fun h1=>?_) (fun h1=>?_)
 ·have hk:z.k < es.length:=FJ
  have hse:=hz _ (List.getElem_mem hk);have z1:(⟨#[32]⟩:ByteArray).size=1:=rfl;have zs:(bz (Lib.itoa ((i:Nat):Int))++⟨#[32]⟩).size=_:=ByteArray.size_append;have zt:(bz (Lib.itoa ((i:Nat):Int))++⟨#[32]⟩++es[z.k]).size=_:=ByteArray.size_append;have hst:((es.take z.k).map (N3 i))++[N3 i es[z.k]]=(es.take (z.k+1)).map (N3 i):=by rw [List.take_succ_eq_append_getElem hk,List.map_append];rfl
  have hte:(N3 i es[z.k]).size≤1000010:=by unfold N3;omega
  refine Nq (xs:=es) z.k ?_;rintro hi b o e1 s1;rw [e1];refine go ?_;refine cb (fun w st=>Abb ((i:Nat):Int) FJ FJ FT w (st.get (p:=Hp FT) FO)) ?_;refine O3 ?_;intros;apply wO;refine Qa (ys:=[N3 i es[z.k]]) (Aqt GC) Eh fun a9 c9 F9=>?_;rw [hst];refine go ?_;refine Ce ⟨z.k+1,a9,c9,F9⟩ hk (by show es.length - (z.k+1) < es.length - z.k;omega)
 ·rw [show es.take z.k=es from List.take_of_length_le FJ];exact CL
theorem Alp (i:Nat) (es:List ByteArray) (a:Option Addr) (c:Nat) (F FT:List Nat) (hi:i≤100) (hl:es.length≤1000000) (hz:∀e∈es,e.size≤1000000):Fn prog 248 [.int .i64 (i:Nat),.slice a es.length c] [.sl A8 (.slice a es.length c) es F,Hp FT] [] (fun (_:KA)=>True) (fun z=>.slice z.a (Vk i es).length z.c) (fun z=>[.ow A8 9 (.slice z.a (Vk i es).length z.c) (Vk i es) z.F]):=by
 have hs0:(bz (Lib.itoa ((i:Nat):Int))).size≤6:=JZ
 refine enter func248 rfl ntmps248 fun w0=>?_;refine go ?_;intros;refine Dc A8 ?_;refine Cj [0,1,4] (fun z:KA=>[(5,.slice z.a ((es.take z.k).map (N3 i)).length z.c),(6,.int .i64 (z.k:Nat))]) (fun z=>[.ow A8 9 (.slice z.a ((es.take z.k).map (N3 i)).length z.c) ((es.take z.k).map (N3 i)) z.F]) (fun z=>z.k≤es.length) (fun z=>es.length - z.k) ⟨0,_,0,_⟩ (Nat.zero_le _) fun z hz0=>?_;have hml:((es.take z.k).map (N3 i)).length=z.k:=HZ
 refine go ?_;refine Ax rfl (fun h1=>?_) (fun h1=>?_)
 ·have hk:z.k < es.length:=FJ
  have hse:=hz _ (List.getElem_mem hk);have z1:(⟨#[32]⟩:ByteArray).size=1:=rfl;have zs:(bz (Lib.itoa ((i:Nat):Int))++⟨#[32]⟩).size=_:=ByteArray.size_append;have zt:(bz (Lib.itoa ((i:Nat):Int))++⟨#[32]⟩++es[z.k]).size=_:=ByteArray.size_append;have hst:((es.take z.k).map (N3 i))++[N3 i es[z.k]]=(es.take (z.k+1)).map (N3 i):=by rw [List.take_succ_eq_append_getElem hk,List.map_append];rfl
  have hte:(N3 i es[z.k]).size≤1000010:=by unfold N3;omega
  refine Nq (xs:=es) z.k ?_;rintro hi b o e1 s1;rw [e1];refine go ?_;refine As [0] [] ?_;refine Ds 0 1 4 5 ?_;refine Ed 6 7 ?_;refine dN 2 ?_;refine oC ?_;refine cb (fun w st=>Bhn ((i:Nat):Int) FJ FJ w) ?_;refine dk ?_;refine Ed 3 8 ?_;refine dN 9 ?_;apply Lx;rfl;rfl;rfl;rfl;exact Lr;exact La;intro _;refine dk ?_;refine dN 10 ?_;refine Qa (ys:=[N3 i es[z.k]]) (Aqt GC) Eh fun a9 c9 F9=>?_;refine dk ?_;refine dt 11 ?_;refine dd ?_;rw [hst];refine go ?_;refine Ce ⟨z.k+1,a9,c9,F9⟩ hk (by show es.length - (z.k+1) < es.length - z.k;omega)
 ·rw [show es.take z.k=es from List.take_of_length_le FJ];exact CL
end Go.Proofs.YtkblpelckhegbaaGreatDoor
namespace Go.Proofs.YtkblpelckhegbaaGreatDoor

theorem Zf {α:Type} {p:α→Bool}:∀{xs:List α} {k:Nat},k≤xs.length→(∀j (_:j < k) (h:j < xs.length),p xs[j]=true)→(∀h:k < xs.length,p xs[k]=false)→(xs.takeWhile p).length=k
 | [],k,hk,_,_=>by simp at hk;simp [hk]
 | x::r,0,_,_,h2=>by have:=h2 FK;simp at this;simp [this]
 | x::r,k+1,hk,h1,h2=>by
  have hx:p x=true:=h1 0 FJ FK;rw [List.takeWhile_cons_of_pos hx,List.length_cons,Zf (xs:=r) (k:=k) (by simpa using hk) (fun j hj h=>by have:=h1 (j+1) FJ GE;simpa using this) (fun h=>by have:=h2 GE;simpa using this)]
theorem Se {α:Type} {p:α→Bool}:∀{xs:List α},(xs.takeWhile p).length≤xs.length∧(∀j (_:j < (xs.takeWhile p).length) (h:j < xs.length),p xs[j]=true)∧∀h:(xs.takeWhile p).length < xs.length,p xs[(xs.takeWhile p).length]=false
 | []=>by simp
 | x::r=>by
  cases hx:p x
  ·rw [List.takeWhile_cons_of_neg JC];simp [hx]
  ·rw [List.takeWhile_cons_of_pos hx];obtain ⟨h1,h2,h3⟩:=Se (p:=p) (xs:=r);refine ⟨IS,fun j hj h=>?_,fun h=>?_⟩
   ·cases j with
    | zero=>simpa using hx
    | succ j=>simpa using h2 j IR GE
   ·simpa using h3 GE
def Bek {α:Type} (f:α→Int):Option α→Bool
 | some x=>decide (f x=0)
 | none=>false
end Go.Proofs.YtkblpelckhegbaaGreatDoor
