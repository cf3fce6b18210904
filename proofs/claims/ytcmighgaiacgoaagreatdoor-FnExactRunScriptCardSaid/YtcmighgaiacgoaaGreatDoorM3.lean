/- Part 3 of the proof: 41 texts, one behind the other. -/
import Derived.Lib.ItoaNum
import Derived.Lib.Bytealg
import Derived.Test.YtcmighgaiacgoaaGreatDoorShelf
import Derived.Lib.Strings
import Derived.Lib.LaidTab
import Derived.Lib.ItoaMem
import Derived.Lib.SliceRun
import Derived.ArgAppend
import Derived.Deep.RegionLaw
import Derived.Test.YtcmighgaiacgoaaGreatDoorM2
open _root_.Go.Proofs.Tryz
set_option maxRecDepth 100000
set_option maxHeartbeats 8000000
set_option linter.all false
set_option linter.unusedVariables false
set_option linter.unusedSimpArgs false
namespace Go.Proofs.YtcmighgaiacgoaaGreatDoor
theorem AD{p:Prop}(h:p:=by refine go ?_;rw [←eo,←es,←el];refine Cg (⟨k+1,_,_,_,_,_,_,_,_,_⟩:TkS) (by show k+1≤l.length;omega) (by show l.length - (k+1) < l.length - k;omega)):p:=h
theorem AM{p:Prop}(h:p:=by refine Ca (Jp n.up _ _ F7 (by have:=hs.u;omega) (fun q hq=>by have:=hs.uq q hq;omega)) fun s7 _=>?_;refine dk ?_;refine dt 14 ?_;refine dN 16 ?_;refine oS ?_;refine dk ?_;refine dd ?_;refine Br (⟨_,b1,d1,G1,b2,d2,G2,b3,d3,G3,_,_,_,_⟩:ClN) trivial):p:=h
theorem AQ{p:Prop}(h:p:=by obtain ⟨cs,rfl,v1,v2,G1,G2,rfl,h1,h2,rfl⟩:=s.get hm;obtain ⟨a1,c1,rfl⟩:=h1.slice;have l1:=h1.len;obtain ⟨a2,c2,rfl⟩:=h2.slice;have l2:=h2.len;have t2:=s.ro (p:=.sl _ _ _ _) hm rfl rfl ⟨by decide,h2⟩ (by intro b hb;simp only [Pc.F] at hb ⊢;simp [hb]);have t1:=t2.ro (p:=.sl _ _ _ _) (List.mem_cons_of_mem _ hm) rfl rfl ⟨by decide,h1⟩ (by intro b hb;simp only [Pc.F] at hb ⊢;simp [hb]);exact (h a1 c1 G1 a2 c2 G2 rfl  l1 l2).h a w t1 g):p:=h
theorem AX{p:Prop}(h:p:=by refine ret (_,_) trivial rfl):p:=h
theorem AY{p:Prop}(h:p:=by refine go ?_;refine ret () trivial ?_;rw [bad (by rw [hck,decide_eq_true h6,decide_eq_false (show ¬k=0 by omega)];simp)];rfl):p:=h
theorem BK{p:Prop}(h:p:=by refine ret (_,_,_) trivial rfl):p:=h
theorem CI{p:Prop}(h:p:=by apply wO;refine Ps (ys:=[l[k].Ae]) (Tl _) C8 fun a8 c8 F8=>?_;refine go ?_;intros;apply wO;refine Ps (ys:=[(⟨l[k].Ae,2,c+3,l[k].D6+1⟩:Ax)]) (Of (⟨l[k].Ae,2,c+3,l[k].D6+1⟩:Ax)) C0 fun a7 c7 F7=>?_;exact AD):p:=h
theorem CJ{p:Prop}(h:p:=by refine go ?_;refine ret z trivial rfl):p:=h
theorem CN{p:Prop}(h:p:=by obtain ⟨a',c',rfl⟩:=h1.slice;exact ⟨(a',c',F'),trivial,rfl,⟨h2,h1⟩,fun b hb=>.inl (h3 b hb),h4⟩):p:=h
theorem CO{p:Prop}(h:p:=by obtain ⟨b,o,cs,G,ha,hrep,hG,hb,hne,hr⟩:=Yz (s.get hm) i hi;obtain ⟨rfl,rfl⟩:=hrep;exact (h hi b o  ha  ).h ac w (s.ro hm rfl rfl ⟨hne,hr⟩ (by intro x hx;simp [Pc.F] at hx;subst hx;exact hb)) g):p:=h
theorem CP{p:Prop}(h:p:=by refine dd ?_;exact AA):p:=h
theorem CT{p:Prop}(h:p:=by refine go ?_;refine ret () trivial ?_;rw [show Bv x=decide ((x.Am.length:Int)=0) by unfold Bv;rw [g1,hs];unfold Pu;rw [decide_eq_true h1,decide_eq_true (show x.Aa.Al.length=0 by omega)];simp];rfl):p:=h
theorem DK{p:Prop}(h:p:=by refine go ?_;refine ret (a2,c2,F2) trivial rfl):p:=h
theorem EE{p:Prop}(h:p:=by refine go ?_;rw [←eo];refine Cg (⟨k+1,_,_,_⟩:PkS) (by show k+1≤sn.length;omega) (by show sn.length - (k+1) < sn.length - k;omega)):p:=h
theorem EF{p:Prop}(h:p:=by rw [e,List.set_append_right _ _ (by omega),hl,Nat.sub_self,List.set_cons_zero,List.take_succ_eq_append_getElem h,List.append_assoc];rfl):p:=h
theorem EH{p:Prop}(h:p:=by refine go ?_;refine ret () trivial ?_;rw [bad (by rw [hck,g4];rfl)];rfl):p:=h
theorem EJ{p:Prop}(h:p:=by unfold Cu at hg;simp only [Bool.and_eq_true] at hg;exact Bc.1 hg.1.1.1):p:=h
theorem EO{p:Prop}(h:p:=by refine oC ?_;refine ce (fun w s=>P7 _ _ _ (by omega) (by omega) (by omega) (by omega)) ?_;refine dk ?_;refine Ec 7 8 ?_;exact CP):p:=h
theorem EQ{p:Prop}(h:p:=by refine go ?_;refine ret () trivial ?_;rw [nog (by unfold Pu;rw [decide_eq_false (show ¬x.Aa.Al.length=0 by omega)];simp)];rfl):p:=h
theorem ES{p:Prop}(h:p:=by apply wO;refine Ps (ys:=[(⟨l[k].Ae,1,c+d,l[k].D6⟩:Ax)]) (Of (⟨l[k].Ae,1,c+d,l[k].D6⟩:Ax)) C0 fun a7 c7 F7=>?_;exact AD):p:=h
theorem FC{p:Prop}(h:p:=by rw [List.take_left' (by rw [List.take_left' hk,hk]),List.take_left' hk,←hk];refine go ?_;refine ret (_,c,F2) trivial rfl):p:=h
theorem FX{p:Prop}(h:p:=by intro b hb;simp only [Pc.F] at hb ⊢;simp [hb]):p:=h
theorem GB{p:Prop}(h:p:=by simpa [fp,Pc.F,List.append_assoc] using hn):p:=h
theorem GT{p:Prop}(h:p:=by simp [Value.oneCell']):p:=h
theorem HF{p:Prop}(h:p:=by intro b hb;simp only [Pc.F] at hb ⊢;exact hG b (by simp [hb])):p:=h
theorem HU{p:Prop}(h:p:=by rw [show l.length - k=(l.length - (k+1))+1 by omega,List.replicate_succ]):p:=h
theorem HZ{p:Prop}(h:p:=by rw [List.length_map,List.length_take];omega):p:=h
theorem JB{p:Prop}(h:p:=by intro q hq;obtain rfl:=List.mem_singleton.1 hq;exact ⟨_,rfl,_,_,_,_,rfl,(s.get m1).2,(s.get m2).2,rfl⟩):p:=h
theorem JK{p:Prop}(h:p:=by rw [Iv hk];simp [Vd,h5,h6,h7]):p:=h
theorem JL{p:Prop}(h:p:=by rw [Iv hk];simp [U3,h5,h6,h7]):p:=h
theorem JM{p:Prop}(h:p:=by rw [Iv hk];simp [Q4,h5,h6,h7]):p:=h
theorem JO{p:Prop}(h:p:=by exact Lk):p:=h
theorem JZ{p:Prop}(h:p:=by rw [Iu,Ql (by omega)];exact Ej 5 _ (by have:(10:Nat) ^ (5+1)=1000000:=rfl;omega)):p:=h
theorem KS{p:Prop}(h:p:=by rw [List.take_add_one,List.getElem?_eq_getElem hk,List.map_append];rfl):p:=h
theorem LH{p:Prop}(h:p:=by rw [Nat.pow_succ] at h;omega):p:=h
theorem LL{p:Prop}(h:p:=by simp [hy]):p:=h
end Go.Proofs.YtcmighgaiacgoaaGreatDoor
namespace Go.Proofs.YtcmighgaiacgoaaGreatDoor
open Go.RowKit
section
variable {c:Cx} {fr:Fr} {H:List Pc} {Φ:Gl}
theorem H3 {v:Value} {x:Cj} {F:List Nat} (h:∀(a1:Option Addr) (c1:Nat) (F1:List Nat) (a2:Option Addr) (c2:Nat) (F2:List Nat),v=.agg #[.int .i64 x.Aa.Ap,.int .i64 x.Aa.size,.slice a1 x.Aa.An.length c1,.int .i64 x.Ai,.int .i64 x.quiet,.slice a2 x.holds.length c2]→x.Aa.An.length≤maxLen→x.holds.length≤maxLen→T c fr (.sl A8 (.slice a1 x.Aa.An.length c1) x.Aa.An F1::.sl Bm (.slice a2 x.holds.length c2) x.holds F2::H) Φ) (hm:.isv Dp v x F∈H:=by exact A9):T c fr H Φ:=.mk fun a w s g=>by
 exact AQ
theorem Hf (x:Cj) {a1:Option Addr} {c1:Nat} {F1:List Nat} {a2:Option Addr} {c2:Nat} {F2:List Nat}  (h:T c fr (.isv Dp (.agg #[.int .i64 x.Aa.Ap,.int .i64 x.Aa.size,.slice a1 x.Aa.An.length c1,.int .i64 x.Ai,.int .i64 x.quiet,.slice a2 x.holds.length c2]) x (F1++F2)::H) Φ) (m1:.sl A8 (.slice a1 x.Aa.An.length c1) x.Aa.An F1∈H:=by exact A9) (m2:.sl Bm (.slice a2 x.holds.length c2) x.holds F2∈H:=by exact A9):T c fr H Φ:=.mk fun a w s g=>by
 refine h.h a w (s.add (N:=[_]) (Below.refl _ _) JB ⟨FI,trivial⟩ fun q hq b hb=>?_) g;obtain rfl:=List.mem_singleton.1 hq;simp only [Pc.F,List.mem_append] at hb;rcases hb with hb|hb
 ·exact .inr ⟨rfl,_,m1,rfl,hb⟩
 ·exact .inr ⟨rfl,_,m2,rfl,hb⟩
theorem Qb {v:Value} {x:Cj} {F:List Nat} {S:List Pc} (h:∀(a1:Option Addr) (c1:Nat) (F1:List Nat) (a2:Option Addr) (c2:Nat) (F2:List Nat),v=.agg #[.int .i64 x.Aa.Ap,.int .i64 x.Aa.size,.slice a1 x.Aa.An.length c1,.int .i64 x.Ai,.int .i64 x.quiet,.slice a2 x.holds.length c2]→x.Aa.An.length≤maxLen→x.holds.length≤maxLen→T c fr (.ow A8 9 (.slice a1 x.Aa.An.length c1) x.Aa.An F1::.ow Bm 203 (.slice a2 x.holds.length c2) x.holds F2::S) Φ) (hp:Cn H (.own S8 v x F) S:=by exact Da):T c fr H Φ:=.mk fun a w s g=>by
 obtain ⟨hn,cs,rfl,v1,v2,G1,G2,rfl,h1,h2,rfl⟩:=(s.pick hp).on (.own S8 v x F) FI;obtain ⟨a1,c1,rfl⟩:=h1.slice;have l1:=h1.len;obtain ⟨a2,c2,rfl⟩:=h2.slice;have l2:=h2.len;exact (h a1 c1 G1 a2 c2 G2 rfl  l1 l2).h a w (s.mer (M:=[.own S8 _ x _]) (N:=[.ow A8 _ _ _ G1,.ow Bm _ _ _ G2]) (.cons hp .nil) (fun _ _=>⟨Qy ⟨(Ma hn),h1⟩ (Qy ⟨Ach hn,h2⟩ (Auw)),GB⟩) GZ) g
theorem Td (x:Cj) {a1:Option Addr} {c1:Nat} {F1:List Nat} {a2:Option Addr} {c2:Nat} {F2:List Nat} {S1 S2:List Pc}  (h:T c fr (.own S8 (.agg #[.int .i64 x.Aa.Ap,.int .i64 x.Aa.size,.slice a1 x.Aa.An.length c1,.int .i64 x.Ai,.int .i64 x.quiet,.slice a2 x.holds.length c2]) x (F1++F2)::S2) Φ) (m1:Cn H (.ow A8 9 (.slice a1 x.Aa.An.length c1) x.Aa.An F1) S1:=by exact Da) (m2:Cn S1 (.ow Bm 203 (.slice a2 x.holds.length c2) x.holds F2) S2:=by exact Da)  : T c fr H Φ:=.mk fun a w s g =>
 h.h a w (s.mer (M:=[.ow A8 _ _ _ F1,.ow Bm _ _ _ F2]) (N:=[.own S8 _ x (F1++F2)]) (.cons m1 (.cons m2 (.nil))) (fun hk hn=>⟨El ⟨GB,_,rfl,_,_,_,_,rfl,(Qz hk).2,(Qz (H9 hk)).2,rfl⟩,GB⟩) GZ) g
end
section
variable {c:Cx} {fr:Fr} {H:List Pc} {Φ:Gl}
theorem Aqj {v:Value} {x:Hx} {F:List Nat} (h:∀(_:Unit),v=.agg #[.int .i64 x.Ae,.int .i64 x.Ce]→T c fr (H) Φ) (hm:.isv Bm v x F∈H:=by exact A9):T c fr H Φ:=.mk fun a w s g=>by
 obtain ⟨cs,rfl,rfl,rfl⟩:=s.get hm;exact (h () rfl  ).h a w s g
theorem X8 {a:Option Addr} {n cp:Nat} {xs:List Hx} {F:List Nat} (i:Nat) (h:∀(hi:i < xs.length) (b o:Nat),a=some ⟨b,o,none⟩→T c fr (.cel b (o+i * 2) [.int .i64 xs[i].Ae,.int .i64 xs[i].Ce]::H) Φ) (hm:.sl Bm (.slice a n cp) xs F∈H:=by exact A9) (hi:i < xs.length:=by omega):T c fr H Φ:=.mk fun ac w s g=>by
 exact CO
end
section
variable {c:Cx} {fr:Fr} {H:List Pc} {Φ:Gl}
theorem Ez {v:Value} {x:Aw} {F:List Nat} (h:∀(a1:Option Addr) (c1:Nat) (F1:List Nat),v=.agg #[.int .i64 x.Ap,.int .i64 x.size,.slice a1 x.An.length c1]→x.An.length≤maxLen→T c fr (.sl A8 (.slice a1 x.An.length c1) x.An F1::H) Φ) (hm:.isv Bw v x F∈H:=by exact A9):T c fr H Φ:=.mk fun a w s g=>by
 exact AG
theorem C3 (x:Aw) {a1:Option Addr} {c1:Nat} {F1:List Nat}  (h:T c fr (.isv Bw (.agg #[.int .i64 x.Ap,.int .i64 x.size,.slice a1 x.An.length c1]) x (F1)::H) Φ) (m1:.sl A8 (.slice a1 x.An.length c1) x.An F1∈H:=by exact A9):T c fr H Φ:=.mk fun a w s g=>by
 exact AH
theorem Hl {v:Value} {x:Aw} {F:List Nat} {S:List Pc} (h:∀(a1:Option Addr) (c1:Nat) (F1:List Nat),v=.agg #[.int .i64 x.Ap,.int .i64 x.size,.slice a1 x.An.length c1]→x.An.length≤maxLen→T c fr (.ow A8 9 (.slice a1 x.An.length c1) x.An F1::S) Φ) (hp:Cn H (.own Km v x F) S:=by exact Da):T c fr H Φ:=.mk fun a w s g=>by
 have z1:=s.pick hp;obtain ⟨hn,cs,rfl,v1,rfl,h1⟩:=z1.on (.own Km v x F) FI;obtain ⟨a1,c1,rfl⟩:=h1.slice;have l1:=h1.len;refine (h a1 c1 F rfl  l1).h a w (St.turn (M:=[.own Km (.agg #[.int .i64 x.Ap,.int .i64 x.size,.slice a1 x.An.length c1]) x _]) (N:=[.ow A8 9 (.slice a1 x.An.length c1) x.An F]) z1 (Dr.refl _ w) ?_ ?_ ?_) g
 ·exact DH
 ·exact ⟨FI,trivial⟩
 ·exact DN
theorem Q7 (x:Aw) {a1:Option Addr} {c1:Nat} {F1:List Nat} {S1:List Pc}  (h:T c fr (.own Km (.agg #[.int .i64 x.Ap,.int .i64 x.size,.slice a1 x.An.length c1]) x (F1)::S1) Φ) (m1:Cn H (.ow A8 9 (.slice a1 x.An.length c1) x.An F1) S1:=by exact Da)  : T c fr H Φ:=.mk fun a w s g=>by
 have z1:St c.G c.D c.w0 ([.ow A8 9 (.slice a1 x.An.length c1) x.An F1]++S1) w:=by simpa using (show Ih H [.ow A8 9 (.slice a1 x.An.length c1) x.An F1] S1 from Ih.cons m1 (Ih.nil)).st (X:=[]) HN
 obtain ⟨n1,k1⟩:=z1.on (.ow A8 9 (.slice a1 x.An.length c1) x.An F1) FI;have hN:=n1;refine h.h a w (St.turn (M:=[.ow A8 9 (.slice a1 x.An.length c1) x.An F1]) (N:=[.own Km (.agg #[.int .i64 x.Ap,.int .i64 x.size,.slice a1 x.An.length c1]) x (F1)]) z1 (Dr.refl _ w) GU ⟨FI,trivial⟩ fun q hq b hb=>?_) g;exact BZ
end
def Jb (w:Aw) (n:Int):Bool:=decide (gp w.Ap n < (w.An.length:Int))
theorem Amu {n:Int} (h:Ky n=true):0≤n∧n≤9999:=by unfold Ky Ga at h;simpa using h
def Ajt (x:Cj) (i:Nat):Bool:=match x.holds[i]? with
 | none=>true
 | some h=>B8 h.Ae && Jb x.Aa h.Ae && Ga (x.Ai+1) h.Ce (x.Ai+3) && (decide (i=0) || match x.holds[i - 1]? with|none=>true|some p=>!decide (gp x.Aa.Ap h.Ae≤gp x.Aa.Ap p.Ae))
theorem Qh {x:Cj} {i:Nat} (h:i < x.holds.length):Ajt x i=(B8 x.holds[i].Ae && Jb x.Aa x.holds[i].Ae && Ga (x.Ai+1) x.holds[i].Ce (x.Ai+3) && (decide (i=0) || !decide (gp x.Aa.Ap x.holds[i].Ae≤gp x.Aa.Ap (x.holds[i - 1]'FH).Ae))):=by
 unfold Ajt;rw [List.getElem?_eq_getElem h,List.getElem?_eq_getElem (show i - 1 < x.holds.length by omega)]
def Cz (x:Cj):Bool:=D8 x.Aa && Ky x.Ai && Ga 0 x.quiet 3 && (List.range x.holds.length).all (Ajt x)
theorem Ahr {x:Cj} {i:Nat} (h:i < x.holds.length) (hc:Ajt x i=false):Cz x=false:=by
 have:(List.range x.holds.length).all (Ajt x)=false:=List.all_eq_false.2 ⟨i,GA,JY⟩;simp [Cz,this]
theorem Ae6 {x:Cj} (h1:D8 x.Aa=true) (h2:Ky x.Ai=true) (h3:Ga 0 x.quiet 3=true) (h:∀j,j < x.holds.length→Ajt x j=true):Cz x=true:=by
 unfold Cz;rw [h1,h2,h3,List.all_eq_true.2 fun j hj=>h j IR];rfl
theorem Yh (x:Aw) (n:Int) (v:Value) (F:List Nat) (h0:0≤x.Ap) (h1:x.Ap≤65535) (h2:0≤n) (h3:n≤65535) :
  FV 170 [v,.int .i64 n] [.isv Bw v x F] (.bool (Jb x n)):=by
 refine enter func170 rfl ntmps170 fun w0=>?_;refine Ez ?_;rintro a1 c1 F1 rfl l1;refine go ?_;intros;refine As [0] [] ?_;refine Dq 0 1 2 4 ?_;refine Ec 5 6 ?_;refine dN 3 ?_;exact EO
theorem Zj (x:Aw) (n:Int) (v:Value) (F:List Nat) (h0:0≤x.Ap) (h1:x.Ap≤65535) (h2:-1≤n) (h3:n≤65536) :
  FV 134 [v,.int .i64 n] [.isv Bw v x F] (.bool (Jb x n)):=by
 refine enter func134 rfl ntmps134 fun w0=>?_;refine Ez ?_;rintro a1 c1 F1 rfl l1;refine go ?_;intros;refine As [0] [] ?_;refine Dq 0 1 2 4 ?_;refine Ec 5 6 ?_;refine dN 3 ?_;refine oC ?_;refine ce (fun w s=>Jq _ _ _ FH FH) ?_;refine dk ?_;refine Ec 7 8 ?_;exact CP
theorem Ap5 (x:Aw) (n:Int) (v:Value) (F:List Nat) (h0:0≤x.Ap) (h1:x.Ap≤65535) (h2:0≤n) (h3:n≤65535) :
  FV 134 [v,.int .i64 n] [.isv Bw v x F] (.bool (Jb x n)):=Zj x n v F h0 h1 FH FH
theorem Afz (x:Cj) (v:Value) (F:List Nat):FV 90 [v] [.isv Dp v x F] (.bool (Cz x)):=by
 refine enter func90 rfl ntmps90 fun w0=>?_;refine H3 ?_;rintro a1 c1 F1 a2 c2 F2 rfl l1 l2;unfold maxLen at l1 l2;refine C3 x.Aa ?_;generalize F1=F3;refine go ?_;intros;refine cb (fun w st=>Sx _ x.Aa _ w (st.get (p:=.isv Bw (.agg #[.int .i64 x.Aa.Ap,.int .i64 x.Aa.size,.slice a1 x.Aa.An.length c1]) x.Aa F3) FI)) ?_;cases g1:D8 x.Aa
 ·refine go ?_;refine ret () trivial ?_;simp [Cz,g1,Us]
 obtain ⟨⟨t0,t1⟩, -⟩:=Ea.1 g1;refine go ?_;refine ce (fun w s=>Tv _ _) ?_;cases g2:Ky x.Ai
 ·refine go ?_;refine ret () trivial ?_;simp [Cz,g2,Us]
 obtain ⟨k0,k1⟩:=Amu g2;refine go ?_;refine ce (fun w s=>Id _ _ _ _) ?_;cases g3:Ga 0 x.quiet 3
 ·refine go ?_;refine ret () trivial ?_;simp [Cz,g3,Us]
 refine go ?_;refine Eh [1,2,22,23] (fun k:Nat=>[(24,.int .i64 k)]) (fun k=>k≤x.holds.length∧∀j,j < k→Ajt x j=true) (fun k=>x.holds.length - k) 0 ⟨Nat.zero_le _,fun j h=>by omega⟩ fun k hk=>?_;obtain ⟨hk1,hk2⟩:=hk;refine go ?_;refine A1 rfl (fun h3=>?_) (fun h3=>?_)
 ·have hk3:k < x.holds.length:=FH
  have bad:Ajt x k=false→Cz x=false:=fun h=>Ahr hk3 h;have hck:=Qh hk3;refine X8 (xs:=x.holds) k ?_;rintro hi b o e;rw [e];refine go ?_;intros;refine ce (fun w s=>Jc _ _) ?_;cases g4:B8 x.holds[k].Ae
  ·exact EH
  obtain ⟨m0,m1⟩:=Bc.1 g4;refine go ?_;refine cb (fun w st=>(Yh x.Aa x.holds[k].Ae _ _ t0 t1 m0 m1).val w (El (st.get (p:=.isv Bw (.agg #[.int .i64 x.Aa.Ap,.int .i64 x.Aa.size,.slice a1 x.Aa.An.length c1]) x.Aa F3) FI))) ?_;cases g5:Jb x.Aa x.holds[k].Ae
  ·refine go ?_;refine ret () trivial ?_;rw [bad (by rw [hck,g4,g5];rfl)];rfl
  refine go ?_;refine ce (fun w s=>Id _ _ _ _) ?_;cases g6:Ga (x.Ai+1) x.holds[k].Ce (x.Ai+3)
  ·refine go ?_;refine ret () trivial ?_;rw [bad (by rw [hck,g4,g5,g6];rfl)];rfl
  refine go ?_;by_cases hk0:0 < k
  ·have hk4:k - 1 < x.holds.length:=FH
   have hp:=hk2 (k - 1) FH;rw [Qh hk4] at hp;simp only [Bool.and_eq_true] at hp;obtain ⟨p0,p1⟩:=Bc.1 hp.1.1.1;rw [←e];refine X8 (xs:=x.holds) (k - 1) ?_;rintro hi5 b5 o5 e5;rw [e5];refine As [0,1,3] [] ?_;refine Ec 0 1 ?_;rw [decide_eq_true (show (0:Int) < k by omega)];refine dt 2 ?_;refine Do 3 ?_;refine Do 4 ?_;refine Do 5 ?_;refine Do 6 ?_;refine Do 7 ?_;refine Do 8 ?_;refine Do 9 ?_;rw [show (k:Int) - 1=((k - 1:Nat):Int) by omega];refine Do 10 ?_;refine Do 11 ?_;refine Do 12 ?_;refine Do 14 ?_;refine Do 15 ?_;refine Do 16 ?_;refine Do 17 ?_;refine Do 18 ?_;refine d1g 13 ?_
   apply On.h;refine oC ?_;refine ce (fun w s=>P7 _ _ _ FH FH FH FH) ?_;refine dk ?_;refine d1g 19 ?_;apply On.h;refine oC ?_;refine ce (fun w s=>P7 _ _ _ FH FH FH FH) ?_;refine dk ?_;refine Do 20 ?_;refine dt 21 ?_;refine dd ?_;refine go ?_;refine A1 rfl (fun h6=>?_) (fun h6=>?_)
   ·exact AY
   ·refine go ?_;refine Cg (k+1) ⟨FH,fun j hj=>?_⟩ FH;rcases Nat.lt_or_eq_of_le (Nat.lt_succ_iff.1 hj) with h|rfl
    ·exact hk2 j h
    ·rw [hck,g4,g5,g6,decide_eq_false h6];simp
  ·have hz:k=0:=FH
   refine As [0,2] [] ?_;refine Ec 0 1 ?_;rw [decide_eq_false (show ¬(0:Int) < k by omega)];refine dt 2 ?_;refine ds 3 ?_;refine ds 4 ?_;refine ds 5 ?_;refine ds 6 ?_;refine ds 7 ?_;refine ds 8 ?_;refine ds 9 ?_;refine ds 10 ?_;refine ds 11 ?_;refine ds 12 ?_;refine ds 13 ?_;refine ds 14 ?_;refine ds 15 ?_;refine ds 16 ?_;refine ds 17 ?_;refine ds 18 ?_;refine ds 19 ?_;refine ds 20 ?_;refine dt 21 ?_;refine dd ?_;refine go ?_;refine Cg (k+1) ⟨FH,fun j hj=>?_⟩ FH;rcases Nat.lt_or_eq_of_le (Nat.lt_succ_iff.1 hj) with h|rfl
   ·exact hk2 j h
   ·rw [hck,g4,g5,g6,decide_eq_true hz];simp
 have hkl:k=x.holds.length:=FH
 refine go ?_;refine ret () trivial ?_;rw [Ae6 g1 g2 g3 (hkl▸hk2)];rfl
theorem Aw2 (x:Cj) (v:Value) (F:List Nat):FV 68 [v] [.isv Dp v x F] (.bool (Cz x)):=by
 refine enter func68 rfl ntmps68 fun w0=>?_;refine H3 ?_;rintro a1 c1 F1 a2 c2 F2 rfl l1 l2;unfold maxLen at l1 l2;refine C3 x.Aa ?_;generalize F1=F3;refine go ?_;intros;refine cb (fun w st=>Ap4 _ x.Aa _ w (st.get (p:=.isv Bw (.agg #[.int .i64 x.Aa.Ap,.int .i64 x.Aa.size,.slice a1 x.Aa.An.length c1]) x.Aa F3) FI)) ?_;cases g1:D8 x.Aa
 ·refine go ?_;refine ret () trivial ?_;simp [Cz,g1,Us]
 obtain ⟨⟨t0,t1⟩, -⟩:=Ea.1 g1;refine go ?_;refine ce (fun w s=>Aa8 _ _) ?_;cases g2:Ky x.Ai
 ·refine go ?_;refine ret () trivial ?_;simp [Cz,g2,Us]
 obtain ⟨k0,k1⟩:=Amu g2;refine go ?_;refine ce (fun w s=>Kk _ _ _ _) ?_;cases g3:Ga 0 x.quiet 3
 ·refine go ?_;refine ret () trivial ?_;simp [Cz,g3,Us]
 refine go ?_;refine Eh [1,2] (fun k:Nat=>[(3,.int .i64 k)]) (fun k=>k≤x.holds.length∧∀j,j < k→Ajt x j=true) (fun k=>x.holds.length - k) 0 ⟨Nat.zero_le _,fun j h=>by omega⟩ fun k hk=>?_;obtain ⟨hk1,hk2⟩:=hk;refine go ?_;refine A1 rfl (fun h3=>?_) (fun h3=>?_)
 ·have hk3:k < x.holds.length:=FH
  have bad:Ajt x k=false→Cz x=false:=fun h=>Ahr hk3 h;have hck:=Qh hk3;refine X8 (xs:=x.holds) k ?_;rintro hi b o e;rw [e];refine go ?_;intros;refine ce (fun w s=>Pi _ _) ?_;cases g4:B8 x.holds[k].Ae
  ·exact EH
  obtain ⟨m0,m1⟩:=Bc.1 g4;refine go ?_;refine cb (fun w st=>(Ap5 x.Aa x.holds[k].Ae _ _ t0 t1 m0 m1).val w (El (st.get (p:=.isv Bw (.agg #[.int .i64 x.Aa.Ap,.int .i64 x.Aa.size,.slice a1 x.Aa.An.length c1]) x.Aa F3) FI))) ?_;cases g5:Jb x.Aa x.holds[k].Ae
  ·refine go ?_;refine ret () trivial ?_;rw [bad (by rw [hck,g4,g5];rfl)];rfl
  refine go ?_;refine ce (fun w s=>Kk _ _ _ _) ?_;cases g6:Ga (x.Ai+1) x.holds[k].Ce (x.Ai+3)
  ·refine go ?_;refine ret () trivial ?_;rw [bad (by rw [hck,g4,g5,g6];rfl)];rfl
  refine go ?_;by_cases hk0:0 < k
  ·have hk4:k - 1 < x.holds.length:=FH
   have hp:=hk2 (k - 1) FH;rw [Qh hk4] at hp;simp only [Bool.and_eq_true] at hp;obtain ⟨p0,p1⟩:=Bc.1 hp.1.1.1;rw [←e];refine X8 (xs:=x.holds) (k - 1) ?_;rintro hi5 b5 o5 e5;rw [e5];refine As [0,1,3] [] ?_;refine Ec 0 1 ?_;rw [decide_eq_true (show (0:Int) < k by omega)];refine dt 2 ?_;refine Do 3 ?_;refine Do 4 ?_;refine Do 5 ?_;refine Do 6 ?_;refine Do 7 ?_;refine Do 8 ?_;refine Do 9 ?_;rw [show (k:Int) - 1=((k - 1:Nat):Int) by omega];refine Do 10 ?_;refine Do 11 ?_;refine Do 12 ?_;refine Do 14 ?_;refine Do 15 ?_;refine Do 16 ?_;refine Do 17 ?_;refine Do 18 ?_;refine d1g 13 ?_
   apply On.h;refine oC ?_;refine ce (fun w s=>Jq _ _ _ FH FH) ?_;refine dk ?_;refine d1g 19 ?_;apply On.h;refine oC ?_;refine ce (fun w s=>Jq _ _ _ FH FH) ?_;refine dk ?_;refine Do 20 ?_;refine dt 21 ?_;refine dd ?_;refine go ?_;refine A1 rfl (fun h6=>?_) (fun h6=>?_)
   ·exact AY
   ·refine go ?_;refine Cg (k+1) ⟨FH,fun j hj=>?_⟩ FH;rcases Nat.lt_or_eq_of_le (Nat.lt_succ_iff.1 hj) with h|rfl
    ·exact hk2 j h
    ·rw [hck,g4,g5,g6,decide_eq_false h6];simp
  ·have hz:k=0:=FH
   refine As [0,2] [] ?_;refine Ec 0 1 ?_;rw [decide_eq_false (show ¬(0:Int) < k by omega)];refine dt 2 ?_;refine ds 3 ?_;refine ds 4 ?_;refine ds 5 ?_;refine ds 6 ?_;refine ds 7 ?_;refine ds 8 ?_;refine ds 9 ?_;refine ds 10 ?_;refine ds 11 ?_;refine ds 12 ?_;refine ds 13 ?_;refine ds 14 ?_;refine ds 15 ?_;refine ds 16 ?_;refine ds 17 ?_;refine ds 18 ?_;refine ds 19 ?_;refine ds 20 ?_;refine dt 21 ?_;refine dd ?_;refine go ?_;refine Cg (k+1) ⟨FH,fun j hj=>?_⟩ FH;rcases Nat.lt_or_eq_of_le (Nat.lt_succ_iff.1 hj) with h|rfl
   ·exact hk2 j h
   ·rw [hck,g4,g5,g6,decide_eq_true hz];simp
 have hkl:k=x.holds.length:=FH
 refine go ?_;refine ret () trivial ?_;rw [Ae6 g1 g2 g3 (hkl▸hk2)];rfl
def Fc (l:List Ar):Bool:=decide (l.length≤6) && l.all Bt
def upQ (l:List Ar):Bool:=l.all fun p=>decide (p.Cp=3)
def Na (e:Bf):Bool:=decide (e.Ai=0) && decide (e.Ah.length=0)
def Uo (r:Ay):Bool:=!r.Bd && decide (r.Ai=0) && Pu r
def Rk (par:List Int) (clk:Int) (i:Nat) (e:Bf) (r:Ay) (d u:List Ar):Bool:=Fc d && Fc u && upQ u &&
 (if i=0 then Na e && Uo r && decide (d.length=0) && decide (u.length=0)
  else if Eo par i then Na e && Bv r && decide (r.Ai=clk) else Ba e && decide (e.Ai=clk) && Uo r)
def T7 (n:Dv) (i:Nat):Bool:=match n.Af[i]?,n.Ac[i]?,n.down[i]?,n.up[i]? with
 | some e,some r,some d,some u=>Rk n.Ao.Ad n.Ab.Ai i e r d u
 | _,_,_,_=>true
def L9 (n:Dv):Bool:=decide (n.Af.length=n.Ao.Ad.length) && decide (n.Ac.length=n.Ao.Ad.length) && decide (n.down.length=n.Ao.Ad.length) && decide (n.up.length=n.Ao.Ad.length)
def At (n:Dv):Bool:=Kc n.Ao && Cz n.Ab && L9 n && Pr (T7 n) n.Ao.Ad.length
theorem Vm {n:Dv} {i:Nat} (h1:i < n.Af.length) (h2:i < n.Ac.length) (h3:i < n.down.length) (h4:i < n.up.length):T7 n i=Rk n.Ao.Ad n.Ab.Ai i n.Af[i] n.Ac[i] n.down[i] n.up[i]:=by
 unfold T7;rw [List.getElem?_eq_getElem h1,List.getElem?_eq_getElem h2,List.getElem?_eq_getElem h3,List.getElem?_eq_getElem h4]
theorem Bl {n:Dv}:L9 n=true↔n.Af.length=n.Ao.Ad.length∧n.Ac.length=n.Ao.Ad.length∧n.down.length=n.Ao.Ad.length∧n.up.length=n.Ao.Ad.length:=by
 unfold L9;simp only [Bool.and_eq_true,decide_eq_true_eq];exact ⟨fun ⟨⟨⟨a,b⟩,c⟩,d⟩=>⟨a,b,c,d⟩,fun ⟨a,b,c,d⟩=>⟨⟨⟨a,b⟩,c⟩,d⟩⟩
theorem Uw {n:Dv}:At n=true↔Kc n.Ao=true∧Cz n.Ab=true∧L9 n=true∧∀i,i < n.Ao.Ad.length→T7 n i=true:=by
 unfold At;simp only [Bool.and_eq_true];exact ⟨fun ⟨⟨⟨a,b⟩,c⟩,d⟩=>⟨a,b,c,Js d⟩,fun ⟨a,b,c,d⟩=>⟨⟨⟨a,b⟩,c⟩,Lw d⟩⟩
theorem Ahp {n:Dv} {i:Nat} (hi:i < n.Ao.Ad.length) (h:T7 n i=false):At n=false:=by unfold At;rw [Mi hi h,Bool.and_false]
theorem Arz {r:Ay} (h:Bv r=true):Uo r=(!r.Bd && decide (r.Ai=0)):=by
 unfold Uo;cases hs:r.Bd
 ·unfold Bv at h;rw [hs] at h;simp only [Bool.and_eq_true,Bool.false_eq_true,if_false] at h;rw [h.2,Bool.and_true]
 ·rfl
theorem Ww {r:Ay} (h:Uo r=true):Bv r=true:=by
 unfold Uo at h;simp only [Bool.and_eq_true,Bool.not_eq_true',decide_eq_true_eq] at h;unfold Bv;rw [h.1.1,h.2,h.1.2];rfl
theorem Wv {e:Bf} (h:Na e=true):Ba e=true:=by
 unfold Na at h;simp only [Bool.and_eq_true,decide_eq_true_eq] at h;unfold Ba;rw [h.1,h.2];rfl
def Aiw (par:List Int) (clk:Int) (i:Nat) (e:Bf) (r:Ay) (d u:List Ar):Bool:=Ba e && Bv r && Fc d && (Fc u && upQ u) &&
 (if i=0 then Na e && (!r.Bd && decide (r.Ai=0)) && decide (d.length+u.length=0)
  else if Eo par i then Na e && decide (r.Ai=clk) else (!r.Bd && decide (r.Ai=0)) && decide (e.Ai=clk))
theorem Aej (par:List Int) (clk:Int) (i:Nat) (e:Bf) (r:Ay) (d u:List Ar):Aiw par clk i e r d u=Rk par clk i e r d u:=by
 have hz:(decide (d.length+u.length=0))=(decide (d.length=0) && decide (u.length=0)):=by
  by_cases a:d.length=0 <;> by_cases b:u.length=0 <;> simp [a,b]
 unfold Aiw Rk;rw [hz];cases gq:Fc d <;> cases gu:Fc u <;> cases gk:upQ u <;> simp only [Bool.and_false,Bool.false_and,Bool.and_true,Bool.true_and]
 split
 ·cases he:Na e
  ·simp
  ·rw [Wv he];cases hr:Bv r
   ·cases hr2:Uo r
    ·simp
    ·rw [Ww hr2] at hr;cases hr
   ·rw [Arz hr];simp [Bool.and_assoc]
 ·split
  ·cases he:Na e
   ·simp
   ·rw [Wv he];simp
  ·cases hr:Bv r
   ·cases hr2:Uo r
    ·simp
    ·rw [Ww hr2] at hr;cases hr
   ·rw [Arz hr];cases Ba e <;> cases (!r.Bd && decide (r.Ai=0)) <;> simp
def Wc (q:List Ar) (p:Ar):List Ar:=if q.length < 6 then q++[p] else q
def Hq (q ps:List Ar):List Ar:=q++ps.take (6 - q.length)
theorem Aqs (q:List Ar):Hq q []=q:=by unfold Hq;simp
theorem Ax3 (q:List Ar) (p:Ar) (ps:List Ar):Hq (Wc q p) ps=Hq q (p::ps):=by
 unfold Hq Wc;by_cases h:q.length < 6
 ·rw [if_pos h,show 6 - q.length=(6 - (q.length+1))+1 by omega,List.take_succ_cons];simp
 ·rw [if_neg h,show 6 - q.length=0 by omega];simp
theorem Bbp (q:List Ar) (p:Ar):Hq q [p]=Wc q p:=by rw [←Ax3,Aqs]
theorem Aqr (q ps:List Ar):(Hq q ps).length≤q.length+ps.length∧(q.length≤6→(Hq q ps).length≤6):=by
 unfold Hq;rw [List.length_append,List.length_take];omega
theorem Aeg {q ps:List Ar} (hq:Fc q=true) (hp:∀p∈ps,Bt p=true):Fc (Hq q ps)=true:=by
 unfold Fc at *;simp only [Bool.and_eq_true,decide_eq_true_eq] at hq ⊢;refine ⟨(Aqr q ps).2 hq.1,?_⟩;unfold Hq;rw [List.all_append,hq.2,Bool.true_and,List.all_eq_true];exact fun p h=>hp p (List.mem_of_mem_take h)
def Dn (d:List (List Ar)) (nodes:List Int) (ps:List Ar):List (List Ar):=nodes.foldl (fun d x=>d.modify x.toNat fun q=>Hq q ps) d
theorem Abk (ps:List Ar):∀(nodes:List Int) (d:List (List Ar)),(Dn d nodes ps).length=d.length
 | [],_=>rfl
 | x::r,d=>by
  show (Dn (d.modify x.toNat fun q=>Hq q ps) r ps).length=d.length;rw [Abk ps r,List.length_modify]
theorem Aq3 (d:List (List Ar)) (nodes:List Int) (x:Int) (ps:List Ar):Dn d (nodes++[x]) ps=(Dn d nodes ps).modify x.toNat fun q=>Hq q ps:=by
 unfold Dn;rw [List.foldl_append];rfl
def Mu (f:Nat→Nat):Nat→List (List Ar)→Nat
 | _,[]=>0
 | k,x::r=>x.length * f k+Mu f (k+1) r
theorem Ajm (f:Nat→Nat):∀(l:List (List Ar)) (k i:Nat) (h:i < l.length) (x:List Ar),Mu f k (l.set i x)+l[i].length * f (k+i)=Mu f k l+x.length * f (k+i)
 | [],_,_,h,_=>absurd h FI
 | y::r,k,0,_,x=>by
  show x.length * f k+Mu f (k+1) r+y.length * f k=y.length * f k+Mu f (k+1) r+x.length * f k;omega
 | y::r,k,i+1,h,x=>by
  have hr:i < r.length:=GA
  have ih:=Ajm f r (k+1) i hr x;show y.length * f k+Mu f (k+1) (r.set i x)+r[i].length * f (k+(i+1))=y.length * f k+Mu f (k+1) r+x.length * f (k+(i+1));rw [show k+(i+1)=k+1+i by omega];omega
theorem Ik {l:List (List Ar)} {i:Nat} {g:List Ar→List Ar} (h:i < l.length):l.modify i g=l.set i (g l[i]):=by
 refine List.ext_getElem? fun j=>?_;rw [List.getElem?_modify,List.getElem?_set];by_cases e:i=j
 ·subst e;simp [h]
 ·simp [e]
theorem Abc {l:List (List Ar)} {i:Nat} {g:List Ar→List Ar} (h:¬i < l.length):l.modify i g=l:=by
 refine List.ext_getElem? fun j=>?_;rw [List.getElem?_modify];by_cases e:i=j
 ·subst e;simp [List.getElem?_eq_none (show l.length≤i by omega)]
 ·simp [e]
theorem Arx (f:Nat→Nat) (l:List (List Ar)) (i:Nat) (ps:List Ar):Mu f 0 (l.modify i fun q=>Hq q ps)≤Mu f 0 l+ps.length * f i:=by
 by_cases h:i < l.length
 ·have h1:=Ajm f l 0 i h (Hq l[i] ps);have h2:=Nat.mul_le_mul_right (f i) (Aqr l[i] ps).1;rw [Nat.zero_add,Nat.add_mul] at *;rw [Ik h];omega
 ·rw [Abc h];omega
def Abl (f:Nat→Nat) (nodes:List Int):Nat:=(nodes.map fun x=>f x.toNat).sum
theorem U5 (f:Nat→Nat) (ps:List Ar):∀(nodes:List Int) (d:List (List Ar)),Mu f 0 (Dn d nodes ps)≤Mu f 0 d+ps.length * Abl f nodes
 | [],d=>by show Mu f 0 d≤_;omega
 | x::r,d=>by
  have ih:=U5 f ps r (d.modify x.toNat fun q=>Hq q ps);have h1:=Arx f d x.toNat ps;show Mu f 0 (Dn (d.modify x.toNat fun q=>Hq q ps) r ps)≤Mu f 0 d+ps.length * (f x.toNat+Abl f r);rw [Nat.mul_add];omega
theorem Bdi (f:Nat→Nat) (l:List (List Ar)) (i:Nat) (h:i < l.length) (h0:0 < l[i].length):Mu f 0 (l.set i (l[i].drop 1))+f i=Mu f 0 l:=by
 have h1:=Ajm f l 0 i h (l[i].drop 1);rw [List.length_drop,Nat.zero_add] at h1;have h2:l[i].length * f i=(l[i].length - 1) * f i+f i:=by
  obtain ⟨m,hm⟩:∃m,l[i].length=m+1:=⟨l[i].length - 1,FH⟩;rw [hm,Nat.succ_mul,Nat.add_sub_cancel]
 omega
theorem Amh (f:Nat→Nat) (b:Nat):∀nodes:List Int,(∀x∈nodes,f x.toNat≤b)→Abl f nodes≤nodes.length * b
 | [],_=>by simp [Abl]
 | x::r,h=>by
  have ih:=Amh f b r fun y hy=>h y LL;have:=h x FI;show f x.toNat+Abl f r≤(r.length+1) * b;rw [Nat.succ_mul];omega
theorem L0 {l:List Int} (hg:Vg l) {i:Nat} {x:Int} (h:x∈Iw l (i:Int)):i < x.toNat∧x.toNat < l.length∧0≤x:=by
 obtain ⟨j,hj,rfl,e⟩:=Apy h;rcases Nat.eq_zero_or_pos j with rfl|h0
 ·have:=hg.z hj;omega
 ·have:=(hg.p j hj h0).2;simp only [Int.toNat_natCast];omega
theorem Vx (l:List Int) (node:Int):(Iw l node).length≤l.length:=Ahy l node l.length
abbrev Bs:=List UInt8
def Ee (b:UInt8) (l:Bs):Bs:=l.takeWhile (· != b)
def My (b:UInt8) (l:Bs):Bs:=(l.dropWhile (· != b)).drop 1
theorem Ags {b:UInt8} {x r:Bs} (h:∀c∈x,c≠b):Ee b (x++b::r)=x:=by
 unfold Ee;rw [List.takeWhile_append_of_pos GA];simp
theorem Avn {b:UInt8} {x:Bs} (h:∀c∈x,c≠b):Ee b x=x:=by
 have:=List.takeWhile_append_of_pos (p:=(· != b)) (l₁:=x) (l₂:=[]) GA;simpa [Ee] using this
theorem Akq {b:UInt8} {x r:Bs} (h:∀c∈x,c≠b):My b (x++b::r)=r:=by
 unfold My;rw [List.dropWhile_append_of_pos GA];simp
theorem Akr {b:UInt8} {x:Bs} (h:∀c∈x,c≠b):My b x=[]:=by
 have:=List.dropWhile_append_of_pos (p:=(· != b)) (l₁:=x) (l₂:=[]) GA;simp only [List.append_nil,List.dropWhile_nil] at this;simp [My,this]
theorem Ac6 {b:UInt8} {l:Bs}:∀c∈Ee b l,c≠b:=by
 unfold Ee
 induction l with
 | nil=>simp
 | cons d l ih =>
  intro c hc;rw [List.takeWhile_cons] at hc
  split at hc
  ·rename_i h;rcases List.mem_cons.1 hc with rfl|hc
   ·simpa using h
   ·exact ih c hc
  ·simp at hc
theorem Pp (b:UInt8) (l:Bs):(b∈l∧l=Ee b l++b::My b l)∨(b ∉ l∧Ee b l=l∧My b l=[]):=by
 by_cases h:b∈l
 ·left;refine ⟨h,?_⟩;unfold Ee My
  induction l with
  | nil=>cases h
  | cons c l ih =>
   by_cases hc:c=b
   ·subst hc;simp
   ·have hm:b∈l:=by
     rcases List.mem_cons.1 h with e|e
     ·exact absurd e.symm hc
     ·exact e
    simp only [List.takeWhile_cons,List.dropWhile_cons,bne_iff_ne,ne_eq,hc,not_false_eq_true,if_true,List.cons_append];rw [←ih hm]
 ·right;exact ⟨h,Avn fun c hc e=>h (e▸hc),Akr fun c hc e=>h (e▸hc)⟩
def D9:Bs→List Bs
 | []=>[]
 | b::r=>if b == 10 then [10]::D9 r else match D9 r with
  | []=>[[b]]
  | x::xs=>(b::x)::xs
theorem Th:∀l:Bs,(D9 l).flatten=l
 | []=>rfl
 | b::r=>by
  have ih:=Th r;unfold D9
  split
  ·rename_i h;simp at h;subst h;simp [ih]
  ·cases h:D9 r with
   | nil=>rw [h] at ih;simp at ih;subst ih;simp
   | cons x xs=>rw [h] at ih;simp at ih;simp [ih]
theorem Ug:∀{x:Bs} (r:Bs),(∀c∈x,c≠10)→D9 (x++10::r)=(x++[10])::D9 r
 | [],r,_=>by simp [D9]
 | b::x,r,h=>by
  have ih:=Ug (x:=x) r fun c hc=>h c JY;have hb:(b == 10)=false:=by simpa using h b FI
  simp only [List.cons_append,D9,hb,ih];simp
theorem W5:∀{x:Bs},x≠[]→(∀c∈x,c≠10)→D9 x=[x]
 | [b],_,h=>by
  have hb:(b == 10)=false:=by simpa using h b FI
  simp [D9,hb]
 | b::c::x,_,h=>by
  have ih:=W5 (x:=c::x) FI fun c hc=>h c JY;have hb:(b == 10)=false:=by simpa using h b FI
  rw [D9,hb,ih];simp
theorem W6:∀{l:Bs} {x:Bs},x∈D9 l→x≠[]
 | b::r,x,h=>by
  unfold D9 at h
  split at h
  ·rcases List.mem_cons.1 h with rfl|h
   ·simp
   ·exact W6 h
  ·cases h2:D9 r with
   | nil=>rw [h2] at h;simp at h;simp [h]
   | cons y ys =>
    rw [h2] at h;rcases List.mem_cons.1 h with rfl|h
    ·simp
    ·exact W6 (l:=r) (by rw [h2];simp [h])
def Whole (x:Bs):Prop:=∃y,x=y++[10]∧∀c∈y,c≠10
theorem Yo:∀{xs:List Bs} (r:Bs),(∀x∈xs,Whole x)→D9 (xs.flatten++r)=xs++D9 r
 | [],_,_=>rfl
 | x::xs,r,h=>by
  obtain ⟨y,rfl,hy⟩:=h x FI;have ih:=Yo (xs:=xs) r fun z hz=>h z JR;simp only [List.flatten_cons,List.append_assoc,List.cons_append,List.nil_append];rw [Ug _ hy,ih]
theorem P3:∀(u:Nat) (c:UInt8),c∈Lib.decDigits u→48≤c.toNat∧c.toNat≤57:=by
 intro u
 induction u using Nat.strongRecOn with
 | ind u ih =>
  intro c hc;rw [Lib.decDigits] at hc;have hd:∀d:Nat,d < 10→48≤(UInt8.ofNat (48+d)).toNat∧(UInt8.ofNat (48+d)).toNat≤57:=fun d hd=>by
   rw [UInt8.toNat_ofNat'];omega
  split at hc
  ·simp only [List.mem_singleton] at hc;subst hc;exact hd _ FH
  ·rcases List.mem_append.1 hc with h|h
   ·exact ih _ FH c h
   ·simp only [List.mem_singleton] at h;subst h;exact hd _ FH
theorem Ao4 {u:Nat} {b:UInt8} (hb:b.toNat < 48∨57 < b.toNat):∀c∈Lib.decDigits u,c≠b:=fun c hc e=>by
 have:=P3 u c hc;subst e;omega
theorem Ej:∀(n u:Nat),u < 10 ^ (n+1)→(Lib.decDigits u).length≤n+1
 | 0,u,h=>by rw [Lib.decDigits,dif_pos GA];simp
 | n+1,u,h=>by
  rw [Lib.decDigits]
  split
  ·simp
  ·have:=Ej n (u / 10) LH;simp;omega
theorem Zb (u:Nat):1≤(Lib.decDigits u).length:=by
 rw [Lib.decDigits];split <;> simp
def Acw (h:Nat) (c:UInt8):Nat:=(41 * h+c.toNat+1) % 999979
def Tp (l:Bs):Nat:=l.foldl Acw 7
theorem Acv (l:Bs):Tp l < 999979:=by
 have h:∀(l:Bs) (n:Nat),n < 999979→l.foldl Acw n < 999979:=by
  intro l
  induction l with
  | nil=>intro n hn;simpa using hn
  | cons c l ih=>intro n hn;rw [List.foldl_cons];exact ih _ (by unfold Acw;omega)
 exact h l 7 FH
theorem Aym (l:Bs) (c:UInt8):Tp (l++[c])=Acw (Tp l) c:=by simp [Tp]
def O9 (l:Bs):Bs:=l++35::Lib.decDigits (Tp l)
theorem Aek (l:Bs):(O9 l).length≤l.length+7:=by
 have:=Ej 5 (Tp l) (by have:=Acv l;omega);simp [O9];omega
def Lm (k:Nat) (c r:Bs):Bs:=Lib.decDigits k++32::(c++64::r)
def Kz (k:Nat) (c r:Bs):Bs:=O9 (Lm k c r)++[10]
def Ae5 (c r:Bs):Bool:=Ga 1 c.length 160 && decide ((r.length:Int)≤200) && I0 c && I0 r && !Ka 64 c
theorem Afe {b:UInt8}:Qo b=true↔(32≤b.toNat∧b.toNat≤126)∧b≠35:=by
 simp [Qo,Ga];omega
theorem Aff {l:Bs} (h:I0 l=true):∀c∈l,(32≤c.toNat∧c.toNat≤126)∧c≠35:=fun c hc=>by
 unfold I0 at h;exact Afe.1 (List.all_eq_true.1 h c hc)
structure Zw (c r:Bs):Prop where
 c0:1≤c.length
 c1:c.length≤160
 r1:r.length≤200
 ct:∀b∈c,(32≤b.toNat∧b.toNat≤126)∧b≠35
 rt:∀b∈r,(32≤b.toNat∧b.toNat≤126)∧b≠35
 ca:∀b∈c,b≠64
theorem Je {c r:Bs} (h:Ae5 c r=true):Zw c r:=by
 unfold Ae5 Ga at h;simp only [Bool.and_eq_true,decide_eq_true_eq,Bool.not_eq_true'] at h;obtain ⟨⟨⟨⟨⟨h1,h2⟩,h3⟩,h4⟩,h5⟩,h6⟩:=h;refine ⟨FH,FH,FH,Aff h4,Aff h5,fun b hb e=>?_⟩;unfold Ka at h6;have:=List.any_eq_false.1 h6 b hb;simp [e] at this
theorem Afi {a b:UInt8} (h:a.toNat≠b.toNat):a≠b:=fun e=>h (by rw [e])
theorem Ts {k:Nat} {c r:Bs} (h:Zw c r):∀b∈Lm k c r,(32≤b.toNat∧b.toNat≤126)∧b≠35:=by
 intro b hb;unfold Lm at hb;simp only [List.mem_append,List.mem_cons] at hb;rcases hb with hb|rfl|hb|rfl|hb
 ·have:=P3 k b hb;exact ⟨FH,Afi FO⟩
 ·decide
 ·exact h.ct b hb
 ·decide
 ·exact h.rt b hb
theorem Ap7 {k:Nat} {c r:Bs} (h:Zw c r):Whole (Kz k c r):=by
 refine ⟨O9 (Lm k c r),rfl,fun b hb=>?_⟩;unfold O9 at hb;simp only [List.mem_append,List.mem_cons] at hb;rcases hb with hb|rfl|hb
 ·have:=Ts h b hb;exact Afi FO
 ·decide
 ·exact Ao4 FI b hb
theorem Adk {k:Nat} {c r:Bs} (hk:k≤59) (h:Zw c r):(Lm k c r).length≤364:=by
 have:=Ej 1 k FH;have:=h.c1;have:=h.r1;simp [Lm];omega
theorem Ad6 {k:Nat} {c r:Bs} (hk:k≤59) (h:Zw c r):(Kz k c r).length≤372:=by
 have:=Adk hk h;have:=Aek (Lm k c r);simp [Kz];omega
def Af3 (k:Int) (c r:Bs):Option Bs:=if Ga 0 k 59 && Ae5 c r then some (Kz k.toNat c r) else none
theorem Av6 {k:Int} {c r x:Bs} (h:Af3 k c r=some x):(0≤k∧k≤59)∧Zw c r∧x=Kz k.toNat c r:=by
 unfold Af3 at h
 split at h
 ·rename_i h2;simp only [Bool.and_eq_true,Ga,decide_eq_true_eq] at h2;exact ⟨h2.1,Je h2.2,by simpa using h.symm⟩
 ·cases h
def Ajc (x:Bs):Bs:=My 32 (Ee 35 x)
def Af1 (x:Bs):Bs:=Ee 64 (Ajc x)
def Af9 (x:Bs):Bs:=My 64 (Ajc x)
theorem Amd {k:Nat} {c r s:Bs} (h:Zw c r):Ajc (Lm k c r++35::s)=c++64::r:=by
 unfold Ajc;rw [Ags fun b hb=>(Ts h b hb).2];exact Akq (Ao4 FI)
theorem Ap6 (k:Nat) (c r:Bs):Kz k c r=Lm k c r++35::(Lib.decDigits (Tp (Lm k c r))++[10]):=by simp [Kz,O9]
theorem Ag8 {k:Nat} {c r:Bs} (h:Zw c r):Af1 (Kz k c r)=c:=by
 unfold Af1;rw [Ap6,Amd h];exact Ags h.ca
theorem Aiq {k:Nat} {c r:Bs} (h:Zw c r):Af9 (Kz k c r)=r:=by
 unfold Af9;rw [Ap6,Amd h];exact Akq h.ca
def Z3 (k:Nat) (x:Bs):Bool:=Af3 k (Af1 x) (Af9 x) == some x
theorem Uz {k:Nat} {x:Bs}:Z3 k x=true↔∃c r,k≤59∧Ae5 c r=true∧x=Kz k c r:=by
 unfold Z3;rw [beq_iff_eq];constructor
 ·intro h;have h2:=Av6 h;refine ⟨Af1 x,Af9 x,FH,?_,by simpa using h2.2.2⟩;unfold Af3 at h
  split at h
  ·rename_i h3;simp only [Bool.and_eq_true] at h3;exact h3.2
  ·cases h
 ·rintro ⟨c,r,hk,hg,rfl⟩;have hG:=Je hg;rw [Ag8 hG,Aiq hG];unfold Af3;rw [if_pos (by simp [hg,Ga];omega)];simp
theorem Alu {k:Nat} {x:Bs} (h:Z3 k x=true):Whole x:=by
 obtain ⟨c,r,_,hg,rfl⟩:=Uz.1 h;exact Ap7 (Je hg)
theorem Be4 {k:Nat} {x:Bs} (h:Z3 k x=true):x.length≤372:=by
 obtain ⟨c,r,hk,hg,rfl⟩:=Uz.1 h;exact Ad6 hk (Je hg)
def acc:Nat→List Bs→List Bs
 | _,[]=>[]
 | k,x::r=>if Z3 k x then x::acc (k+1) r else []
theorem Aui:∀(k:Nat) (xs:List Bs),acc k xs <+: xs
 | _,[]=>List.prefix_rfl
 | k,x::r=>by
  unfold acc
  split
  ·exact (List.cons_prefix_cons).2 ⟨rfl,Aui (k+1) r⟩
  ·exact List.nil_prefix
theorem Amq:∀(k:Nat) (xs:List Bs),∀x∈acc k xs,∃j,Z3 j x=true
 | _,[],x,h=>by simp [acc] at h
 | k,y::r,x,h=>by
  unfold acc at h
  split at h
  ·rename_i hy;rcases List.mem_cons.1 h with rfl|h
   ·exact ⟨k,hy⟩
   ·exact Amq (k+1) r x h
  ·cases h
theorem Auh:∀(k:Nat) (xs:List Bs),k≤60→k+(acc k xs).length≤60
 | _,[],hk=>by simpa [acc] using hk
 | k,x::r,hk=>by
  unfold acc
  split
  ·rename_i h;obtain ⟨c,r',h2,_⟩:=Uz.1 h;have:=Auh (k+1) r FH;simp;omega
  ·simpa using hk
theorem Azm (k:Nat) (xs:List Bs):(acc k xs).flatten.length≤372 * (acc k xs).length:=by
 have h:=Amq k xs;revert h;generalize acc k xs=ys;intro h
 induction ys with
 | nil=>simp
 | cons y ys ih =>
  obtain ⟨j,hj⟩:=h y FI;have h1:=Be4 hj;have h2:=ih fun x hx=>h x JC;simp only [List.flatten_cons,List.length_append,List.length_cons];omega
theorem Aug:∀(k:Nat) (xs:List Bs) (m:Nat),acc k ((acc k xs).take m)=(acc k xs).take m
 | _,[],m=>by simp [acc]
 | k,x::r,m=>by
  by_cases h:Z3 k x=true
  ·have e:acc k (x::r)=x::acc (k+1) r:=by simp [acc,h]
   rw [e];cases m with
   | zero=>simp [acc]
   | succ m=>simp [acc,h,Aug (k+1) r m]
  ·simp [acc,h]
theorem Wn:∀(k:Nat) (xs ys:List Bs),acc k xs=xs→acc k (xs++ys)=xs++acc (k+xs.length) ys
 | _,[],_,_=>by simp
 | k,x::r,ys,h=>by
  unfold acc at h
  split at h
  ·rename_i hx;have h2:=Wn (k+1) r ys GA;simp only [List.cons_append,acc,hx,if_true,h2,List.length_cons];rw [show k+1+r.length=k+(r.length+1) by omega]
  ·cases h
def Bp (s:Bs):List Bs:=acc 0 (D9 s)
theorem Yt {s:Bs} (h:(Bp s).flatten.length=s.length):Bp s=D9 s:=by
 obtain ⟨t,ht⟩:=Aui 0 (D9 s);have h2:=Th s;rw [←ht,List.flatten_append] at h2;have h3:t.flatten=[]:=by
  have:=congrArg List.length h2;rw [List.length_append] at this;have h4:(acc 0 (D9 s)).flatten.length=s.length:=h;exact List.eq_nil_of_length_eq_zero FH
 have h4:t=[]:=by
  cases t with
  | nil=>rfl
  | cons x t =>
   have:=W6 (l:=s) (x:=x) (by rw [←ht];simp);simp at h3;exact absurd h3.1 this
 unfold Bp;rw [h4] at ht;simpa using ht
theorem V9 {s:Bs} (h:(Bp s).flatten.length=s.length):(Bp s).flatten=s:=by rw [Yt h,Th]
theorem Ni (s:Bs):(Bp s).flatten.length≤22320∧(Bp s).length≤60:=by
 have h1:=Azm 0 (D9 s);have h2:=Auh 0 (D9 s) FH;unfold Bp;omega
theorem Tj {xs:List Bs} (h:acc 0 xs=xs) (r:Bs):Bp (xs.flatten++r)=xs++acc xs.length (D9 r):=by
 unfold Bp;rw [Yo r (fun x hx=>by rw [←h] at hx;obtain ⟨j,hj⟩:=Amq 0 _ x hx;exact Alu hj),Wn 0 xs _ h];simp
def Ln:Nat→List Bs→List Nat
 | n,[]=>[n]
 | n,x::r=>n::Ln (n+x.length) r
theorem Akz {m:Nat}:∀{n:Nat} {xs:List Bs},m∈Ln n xs↔∃j,j≤xs.length∧m=n+(xs.take j).flatten.length
 | n,[]=>by simp [Ln]
 | n,x::r=>by
  unfold Ln;rw [List.mem_cons,Akz];constructor
  ·rintro (rfl|⟨j,hj,rfl⟩)
   ·exact ⟨0,FI,FI⟩
   ·exact ⟨j+1,IR,FO⟩
  ·rintro ⟨j,hj,rfl⟩;cases j with
   | zero=>left;simp
   | succ j=>right;exact ⟨j,IR,FO⟩
theorem Aa0:∀{n:Nat} {xs:List Bs},(Ln n xs).getLast?=some (n+xs.flatten.length)
 | n,[]=>by simp [Ln]
 | n,x::r=>by
  have ih:=Aa0 (n:=n+x.length) (xs:=r);unfold Ln;rw [List.getLast?_cons];rw [ih];simp;omega
theorem Tu:∀{n:Nat} {xs:List Bs},(Ln n xs).length=xs.length+1
 | n,[]=>rfl
 | n,x::r=>by simp [Ln,Tu]
theorem Ahj:∀{n:Nat} {xs:List Bs} {x:Bs},Ln n (xs++[x])=Ln n xs++[n+xs.flatten.length+x.length]
 | n,[],x=>by simp [Ln]
 | n,y::r,x=>by
  have:=Ahj (n:=n+y.length) (xs:=r) (x:=x);simp only [List.cons_append,Ln,this];simp;omega
def At7 (d p:Bs) (n:Int):Bool:=decide ((Bp (d++p)).flatten.length=d.length+p.length) && (Ln 0 (Bp (d++p))).contains d.length && decide (n=(Bp (d++p)).length)
def Kl (d p:Bs) (n:Int):Bool:=decide (d.length+p.length≤30000) && (decide ((Bp (d++p)).flatten.length=d.length+p.length) && decide ((Bp d).flatten.length=d.length) && decide (((Bp (d++p)).length:Int)=n))
theorem Akj {d p:Bs} (h:(Bp (d++p)).flatten.length=d.length+p.length):d.length∈Ln 0 (Bp (d++p))↔(Bp d).flatten.length=d.length:=by
 rw [Akz];have hA:(Bp (d++p)).flatten=d++p:=V9 (by rw [h];simp);constructor
 ·rintro ⟨j,hj,e⟩;rw [Nat.zero_add] at e;have hd:((Bp (d++p)).take j).flatten=d:=by
   have h1:((Bp (d++p)).take j).flatten++((Bp (d++p)).drop j).flatten=d++p:=by rw [←List.flatten_append,List.take_append_drop,hA]
   exact (List.append_inj h1 e.symm).1
  have h2:=Tj (xs:=(Bp (d++p)).take j) (Aug 0 _ j) [];rw [List.append_nil,hd] at h2;rw [h2];simp [D9,acc,hd]
 ·intro hd;have hf:=Yt hd;have hD:(Bp d).flatten=d:=V9 hd;have h2:=Tj (xs:=Bp d) (by rw [hf];exact hf) p;rw [hD] at h2;refine ⟨(Bp d).length,by rw [h2];simp,?_⟩;rw [h2];simp [hD]
theorem Bda (d p:Bs) (n:Int):At7 d p n=Kl d p n:=by
 unfold At7 Kl;by_cases h:(Bp (d++p)).flatten.length=d.length+p.length
 ·have h1:=Ni (d++p);have h2:=Akj h;have h3:decide (d.length+p.length≤30000)=true:=FO
  have h4:(Ln 0 (Bp (d++p))).contains d.length=decide ((Bp d).flatten.length=d.length):=by
   rw [Bool.eq_iff_iff,decide_eq_true_iff,List.contains_iff_mem];exact h2
  rw [h3,h4];have h5:decide (n=((Bp (d++p)).length:Int))=decide (((Bp (d++p)).length:Int)=n):=by
   rw [Bool.eq_iff_iff];simp [eq_comm]
  rw [h5];cases decide ((Bp d).flatten.length=d.length) <;> simp [h]
 ·rw [decide_eq_false h];simp
def Hy (k:Nat):Bs:=Lib.decDigits k++[32]
def Uj (s:Bs) (k:Nat):(Bs × Bs) × Bool :=
 let text:=Ee 35 s
 if text.length < (Hy k).length∨text.take (Hy k).length≠Hy k then (([],[]),false)
 else
  let rest:=text.drop (Hy k).length
  if (Ee 64 rest).length=rest.length then (([],[]),false)
  else ((Ee 64 rest,rest.drop ((Ee 64 rest).length+1)),Ae5 (Ee 64 rest) (rest.drop ((Ee 64 rest).length+1)) && (Kz k (Ee 64 rest) (rest.drop ((Ee 64 rest).length+1)) == s++[10]))
theorem Aqu {k:Nat} {s:Bs} (hk:k≤59):(Uj s k).2=Z3 k (s++[10]):=by
 rw [Bool.eq_iff_iff,Uz];constructor
 ·intro h;unfold Uj at h;dsimp only at h
  split at h
  ·cases h
  ·split at h
   ·cases h
   ·simp only [Bool.and_eq_true,beq_iff_eq] at h;exact ⟨_,_,hk,h.1,h.2.symm⟩
 ·rintro ⟨c,r,_,hg,e⟩;have hG:=Je hg;have e2:s=Lm k c r++35::Lib.decDigits (Tp (Lm k c r)):=by
   unfold Kz at e;exact (List.append_cancel_right e)
  have ht:Ee 35 s=Lm k c r:=by rw [e2];exact Ags fun b hb=>(Ts hG b hb).2
  have hb:Lm k c r=Hy k++(c++64::r):=by simp [Lm,Hy]
  unfold Uj;simp only [ht,hb,List.length_append,List.take_left',List.drop_left',ne_eq,not_true_eq_false,or_false];rw [if_neg FI,Ags hG.ca,if_neg FI];have hd:(c++64::r).drop (c.length+1)=r:=by
   rw [←List.drop_drop];simp
  simp only [hd,hg,Bool.true_and];rw [e];simp
theorem Ax6 {k:Nat} {s:Bs} (h:(Uj s k).2=true):(Uj s k).1=(Af1 (s++[10]),Af9 (s++[10])):=by
 unfold Uj at h ⊢;dsimp only at h ⊢
 split at h
 ·cases h
 ·rename_i h1;rw [if_neg h1]
  split at h
  ·cases h
  ·rename_i h2;rw [if_neg h2];simp only [Bool.and_eq_true,beq_iff_eq] at h;have hG:=Je h.1;rw [←h.2,Ag8 hG,Aiq hG]
def bz (l:Bs):ByteArray:=⟨l.toArray⟩
theorem Jo (l:Bs):(bz l).data.toList=l:=by simp [bz]
theorem Ya (s:ByteArray):bz s.data.toList=s:=by simp [bz]
theorem Iu (l:Bs):(bz l).size=l.length:=by simp [bz,ByteArray.size]
theorem Ct (s:ByteArray):s.data.toList.length=s.size:=by simp
theorem Bg0 (a b:Bs):bz a++bz b=bz (a++b):=by apply ByteArray.ext;simp [bz,ByteArray.data_append]
theorem Im (s t:ByteArray):(s++t).data.toList=s.data.toList++t.data.toList:=by simp [ByteArray.data_append]
theorem Zo {a b:ByteArray} (h:a=b):Ending.returned (.string a)=.returned (.string b):=by rw [h]
theorem Aat (w:World) (k:Nat) (os:Array Obj):Below w.heap.size w (Go.Sort.grow (w.drewN k) os):=by
 refine ⟨rfl,rfl,rfl,?_,fun i hi=>?_⟩
 ·simp [Go.Sort.grow,World.drewN]
 ·simp [Go.Sort.grow,World.drewN,Array.getElem?_append_left hi]
def Bj4:Bn Unit where
 sz:=0
 Kn w cs _ F:=cs=[]∧(Lib.TabIs prog w "internal/strconv.uint64pow10" .u64 Lib.pow10Tab∧(∃m,w.cell? ⟨0,0,none⟩=some (.int .i64 m))∧(∃tp p,w.var? prog "strconv.ErrSyntax" = some #[.iface tp p])∧(∃tp p,w.var? prog "strconv.ErrRange" = some #[.iface tp p]))∧F=[3,0,4,5]∧∀b∈F,b < w.heap.size
 len h:=LC
 lt h:=h.2.2.2
 frame h hF:=by
  obtain ⟨h1,⟨h2,h3,h4,h5⟩,rfl,h6⟩:=h;have e0:=hF 3 FI;have e1:=hF 0 FI;have e2:=hF 4 FI;have e3:=hF 5 FI;refine ⟨h1,⟨?_,?_,?_,?_⟩,rfl,fun b hb=>?_⟩
  ·unfold Lib.TabIs World.var? at h2 ⊢;rw [show prog.globalNamed "internal/strconv.uint64pow10" = some 3 by kernel_rfl] at h2 ⊢;simp only [Option.bind_some] at h2 ⊢;rw [e0];exact h2
  ·obtain ⟨m,hm⟩:=h3;refine ⟨m,?_⟩;unfold World.cell? at hm ⊢;rw [e1];exact hm
  ·obtain ⟨tp,p,hm⟩:=h4;refine ⟨tp,p,?_⟩;unfold World.var? at hm ⊢;rw [show prog.globalNamed "strconv.ErrSyntax" = some 4 by kernel_rfl] at hm ⊢;simp only [Option.bind_some] at hm ⊢;rw [e2];exact hm
  ·obtain ⟨tp,p,hm⟩:=h5;refine ⟨tp,p,?_⟩;unfold World.var? at hm ⊢;rw [show prog.globalNamed "strconv.ErrRange" = some 5 by kernel_rfl] at hm ⊢;simp only [Option.bind_some] at hm ⊢;rw [e3];exact hm
  ·have e:=hF b hb;have:=h6 b hb;rw [Array.getElem?_eq_getElem this] at e;exact (Array.getElem?_eq_some_iff.1 e).1
theorem Adl:∀n:Nat,n < 10→(⟨#[48,49,50,51,52,53,54,55,56,57]⟩:ByteArray).extract n (n+1)=⟨#[UInt8.ofNat (48+n)]⟩:=by decide
theorem W4:∀(k n:Nat) (w:World),n < 10 ^ (k+1)→n≤999999999999999999 →
  Calls prog 146 #[.int .i64 (n:Int)] w fun e w'=>e=.returned (.string (bz (Lib.decDigits n)))∧∃j,w'=w.drewN j:=by
 intro k
 induction k with
 | zero =>
  intro n w h1 h2;have h3:n < 10:=IS
  have hd:=Lib.hid (Adl n h3);have hn:¬((n:Int) < 0):=FH
  go_enter func146,ntmps146
  go_wp2_with fail
  go_ret
  refine ⟨Zo ?_,0,rfl⟩;rw [hd.out,Lib.decDigits,dif_pos h3];rfl
 | succ k ih =>
  intro n w h1 h2;by_cases h3:n < 10
  ·have hd:=Lib.hid (Adl n h3);have hn:¬((n:Int) < 0):=FH
   go_enter func146,ntmps146
   go_wp2_with fail
   go_ret
   refine ⟨Zo ?_,0,rfl⟩;rw [hd.out,Lib.decDigits,dif_pos h3];rfl
  ·have h4:n / 10 < 10 ^ (k+1):=by rw [Nat.pow_succ] at h1;omega
   have hc:=fun w=>ih (n / 10) w h4 FH;rw [show ((n / 10:Nat):Int)=(n:Int) / 10 from by omega] at hc;have hn:¬((n:Int) < 0):=FH
   have h5:¬((n:Int) < 10):=FH
   have hd:=Lib.hid (Adl (n % 10) FH);have b0:(0:Int)≤(n:Int) % 10:=FH
   have b1:(n:Int) % 10≤9:=FH
   have e0:IntKind.i64.wrap ((n:Int) / 10)=(n:Int) / 10:=by rw [IntKind.wrap_i64];omega
   have e1:IntKind.i64.wrap ((n:Int) % 10)=(n:Int) % 10:=by rw [IntKind.wrap_i64];omega
   have e2:IntKind.i64.wrap ((n:Int) % 10+1)=(n:Int) % 10+1:=by rw [IntKind.wrap_i64];omega
   have e3:((n:Int) % 10).toNat=n % 10:=FH
   have e4:((n:Int) % 10+1).toNat=n % 10+1:=FH
   have e5:(n:Int).tmod 10=(n:Int) % 10:=Int.tmod_eq_emod_of_nonneg FH;have e6:(n:Int).tdiv 10=(n:Int) / 10:=Int.tdiv_eq_ediv_of_nonneg FH;have hsl:∀wx,(Instr.slice 9 (.string ⟨#[48,49,50,51,52,53,54,55,56,57]⟩) (some (.int .i64 ((n:Int) % 10))) (some (.int .i64 ((n:Int) % 10+1))) none).run prog wx=.ok (.string ⟨#[UInt8.ofNat (48+n % 10)]⟩) wx:=fun wx=>by
    have h6:=run_slice_string (P:=prog) wx 9 ⟨#[48,49,50,51,52,53,54,55,56,57]⟩ .i64 .i64 ((n:Int) % 10) ((n:Int) % 10+1) underlying9 FH FH (by show _≤((10:Nat):Int);omega);rw [h6,e3,e4,hd.out]
   have hD:(bz (Lib.decDigits (n / 10))).size≤18:=by rw [Iu];exact Ej 17 _ FH
   have hd1:(⟨#[UInt8.ofNat (48+n % 10)]⟩:ByteArray).size≤1:=by simp [ByteArray.size]
   have hR:Hid (bz (Lib.decDigits (n / 10))++⟨#[UInt8.ofNat (48+n % 10)]⟩=bz (Lib.decDigits n)):=by
    refine Lib.hid ?_
    conv=>rhs;rw [Lib.decDigits,dif_neg FH,←Bg0]
    rfl
   generalize bz (Lib.decDigits (n / 10))=D at *;generalize (⟨#[UInt8.ofNat (48+n % 10)]⟩:ByteArray)=d at *;clear ih h1 e3 e4
   go_enter func146,ntmps146
   go_wp2_with fail
   go_quiet ((go_at_call 146;exact Calls.quiet_of (v:=.string D) (hc (World.drewN _ _))))
   go_wp2_with fail
   go_ret
   refine ⟨Zo ?_,_,rfl⟩;exact hR.out
def Gs (FT:List Nat):Pc:=.isv Bj4 (.agg #[]) () FT
theorem Gs.env {w:World} {FT:List Nat} (h:(Gs FT).P w):Lib.TabIs prog w "internal/strconv.uint64pow10" .u64 Lib.pow10Tab∧(∃m,w.cell? ⟨0,0,none⟩=some (.int .i64 m))∧(∃tp p,w.var? prog "strconv.ErrSyntax" = some #[.iface tp p])∧(∃tp p,w.var? prog "strconv.ErrRange" = some #[.iface tp p]):=by
 obtain ⟨cs,_,h⟩:=h;exact h.2.1
theorem Aa5 (n:Int) (h0:-9223372036854775808≤n) (h1:n≤9223372036854775807) (FT:List Nat) (w:World) (hT:(Gs FT).P w) :
  Calls prog 111 #[.int .i64 n] w (RB (.string (bz (Lib.itoa n))) w):=by
 refine (Tryz.strconv_Itoa n h0 h1 w (Gs.env hT).1).mono ?_;rintro e w' ⟨rfl,k,os,rfl⟩;exact ⟨rfl,Aat w k os⟩
theorem Ak7 {w:World}:∀{l:List ByteArray},(∀s∈l,s.size≤maxLen)→Cy A8 w (l.map Value.string) l []
 | [],_=>⟨rfl,rfl⟩
 | s::l,h=>⟨[.string s],l.map Value.string,[],[],FI,FI,⟨rfl,h s FI,rfl⟩,Ak7 fun t ht=>h t (by simp [ht])⟩
theorem To (sep:ByteArray) (n:Nat):∀(k:Nat) (s:ByteArray),s.size≤n→∀t∈Lib.splitB sep 0 k s,t.size≤n
 | 0,s,h,t,ht=>by rw [Lib.splitB_zero,List.mem_singleton] at ht;subst ht;exact h
 | k+1,s,h,t,ht=>by
  unfold Lib.splitB at ht
  split at ht
  ·rw [List.mem_singleton] at ht;subst ht;exact h
  ·rcases List.mem_cons.1 ht with rfl|ht
   ·simp [ByteArray.size_extract];omega
   ·exact To sep n k _ (by simp [ByteArray.size_extract];omega) t ht
theorem Avg (s sep:ByteArray) (hs:s.size≤1000000000) (h1:1≤sep.size) (FT:List Nat) (w:World) (hT:(Gs FT).P w) :
  Calls prog 20 #[.string s,.string sep] w (Nd A8 9 (Lib.splitB sep 0 (Lib.countB s sep) s) w):=by
 obtain ⟨m,hm⟩:=(Gs.env hT).2.1;refine (Tryz.strings_Split s sep m w FH hm h1).mono ?_;rintro e w2 ⟨rfl,rfl⟩;have hl:=Lib.splitB_all sep h1 0 (Lib.countB s sep) s rfl;have hc:=Lib.countB_le sep h1 s.size s (Nat.le_refl _);have hb:Below w.heap.size w (w.alloc (.cells ((Lib.splitB sep 0 (Lib.countB s sep) s).map Value.string).toArray 9)):=X9 _ _
 refine ⟨_,[w.heap.size],rfl,.inr ⟨w.heap.size,Lib.countB s sep+1,(Lib.splitB sep 0 (Lib.countB s sep) s).map Value.string,[],[],by rw [hl],by rw [List.append_nil];exact Ii.made _ _ _,FH,GC,by simp [hl,A8],Ak7 fun t ht=>?_,rfl⟩,FI,FI,hb⟩;have:=To sep s.size _ s (Nat.le_refl _) t ht;unfold maxLen;omega
theorem Bgi (n:Nat) (hn:n≤999999) (w:World):Calls prog 146 #[.int .i64 (n:Int)] w (RB (.string (bz (Lib.decDigits n))) w):=by
 refine (W4 5 n w FH FH).mono ?_;rintro e w2 ⟨rfl,j,rfl⟩;exact ⟨rfl,Dt (Below.refl _ _) j⟩
def Nq (i:Nat) (e:ByteArray):ByteArray:=bz (Lib.itoa ((i:Nat):Int))++⟨#[32]⟩++e
def Vc (i:Nat) (es:List ByteArray):List ByteArray:=es.map (Nq i)
def Ns (i:Nat):Int:=1+((i:Nat):Int) % 3
section
variable {c:Cx} {fr:Fr} {H:List Pc} {Φ:Gl}
theorem Sa {a:Option Addr} {n cp:Nat} {xs:List Ar} {F:List Nat} (i:Nat) (h:∀(hi:i < xs.length) (b o:Nat),a=some ⟨b,o,none⟩→xs[i].data.size≤maxLen→T c fr (.cel b (o+i * 5) [.int .i64 xs[i].Cp,.int .i64 xs[i].Ae,.int .i64 xs[i].Ap,.int .i64 xs[i].Fg,.string xs[i].data]::H) Φ) (hm:.sl Ak (.slice a n cp) xs F∈H:=by exact A9) (hi:i < xs.length:=by omega):T c fr H Φ:=.mk fun ac w s g=>by
 exact CL
theorem Awi {t:TypeId} {a:Option Addr} {n cp:Nat} {xs:List Ar} {F:List Nat} {S:List Pc} (i:Nat) (h:∀(_:i < xs.length) g A B,a=some ⟨g,0,none⟩→F=[g]→xs[i].data.size≤maxLen→Aza Ak t g (.slice (some ⟨g,0,none⟩) n cp) xs i A B→T c fr (.row g t (0+i * 5) A [.int .i64 xs[i].Cp,.int .i64 xs[i].Ae,.int .i64 xs[i].Ap,.int .i64 xs[i].Fg,.string xs[i].data] B::S) Φ) (hp:Cn H (.ow Ak t (.slice a n cp) xs F) S:=by exact Da) (hi:i < xs.length:=by omega):T c fr H Φ :=
 Pv I2 i (fun hi g A cs B ha hF hr hh=>by obtain ⟨rfl,s1, -⟩:=hr default;exact h hi g A B ha hF s1 hh) hp rfl hi
theorem Dc (x:Ar) (s1:x.data.size≤maxLen) (w:World):Cy Ak w [.int .i64 x.Cp,.int .i64 x.Ae,.int .i64 x.Ap,.int .i64 x.Fg,.string x.data] [x] []:=⟨_,[],[],[],FI,FI,⟨rfl,s1,rfl⟩,rfl,rfl⟩
end
section
variable {c:Cx} {fr:Fr} {H:List Pc} {Φ:Gl}
theorem Nz {α:Type} {E:Bn α} {hz:0 < E.sz} {a:Option Addr} {n cp:Nat} {xs:List (List α)} {F:List Nat} (i:Nat) (h:∀(hi:i < xs.length) (b o:Nat) (a1:Option Addr) (c1:Nat) (F1:List Nat),a=some ⟨b,o,none⟩→xs[i].length≤maxLen→T c fr (.cel b (o+i * 1) [.slice a1 xs[i].length c1]::.sl E (.slice a1 xs[i].length c1) xs[i] F1::H) Φ) (hm:.sl (Ml E hz) (.slice a n cp) xs F∈H:=by exact A9) (hi:i < xs.length:=by omega):T c fr H Φ:=.mk fun ac w s g=>by
 obtain ⟨b,o,cs,G,ha,hrep,hG,hb,hne,hr⟩:=Yz (s.get hm) i hi;obtain ⟨v1,rfl,h1⟩:=hrep;obtain ⟨a1,c1,rfl⟩:=h1.slice;have l1:=h1.len;have t1:=s.ro (p:=.sl E (.slice a1 xs[i].length c1) xs[i] G) hm rfl rfl ⟨hz,h1⟩ HF;exact (h hi b o a1 c1 G ha l1).h ac w (t1.ro (List.mem_cons_of_mem _ hm) rfl rfl ⟨hne,hr⟩ HC) g
theorem U0 {α:Type} {O:Bn α} {t:TypeId} {v:Value} {xs:List α} {F:List Nat} {S:List Pc} (h:∀(a1:Option Addr) (c1:Nat),v=.agg #[.slice a1 xs.length c1]→xs.length≤maxLen→T c fr (.ow O t (.slice a1 xs.length c1) xs F::S) Φ) (hp:Cn H (.own (Ko O t) v xs F) S:=by exact Da):T c fr H Φ:=.mk fun a w s g=>by
 have z1:=s.pick hp;obtain ⟨hn,cs,rfl,v1,rfl,h1⟩:=z1.on (.own (Ko O t) v xs F) FI;obtain ⟨a1,c1,rfl⟩:=h1.slice;have l1:=h1.len;exact (h a1 c1 rfl l1).h a w (z1.conv rfl ⟨hn,h1⟩ (fun b hb=>hb)) g
theorem Jt {α:Type} {O:Bn α} {t:TypeId} (xs:List α) {a1:Option Addr} {c1:Nat} {F:List Nat} {S:List Pc} (h:T c fr (.own (Ko O t) (.agg #[.slice a1 xs.length c1]) xs F::S) Φ) (hp:Cn H (.ow O t (.slice a1 xs.length c1) xs F) S:=by exact Da):T c fr H Φ:=.mk fun a w s g=>by
 have z1:=s.pick hp;obtain ⟨hn,h1⟩:=z1.on (.ow O t (.slice a1 xs.length c1) xs F) FI;exact h.h a w (z1.conv rfl ⟨hn,_,rfl,_,rfl,h1⟩ (fun b hb=>hb)) g
end
theorem Ant:∀(A:List Pc),A.all (fun p=>!p.mu)=true→S9 A
 | [],_=>trivial
 | p::A,h=>by
  simp only [List.all_cons,Bool.and_eq_true,Bool.not_eq_true'] at h;exact ⟨fun q hq hm=>by
   have hq':=List.all_eq_true.1 h.2 q hq;simp only [Bool.not_eq_true'] at hq';rw [h.1,hq'] at hm;simp at hm,Ant A h.2⟩
section
variable {c:Cx} {fr:Fr} {H:List Pc} {d:Nat} {Φ:Gl}
theorem cfr {f:Nat} {vs:List Value} {σ:Type} {C:σ→Prop} {vv:σ→Value} {N:σ→List Pc} (hf:∀w,St c.G c.D c.w0 H w→∃A,Od A w∧A.all (fun p=>!p.mu)=true∧Fn c.P f vs A [] C vv N)
  (h:∀s,C s→T c ((d,vv s)::fr) (N s++H) Φ) (hN:∀s,(N s).all (·.mu)=true:=by intro s;rfl):Cl c fr H d f vs Φ :=
 Aaa (R:=fun w e w'=>∃s,C s∧e=.returned (vv s)∧Od (N s) w'∧S9 (N s)∧Dr [] w w'∧∀p∈N s,∀b∈p.F,w.heap.size≤b)
  (fun w s=>by
   obtain ⟨A,hA,hm,hF⟩:=hf w s;refine (hF w JW (by simpa using Ant A hm)).mono fun e w' ⟨z,hz,he,h1,h2,h3,h4⟩=>⟨z,hz,he,h1,h2,h3,fun p hp b hb=>?_⟩;rcases h4 p hp b hb with h|⟨q,hq, -⟩|⟨hp', -⟩
   ·exact h
   ·cases hq
   ·have:=List.all_eq_true.1 (hN z) p hp;rw [hp'] at this;cases this)
  (fun w e w' s ⟨z,hz,he,h1,h2,h3,h4⟩=>⟨_,he,fun a g=>(h z hz).h a w' (St.turn (M:=[]) (R:=H) (N:=N z) s h3 h1 h2 fun p hp b hb=>.inl (h4 p hp b hb)) g⟩)
theorem Bcd {M A R:List Pc} (hm:M.all (·.mu)=true) (hA:A.all (fun p=>!p.mu)=true) (hb:∀p∈A,∀b∈p.F,∃q∈R,b∈q.F):S9 (M++R)→S9 (M++A):=by
 induction M with
 | nil=>intro _;exact Ant A hA
 | cons p M ih =>
  simp only [List.all_cons,Bool.and_eq_true] at hm;intro s;refine ⟨fun q hq=>?_,ih hm.2 s.2⟩;rcases List.mem_append.1 hq with h|h
  ·exact s.1 q JS
  ·intro _ b hp hq2;obtain ⟨r,hr,hbr⟩:=hb q h b hq2;exact s.1 r (by simp [hr]) (by rw [hm.1];rfl) b hp hbr
theorem cfm {f:Nat} {vs:List Value} {M R:List Pc} {σ:Type} {C:σ→Prop} {vv:σ→Value} {N:σ→List Pc} (hM:Ih H M R) (hf:∀w,St c.G c.D c.w0 (M++R) w→∃A,Od A w∧A.all (fun p=>!p.mu)=true∧(∀p∈A,∀b∈p.F,∃q∈R,b∈q.F)∧Fn c.P f vs A M C vv N)
  (h:∀s,C s→T c ((d,vv s)::fr) (N s++R) Φ) (hmM:M.all (·.mu)=true:=by rfl) (hN:∀s,(N s).all (·.mu)=true:=by intro s;rfl):Cl c fr H d f vs Φ :=
 have hMR:∀w,St c.G c.D c.w0 H w→St c.G c.D c.w0 (M++R) w:=fun w s=>by simpa using hM.st (X:=[]) HN
 have hmu:∀p∈M,p.mu=true:=fun p hp=>List.all_eq_true.1 hmM p hp
 Aaa (R:=fun w e w'=>∃s,C s∧e=.returned (vv s)∧Od (N s) w'∧S9 (N s)∧Dr (fp M) w w'∧∀p∈N s,∀b∈p.F,w.heap.size≤b∨∃q∈M,b∈q.F)
  (fun w s=>by
   obtain ⟨A,hA,hm,hb,hF⟩:=hf w (hMR w s);have s2:=hMR w s;refine (hF w (fun p hp=>?_) (Bcd hmM hm hb s2.sep)).mono fun e w' ⟨z,hz,he,h1,h2,h3,h4⟩=>⟨z,hz,he,h1,h2,h3,fun p hp b hb=>?_⟩
   ·rcases List.mem_append.1 hp with hp|hp
    ·exact s2.on p IC
    ·exact hA p hp
   ·rcases h4 p hp b hb with h|h|⟨hp', -⟩
    ·exact .inl h
    ·exact .inr h
    ·have:=List.all_eq_true.1 (hN z) p hp;rw [hp'] at this;cases this)
  (fun w e w' s ⟨z,hz,he,h1,h2,h3,h4⟩=>⟨_,he,fun a g=>(h z hz).h a w' (St.turn (hMR w s) (by rwa [List.filter_eq_self.2 hmu]) h1 h2 fun p hp b hb=>by
   rcases h4 p hp b hb with h|⟨q,hq,hqb⟩
   ·exact .inl h
   ·exact .inr (.inl ⟨q,hq,hmu q hq,hqb⟩)) g⟩)
theorem An1 {α:Type} {E:Bn α} (Q:α→Prop) (hQ:∀w cs x F,E.Kn w cs x F→Q x) {a:Option Addr} {n cp:Nat} {xs:List α} {F:List Nat} (h:(∀x∈xs,Q x)→T c fr H Φ) (hm:.sl E (.slice a n cp) xs F∈H:=by exact A9):T c fr H Φ:=.mk fun ac w s g =>
 (h fun x hx=>by
  obtain ⟨k,hk,rfl⟩:=List.getElem_of_mem hx;obtain ⟨-,hs⟩:=s.get hm;obtain ⟨-, -,cs,F1, -,h1, -, -⟩:=hs.at k hk;exact hQ _ _ _ _ h1).h ac w s g
theorem Xh {P:Program} {fn:Func} {G D:List Nat} {w0:World} {n:Nat} {R:Ending→World→Prop} (h:T ⟨P,G,D,w0,n,bodyPost P fn R⟩ fr H (.fin .ret)):T ⟨P,G,D,w0,n,bodyPost P fn R⟩ fr H (.norm []):=Bjb ⟨fun a w s g=>h.h a w s g⟩
end
section
variable {P:Program} {ops:Array Oper} {Q:Exit→Act→World→Prop} {md:Region.Mode} {S:World→Prop} {X:Nat→Bool}
theorem E9.firstP {i:Nat} {oi:Oper} {v:Value} (hi:ops[i]?=some oi) (hsel:∀(j:Nat) (o:Oper) cs b,ops[j]?=some o→o.op≠.select cs b)
  (hQ:∀c a w,Q (.panic c) (a.put oi.dst v) w→Q (.panic c) a w) (hXi:X i=true) :
  ∀(f:Nat) (listed:Array Bool) (a:Act) (w:World),
   (∀j oj,ops[j]?=some oj→j≠i→listed.getD j true=false→(∀e∈oj.after,Region.binds md e=true→e.on≠i)→oi.apart ops oj=true) →
   i∈Region.ready md ops listed→YieldsIf P ops (fun _=>True) oi v a→E9 P md ops Q S X f (listed.setIfInBounds i true) (a.put oi.dst v) w→E9 P md ops Q S X (f+1) listed a w:=by
 intro f
 induction f with
 | zero =>
  intro listed a w _ hr hy H;refine ⟨fun h=>IJ,fun j hj=>?_⟩;by_cases hji:j=i
  ·subst hji;exact hy.wpOp hi trivial ⟨(fun h=>by rw [hXi] at h;cases h),H⟩
  ·have:=ready_mono hj hji;rw [H.1] at this;cases this
 | succ f ih =>
  intro listed a w hfree hr hy H;refine ⟨fun h=>IJ,fun j hj=>?_⟩;by_cases hji:j=i
  ·subst hji;exact hy.wpOp hi trivial ⟨(fun h=>by rw [hXi] at h;cases h),H⟩
  ·obtain ⟨hju,oj,hoj,hall⟩:=mem_ready.1 hj;have hiu:=Y6 (mem_ready.1 hr).1;have hnot:∀e∈oj.after,Region.binds md e=true→e.on≠i:=fun e he hb heq=>by
    have h1:=hall e he hb;rw [heq,hiu] at h1;cases h1
   have h2:=wpOp_putIf hoj (hfree j oj hoj hji hju hnot) (fun cs b=>hsel i oi cs b hi) (fun cs b=>hsel j oj cs b hoj) hQ hy (H.2 j (ready_mono hj hji));refine wpOp_mono (fun a' w' h3=>⟨h3.2.1,ih (listed.setIfInBounds j true) a' w' (fun k ok hk hki hun hno=>hfree k ok hk hki ?_ hno) (ready_mono hr (Ne.symm hji)) h3.1 ?_⟩) h2
   ·by_cases hjk:j=k
    ·subst hjk;exact hju
    ·rw [getD_set_ne true hjk] at hun;exact hun
   ·rw [Array.setIfInBounds_comm _ _ hji];exact h3.2.2
theorem E9.takeP {i:Nat} {oi:Oper} {v:Value} {f:Nat} {listed:Array Bool} {a:Act} {w:World} (hi:ops[i]?=some oi)
  (hs:Region.noSelect ops=true) (hf:Region.free md ops listed i=true) (hr:(Region.ready md ops listed).contains i=true) (hXi:X i=true)
  (hQ:∀c a w,Q (.panic c) (a.put oi.dst v) w→Q (.panic c) a w) (hy:YieldsIf P ops (fun _=>True) oi v a)
  (h:E9 P md ops Q S X f (listed.setIfInBounds i true) (a.put oi.dst v) w):E9 P md ops Q S X (f+1) listed a w :=
 E9.firstP hi (Region.noSelect_spec hs) hQ hXi f listed a w (Region.free_spec hi hf) HG hy h
end
section
variable {c:Cx} {fr:Fr} {H H0:List Pc} {k:List It} {X:List Nat} {ops:Array Oper} {f:Nat} {listed:Array Bool} {d:Nat} {o:Op} {ty:TypeId} {pos:String} {Cf:Array Edge} {v:Value}
theorem dtp (i:Nat) (h:T c ((d,v)::fr) H (.dx k H0 X ops f (listed.setIfInBounds i true))) (ho:ops[i]?=some ⟨some d,o,ty,pos,Cf,none⟩:=by rw [List.getElem?_toArray];rfl) (hy:Yd c.P c.n fr [] o ty v:=by exact ydE) (hX:X.contains i=true:=by rfl)
  (h1:Region.noSelect ops=true:=by kernel_rfl) (h2:Region.free .any ops listed i=true:=by kernel_rfl) (h3:(Region.ready .any ops listed).contains i=true:=by kernel_rfl) (hR:X7 c:=by exact Aai) (hd:Nat.blt d c.n=true:=by rfl) :
  T c fr H (.dx k H0 X ops (f+1) listed):=.mk fun a w s g =>
 E9.takeP (v:=v) ho h1 h2 h3 hX (fun ch a w hp=>by rw [M4] at hp ⊢;exact hR _ _ _ _ _ hp) (.inl ⟨rfl,fun w' _=>hy.h a w' _ _ _ _ g (by intro p hp;simp at hp)⟩) (h.h _ _ s (g.put hd))
theorem Bd6 {c:Cx} {fr:Fr} {H:List Pc} {k:List It} {x y:Code} {σ:Type} {cst:Fr} {rest:List Pc} (ks rs:List Nat) (upd:σ→Fr) (chg:σ→List Pc) (C:σ→Prop) (h:T c fr H (.code (.cd y::.lp (Jn c (fun s=>upd s++cst) (fun s=>chg s++rest) C)::k) x)) (h2:∀s,C s→T c (upd s++cst) (chg s++rest) (.norm k))
  (_hk:Kf fr ks cst:=by repeat (first|exact Kf.nil|apply Kf.cons GE)) (_hr:Sel H rs rest:=by repeat constructor):T c fr H (.code (.cd y::k) x):=.mk fun a w s g=>by
 refine wp_mono (h.h a w s g) fun e a1 w1 he=>?_;cases e with
 | normal =>
  refine wp_mono he fun e a2 w2 he=>?_;cases e with
  | normal=>obtain ⟨s,hC,hs,hg⟩:=he;exact (h2 s hC).h a2 w2 hs hg
  | _=>exact he
 | _=>exact he
end
section
variable {c:Cx} {fr:Fr} {H H0:List Pc} {k:List It} {Φ:Gl} {X:List Nat} {ops:Array Oper} {f:Nat} {listed:Array Bool} {d:Nat} {o:Op} {ty:TypeId} {v u:Value} {x y:Operand}
theorem An7 {α:Type} {O R:Bn α} (hW:Kq O R) {v:Value} {x:α} {F:List Nat} {S:List Pc} (h:∀F',T c fr (.isv R v x F'::S) Φ) (hp:Cn H (.own O v x F) S:=by exact Da):T c fr H Φ:=.mk fun a w s g=>by
 exact DV
theorem Ac1 {α:Type} {O R:Bn α} (hW:Kq O R) {t:TypeId} {v:Value} {xs:List α} {F:List Nat} {S:List Pc} (h:∀F',T c fr (.sl R v xs F'::S) Φ) (hp:Cn H (.ow O t v xs F) S:=by exact Da) (hz:0 < R.sz:=by decide):T c fr H Φ:=.mk fun a w s g=>by
 have s1:=s.pick hp;obtain ⟨-,ho⟩:=s1.on (.ow O t v xs F) FI;obtain ⟨F',hF,hs⟩:=ho.sl hW;exact (h F').h a w (s1.conv rfl ⟨hz,hs⟩ hF) g
theorem Bh6 {α:Type} {E:Bn α} {v:Value} {x:α} {F:List Nat} (one:X6 E) (h:∀cs:List Value,v=.agg cs.toArray→cs.length=E.sz→cs.all (·.oneCell')=true→T c fr H Φ) (hm:.isv E v x F∈H:=by exact A9):T c fr H Φ:=.mk fun a w s g=>by
 obtain ⟨cs,hv,hx⟩:=s.get hm;exact (h cs hv (E.len hx) (List.all_eq_true.2 fun u hu=>one hx u hu)).h a w s g
theorem Aty {α:Type} {E:Bn α} {v:Value} {x:α} {F:List Nat} (one:X6 E) (h:∀cs:List Value,v=.agg cs.toArray→cs.length=E.sz→cs.all (·.oneCell')=true→T c fr H Φ) (hm:.own E v x F∈H:=by exact A9):T c fr H Φ:=.mk fun a w s g=>by
 obtain ⟨-,cs,hv,hx⟩:=s.get hm;exact (h cs hv (E.len hx) (List.all_eq_true.2 fun u hu=>one hx u hu)).h a w s g
theorem Put.all:∀{zs l:List Value},zs.length=l.length→Put zs 0 l l
 | [],[],_=>.zero
 | [],_::_,h=>by simp at h
 | _::_,[],h=>by simp at h
 | _::zs,_::l,h=>.one (Put.all GA)
theorem Auc {P:Program} {n:Nat} {H:List Pc} {t g o tt m:Nat} {A cs B:List Value} [AggC P t m] (hx:ev fr x=some (Il g o 0)) (hm:Pc.row g tt o A cs B∈H) (hl:cs.length=m):Yd P n fr H (.load t x) ty (.agg cs.toArray):=Bdj hx hm (hl▸Cut.whole cs)
theorem cm {f:Nat} {vs:List Value} {σ:Type} {C:σ→Prop} {vv:σ→Value} {N:σ→List Pc} (hc:∀w,St c.G c.D c.w0 H w→Calls c.P f vs.toArray w fun e w'=>∃s,C s∧e=.returned (vv s)∧Od (N s) w'∧(fp (N s)).Nodup∧(∀b∈fp (N s),w.heap.size≤b)∧Below w.heap.size w w')
  (h:∀s,C s→T c ((d,vv s)::fr) (N s++H) Φ):Cl c fr H d f vs Φ :=
 Aaa hc (fun w e w' s hR=>by
  obtain ⟨z,hz,he,hN,hn,hF,hB⟩:=hR;have sep:∀{N:List Pc},(fp N).Nodup→S9 N:=by
   intro N
   induction N with
   | nil=>intro _;trivial
   | cons p N ih =>
    intro h;rw [fp,List.nodup_append] at h;exact ⟨fun q hq _ b hb hq2=>h.2.2 b hb b (Qp.2 ⟨q,hq,hq2⟩) rfl,ih h.2.1⟩
  exact ⟨_,he,fun ac g=>(h z hz).h ac w' (s.add (N:=N z) hB hN (sep hn) (fun p hp b hb=>.inl (hF b (Qp.2 ⟨p,hp,hb⟩)))) g⟩)
theorem Ahc {id:Nat} {l:List Oper} (X:List Nat) (h:T c fr H (.dx k H X l.toArray l.length (Array.replicate l.length false))) (hm:c.P.follows .mixedOrders=true:=by kernel_rfl):T c fr H (.code k (Code.region id l.toArray true)):=.mk fun a w s g=>by
 refine E9.start (S:=Od H) (X:=fun i=>X.contains i) hm ?_;exact DP
theorem Bjh {t g tt m:Nat} {cs l:List Value} {S:List Pc} (hx:ev fr x=some (Il g 0 0)) (hy:ev fr y=some (.agg l.toArray)) (hs:(c.P.info? t).map (·.size)=some m) (hr:Rpl H (.row g tt 0 [] cs []) (.row g tt 0 [] l []) S) (hl:l.length=m) (hc:cs.length=m) (h1:l.all (·.oneCell')=true) (h:T c fr S Φ):On c fr H none (.store t x y) ty Φ :=
 Axy hx hy rfl hs hl hr (Put.all FH) h1 h
end
/-! contracts, with what they ask read off pieces -/
theorem ex1 {α:Type} {A:α→Prop} {C:Prop} (f:∀a,A a→C):(∃a,A a)→C:=fun ⟨a,h⟩=>f a h
theorem ex2 {α β:Type} {A:α→Prop} {B:β→Prop} {C:Prop} (f:∀a b,A a→B b→C):(∃a,A a)→(∃b,B b)→C:=fun ⟨a,h⟩ ⟨b,h2⟩=>f a b h h2
section
variable {G D:List Nat} {w0 w:World} {H:List Pc}
theorem St.rI {α:Type} {E:Bn α} {v:Value} {x:α} {F:List Nat} (s:St G D w0 H w) (hm:.isv E v x F∈H:=by exact A9):∃F',Jz E w v x F':=⟨F,s.get hm⟩
theorem St.rO {α:Type} {O R:Bn α} (hW:Kq O R) {v:Value} {x:α} {F:List Nat} (s:St G D w0 H w) (hm:.own O v x F∈H:=by exact A9):∃F',Jz R w v x F':=by
 obtain ⟨-,ho⟩:=s.get hm;obtain ⟨F', -,h⟩:=Jz.weak hW ho;exact ⟨F',h⟩
theorem St.rS {α:Type} {E:Bn α} {v:Value} {xs:List α} {F:List Nat} (s:St G D w0 H w) (hm:.sl E v xs F∈H:=by exact A9):∃F',Sl E w v xs F':=⟨F,(s.get hm).2⟩
theorem St.rL {α:Type} {O R:Bn α} (hW:Kq O R) {t:TypeId} {v:Value} {xs:List α} {F:List Nat} (s:St G D w0 H w) (hm:.ow O t v xs F∈H:=by exact A9):∃F',Sl R w v xs F':=by
 obtain ⟨-,ho⟩:=s.get hm;obtain ⟨F', -,h⟩:=ho.sl hW;exact ⟨F',h⟩
end
theorem Baf {P:Program} {α:Type} {O:Bn α} {t:TypeId} {f:FuncId} {v:Value} {x x':List α} {F:List Nat} {k m:Int} (h:∀w,Ow O t w v x F→F.Nodup→Calls P f #[v,.int .i64 k] w (Auf O t v m x' F w)):Fn P f [v,.int .i64 k] [] [.ow O t v x F] (fun (_:Unit)=>True) (fun _=>.int .i64 m) (fun _=>[.ow O t v x' F]):=fun w hH _=>by
 obtain ⟨hn,ho⟩:=hH (.ow O t v x F) FI;refine (h w ho hn).mono ?_;rintro e w' ⟨he,h1,h2⟩;refine ⟨(),trivial,he,El ⟨hn,h1⟩,⟨FI,trivial⟩,by simpa [fp,Pc.F] using h2,fun p hp b hb=>?_⟩;rw [List.mem_singleton] at hp;subst hp;exact .inr (.inl ⟨_,List.mem_singleton.2 rfl,hb⟩)
theorem Qj {α:Type} {l:List α} {i:Nat} (h:i < l.length) (x:α):l.getD i x=l[i]:=by rw [List.getD_eq_getElem?_getD,List.getElem?_eq_getElem h];rfl
theorem Aec (d:List (List Ar)) (i:Nat) (p:Ar) (a:Option Addr) (n c:Nat) (F:List Nat) (hn:n=d.length) (hi:i < d.length) (hs:p.data.size≤maxLen):Fn prog 261 [.slice a n c,.int .i64 (i:Nat),.agg #[.int .i64 (p).Cp,.int .i64 (p).Ae,.int .i64 (p).Ap,.int .i64 (p).Fg,.string (p).data]] [] [.ow (Ko Ak 233) 158 (.slice a n c) d F] (fun (_:List Nat)=>True) (fun _=>.tuple #[]) (fun G=>[.ow (Ko Ak 233) 158 (.slice a n c) (d.set i (Wc d[i] p)) G]):=by
 refine enter func261 rfl ntmps261 fun w0=>?_;refine Wu (m:=1) i ?_ rfl hi;rintro _ g A cs B k1 k2 G1 Gi G2 rfl - hc hH;refine U0 ?_;rintro a5 c5 ev l5;obtain rfl:=Uq ev;refine go ?_;intros;refine A1 rfl (fun h1=>?_) (fun h1=>?_)
 ·have h6:d[i].length < 6:=FH
  rw [show Wc d[i] p=d[i]++[p] by unfold Wc;rw [if_pos h6]];refine go ?_;refine As [0,2] [10] ?_;refine Dq 0 1 2 3 ?_;refine Ec 4 5 ?_;refine dt 6 ?_;refine dN 7 ?_;apply Lr;rfl;rfl;rfl;rfl;exact Ll;exact Kv;intro _;refine dk ?_;refine dN 8 ?_;refine Ps (ys:=[p]) (Dc p hs) Hg fun a7 c7 F7=>?_;refine dk ?_;refine dt 9 ?_;refine dN 10 ?_;refine oS ?_;refine Tf ?_;refine dd ?_;refine Jt (d[i]++[p]) ?_;refine go ?_;refine Sw _ hH rfl fun F6=>?_;refine Xh ?_;refine ret F6 trivial rfl
 ·rw [show Wc d[i] p=d[i] by unfold Wc;rw [if_neg FH]];refine go ?_;refine Jt d[i] ?_;refine Sw _ hH rfl fun F6=>?_;refine Xh ?_;refine ret F6 trivial rfl
theorem Alz (q l:List Ar) (p:Ar):Hq q (l++[p])=Wc (Hq q l) p:=by
 unfold Hq Wc;by_cases h:l.length < 6 - q.length
 ·rw [List.take_of_length_le (by rw [List.length_append];simp;omega),List.take_of_length_le FH,if_pos HH,List.append_assoc]
 ·have e:(l++[p]).take (6 - q.length)=l.take (6 - q.length):=by rw [List.take_append_of_le_length FH]
  rw [e,if_neg (by rw [List.length_append,List.length_take];omega)]
def Sk (s:List (List Ar)) (i:Nat) (ps:List Ar):List (List Ar):=s.modify i fun q=>Hq q ps
theorem Alx (s:List (List Ar)) (i:Nat) (ps:List Ar):(Sk s i ps).length=s.length:=List.length_modify ..
theorem Aly (s:List (List Ar)) (i:Nat):Sk s i []=s:=by
 unfold Sk;by_cases h:i < s.length
 ·rw [Ik h,Aqs,List.set_getElem_self]
 ·exact Abc h
theorem Ail {s:List (List Ar)} {i j:Nat} {ps:List Ar} (hi:i < s.length) (hj:j < ps.length) (h:i < (Sk s i (ps.take j)).length):(Sk s i (ps.take j)).set i (Wc (Sk s i (ps.take j))[i] ps[j])=Sk s i (ps.take (j+1)):=by
 unfold Sk;simp only [Ik hi];rw [List.getElem_set_self,List.set_set,List.take_succ_eq_append_getElem hj,Alz]
theorem Afr {d:List (List Ar)} {nodes:List Int} {ps:List Ar} {k:Nat} (hk:k < nodes.length):Dn d (nodes.take (k+1)) ps=Sk (Dn d (nodes.take k) ps) nodes[k].toNat ps:=by rw [List.take_succ_eq_append_getElem hk,Aq3];rfl
structure KF where
 k:Nat
 F:List Nat
theorem Aay (d:List (List Ar)) (nodes:List Int) (ps:List Ar) (g:Nat) (v0 v1 v2 v3 v4 v5 v6 v7 v8 v10:Value) (a:Option Addr) (n c:Nat) (F:List Nat) (an:Option Addr) (cn:Nat) (Fn_:List Nat) (ap:Option Addr) (cp:Nat) (Fp:List Nat) (hn:n=d.length) (hx:∀x∈nodes,0≤x∧x.toNat < d.length) :
  Fn prog 193 [Il g 0 0,.slice an nodes.length cn,.slice ap ps.length cp] [.sl Bb (.slice an nodes.length cn) nodes Fn_,.sl Ak (.slice ap ps.length cp) ps Fp] [.row g 52 0 [] [v0,v1,v2,v3,v4,v5,v6,v7,v8,.slice a n c,v10] [],.ow (Ko Ak 233) 158 (.slice a n c) d F] (fun (_:List Nat)=>True) (fun _=>.tuple #[]) (fun G=>[.row g 52 0 [] [v0,v1,v2,v3,v4,v5,v6,v7,v8,.slice a n c,v10] [],.ow (Ko Ak 233) 158 (.slice a n c) (Dn d nodes ps) G]):=by
 refine enter func193 rfl ntmps193 fun w0=>?_;refine Xi (E:=Bb) (xs:=nodes) ?_;rintro _ _ e0 hn1 hn2;refine Xi (E:=Ak) (xs:=ps) ?_;rintro _ _ e3 hp1 hp2;refine An1 (E:=Ak) (fun p:Ar=>p.data.size≤maxLen) (fun w cs x F h=>by obtain ⟨_,h,_⟩:=h;exact h) ?_;intro hz;cases e0;cases e3;refine go ?_;refine Cd [0,2,10,11] (fun z:KF=>[(12,.int .i64 (z.k:Nat))]) (fun z=>[.ow (Ko Ak 233) 158 (.slice a n c) (Dn d (nodes.take z.k) ps) z.F]) (fun z=>z.k≤nodes.length) (fun z=>nodes.length - z.k) ⟨0,_⟩ (Nat.zero_le _) fun z hz0=>?_;have hsl:=Abk ps (nodes.take z.k) d;refine go ?_
 refine A1 rfl (fun h1=>?_) (fun h1=>?_)
 ·have hk:z.k < nodes.length:=FH
  obtain ⟨x0,x1⟩:=hx _ (List.getElem_mem hk);obtain ⟨i,hi⟩:∃i:Nat,nodes[z.k]=((i:Nat):Int):=⟨nodes[z.k].toNat,FH⟩;have hil:i < (Dn d (nodes.take z.k) ps).length:=FH
  have hst:=Afr (d:=d) (ps:=ps) hk;rw [show nodes[z.k].toNat=i by omega] at hst;refine I6 (xs:=nodes) z.k ?_;rintro hi2 b o e1;rw [e1,hi];refine go ?_;rw [show Dn d (nodes.take z.k) ps=Sk (Dn d (nodes.take z.k) ps) i (ps.take 0) by rw [List.take_zero,Aly]];refine Cd [0,2,7,10,11,12,13,14,15,16,17] (fun y:KF=>[(18,.int .i64 (y.k:Nat))]) (fun y=>[.ow (Ko Ak 233) 158 (.slice a n c) (Sk (Dn d (nodes.take z.k) ps) i (ps.take y.k)) y.F]) (fun y=>y.k≤ps.length) (fun y=>ps.length - y.k) ⟨0,z.F⟩ (Nat.zero_le _) fun y hy0=>?_;have hpl:=Alx (Dn d (nodes.take z.k) ps) i (ps.take y.k);refine go ?_
  refine A1 rfl (fun h2=>?_) (fun h2=>?_)
  ·have hj:y.k < ps.length:=FH
   refine Sa (xs:=ps) y.k ?_;rintro hi3 b3 o3 e3 s3;rw [e3];refine go ?_;intros;refine As [0,4] [] ?_;refine Dq 0 1 2 3 ?_;refine Ec 4 5 ?_;refine dN 6 ?_;refine oC ?_;refine Ca (Aec (Sk (Dn d (nodes.take z.k) ps) i (ps.take y.k)) i ps[y.k] a n c y.F FH FH s3) fun f1 _=>?_;rw [Ail hil hj];refine dk ?_;refine dd ?_;refine go ?_;refine Cg ⟨y.k+1,f1⟩ hj (by show ps.length - (y.k+1) < ps.length - y.k;omega)
  ·rw [show ps.take y.k=ps from List.take_of_length_le FH,←hst];refine go ?_;refine Cg ⟨z.k+1,y.F⟩ hk (by show nodes.length - (z.k+1) < nodes.length - z.k;omega)
 ·rw [show nodes.take z.k=nodes from List.take_of_length_le FH];refine go ?_;refine Xh ?_;refine ret z.F trivial rfl
section
variable {c:Cx} {fr:Fr} {H:List Pc} {Φ:Gl}
theorem Jd {a:Option Addr} {n cp:Nat} {xs:List Ax} {F:List Nat} (i:Nat) (h:∀(hi:i < xs.length) (b o:Nat),a=some ⟨b,o,none⟩→T c fr (.cel b (o+i * 4) [.int .i64 xs[i].Ae,.int .i64 xs[i].state,.int .i64 xs[i].Ce,.int .i64 xs[i].D6]::H) Φ) (hm:.sl Av (.slice a n cp) xs F∈H:=by exact A9) (hi:i < xs.length:=by omega):T c fr H Φ:=.mk fun ac w s g=>by
 exact CO
theorem Aho {t:TypeId} {a:Option Addr} {n cp:Nat} {xs:List Ax} {F:List Nat} {S:List Pc} (i:Nat) (h:∀(_:i < xs.length) g A B,a=some ⟨g,0,none⟩→F=[g]→Aza Av t g (.slice (some ⟨g,0,none⟩) n cp) xs i A B→T c fr (.row g t (0+i * 4) A [.int .i64 xs[i].Ae,.int .i64 xs[i].state,.int .i64 xs[i].Ce,.int .i64 xs[i].D6] B::S) Φ) (hp:Cn H (.ow Av t (.slice a n cp) xs F) S:=by exact Da) (hi:i < xs.length:=by omega):T c fr H Φ :=
 Pv Dl i (fun hi g A cs B ha hF hr hh=>by obtain ⟨rfl, -⟩:=hr default;exact h hi g A B ha hF  hh) hp rfl hi
theorem Of (x:Ax)  (w:World):Cy Av w [.int .i64 x.Ae,.int .i64 x.state,.int .i64 x.Ce,.int .i64 x.D6] [x] []:=⟨_,[],[],[],FI,FI,⟨rfl,rfl⟩,rfl,rfl⟩
end
theorem Aoe {P:Program} {n:Nat} {fr:Fr} {H:List Pc} {ty t':TypeId} {x:Operand} {t e m:Nat} [hS:SlC P t e m] {a:Option Addr} {l c:Nat} (hx:ev fr x=some (.slice a l c)):Yd P n fr H (.binOp .eql t x (.const (.slice none 0 0)) t') ty (.bool a.isNone):=.mk fun ac w d pos Cf gd hA _=>by
 have he:ac.eval (.const (.slice none 0 0))=.slice none 0 0:=rfl;have eg:eqGuard .eql t x (.const (.slice none 0 0)) (.slice a l c) (.slice none 0 0)=pure ():=by unfold eqGuard;simp
 simp only [execOp,hA.ev hx,he,eg,Sem.run_bind,Sem.run_pure,Result.andThen_ok,Lib.run_eql_slice_nil w t e a l c 0 0 hS.u]
theorem Bcs {c:Cx} {fr:Fr} {H:List Pc} {Φ:Gl} {α:Type} {E:Bn α} {n cp:Nat} {xs:List α} {F:List Nat} (h:xs=[]→T c fr H Φ) (hm:.sl E (.slice none n cp) xs F∈H:=by exact A9):T c fr H Φ:=.mk fun ac w s g=>by
 obtain ⟨-,a,cap,hv, -,⟨rfl, -, -⟩|⟨b,off,F',rfl, -⟩⟩:=s.get hm
 ·exact (h rfl).h ac w s g
 ·cases hv
theorem Ut (xs:List Ax) (a:Option Addr) (c:Nat) (F:List Nat) (hl:xs.length≤1000000000) :
  Fn prog 189 [.slice a xs.length c] [.sl Av (.slice a xs.length c) xs F] [] (fun (_:Option Addr × Nat × List Nat)=>True) (fun z=>.slice z.1 xs.length z.2.1) (fun z=>[.ow Av 257 (.slice z.1 xs.length z.2.1) xs z.2.2]):=by
 refine enter func189 rfl ntmps189 fun w0=>?_;refine go ?_;cases a with
 | none =>
  refine Bcs (xs:=xs) fun h0=>?_;subst h0;apply wO;apply oc;rfl;exact Aoe rfl;refine Db Av 257 ?_;refine go ?_;refine ret (none,0,[]) trivial rfl
 | some ad =>
  apply wO;apply oc;rfl;exact Aoe rfl;refine go ?_;intros;refine C7 Av ?_;apply wO;refine Pf C0 Dl fun a2 c2 F2=>?_;rw [List.nil_append];exact DK
section
variable {P:Program} {n:Nat} {fr:Fr} {H:List Pc} {ty:TypeId} {x y z u:Operand}
theorem Bdl {t e m i g o len cp:Nat} {kd:IntKind} {q:Int} [hS:SlC P t e m] (hx:ev fr x=some (.slice (some ⟨g,o,none⟩) len cp)) (hy:ev fr y=some (.int kd q)) (hq:q=(i:Int)) (hi:i≤len) (hlc:len≤cp):Yd P n fr H (.slice t x (some y) none none) ty (.slice (some ⟨g,if cp=i then o else o+i * m,none⟩) (len - i) (cp - i)):=.mk fun ac w d pos Cf gd hA _=>by
 subst hq;have he2:P.elem t=e:=KI
 have h3:(Instr.sliceAt t (.slice (some ⟨g,o,none⟩) len cp) (some (.int kd (i:Int))) none none).run P w=.ok (.slice (some ⟨g,if cp=i then o else o+i * m,none⟩) (len - i) (cp - i)) w:=by
  rw [run_sliceAt_slice (h:=GS),run_slice_l (ht:=GS) (h0:=FH) (h1:=FH),he2,Nj hS.s];simp only [Result.andThen,sliced,Option.map_some,Addr.add_lit,Int.toNat_natCast]
  split <;> rfl
 exact AT
theorem Avp {t e m i j g o len cp:Nat} {kd kd2:IntKind} {q r:Int} [hS:SlC P t e m] (hx:ev fr x=some (.slice (some ⟨g,o,none⟩) len cp)) (hy:ev fr y=some (.int kd q)) (hz:ev fr z=some (.int kd2 r)) (hq:q=(i:Int)) (hr:r=(j:Int)) (hi:i < cp) (hij:i≤j) (hj:j≤cp):Yd P n fr H (.slice t x (some y) (some z) none) ty (.slice (some ⟨g,o+i * m,none⟩) (j - i) (cp - i)):=.mk fun ac w d pos Cf gd hA _=>by
 subst hq hr;have he2:P.elem t=e:=KI
 have h3:(Instr.sliceAt t (.slice (some ⟨g,o,none⟩) len cp) (some (.int kd (i:Int))) (some (.int kd2 (j:Int))) none).run P w=.ok (.slice (some ⟨g,o+i * m,none⟩) (j - i) (cp - i)) w:=by
  rw [run_sliceAt_slice (h:=GS),run_slice_lh (ht:=GS) (h0:=FH) (h1:=FH) (h2:=FH),he2,Nj hS.s];simp only [Result.andThen,sliced,Option.map_some,Addr.add_lit,Int.toNat_natCast];rw [if_neg FH]
 exact EW
end
section
variable {c:Cx} {fr:Fr} {H:List Pc} {k:List It} {Φ:Gl} {d:Nat} {ty:TypeId} {x y z u:Operand}
theorem Aqg {t e m n cp i j l:Nat} {a:Option Addr} {q r s:Int} [hS:SlC c.P t e m] (hd:Nat.blt d c.n=true) (hx:ev fr x=some (.slice a n cp)) (hy:ev fr y=some (.int .i64 q)) (hz:ev fr z=some (.int .i64 r)) (hu:ev fr u=some (.int .i64 s)) (hq:q=(i:Int)) (hr:r=(j:Int)) (hs:s=(l:Int)) (hij:i≤j) (hjl:j≤l) (hl:l≤cp) (h:∀v,T c ((d,v)::fr) H Φ):On c fr H (some d) (.slice t x (some y) (some z) (some u)) ty Φ:=⟨fun _ _ _=>P4 fun Q ac w st g=>by
 subst hq hr hs;have he2:=Agi hS;obtain ⟨v,h3⟩:∃v,(Instr.sliceAt t (.slice a n cp) (some (.int .i64 (i:Int))) (some (.int .i64 (j:Int))) (some (.int .i64 (l:Int)))).run c.P w=.ok v w:=by
  rw [run_sliceAt_slice (h:=GS),run_slice_lhm (ht:=GS) (h0:=FH) (h1:=FH) (h2:=FH) (h3:=FH),he2,Nj hS.s];exact ⟨_,rfl⟩
 have e1:∀pos Cf gd,(execOp ac.eval ⟨some d,.slice t x (some y) (some z) (some u),ty,pos,Cf,gd⟩).run c.P w=.ok (.value v) w:=by
  intro pos Cf gd;simp only [execOp,Option.map_none,Option.map_some,g.ev hx,g.ev hy,g.ev hz,g.ev hu,Sem.run_bind,h3,Result.andThen_ok,Sem.run_pure]
 rw [e1];exact (h v).h _ w st (g.put hd)⟩
theorem Bbg {α:Type} {E:Bn α} (sc:Abt E) (one:X6 E) {t e m b g n cp i j q c2:Nat} {zv:Value} [hS:SlC c.P t e m] [hE:ElT c.P e zv m b] (hm:E.sz=m) {xs:List α} {F:List Nat} {S:List Pc}
  (hd:Nat.blt d c.n=true) (hx:ev fr x=some (.slice (some ⟨g,0,none⟩) i cp)) (hy:ev fr y=some (.slice (some ⟨g,q,none⟩) (n - j) c2)) (hq:j < n→q=j * m) (hij:i≤j) (hj:j≤n) (hn:n=xs.length)
  (hp:Cn H (.ow E e (.slice (some ⟨g,0,none⟩) n cp) xs F) S) (h:T c ((d,.slice (some ⟨g,0,none⟩) (i+(n - j)) cp)::fr) (.ow E e (.slice (some ⟨g,0,none⟩) n cp) (xs.take i++xs.drop j++xs.drop (i+(n - j))) F::S) Φ) :
  On c fr H (some d) (.call { callee:=.builtin .append,args:=#[x,y],argTypes:=#[t,t] }) ty Φ:=⟨fun _ _ _=>P4 fun Q a w s ag=>by
 subst hm hn;have s1:=s.pick hp;obtain ⟨hnd,ho⟩:=s1.on (.ow E e (.slice (some ⟨g,0,none⟩) xs.length cp) xs F) FI;have hF:=ho.scal sc;rcases ho with ⟨h1, -, -⟩|⟨g2,cap,cs,rest,G,h1,h2,h3,h4,h5,h6,h7⟩
 ·cases h1
 cases h1;have hG:G=[]:=JI
 subst hG h7;obtain ⟨ti,hi,hiz⟩:=Option.map_eq_some_iff.1 hE.i;simp only [Prod.mk.injEq] at hiz;obtain ⟨-,i2, -⟩:=hiz;have hl:=h6.len;have hle:i+(xs.length - j)≤xs.length:=FH
 have fi:=(h6.cutL i FH).1;have fj:=(h6.cutL j hj).2;have fk:=(h6.cutL (i+(xs.length - j)) hle).2;have hd1:(cs.take (i * E.sz)).length=i * E.sz:=by have:=fi.len;rw [List.length_take (l:=xs),Nat.min_eq_left FH] at this;exact this
 have hd2:(cs.drop (j * E.sz)).length=(xs.length - j) * E.sz:=by have:=fj.len;rwa [List.length_drop (l:=xs)] at this
 have h1c:=h6.one' one;have hsm:(i+(xs.length - j)) * E.sz≤xs.length * E.sz:=Nat.mul_le_mul_right _ hle;have hadd:(i+(xs.length - j)) * E.sz=i * E.sz+(xs.length - j) * E.sz:=Nat.add_mul _ _ _;have hsrc:∀r u,(cs.drop (j * E.sz))[r]?=some u→w.cell? ((⟨g,q,none⟩:Addr).add r)=some u:=fun r u hu=>by
  have hr:r < (cs.drop (j * E.sz)).length:=(List.getElem?_eq_some_iff.1 hu).1;have hlt:j < xs.length:=by
   rcases Nat.lt_or_ge j xs.length with h|h
   ·exact h
   ·rw [hd2,show xs.length - j=0 by omega] at hr;simp at hr
  rw [hq hlt,Addr.add_lit,h2.cell,List.getElem?_append_left (by rw [List.length_drop] at hr;omega)];rw [List.getElem?_drop] at hu;exact hu
 have hr:=fun ty=>run_append_room_cells (P:=c.P) w t ty e ti hS.u hi g 0 i cp ⟨g,q,none⟩ (xs.length - j) c2 (cs.drop (j * E.sz)) (by rw [hd2,i2]) hsrc (fun u hu=>h1c u (List.mem_of_mem_drop hu)) FH
  (fun r hr=>by rw [i2,h2.cell,List.getElem?_eq_getElem HH];rfl) (fun r _=>h2.frozen _)
 have e1:∀pos Cf gd,(execOp a.eval ⟨some d,.call { callee:=.builtin .append,args:=#[x,y],argTypes:=#[t,t] },ty,pos,Cf,gd⟩).run c.P w=.ok (.value (.slice (some ⟨g,0,none⟩) (i+(xs.length - j)) cp)) (w.setCells g (0+i * E.sz) (cs.drop (j * E.sz))):=by
  intro pos Cf gd;simp only [execOp,resolve,invoke,builtin,Sem.run_bind,Sem.run_pure,Result.andThen_ok,List.map_toArray,List.map_cons,List.map_nil,ag.ev hx,ag.ev hy,hr,i2]
 rw [e1];have R0:Ii w g e (cs.take (i * E.sz)++(cs.drop (i * E.sz)).take ((xs.length - j) * E.sz)++(cs.drop ((i+(xs.length - j)) * E.sz)++rest)):=by
  rw [hadd,←List.drop_drop,List.append_assoc,←List.append_assoc _ _ rest,List.take_append_drop,←List.append_assoc,List.take_append_drop];exact h2
 have R1:=Ii.put (cs.drop (j * E.sz)) _ R0 (p:=0+i * E.sz) FH (by rw [hd2,List.length_take,List.length_drop];omega);have hk:=Mk (g:=g) (cs.drop (j * E.sz)) w (0+i * E.sz);rw [M8 w g] at R1 hk;have hW:(Pc.ow E e (.slice (some ⟨g,0,none⟩) xs.length cp) (xs.take i++xs.drop j++xs.drop (i+(xs.length - j))) [g]).P (w.setCells g (0+i * E.sz) (cs.drop (j * E.sz))):=by
  have hll:(xs.take i++xs.drop j++xs.drop (i+(xs.length - j))).length=xs.length:=by simp only [List.length_append,List.length_take,List.length_drop];omega
  refine ⟨FI,.inr ⟨g,cp,cs.take (i * E.sz)++cs.drop (j * E.sz)++cs.drop ((i+(xs.length - j)) * E.sz),rest,[],by rw [hll],by simpa [List.append_assoc] using R1,by rw [hll];exact h3,h4,?_,?_,rfl⟩⟩
  ·rw [List.length_append,List.length_append,hd1,hd2,List.length_drop,hl,←h5];omega
  ·have:=((fi.all (w.setCells g (0+i * E.sz) (cs.drop (j * E.sz)))).append (fj.all _)).append (fk.all _);exact EM
 exact h.h _ _ (St.turn (M:=[.ow E e (.slice (some ⟨g,0,none⟩) xs.length cp) xs [g]]) (N:=[.ow E e (.slice (some ⟨g,0,none⟩) xs.length cp) (xs.take i++xs.drop j++xs.drop (i+(xs.length - j))) [g]]) s1 HY LK ⟨FI,trivial⟩ (by
   intro q hq b hb;rw [List.mem_singleton] at hq;subst hq;exact .inr (.inl ⟨_,List.mem_singleton.2 rfl,rfl,hb⟩))) (ag.put hd)⟩
end
theorem Bgr (xs:List (List Value)) (n i:Nat) (j:Int) (a:Option Addr) (c:Nat) (F:List Nat) (hn:n=xs.length) (hi:i < xs.length) (hj:j=(i:Int)+1) (hl:xs.length≤1000000) :
  Fn prog 372 [.slice a n c,.int .i64 i,.int .i64 j] [] [.ow (EC 3) 253 (.slice a n c) xs F] (fun (_:Option Addr × Nat × List Nat)=>True)
   (fun z=>.slice z.1 (xs.take i++xs.drop (i+1)).length z.2.1) (fun z=>[.ow (EC 3) 253 (.slice z.1 (xs.take i++xs.drop (i+1)).length z.2.1) (xs.take i++xs.drop (i+1)) z.2.2]):=by
 subst hn;refine enter func372 rfl ntmps372 fun w0=>?_;refine An2 (xs:=xs) (Me 3) (by rintro rfl;simp at hi) ?_;rintro g rfl rfl - hc1 hc2;refine go ?_;apply wO;refine Aqg (i:=i) (j:=i+1) (l:=xs.length) rfl rfl rfl rfl rfl rfl FH rfl FH FH hc1 (fun _=>?_);refine go ?_;refine A1 rfl (fun h=>absurd h FH) (fun _=>?_);refine go ?_;refine As [] [] ?_;refine Ec 0 1 ?_;refine dt 2 ?_ (hy:=Pz (i:=i) rfl rfl rfl FH FH);refine Ec 3 4 ?_;refine dt 5 ?_ (hy:=Bdl (i:=i+1) rfl rfl FH FH hc1);refine dN 6 ?_
 refine Bbg (m:=3) (i:=i) (j:=i+1) (q:=if c=i+1 then 0 else 0+(i+1) * 3) (g:=g) (cp:=c) (n:=xs.length) (Me 3) (Atb 3) rfl rfl rfl rfl (fun h=>by rw [if_neg FH];omega) FH FH rfl FM ?_;refine dk ?_;refine dt 7 ?_;refine dd ?_;refine go ?_;apply wO;apply oc;rfl;exact Avp (i:=i+(xs.length - (i+1))) (j:=xs.length) rfl rfl rfl rfl rfl FH FH hc1;refine go ?_;apply wO
 refine Au4 (xs:=xs.take i++xs.drop (i+1)++xs.drop (i+(xs.length - (i+1)))) (z0:=[.int .i64 0,.slice none 0 0,.int .i64 0]) (n:=xs.length) (cp:=c) (i:=i+(xs.length - (i+1))) (g:=g) (Me 3) (fun w=>⟨rfl,⟨rfl,GT⟩,rfl⟩) FK rfl rfl FH JO FM ?_;have hk:(xs.take i++xs.drop (i+1)).length=i+(xs.length - (i+1)):=JO
 refine An6 (xs:=(xs.take i++xs.drop (i+1)++xs.drop (i+(xs.length - (i+1)))).take (i+(xs.length - (i+1)))++List.replicate (xs.length - (i+(xs.length - (i+1)))) [.int .i64 0,.slice none 0 0,.int .i64 0]) (i+(xs.length - (i+1))) (fun F2=>?_) JO;exact FC
section
variable {c:Cx} {fr:Fr} {H:List Pc} {k:List It} {Φ:Gl} {ops:Array Oper} {o:Op} {ty:TypeId} {pos:String} {Cf:Array Edge} {H0:List Pc} {X:List Nat} {f:Nat} {listed:Array Bool}
theorem Ah6 (z:List Value) (n:Nat):madeCells z.toArray (n * z.length)=((List.replicate n z).flatten).toArray:=by
 have:=Ol z.toArray n;rw [List.size_toArray] at this;rw [←Array.toArray_toList (xs:=madeCells z.toArray (n * z.length)),this]
end
def zP:Ar:=⟨0,0,0,0,⟨#[]⟩⟩
def N1 (q:List Ar):Ar:=q.headD zP
theorem Yu {q:List Ar} (h:0 < q.length):N1 q=q[0]:=by
 cases q with
 | nil=>cases h
 | cons p r=>rfl
theorem Bgs (xs:List Ar) (n i:Nat) (j:Int) (a:Option Addr) (c:Nat) (F:List Nat) (hn:n=xs.length) (hi:i < xs.length) (hj:j=(i:Int)+1) (hl:xs.length≤1048576) :
  Fn prog 328 [.slice a n c,.int .i64 i,.int .i64 j] [] [.ow Ak 233 (.slice a n c) xs F] (fun (_:Option Addr × Nat × List Nat)=>True)
   (fun z=>.slice z.1 (xs.take i++xs.drop (i+1)).length z.2.1) (fun z=>[.ow Ak 233 (.slice z.1 (xs.take i++xs.drop (i+1)).length z.2.1) (xs.take i++xs.drop (i+1)) z.2.2]):=by
 subst hn;refine enter func328 rfl ntmps328 fun w0=>?_;refine An2 (xs:=xs) I2 (by rintro rfl;simp at hi) ?_;rintro g rfl rfl - hc1 hc2;refine go ?_;apply wO;refine Aqg (i:=i) (j:=i+1) (l:=xs.length) rfl rfl rfl rfl rfl rfl FH rfl FH FH hc1 (fun _=>?_);refine go ?_;refine A1 rfl (fun h=>absurd h FH) (fun _=>?_);refine go ?_;refine As [] [] ?_;refine Ec 0 1 ?_;refine dt 2 ?_ (hy:=Pz (i:=i) rfl rfl rfl FH FH);refine Ec 3 4 ?_;refine dt 5 ?_ (hy:=Bdl (i:=i+1) rfl rfl FH FH hc1);refine dN 6 ?_
 refine Bbg (m:=5) (i:=i) (j:=i+1) (q:=if c=i+1 then 0 else 0+(i+1) * 5) (g:=g) (cp:=c) (n:=xs.length) I2 Hg rfl rfl rfl rfl (fun h=>by rw [if_neg FH];omega) FH FH rfl FM ?_;refine dk ?_;refine dt 7 ?_;refine dd ?_;refine go ?_;apply wO;apply oc;rfl;exact Avp (i:=i+(xs.length - (i+1))) (j:=xs.length) rfl rfl rfl rfl rfl FH FH hc1;refine go ?_;apply wO
 refine Au4 (xs:=xs.take i++xs.drop (i+1)++xs.drop (i+(xs.length - (i+1)))) (z0:=zP) (n:=xs.length) (cp:=c) (i:=i+(xs.length - (i+1))) (g:=g) I2 (fun w=>⟨rfl,Nat.zero_le _,rfl⟩) FK rfl rfl FH JO FM ?_;have hk:(xs.take i++xs.drop (i+1)).length=i+(xs.length - (i+1)):=JO
 refine An6 (xs:=(xs.take i++xs.drop (i+1)++xs.drop (i+(xs.length - (i+1)))).take (i+(xs.length - (i+1)))++List.replicate (xs.length - (i+(xs.length - (i+1)))) zP) (i+(xs.length - (i+1))) (fun F2=>?_) JO;exact FC
theorem Biw (xs:List Ar) (a:Option Addr) (c:Nat) (F:List Nat) (hl:xs.length≤1000000000) :
  Fn prog 186 [.slice a xs.length c] [.sl Ak (.slice a xs.length c) xs F] [] (fun (_:Option Addr × Nat × List Nat)=>True) (fun z=>.slice z.1 xs.length z.2.1) (fun z=>[.ow Ak 233 (.slice z.1 xs.length z.2.1) xs z.2.2]):=by
 refine enter func186 rfl ntmps186 fun w0=>?_;refine go ?_;cases a with
 | none =>
  refine Bcs (xs:=xs) fun h0=>?_;subst h0;apply wO;apply oc;rfl;exact Aoe rfl;refine Db Ak 233 ?_;refine go ?_;refine ret (none,0,[]) trivial rfl
 | some ad =>
  apply wO;apply oc;rfl;exact Aoe rfl;refine go ?_;intros;refine C7 Ak ?_;apply wO;refine Pf Hg I2 fun a2 c2 F2=>?_;rw [List.nil_append];exact DK
theorem Aid (d:List (List Ar)) (i:Nat) (a:Option Addr) (n c:Nat) (F:List Nat) (hn:n=d.length) (hi:i < d.length) (h6:d[i].length≤6):Fn prog 269 [.slice a n c,.int .i64 (i:Nat)] [] [.ow (Ko Ak 233) 158 (.slice a n c) d F] (fun (_:List Nat)=>True) (fun _=>.tuple #[.agg #[.int .i64 (N1 d[i]).Cp,.int .i64 (N1 d[i]).Ae,.int .i64 (N1 d[i]).Ap,.int .i64 (N1 d[i]).Fg,.string (N1 d[i]).data],.bool (decide (0 < d[i].length))]) (fun G=>[.ow (Ko Ak 233) 158 (.slice a n c) (d.set i (d[i].drop 1)) G]):=by
 refine enter func269 rfl ntmps269 fun w0=>?_;refine Wu (m:=1) i ?_ rfl hi;rintro _ g A cs B k1 k2 G1 Gi G2 rfl - hc hH;refine U0 ?_;rintro a5 c5 ev l5;obtain rfl:=Uq ev;refine go ?_;intros;refine A1 rfl (fun h1=>?_) (fun h1=>?_)
 ·have h0:d[i]=[]:=List.length_eq_zero_iff.1 FH;rw [h0];refine go ?_;refine Jt [] ?_;refine Sw _ hH rfl fun F6=>?_;refine ret F6 trivial rfl
 ·have h0:0 < d[i].length:=FH
  rw [decide_eq_true h0,Yu h0];refine Awi (xs:=d[i]) 0 ?_;rintro _ g2 A2 B2 rfl rfl sz hH2;refine Og ?_;intros;refine O5 d[i][0] hH2 (fun w=>⟨rfl,sz,rfl⟩) ?_;rw [List.set_getElem_self];refine go ?_;refine Ca (Bgs d[i] d[i].length 0 1 _ c5 _ rfl h0 rfl FH) fun z _=>?_;rw [show d[i].take 0++d[i].drop (0+1)=d[i].drop 1 by simp];refine go ?_;refine Jt (d[i].drop 1) ?_;refine Sw _ hH rfl fun F6=>?_;refine ret F6 trivial rfl
def Yg (l:List (List Ar)) (k:Nat):List (List Ar):=l.take k++List.replicate (l.length - k) []
theorem Awg {l:List (List Ar)} {k:Nat} (h:k≤l.length):(Yg l k).length=l.length:=by unfold Yg;simp;omega
theorem Awh {l:List (List Ar)} {k:Nat} (h:k < l.length):(Yg l k).set k l[k]=Yg l (k+1):=by
 unfold Yg;have e:List.replicate (l.length - k) ([]:List Ar)=[]::List.replicate (l.length - (k+1)) []:=HU
 have hl:(l.take k).length=k:=FY
 exact EF
theorem Jp (l:List (List Ar)) (a:Option Addr) (c:Nat) (F:List Nat) (hl:l.length≤1048576) (hq:∀q∈l,q.length≤1000000000):Fn prog 96 [.slice a l.length c] [.sl (Ml Ak FK) (.slice a l.length c) l F] [] (fun (_:Nat × List Nat)=>True) (fun z=>.slice (some ⟨z.1,0,none⟩) l.length l.length) (fun z=>[.ow (Ko Ak 233) 158 (.slice (some ⟨z.1,0,none⟩) l.length l.length) l z.2]):=by
 refine enter func96 rfl ntmps96 fun w0=>?_;refine go ?_;apply wO;refine Axx l.length (cs:=(List.replicate l.length ([.slice none 0 0]:List Value)).flatten) rfl rfl rfl (Ah6 _ _) FH FH fun g=>?_;refine Le (E:=Ko Ak 233) (xs:=List.replicate l.length []) (fun w=>Cy.rep0 (E:=Ko Ak 233) (w:=w) (zs:=[.slice none 0 0]) (z:=([]:List Ar)) ⟨_,rfl,.inl ⟨rfl,rfl,rfl⟩⟩ _) ?_ (by rw [List.length_replicate];omega);rw [List.length_replicate,show List.replicate l.length ([]:List Ar)=Yg l 0 by unfold Yg;simp];refine go ?_
 refine Cd [2,3,9,10] (fun z:KF=>[(11,.int .i64 (z.k:Nat))]) (fun z=>[.ow (Ko Ak 233) 158 (.slice (some ⟨g,0,none⟩) l.length l.length) (Yg l z.k) z.F]) (fun z=>z.k≤l.length) (fun z=>l.length - z.k) ⟨0,_⟩ (Nat.zero_le _) fun z hz0=>?_;have hfl:=Awg hz0;refine go ?_;refine A1 rfl (fun h1=>?_) (fun h1=>?_)
 ·have hk:z.k < l.length:=FH
  refine Nz (E:=Ak) (hz:=FK) (xs:=l) z.k ?_;rintro hi6 b6 o6 a11 c11 F11 rfl l11;refine Wu (xs:=Yg l z.k) (m:=1) z.k ?_ rfl FH;rintro _ g2 A cs B k1 k2 G1 Gi G2 e2 - hc hH;cases e2;refine U0 ?_;rintro a5 c5 ev l5;obtain rfl:=Uq ev;refine go ?_;refine Ca (Biw l[z.k] a11 c11 F11 (hq _ (List.getElem_mem hk))) fun y _=>?_;refine go ?_;refine Jt l[z.k] ?_;refine Sw _ hH rfl fun F6=>?_;rw [Awh hk];refine go ?_;refine Cg ⟨z.k+1,F6⟩ hk (by show l.length - (z.k+1) < l.length - z.k;omega)
 ·rw [show Yg l z.k=l by unfold Yg;rw [show z.k=l.length by omega];simp];refine go ?_;refine ret (g,z.F) trivial rfl
theorem Agw (fid:FuncId) (hbd:Zu prog fid) (caps:Array Value) (v:Value) (xs:List Hx) (F:List Nat) (p:Hx→Bool) (w:World) (h:Sl Bm w v xs F)
  (hp:∀(k:Nat) (hk:k < xs.length) (wr:World) (u:Value) (G:List Nat),Below w.heap.size w wr→Jz Bm wr u xs[k] G→Calls prog fid (#[u]++caps) wr fun e w'=>e=.returned (.bool (p xs[k]))∧Below wr.heap.size wr w') :
  Calls prog 362 #[v,.func (.func fid) #[] caps] w (RB (.int .i64 (Ss p xs)) w):=by
 obtain ⟨a,cap,rfl⟩:=h.slice;have hl:=h.len;unfold maxLen at hl
 go_enter func362,ntmps362
 go_wp2
 go_loopw [5,8] (fun _ i wr=>∃k:Nat,k≤xs.length∧i=.int .i64 k∧Hid (∀j,j < k→∀hj:j < xs.length,p xs[j]=false)∧Below w.heap.size w wr) (fun _ i _=>xs.length - (intOf i).toNat)
 case atStart=>exact ⟨0,Nat.zero_le _,rfl,fun j hj=>by omega,Below.refl _ _⟩
 case round =>
  obtain ⟨k,hk,rfl,hz,hB⟩:=hrel;by_cases hlt:k < xs.length
  ·have hz0:=hz;clear hz;obtain ⟨b,off,_,F1,rfl,hx, -,ja⟩:=(h.below FK hB).at k hlt;obtain ⟨rfl,rfl⟩:=id hx;have a0:=ja 0 FK;have a1:=ja 1 FK;simp only [show Bm.sz=2 from rfl,Nat.mul_one,Nat.add_zero,List.getElem?_cons_zero,List.getElem?_cons_succ] at a0 a1;clear ja;have hr:=hp k hlt wr _ _ hB ⟨_,rfl,hx⟩;have hp:=Lib.hid hp;cases hpk:p xs[k]
   all_goals
    rw [hpk] at hr;have hpk:=Lib.hid hpk;have hr:=Lib.hid hr;go_wp2_with fail;refine hbd.upon hr.out ?_;rintro e w1 ⟨rfl,hb1⟩;refine ⟨_,rfl,?_⟩;have hB:=tr hB hb1 (Nat.le_refl _);clear hb1;go_wp2_with fail
   ·exact AL
   ·go_ret
    exact EV
  ·go_wp2
   go_ret
   exact DG
theorem Ar0 (v:Value) (xs:List Hx) (F:List Nat) (w:World) (h:Sl Bm w v xs F) (hm:xs.length≤4294967296) :
  Calls prog 185 #[v] w (Nd Bm 203 xs w):=by
 obtain ⟨ao,c,news,Fy,rfl,hl,hfy,hFy,hsrc⟩:=h.src;have hFl:=hfy.lt;have he:=fun w (a:Option Addr) (n c:Nat)=>Lib.run_eql_slice_nil (P:=prog) w 45 _ a n c 0 0 underlying45
 go_enter func185,ntmps185
 rcases hsrc with ⟨rfl,rfl,rfl⟩|⟨ad,rfl,hn⟩
 ·go_wp2
  go_ret
  exact BY
 ·go_wp2_with (at_builtin;refine Py Jj FK GE _ _ _ GE 203 (.agg #[.int .i64 0,.int .i64 0]) 16 underlying45 Alc rfl (.slice (some ⟨w.heap.size,0,none⟩) 0 0) [] [w.heap.size] GE (Ow.empty (Ii.made _ _ _)) (Hd.one _) (some ad) xs c GE news Fy (hfy.frame fun b hb=>Below.heap_alloc _ _ _ (hFl b hb)) (.inr ⟨ad,rfl,fun j u hu=>kc ((Below.refl _ _).alloc (Nat.le_refl _) _) (hn j u hu)⟩) (fun b hb e=>by have:=hFl b hb;simp [Value.ownBlock] at e;omega) HQ HM ?_);intro v2 w2 F2 hA;go_wp2_with fail
  go_ret
  have hB:Below w.heap.size w w2:=((Below.refl _ _).alloc (Nat.le_refl _) _).trans (hA.I7.below FI FI);have hs:∀b,v2.ownBlock=some b→w.heap.size≤b:=fun b hb=>by rcases hA.Ato with e|e <;> rw [e] at hb <;> simp [Value.ownBlock] at hb <;> omega
  refine ⟨v2,F2,rfl,JJ,hA.ow.scal Lc▸?_,fun b hb=>?_,hB⟩
  ·cases v2.ownBlock <;> simp
  ·rw [hA.ow.scal Lc] at hb;exact hs b JV
theorem Xq (fid:FuncId) (hbd:Zu prog fid) (caps:Array Value) (v:Value) (xs:List Hx) (F:List Nat) (p:Hx→Bool) (w:World) (h:Ow Bm 203 w v xs F) (hn:F.Nodup)
  (hp:∀(k:Nat) (hk:k < xs.length) (wr:World) (u:Value) (G:List Nat),Dr F w wr→Jz Bm wr u xs[k] G→Calls prog fid (#[u]++caps) wr fun e w'=>e=.returned (.bool (p xs[k]))∧Below wr.heap.size wr w') :
  Calls prog 319 #[v,.func (.func fid) #[] caps] w fun e w'=>∃v' F',e=.returned v'∧Ow Bm 203 w' v' (xs.filter fun x=>!p x) F'∧F'.Nodup∧(∀b∈F',b∈F)∧Dr F w w':=by
 obtain ⟨F1,hF1,hs⟩:=h.sl (Kq.refl _);obtain ⟨a,cap,rfl⟩:=h.slice;have hl:=h.len;unfold maxLen at hl;have hp:=Lib.hid hp
 go_enter func319,ntmps319
 go_wp2_with fail;refine (Agw fid hbd caps _ xs F1 p _ hs (fun k hk wr u G hb hu=>hp.out k hk wr u G (Dr.ofBelow hb) hu)).mono ?_;rintro e w1 ⟨rfl,hb1⟩;have hK1:=Dr.ofBelow (F:=F) hb1;by_cases hany:xs.any p=true
 ·obtain ⟨k0,hk0,hfx,hpk,hfl⟩:=Zf hany;rw [hfx];obtain ⟨g,rfl, -,hg0⟩:=Gap.start (h.below hb1) hn (ys:=xs.take k0) (zs:=xs[k0]::xs.drop (k0+1)) FI FH;obtain ⟨F0,hg0,hF0⟩:=hg0.skip;have hG0:=Lib.hid hg0;clear hg0;have hk1:((k0:Int) == -1)=false:=FI
  go_wp2_with fail
  go_loopw [5,6,7] (fun i j _ wr=>∃(q m:Nat) (F1:List Nat),q≤xs.length∧0 < m∧((xs.take q).filter fun x=>!p x).length+m=q∧i=.int .i64 ((xs.take q).filter fun x=>!p x).length∧j=.int .i64 q∧Hid (Gap Bm 203 wr g xs.length cap ((xs.take q).filter fun x=>!p x) m (xs.drop q) F1)∧(∀b∈F1,b∈F)∧Dr F w wr) (fun _ j _ _=>xs.length - (intOf j).toNat)
  case atStart=>exact ⟨k0+1,1,F0,hk0,FH,IB,IB,HL,by rw [C6 hk0 KZ,hfl];exact hG0,hF0,hK1⟩
  case round =>
   obtain ⟨q,m,F1,hq,hm,hlen,rfl,rfl,hG,hF1,hK⟩:=hrel;obtain ⟨-,hcap, -⟩:=hG.out.caps;generalize hys:((xs.take q).filter fun x=>!p x)=ys at *;by_cases hlt:q < xs.length
   ·rw [List.drop_eq_getElem_cons hlt] at hG;obtain ⟨c,Fx,hx,hFx,hcell⟩:=hG.out.first
    obtain ⟨Fx2, -,hxe⟩:=(Kq.refl _).Kn hx;obtain ⟨rfl,rfl⟩:=id hx;have a0:=hcell 0 FK;have a1:=hcell 1 FK;simp only [hlen,show Bm.sz=2 from rfl,Nat.mul_one,Nat.add_zero,List.getElem?_cons_zero,List.getElem?_cons_succ] at a0 a1;have hr:=fun A=>hp.out q hlt (wr.alloc A) _ Fx2 (hK.alloc A) ⟨_,rfl,Bm.below hxe ((Below.refl wr.heap.size wr).alloc (Nat.le_refl _) A)⟩;cases hpq:p xs[q]
    ·obtain ⟨st,c2,Fx3,hx3, -,hcell2,back⟩:=hG.out.move hm;simp only [hpq] at hr;obtain rfl:=Aiy (Bm.len hx) (Bm.len hx3) hcell hcell2;have st:=st;obtain ⟨⟨x0,z0⟩,g0⟩:=st 0 FK;obtain ⟨⟨x1,z1⟩,g1⟩:=st 1 FK;simp only [show Bm.sz=2 from rfl,Nat.mul_one,Nat.add_zero] at z0 g0 z1 g1;have hr:=Lib.hid hr;have hbk:=Lib.hid back;have hpq:=Lib.hid hpq;have hys:=Lib.hid hys;have hlen:=Lib.hid hlen;have hyl:ys.length < xs.length:=by have:=hlen.out;omega
     clear hx hxe hcell hcell2 hx3 back st hfx hpk hfl;go_wp2_with fail;refine hbd.upon (hr.out _) ?_;rintro e w2 ⟨rfl,hb2⟩;refine ⟨_,rfl,?_⟩;have b2:=(Ii.below (g:=wr.heap.size) (t:=203) (cs:=[.int .i64 xs[q].Ae,.int .i64 xs[q].Ce]) (by simp [Jk]) hb2).cells;have hbb:=tr ((Below.refl wr.heap.size wr).alloc (Nat.le_refl _) _) hb2 (Nat.le_refl _);clear hb2;have g0:=(kf hbb z0).trans g0;have z0:=kc hbb z0;have g1:=(kf hbb z1).trans g1;have z1:=kc hbb z1;obtain ⟨F2,hg2,hF2⟩:=hbk.out w2 hbb;simp only [Oo,show Bm.sz=2 from rfl,Nat.mul_one] at hg2;have hg2:=Lib.hid hg2
     have hgF:g∈F:=hF1 g hG.out.caps.2.2.2.2.1;go_wp2_with fail;exact ⟨⟨q+1,m,F2,FH,hm,LD,LE,HL,by rw [Hk hlt JQ,hys.out];exact hg2.out,fun b hb=>hF1 b (hF2 b hb),KW⟩,GO⟩
    ·obtain ⟨F2,hg2,hF2⟩:=hG.out.skip;simp only [hpq] at hr;have hr:=Lib.hid hr;have hg2:=Lib.hid hg2;have hpq:=Lib.hid hpq;have hys:=Lib.hid hys;have hlen:=Lib.hid hlen;clear hx hxe hcell hfx hpk hfl;go_wp2_with fail;refine hbd.upon (hr.out _) ?_;rintro e w2 ⟨rfl,hb2⟩;refine ⟨_,rfl,?_⟩;have hbb:=tr ((Below.refl wr.heap.size wr).alloc (Nat.le_refl _) _) hb2 (Nat.le_refl _);clear hb2;go_wp2_with fail
     exact BL
   ·have hqe:q=xs.length:=FH
    subst hqe;simp only [List.drop_length,List.take_length] at hG hys;obtain ⟨hc,F2,ho2,hn2,hF2⟩:=hG.out.done (z:=#[.int .i64 0,.int .i64 0]) rfl;have hmm:xs.length - ys.length=m:=FH
    have hcl:=fun ty=>Ul (P:=prog) wr 45 203 ty (.agg #[.int .i64 0,.int .i64 0]) underlying45 (Xo Alc) (by simp [Value.cells,Value.oneCell']) g (ys.length * 2) m (cap - ys.length) hm (fun j hj=>(hc j hj).1) (fun j hj=>(hc j hj).2);have hyl:ys.length < xs.length:=FH
    have hgF:g∈F:=hF1 g hG.out.caps.2.2.2.2.1;have hO:=Lib.hid ho2;have hlen:=Lib.hid hlen;have hys:=Lib.hid hys;clear ho2 hc hfx hpk hfl;go_wp2_with fail
    go_ret
    exact DA
 ·obtain ⟨hfx,hfl⟩:=Ab4 hany;rw [hfx];go_wp2_with fail
  go_ret
  exact ⟨_,F,rfl,by rw [hfl];exact h.below hb1,hn,fun b hb=>hb,hK1⟩
theorem Agz (x:Cj) (v:Value) (F:List Nat) (hl:x.Aa.An.length≤4294967296) (hl2:x.holds.length≤4294967296):Fn prog 95 [v] [.isv Dp v x F] [] (fun (_:Value × List Nat)=>True)
  (fun s=>s.1) (fun s=>[.own S8 s.1 x s.2]):=by
 refine enter func95 rfl ntmps95 fun w0=>?_;refine H3 ?_;rintro a1 c1 F1 a2 c2 F2 rfl l1 l2;refine C3 x.Aa ?_;generalize F1=F3;refine go ?_;intros;refine cv (fun w s=>Aar _ x.Aa _ w (s.get (p:=.isv Bw (.agg #[.int .i64 x.Aa.Ap,.int .i64 x.Aa.size,.slice a1 x.Aa.An.length c1]) x.Aa F3) FI) hl) fun v F'=>?_;refine Hl ?_;rintro a5 c5 F5 rfl l5;refine go ?_;refine cn (fun w s=>Ar0 _ _ _ _ (s.get (p:=.sl Bm (.slice a2 x.holds.length c2) x.holds F2) FI).2 hl2) fun a6 c6 F6=>?_;refine go ?_;refine Td x ?_;exact AX
theorem Beo (W:Aw) (h:Hx) (gb g o:Nat) (u:Value) (a:Option Addr) (c:Nat) (cl q:Value) (Hs:Value) (G Fw:List Nat) (t0:0≤W.Ap) (t1:W.Ap≤65535) (n0:0≤h.Ae) (n1:h.Ae≤65535) :
  FV 320 [u,Il gb 0 0] [.isv Bm u h G,.cel gb 0 [Il g o 0],.cel g o [.int .i64 W.Ap,.int .i64 W.size,.slice a W.An.length c,cl,q,Hs],.isv Bw (.agg #[.int .i64 W.Ap,.int .i64 W.size,.slice a W.An.length c]) W Fw] (.bool (!Jb W h.Ae)):=by
 refine enter func320 rfl ntmps320 fun w0=>?_;refine Aqj ?_;rintro _ rfl;refine go ?_;intros;refine As [0,2,3] [] ?_;refine Dq 0 1 2 3 ?_;refine Ec 4 5 ?_;refine dN 6 ?_;refine oC ?_;refine cb (fun w st=>(Yh W h.Ae _ _ t0 t1 n0 n1).val w (El (st.get (p:=.isv Bw (.agg #[.int .i64 W.Ap,.int .i64 W.size,.slice a W.An.length c]) W Fw) FI))) ?_;refine dk ?_;refine Ec 7 8 ?_;refine dd ?_;refine go ?_;refine ret () trivial ?_;simp only [Jb,Us,decide_not]
theorem Aso {P:Program} {f:FuncId} {args:List Value} {p:Pc} {R:List Pc} {σ:Type} {C:σ→Prop} {v:σ→Value} {N:σ→Pc} (hm:p.mu=true)
  (h:∀w,p.P w→Od R w→(∀wr,Dr p.F w wr→Od R wr)→Calls P f args.toArray w fun e w'=>∃s,C s∧e=.returned (v s)∧(N s).P w'∧(∀b∈(N s).F,b∈p.F∨w.heap.size≤b)∧Dr p.F w w'):Fn P f args [] (p::R) C v (fun s=>N s::R):=fun w hH hS=>by
 rw [List.append_nil] at hH hS;have hR:Od R w:=fun q hq=>hH q GQ;have ap:∀q∈R,∀b∈q.F,b ∉ p.F:=fun q hq b hb hp=>hS.1 q hq (by simp [hm]) b hp hb;have hk:∀wr,Dr p.F w wr→Od R wr:=fun wr k q hq=>q.st (hR q hq) fun b hb=>k.block b (q.lt (hR q hq) b hb) (ap q hq b hb);refine (h w (hH p FI) hR hk).mono ?_;rintro e w' ⟨s,hC,he,hN,hF,k⟩;refine ⟨s,hC,he,?_,⟨fun q hq _ b hb hbq=>?_,hS.2⟩,k.mono (fun b hb _=>by simp [fp,hb]),?_⟩
 ·intro q hq;rcases List.mem_cons.1 hq with rfl|hq
  ·exact hN
  ·exact hk w' k q hq
 ·rcases hF b hb with h|h
  ·exact ap q hq b hbq h
  ·have:=q.lt (hR q hq) b hbq;omega
 ·intro q hq b hb;rcases List.mem_cons.1 hq with rfl|hq
  ·rcases hF b hb with h|h
   ·exact .inr (.inl ⟨p,FI,h⟩)
   ·exact .inl h
  ·exact .inr (.inl ⟨q,GQ,hb⟩)
theorem Bjc {P:Program} {fn:Func} {R:Ending→World→Prop} {G D:List Nat} {w0:World} {n:Nat} {fr:Fr} {H:List Pc} (h:T ⟨P,G,D,w0,n,bodyPost P fn R⟩ fr H (.fin .ret)):T ⟨P,G,D,w0,n,bodyPost P fn R⟩ fr H (.norm []):=.mk fun a w s g=>h.h a w s g
def Oi (W:Aw) (hs:List Hx):List Hx:=hs.filter fun h=>Jb W h.Ae
theorem Bep (W:Aw) (hs:List Hx) (gb tb g t o:Nat) (A B:List Value) (a a2:Option Addr) (c c2:Nat) (cl q:Int) (F F2:List Nat) (t0:0≤W.Ap) (t1:W.Ap≤65535) (hn:∀h∈hs,B8 h.Ae=true) :
  Fn prog 319 [.slice a2 hs.length c2,.func (.func 320) #[] #[Il gb 0 0]] [] [.ow Bm 203 (.slice a2 hs.length c2) hs F2,.row gb tb 0 [] [Il g o 0] [],.row g t o A [.int .i64 W.Ap,.int .i64 W.size,.slice a W.An.length c,.int .i64 cl,.int .i64 q,.slice a2 hs.length c2] B,.ow A8 9 (.slice a W.An.length c) W.An F] (fun (_:Option Addr × Nat × List Nat)=>True)
   (fun z=>.slice z.1 (Oi W hs).length z.2.1) (fun z=>[.ow Bm 203 (.slice z.1 (Oi W hs).length z.2.1) (Oi W hs) z.2.2,.row gb tb 0 [] [Il g o 0] [],.row g t o A [.int .i64 W.Ap,.int .i64 W.size,.slice a W.An.length c,.int .i64 cl,.int .i64 q,.slice a2 hs.length c2] B,.ow A8 9 (.slice a W.An.length c) W.An F]):=by
 refine Aso rfl fun w ⟨hnd,ho⟩ _ hk=>?_;refine (Xq _ (Wq FJ) #[Il gb 0 0] _ hs F2 (fun h=>!Jb W h.Ae) w ho hnd fun k hk2 wr u G hK hu=>?_).mono ?_
 ·have hr:=hk wr hK;have r1:=hr (.row gb tb 0 [] [Il g o 0] []) FI;have r2:=hr (.row g t o A [.int .i64 W.Ap,.int .i64 W.size,.slice a W.An.length c,.int .i64 cl,.int .i64 q,.slice a2 hs.length c2] B) FI;obtain ⟨Fw, -,hw⟩:=(hr (.ow A8 9 (.slice a W.An.length c) W.An F) FI).2.read;obtain ⟨n0,n1⟩:=Bc.1 (hn hs[k] (List.getElem_mem hk2));refine (Beo W hs[k] gb g o u a c (.int .i64 cl) (.int .i64 q) (.slice a2 hs.length c2) G Fw t0 t1 n0 n1).val wr ?_;intro p hp;simp only [List.mem_cons,List.not_mem_nil,or_false] at hp;rcases hp with rfl|rfl|rfl|rfl
  ·exact hu
  ·exact ⟨FI,Is r1⟩
  ·exact ⟨FI,Is r2⟩
  ·exact ⟨_,rfl,_,rfl,hw⟩
 ·rintro e w' ⟨v',F',rfl,h1,h2,h3,h4⟩;have e:(hs.filter fun x=>!(fun h:Hx=>!Jb W h.Ae) x)=Oi W hs:=by simp [Oi]
  rw [e] at h1;exact CN
theorem Apw (W:Aw) (hs:List Hx) (g t o:Nat) (A B:List Value) (a a2:Option Addr) (c c2:Nat) (cl q:Int) (F F2:List Nat) (t0:0≤W.Ap) (t1:W.Ap≤65535) (hn:∀h∈hs,B8 h.Ae=true) :
  Fn prog 263 [Il g o 0] [] [.row g t o A [.int .i64 W.Ap,.int .i64 W.size,.slice a W.An.length c,.int .i64 cl,.int .i64 q,.slice a2 hs.length c2] B,.ow Bm 203 (.slice a2 hs.length c2) hs F2,.ow A8 9 (.slice a W.An.length c) W.An F] (fun (_:Option Addr × Nat × List Nat)=>True)
   (fun _=>.tuple #[]) (fun z=>[.row g t o A [.int .i64 W.Ap,.int .i64 W.size,.slice a W.An.length c,.int .i64 cl,.int .i64 q,.slice z.1 (Oi W hs).length z.2.1] B,.ow Bm 203 (.slice z.1 (Oi W hs).length z.2.1) (Oi W hs) z.2.2,.ow A8 9 (.slice a W.An.length c) W.An F]):=by
 refine enter func263 rfl ntmps263 fun w0=>?_;refine go ?_;intros;refine As [0,1] [9] ?_;refine Dq 0 1 2 3 ?_;refine Ec 4 5 ?_;refine dN 6 ?_;refine oC ?_;refine Ca (Bep W hs _ _ g t o A B a a2 c c2 cl q F F2 t0 t1 hn) fun z _=>?_;refine dk ?_;refine Ec 7 8 ?_;refine dN 9 ?_;refine oS ?_;refine Tf ?_;refine dd ?_;refine Bjc ?_;exact BK
theorem Zs {a t:Int}:Eu a t≤(gp a t).toNat:=by unfold Eu;split <;> omega
theorem Vz {w:Aj} {t:Int} (hg:Cu w=true):(Jh w t).next=Cf w.next ((Jg w t).length:Nat)∧(Jh w t).Al=w.Al.drop (Jg w t).length∧(Jg w t).length≤Eu w.next t+8∧Eu w.next t≤(Jg w t).length:=by
 obtain ⟨h0,h1⟩:0≤w.next∧w.next≤65535:=by
  exact EJ
 have hl:w.Al.length≤8:=by
  unfold Cu at hg;simp only [Bool.and_eq_true,decide_eq_true_eq] at hg;have:=hg.1.1.2;omega
 have e1:∀k (x:Aj),(O7 k x).length=k:=by
  intro k
  induction k with
  | zero=>intro x;rfl
  | succ k ih=>intro x;simp [O7,ih]
 have h2:=Ae4 (Eu w.next t) w h0 h1;have h3:=Yx (I5 (Eu w.next t) w).Al (I5 (Eu w.next t) w).next
 have h4:=Ua (Eu w.next t) w;have h5:=Avc (I5 (Eu w.next t) w);rw [h4,List.length_drop] at h5;refine ⟨h2,?_,?_,?_⟩
 ·have e:(Jh w t).Al=(I5 (Eu w.next t) w).Al.drop (Sm (I5 (Eu w.next t) w)).length:=h3.1;rw [e,h4,List.drop_drop];unfold Jg;rw [List.length_append,e1]
 ·unfold Jg;rw [List.length_append,e1];omega
 ·unfold Jg;rw [List.length_append,e1];omega
theorem Auv (w:Aj) (n:Int):I4 w n=Jv w.Al (gp w.next n).toNat:=rfl
theorem Be0 {w:Aj} {t n:Int} (hg:Cu w=true) (ht:gp w.next t≤8) (hn:B8 n=true) (h8:gp w.next n < 8) (hh:I4 w n=false) :
  (Up n (Jh w t).next=true∧gp w.next n < ((Jg w t).length:Nat))∨(Up n (Jh w t).next=false∧I4 (Jh w t) n=false∧gp w.next n=((Jg w t).length:Nat)+gp (Jh w t).next n):=by
 obtain ⟨e1,e2,e3, -⟩:=Vz (t:=t) hg;have hs:=@Zs w.next t
 obtain ⟨n0,n1⟩:=Bc.1 hn;obtain ⟨w0,w1⟩:0≤w.next∧w.next≤65535:=by
  exact EJ
 have hm:(Jg w t).length≤16:=FH
 have hb:=Ly w.next n
 rw [Auv,e1,e2,Wx];rw [Auv] at hh;generalize hM:(Jg w t).length=m at *;clear e1 e2 e3 hs hM hg ht;by_cases hc:gp w.next n < (m:Nat)
 ·left;refine ⟨?_,hc⟩;unfold Up Ga gp Cf at *;simp only [Bool.and_eq_true,decide_eq_true_eq];omega
 ·right;have e:gp w.next n=m+gp (Cf w.next m) n:=by unfold gp Cf at *;omega
  refine ⟨?_,?_,e⟩
  ·have:¬(1≤gp n (Cf w.next m)∧gp n (Cf w.next m)≤32767):=by unfold gp Cf at *;omega
   unfold Up Ga;exact EM
  ·have hb2:=Ly (Cf w.next m) n;rw [show m+(gp (Cf w.next m) n).toNat=(gp w.next n).toNat by omega];exact hh
theorem Anh {w:Aj} {t:Int} (hg:Cu w=true) (ht:gp w.next t≤8) {l:List Ax} (hl:∀q∈l,B8 q.Ae=true∧gp w.next q.Ae < 8∧I4 w q.Ae=false):Ei l (Jh w t)=Aag l (Jh w t).next:=by
 unfold Ei Aag;refine List.filter_congr fun q hq=>?_;obtain ⟨a,b,c⟩:=hl q hq;rcases Be0 hg ht a b c with ⟨h, -⟩|⟨h,h2,h3⟩
 ·simp [h]
 ·have:=Ly (Jh w t).next q.Ae
  simp [h,h2,show gp (Jh w t).next q.Ae < 8 by omega]
theorem An8 {c d:Int} {r q:Ax} (h:U3 c d r=some q):q.Ae=r.Ae:=by
 unfold U3 at h
 split at h
 ·cases h;rfl
 ·split at h
  ·cases h
  ·split at h <;> cases h <;> rfl
theorem Bft {c:Int} {r:Ax} {n:Int} (h:Vd c r=some n):n=r.Ae:=by
 unfold Vd at h
 split at h
 ·cases h
 ·split at h <;> cases h <;> rfl
theorem Yy {r:Ay} (hg:Mn r) {q:Ax} (hq:q∈r.Am):B8 q.Ae=true∧gp r.Aa.next q.Ae < 8∧I4 r.Aa q.Ae=false:=by
 obtain ⟨-, -,h3, -⟩:=De.1 hg.q;have:=Er.1 (h3 q hq);exact ⟨this.n,this.g,hg.f q hq⟩
theorem Ac2 {r:Ay} {d:Int} (hg:Mn r) {q:Ax} (hq:q∈Ob r d):B8 q.Ae=true∧gp r.Aa.next q.Ae < 8∧I4 r.Aa q.Ae=false:=by
 obtain ⟨q',hq',h⟩:=List.mem_filterMap.1 hq;rw [An8 h];exact Yy hg hq'
theorem Aes {r:Ay} (hg:Mn r) {n:Int} (hn:n∈C5 r):B8 n=true∧gp r.Aa.next n < 8:=by
 obtain ⟨q',hq',h⟩:=List.mem_filterMap.1 hn;rw [Bft h];exact ⟨(Yy hg hq').1,(Yy hg hq').2.1⟩
theorem Ip {w:Aj} (hg:Cu w=true):0≤w.next∧w.next≤65535:=by
 exact EJ
theorem Agl {r:Ay} (hg:Mn r) (h:C5 r≠[]):gp r.Aa.next (Dh (C5 r))≤8∧B8 (Dh (C5 r))=true:=by
 unfold Dh;have hm:(C5 r).getLastD 0∈C5 r:=by
  rw [List.getLastD_eq_getLast?,List.getLast?_eq_some_getLast h];exact List.getLast_mem h
 obtain ⟨a,b⟩:=Aes hg hm;refine ⟨?_,Wo _ _⟩;obtain ⟨n0,n1⟩:=Bc.1 a;obtain ⟨w0,w1⟩:=Ip hg.w;unfold gp Cf at *;omega
theorem Afv {r:Ay} {d:Int} (hg:Mn r) (h:C5 r≠[]):Ei (Ob r d) (Jh r.Aa (Dh (C5 r)))=Aag (Ob r d) (Jh r.Aa (Dh (C5 r))).next :=
 Anh hg.w (Agl hg h).1 fun _ hq=>Ac2 hg hq
theorem Bcr {P:Program} {f:FuncId} {α:Type} {E:Bn α} {v:Value} {xs:List α} {F:List Nat} {rest:List Value} {A M:List Pc} {σ:Type} {C:σ→Prop} {w:σ→Value} {N:σ→List Pc} (h:∀a c,Fn P f (.slice a xs.length c::rest) (.sl E (.slice a xs.length c) xs F::A) M C w N):Fn P f (v::rest) (.sl E v xs F::A) M C w N:=fun w0 hH hS=>by
 obtain ⟨-,hs⟩:=hH (.sl E v xs F) FI;obtain ⟨a,c,rfl⟩:=hs.slice;exact h a c w0 hH hS
theorem Awu (d:Int):FV 424 [.int .i64 d] [] (.bool (Bap d)):=by
 refine enter func424 rfl ntmps424 fun w0=>?_;refine go ?_;refine ce (fun w s=>Id _ _ _ _) ?_;exact AA
theorem Yj (r:Ax) (base:Int) (b0:0≤base) (b1:base≤65535):FV 306 [.agg #[.int .i64 r.Ae,.int .i64 r.state,.int .i64 r.Ce,.int .i64 r.D6],.int .i64 base] [] (.bool (Np base r)):=by
 refine enter func306 rfl ntmps306 fun w0=>?_;refine go ?_;intros;refine ce (fun w s=>Jc _ _) ?_;cases g1:B8 r.Ae
 ·refine go ?_;refine ret () trivial ?_;simp [Np,g1,Us]
 obtain ⟨n0,n1⟩:=Bc.1 g1;refine go ?_;refine ce (fun w s=>P7 _ _ _ FH FH FH FH) ?_;refine go ?_;refine Dy rfl rfl (fun g2=>?_) (fun g2=>?_)
 rotate_left
 ·refine go ?_;refine ret () trivial ?_;simp [Np,g2,Us]
 refine go ?_;refine ce (fun w s=>Id _ _ _ _) ?_;cases g3:Ga 1 r.state 3
 ·refine go ?_;refine ret () trivial ?_;simp [Np,g3,Us]
 refine go ?_;refine ce (fun w s=>Id _ _ _ _) ?_;cases g4:Ga 0 r.Ce 10007
 ·refine go ?_;refine ret () trivial ?_;simp [Np,g4,Us]
 refine go ?_;refine ce (fun w s=>Id _ _ _ _) ?_;refine go ?_;refine ret () trivial ?_;simp [Np,g1,g2,g3,g4,Us]
theorem Rq (l:List Ax) (base:Int) (v:Value) (F:List Nat):FV 247 [v,.int .i64 base] [.sl Av v l F] (.bool (Ms l base)):=by
 refine Bcr (fun a c=>?_);refine enter func247 rfl ntmps247 fun w0=>?_;refine go ?_;refine ce (fun w s=>Jc _ _) ?_;cases g1:B8 base
 ·refine go ?_;refine ret () trivial ?_;simp [Ms,g1,Us]
 obtain ⟨b0,b1⟩:=Bc.1 g1;refine go ?_;refine A1 rfl (fun g2=>?_) (fun g2=>?_)
 ·refine go ?_;refine ret () trivial ?_;rw [show Ms l base=false by unfold Ms;rw [decide_eq_false FH];simp];rfl
 refine go ?_;refine Eh [0,1,4,15,16] (fun k:Nat=>[(17,.int .i64 (k:Nat))]) (fun k=>k≤l.length∧∀j,j < k→Aju l base j=true) (fun k=>l.length - k) 0 ⟨Nat.zero_le _,fun j h=>by omega⟩ fun k hk=>?_;obtain ⟨hk1,hk2⟩:=hk;refine go ?_;refine A1 rfl (fun h3=>?_) (fun h3=>?_)
 ·have hk3:k < l.length:=FH
  have bad:Aju l base k=false→Ms l base=false:=fun h=>Auk hk3 h;have hck:=Ws (base:=base) hk3;refine Jd (xs:=l) k ?_;rintro hi b o e;rw [e];have p4:0 < k→∃h:k - 1 < l.length,Azg base l[k - 1]:=fun h0=>by
   have hk4:k - 1 < l.length:=FH
   have hp:=hk2 (k - 1) FH;rw [Ws hk4] at hp;simp only [Bool.and_eq_true] at hp;exact ⟨hk4,Er.1 hp.1⟩
  refine go ?_;intros;cases g4:Np base l[k]
  ·skip
   refine As [0] [] ?_;refine Ec 0 1 ?_;refine dN 2 ?_;refine oC ?_;refine Ca (Yj l[k] base b0 b1) fun _ _=>?_;rw [g4];refine dk ?_;refine Ec 3 4 ?_;refine ds 5 ?_;refine ds 6 ?_;refine ds 7 ?_;refine dsu 8 ?_;refine dsu 9 ?_;refine dsu 10 ?_;refine dsu 11 ?_;refine dsu 12 ?_;refine dsu 13 ?_;refine dsu 14 ?_;refine dsu 15 ?_;refine dsu 16 ?_;refine dsu 17 ?_;refine dsu 18 ?_;refine dsu 19 ?_;refine dsu 20 ?_;refine ds 21 ?_;refine dt 22 ?_;refine dd ?_;exact EH
  obtain ⟨q0,q1⟩:=Bc.1 (Er.1 g4).n;by_cases hk0:0 < k
  ·obtain ⟨hk4,p5⟩:=p4 hk0;obtain ⟨p0,p1⟩:=Bc.1 p5.n;rw [←e];refine Jd (xs:=l) (k - 1) ?_;rintro hi5 b5 o5 e5;rw [e5];refine As [0,1] [] ?_;refine Ec 0 1 ?_;refine dN 2 ?_;refine oC ?_;refine Ca (Yj l[k] base b0 b1) fun _ _=>?_;rw [g4];refine dk ?_;refine Ec 3 4 ?_;refine Do 5 ?_;refine Do 6 ?_;rw [decide_eq_true (show (0:Int) < k by omega)];refine Do 7 ?_;refine Do 8 ?_;refine Do 9 ?_;refine Do 10 ?_;refine Do 11 ?_;rw [show (k:Int) - 1=((k - 1:Nat):Int) by omega];refine Do 12 ?_;refine Do 13 ?_;refine Do 14 ?_;refine Do 16 ?_;refine Do 17 ?_;refine Do 18 ?_;refine d1g 15 ?_;apply On.h
   refine oC ?_;refine ce (fun w s=>P7 _ _ _ FH FH FH FH) ?_;refine dk ?_;refine d1g 19 ?_;apply On.h;refine oC ?_;refine ce (fun w s=>P7 _ _ _ FH FH FH FH) ?_;refine dk ?_;refine Do 20 ?_;refine Do 21 ?_;refine dt 22 ?_;refine dd ?_;refine go ?_;refine A1 rfl (fun h6=>?_) (fun h6=>?_)
   ·exact AY
   ·refine go ?_;refine Cg (k+1) ⟨FH,fun j hj=>?_⟩ FH;rcases Nat.lt_or_eq_of_le (Nat.lt_succ_iff.1 hj) with h|rfl
    ·exact hk2 j h
    ·rw [hck,g4,decide_eq_false h6];simp
  ·have hz:k=0:=FH
   refine As [0] [] ?_;refine Ec 0 1 ?_;refine dN 2 ?_;refine oC ?_;refine Ca (Yj l[k] base b0 b1) fun _ _=>?_;rw [g4];refine dk ?_;refine Ec 3 4 ?_;refine Do 5 ?_;refine Do 6 ?_;rw [decide_eq_false (show ¬(0:Int) < k by omega)];refine Do 7 ?_;refine ds 8 ?_;refine ds 9 ?_;refine ds 10 ?_;refine ds 11 ?_;refine ds 12 ?_;refine ds 13 ?_;refine ds 14 ?_;refine ds 15 ?_;refine ds 16 ?_;refine ds 17 ?_;refine ds 18 ?_;refine ds 19 ?_;refine ds 20 ?_;refine Do 21 ?_;refine dt 22 ?_;refine dd ?_;refine go ?_;refine Cg (k+1) ⟨FH,fun j hj=>?_⟩ FH
   rcases Nat.lt_or_eq_of_le (Nat.lt_succ_iff.1 hj) with h|rfl
   ·exact hk2 j h
   ·rw [hck,g4,decide_eq_true hz];simp
 have hkl:k=l.length:=FH
 refine go ?_;refine ret () trivial ?_;rw [Aox g1 FH (hkl▸hk2)];rfl
theorem Aw7 (l:List Ax) (base:Int) (v:Value) (F:List Nat):FV 218 [v,.int .i64 base] [.sl Av v l F] (.bool (Ms l base)):=by
 refine Bcr (fun a c=>?_);refine enter func218 rfl ntmps218 fun w0=>?_;refine go ?_;refine ce (fun w s=>Pi _ _) ?_;cases g1:B8 base
 ·refine go ?_;refine ret () trivial ?_;simp [Ms,g1,Us]
 obtain ⟨b0,b1⟩:=Bc.1 g1;refine go ?_;refine A1 rfl (fun g2=>?_) (fun g2=>?_)
 ·refine go ?_;refine ret () trivial ?_;rw [show Ms l base=false by unfold Ms;rw [decide_eq_false FH];simp];rfl
 refine go ?_;refine Eh [0,1,4] (fun k:Nat=>[(5,.int .i64 (k:Nat))]) (fun k=>k≤l.length∧∀j,j < k→Aju l base j=true) (fun k=>l.length - k) 0 ⟨Nat.zero_le _,fun j h=>by omega⟩ fun k hk=>?_;obtain ⟨hk1,hk2⟩:=hk;refine go ?_;refine A1 rfl (fun h3=>?_) (fun h3=>?_)
 ·have hk3:k < l.length:=FH
  have bad:Aju l base k=false→Ms l base=false:=fun h=>Auk hk3 h;have hck:=Ws (base:=base) hk3;refine Jd (xs:=l) k ?_;rintro hi b o e;rw [e];have p4:0 < k→∃h:k - 1 < l.length,Azg base l[k - 1]:=fun h0=>by
   have hk4:k - 1 < l.length:=FH
   have hp:=hk2 (k - 1) FH;rw [Ws hk4] at hp;simp only [Bool.and_eq_true] at hp;exact ⟨hk4,Er.1 hp.1⟩
  refine go ?_;intros;refine ce (fun w s=>Pi _ _) ?_;cases g5:B8 l[k].Ae
  ·refine go ?_;refine ret () trivial ?_;rw [bad (by rw [hck,show Np base l[k]=false by unfold Np;simp [g5]];rfl)];rfl
  obtain ⟨q0,q1⟩:=Bc.1 g5;refine go ?_;refine ce (fun w s=>Jq _ _ _ FH FH) ?_;refine go ?_;refine Dy rfl rfl (fun g6=>?_) (fun g6=>?_)
  ·refine go ?_;refine ret () trivial ?_;rw [bad (by rw [hck,show Np base l[k]=false by unfold Np;rw [decide_eq_false FH];simp];rfl)];rfl
  refine go ?_;refine ce (fun w s=>Kk _ _ _ _) ?_;cases g7:Ga 1 l[k].state 3
  ·refine go ?_;refine ret () trivial ?_;rw [bad (by rw [hck,show Np base l[k]=false by unfold Np;simp [g7]];rfl)];rfl
  refine go ?_;refine ce (fun w s=>Kk _ _ _ _) ?_;cases g8:Ga 0 l[k].Ce 10007
  ·refine go ?_;refine ret () trivial ?_;rw [bad (by rw [hck,show Np base l[k]=false by unfold Np;simp [g8]];rfl)];rfl
  refine go ?_;refine ce (fun w s=>Kk _ _ _ _) ?_;cases g9:Ga 0 l[k].D6 3
  ·refine go ?_;refine ret () trivial ?_;rw [bad (by rw [hck,show Np base l[k]=false by unfold Np;simp [g9]];rfl)];rfl
  refine go ?_;have g4:Np base l[k]=true:=by unfold Np;rw [g5,g7,g8,g9,decide_eq_true FH];rfl
  by_cases hk0:0 < k
  ·obtain ⟨hk4,p5⟩:=p4 hk0;obtain ⟨p0,p1⟩:=Bc.1 p5.n;rw [←e];refine Jd (xs:=l) (k - 1) ?_;rintro hi5 b5 o5 e5;rw [e5];refine As [1,0] [] ?_;refine Ec 0 1 ?_;rw [decide_eq_true (show (0:Int) < k by omega)];refine dt 2 ?_;refine Do 3 ?_;refine Do 4 ?_;refine Do 5 ?_;refine Do 6 ?_;rw [show (k:Int) - 1=((k - 1:Nat):Int) by omega];refine Do 7 ?_;refine Do 8 ?_;refine Do 9 ?_;refine Do 11 ?_;refine Do 12 ?_;refine Do 13 ?_;refine d1g 10 ?_;apply On.h;refine oC ?_;refine ce (fun w s=>Jq _ _ _ FH FH) ?_;refine dk ?_;refine d1g 14 ?_;apply On.h;refine oC ?_
   refine ce (fun w s=>Jq _ _ _ FH FH) ?_;refine dk ?_;refine Do 15 ?_;refine dt 16 ?_;refine dd ?_;refine go ?_;refine A1 rfl (fun h6=>?_) (fun h6=>?_)
   ·exact AY
   ·refine go ?_;refine Cg (k+1) ⟨FH,fun j hj=>?_⟩ FH;rcases Nat.lt_or_eq_of_le (Nat.lt_succ_iff.1 hj) with h|rfl
    ·exact hk2 j h
    ·rw [hck,g4,decide_eq_false h6];simp
  ·have hz:k=0:=FH
   refine As [0] [] ?_;refine Ec 0 1 ?_;rw [decide_eq_false (show ¬(0:Int) < k by omega)];refine dt 2 ?_;refine ds 3 ?_;refine ds 4 ?_;refine ds 5 ?_;refine ds 6 ?_;refine ds 7 ?_;refine ds 8 ?_;refine ds 9 ?_;refine ds 10 ?_;refine ds 11 ?_;refine ds 12 ?_;refine ds 13 ?_;refine ds 14 ?_;refine ds 15 ?_;refine dt 16 ?_;refine dd ?_;refine go ?_;refine Cg (k+1) ⟨FH,fun j hj=>?_⟩ FH;rcases Nat.lt_or_eq_of_le (Nat.lt_succ_iff.1 hj) with h|rfl
   ·exact hk2 j h
   ·rw [hck,g4,decide_eq_true hz];simp
 have hkl:k=l.length:=FH
 refine go ?_;refine ret () trivial ?_;rw [Aox g1 FH (hkl▸hk2)];rfl
section
variable {c:Cx} {fr:Fr} {H:List Pc} {Φ:Gl}
theorem En {v:Value} {x:Ay} {F:List Nat} (h:∀(a1:Option Addr) (c1:Nat) (F1:List Nat) (a2:Option Addr) (c2:Nat) (F2:List Nat),v=.agg #[.bool x.Bd,.int .i64 x.Ai,.int .i64 x.Aa.next,.slice a1 x.Aa.Al.length c1,.slice a2 x.Am.length c2]→x.Aa.Al.length≤maxLen→x.Am.length≤maxLen→T c fr (.sl Bz (.slice a1 x.Aa.Al.length c1) x.Aa.Al F1::.sl Av (.slice a2 x.Am.length c2) x.Am F2::H) Φ) (hm:.isv Bi v x F∈H:=by exact A9):T c fr H Φ:=.mk fun a w s g=>by
 exact AQ
theorem Ep (x:Ay) {a1:Option Addr} {c1:Nat} {F1:List Nat} {a2:Option Addr} {c2:Nat} {F2:List Nat}  (h:T c fr (.isv Bi (.agg #[.bool x.Bd,.int .i64 x.Ai,.int .i64 x.Aa.next,.slice a1 x.Aa.Al.length c1,.slice a2 x.Am.length c2]) x (F1++F2)::H) Φ) (m1:.sl Bz (.slice a1 x.Aa.Al.length c1) x.Aa.Al F1∈H:=by exact A9) (m2:.sl Av (.slice a2 x.Am.length c2) x.Am F2∈H:=by exact A9):T c fr H Φ:=.mk fun a w s g=>by
 refine h.h a w (s.add (N:=[_]) (Below.refl _ _) JB ⟨FI,trivial⟩ fun q hq b hb=>?_) g;obtain rfl:=List.mem_singleton.1 hq;simp only [Pc.F,List.mem_append] at hb;rcases hb with hb|hb
 ·exact .inr ⟨rfl,_,m1,rfl,hb⟩
 ·exact .inr ⟨rfl,_,m2,rfl,hb⟩
theorem Ic {v:Value} {x:Ay} {F:List Nat} {S:List Pc} (h:∀(a1:Option Addr) (c1:Nat) (F1:List Nat) (a2:Option Addr) (c2:Nat) (F2:List Nat),v=.agg #[.bool x.Bd,.int .i64 x.Ai,.int .i64 x.Aa.next,.slice a1 x.Aa.Al.length c1,.slice a2 x.Am.length c2]→x.Aa.Al.length≤maxLen→x.Am.length≤maxLen→T c fr (.ow Bz 272 (.slice a1 x.Aa.Al.length c1) x.Aa.Al F1::.ow Av 257 (.slice a2 x.Am.length c2) x.Am F2::S) Φ) (hp:Cn H (.own Bx v x F) S:=by exact Da):T c fr H Φ:=.mk fun a w s g=>by
 obtain ⟨hn,cs,rfl,v1,v2,G1,G2,rfl,h1,h2,rfl⟩:=(s.pick hp).on (.own Bx v x F) FI;obtain ⟨a1,c1,rfl⟩:=h1.slice;have l1:=h1.len;obtain ⟨a2,c2,rfl⟩:=h2.slice;have l2:=h2.len;exact (h a1 c1 G1 a2 c2 G2 rfl  l1 l2).h a w (s.mer (M:=[.own Bx _ x _]) (N:=[.ow Bz _ _ _ G1,.ow Av _ _ _ G2]) (.cons hp .nil) (fun _ _=>⟨Qy ⟨(Ma hn),h1⟩ (Qy ⟨Ach hn,h2⟩ (Auw)),GB⟩) GZ) g
theorem Iz (x:Ay) {a1:Option Addr} {c1:Nat} {F1:List Nat} {a2:Option Addr} {c2:Nat} {F2:List Nat} {S1 S2:List Pc}  (h:T c fr (.own Bx (.agg #[.bool x.Bd,.int .i64 x.Ai,.int .i64 x.Aa.next,.slice a1 x.Aa.Al.length c1,.slice a2 x.Am.length c2]) x (F1++F2)::S2) Φ) (m1:Cn H (.ow Bz 272 (.slice a1 x.Aa.Al.length c1) x.Aa.Al F1) S1:=by exact Da) (m2:Cn S1 (.ow Av 257 (.slice a2 x.Am.length c2) x.Am F2) S2:=by exact Da)  : T c fr H Φ:=.mk fun a w s g =>
 h.h a w (s.mer (M:=[.ow Bz _ _ _ F1,.ow Av _ _ _ F2]) (N:=[.own Bx _ x (F1++F2)]) (.cons m1 (.cons m2 (.nil))) (fun hk hn=>⟨El ⟨GB,_,rfl,_,_,_,_,rfl,(Qz hk).2,(Qz (H9 hk)).2,rfl⟩,GB⟩) GZ) g
theorem Kr {a:Option Addr} {n cp:Nat} {xs:List Ay} {F:List Nat} (i:Nat) (h:∀(hi:i < xs.length) (b o:Nat) (a1:Option Addr) (c1:Nat) (F1:List Nat) (a2:Option Addr) (c2:Nat) (F2:List Nat),a=some ⟨b,o,none⟩→xs[i].Aa.Al.length≤maxLen→xs[i].Am.length≤maxLen→T c fr (.cel b (o+i * 5) [.bool xs[i].Bd,.int .i64 xs[i].Ai,.int .i64 xs[i].Aa.next,.slice a1 xs[i].Aa.Al.length c1,.slice a2 xs[i].Am.length c2]::.sl Bz (.slice a1 xs[i].Aa.Al.length c1) xs[i].Aa.Al F1::.sl Av (.slice a2 xs[i].Am.length c2) xs[i].Am F2::H) Φ) (hm:.sl Bi (.slice a n cp) xs F∈H:=by exact A9) (hi:i < xs.length:=by omega):T c fr H Φ:=.mk fun ac w s g=>by
 obtain ⟨b,o,cs,G,ha,hrep,hG,hb,hne,hr⟩:=Yz (s.get hm) i hi;obtain ⟨v1,v2,G1,G2,rfl,h1,h2,rfl⟩:=hrep;obtain ⟨a1,c1,rfl⟩:=h1.slice;have l1:=h1.len;obtain ⟨a2,c2,rfl⟩:=h2.slice;have l2:=h2.len;have t2:=s.ro (p:=.sl _ _ _ _) hm rfl rfl ⟨FK,h2⟩ HF;have t1:=t2.ro (p:=.sl _ _ _ _) (List.mem_cons_of_mem _ hm) rfl rfl ⟨FK,h1⟩ HF
 exact (h hi b o a1 c1 G1 a2 c2 G2 ha  l1 l2).h ac w (t1.ro (List.mem_cons_of_mem _ (List.mem_cons_of_mem _ hm)) rfl rfl ⟨hne,hr⟩ HC) g
end
theorem An3 {c:Cx} {fr:Fr} {H S:List Pc} {Φ:Gl} {g t:Nat} {cs:List Value} (h:T c fr (.cel g 0 cs::S) Φ) (h0:cs≠[]) (hp:Cn H (.row g t 0 [] cs []) S:=by exact Da):T c fr H Φ:=.mk fun ac w s ag=>by
 have s1:=s.pick hp;exact h.h ac w (s1.conv rfl ⟨h0,Is (s1.on (.row g t 0 [] cs []) FI)⟩ (fun b hb=>hb)) ag
theorem Avj {c:Cx} {fr:Fr} {H S:List Pc} {Φ:Gl} {g t o k:Nat} {A B L:List Value} (X cs Y:List Value) (h:T c fr (.row g t (o+k) (A++X) cs (Y++B)::S) Φ) (hL:L=X++cs++Y:=by rfl) (hk:X.length=k:=by rfl) (hp:Cn H (.row g t o A L B) S:=by exact Da):T c fr H Φ:=.mk fun ac w s ag=>by
 subst hL hk;have s1:=s.pick hp;obtain ⟨hA,hr⟩:=s1.on (.row g t o A (X++cs++Y) B) FI;exact h.h ac w (s1.conv rfl ⟨by simp [hA],by simpa [List.append_assoc] using hr⟩ (fun b hb=>hb)) ag
theorem Ajb {c:Cx} {fr:Fr} {H S:List Pc} {Φ:Gl} {g t o k:Nat} {A B L:List Value} (X cs Y:List Value) (h:T c fr (.row g t o A L B::S) Φ) (hL:L=X++cs++Y:=by rfl) (hk:X.length=k:=by rfl) (hp:Cn H (.row g t (o+k) (A++X) cs (Y++B)) S:=by exact Da):T c fr H Φ:=.mk fun ac w s ag=>by
 subst hL hk;have s1:=s.pick hp;obtain ⟨hA,hr⟩:=s1.on (.row g t (o+X.length) (A++X) cs (Y++B)) FI;exact h.h ac w (s1.conv rfl ⟨JW,by simpa [List.append_assoc] using hr⟩ (fun b hb=>hb)) ag
theorem Ads {p:Pc}:∀(A:List Pc),Lv (p::A) A
 | []=>.nil
 | _::r=>.cons (.there .here) (Ads r)
theorem Aol (fid:FuncId) (bd caps:List Value) (A:List Pc) (hA:A.all (fun p=>!p.mu)=true) (xs:List Ax) (a:Option Addr) (c:Nat) (F:List Nat) (p:Ax→Bool) (hb:Sb prog fid=true) (hl:xs.length≤1000000000)
  (hp:∀x∈xs,∀w,Od A w→Calls prog fid (bd++[(.agg #[.int .i64 (x).Ae,.int .i64 (x).state,.int .i64 (x).Ce,.int .i64 (x).D6]:Value)]++caps).toArray w (RB (.bool (p x)) w)) :
  Fn prog 307 [.slice a xs.length c,.func (.func fid) bd.toArray caps.toArray] (.sl Av (.slice a xs.length c) xs F::A) [] (fun (_:Unit)=>True) (fun _=>.int .i64 (Ss p xs)) (fun _=>[]):=by
 refine enter func307 rfl ntmps307 (fun w0=>?_) rfl GP .nil;refine go ?_;refine Eh [0,1,4,7] (fun k:Nat=>[(8,.int .i64 (k:Nat))]) (fun k=>k≤xs.length∧∀j (_:j < k) (hj:j < xs.length),p xs[j]=false) (fun k=>xs.length - k) 0 ⟨Nat.zero_le _,fun j h=>by omega⟩ fun k hk=>?_;obtain ⟨hk1,hk2⟩:=hk;refine go ?_;refine A1 rfl (fun h5=>?_) (fun h5=>?_)
 ·have hh:k < xs.length:=FH
  refine go ?_;refine Jd (xs:=xs) k ?_;rintro hi b o e;rw [e];refine go ?_;apply wO;refine Acj rfl rfl hb X0 ?_;refine cb (fun w st=>hp xs[k] (List.getElem_mem hh) w (fun q hq=>st.on q GQ)) ?_;cases hpk:p xs[k]
  ·refine go ?_;refine Xg ?_;refine Cg (hH:=Lt _) (k+1) ⟨hh,fun j hj h=>?_⟩ FH;rcases Nat.lt_or_eq_of_le (Nat.lt_succ_iff.1 hj) with h2|rfl
   ·exact hk2 j h2 h
   ·exact hpk
  ·refine go ?_;refine ret () trivial ?_;rw [Ph hh hk2 hpk];rfl
 ·obtain rfl:k=xs.length:=FH
  exact BP
structure Ay8 where
 i:Nat
 j:Nat
 zs:List Ax
theorem Aoj (fid:FuncId) (bd caps:List Value) (A:List Pc) (hA:A.all (fun p=>!p.mu)=true) (xs:List Ax) (a:Option Addr) (c:Nat) (F:List Nat) (p:Ax→Bool) (hb:Sb prog fid=true) (hl:xs.length≤1000000000)
  (hp:∀x∈xs,∀w,Od A w→Calls prog fid (bd++[(.agg #[.int .i64 (x).Ae,.int .i64 (x).state,.int .i64 (x).Ce,.int .i64 (x).D6]:Value)]++caps).toArray w (RB (.bool (p x)) w)) :
  Fn prog 366 [.slice a xs.length c,.func (.func fid) bd.toArray caps.toArray] A [.ow Av 257 (.slice a xs.length c) xs F] (fun (_:Option Addr × Nat × List Nat)=>True)
   (fun z=>.slice z.1 (xs.filter fun x=>!p x).length z.2.1) (fun z=>[.ow Av 257 (.slice z.1 (xs.filter fun x=>!p x).length z.2.1) (xs.filter fun x=>!p x) z.2.2]):=by
 refine enter func366 rfl ntmps366 (fun w0=>?_) rfl GP (.cons .nil);refine go ?_;refine cb (fun w st=>by
  obtain ⟨Fw, -,hw⟩:=(st.get (p:=.ow Av 257 (.slice a xs.length c) xs F) FI).2.read;refine (Aol fid bd caps A hA xs a c Fw p hb hl hp).val w ?_ GP;intro q hq;rcases List.mem_cons.1 hq with rfl|hq
  ·exact ⟨FK,hw⟩
  ·exact st.on q GQ) ?_
 by_cases hany:xs.any p=true
 ·obtain ⟨i0,hi0,hfx,hpi,hfl⟩:=Zf hany;rw [hfx];refine An2 (xs:=xs) Dl (by rintro rfl;simp at hi0) ?_;rintro g rfl rfl - hc1 hc2;refine go ?_;refine Cd [0,1,4] (fun s:Ay8=>[(5,.int .i64 (s.i:Nat)),(6,.int .i64 (s.j:Nat))]) (fun s=>[.ow Av 257 (.slice (some ⟨g,0,none⟩) xs.length c) s.zs [g]]) (fun s=>s.zs.length=xs.length∧s.j≤xs.length∧s.i < s.j∧s.zs.take s.i=(xs.take s.j).filter (fun x=>!p x)∧s.zs.drop s.j=xs.drop s.j) (fun s=>xs.length - s.j) ⟨i0,i0+1,xs⟩ ⟨rfl,hi0,Nat.lt_succ_self _,by rw [C6 hi0 (by simp [hpi]),hfl],rfl⟩ fun s hs=>?_;obtain ⟨i,j,zs⟩:=s;obtain ⟨h1,h2,h3,h4,h5⟩:=hs
  dsimp only at h1 h2 h3 h4 h5 ⊢;refine go ?_;refine A1 rfl (fun h6=>?_) (fun h6=>?_)
  ·have hj:j < xs.length:=FH
   have hjz:j < zs.length:=FH
   have hx:zs[j]=xs[j]:=by
    exact EU
   have hdz:zs.drop (j+1)=xs.drop (j+1):=by
    rw [←List.drop_drop,h5,List.drop_drop]
   refine go ?_;refine Pv (m:=4) Dl j ?_ FM rfl hjz;rintro _ g2 A2 cs2 B2 e1 e2 hc3 hh;cases e1;obtain ⟨rfl, -⟩:=hc3 w0;refine go ?_;intros;refine O5 zs[j] hh hc3 ?_;rw [List.set_getElem_self,hx];apply wO;refine Acj rfl rfl hb X0 ?_;refine cb (fun w st=>hp xs[j] (List.getElem_mem hj) w (fun q hq=>st.on q GQ)) ?_;cases hpj:p xs[j]
   ·refine go ?_;refine Pv (m:=4) Dl i ?_ FM rfl FH;rintro _ g3 A3 cs3 B3 e1 e2 hc4 hh3;cases e1;obtain ⟨rfl, -⟩:=hc4 w0;refine go ?_;refine O5 xs[j] hh3 (fun w=>⟨rfl,rfl⟩) ?_;refine Cg (hH:=.cons .here (Ads _)) (⟨i+1,j+1,zs.set i xs[j]⟩:Ay8) ⟨by simp [h1],hj,Nat.succ_lt_succ h3,?_,?_⟩ JF
    ·exact EG
    ·dsimp only;rw [List.drop_set_of_lt FH,hdz]
   ·refine go ?_;refine Cg (hH:=.cons .here (Ads _)) (⟨i,j+1,zs⟩:Ay8) ⟨h1,hj,Nat.lt_succ_of_lt h3,?_,hdz⟩ JF;dsimp only;rw [C6 hj (by simp [hpj]),h4]
  ·obtain rfl:j=xs.length:=FH
   have h4':zs.take i=xs.filter fun x=>!p x:=by rw [h4,List.take_length]
   have hil:(xs.filter fun x=>!p x).length=i:=by rw [←h4',List.length_take];omega
   refine go ?_;apply wO;apply oc;rfl;exact Lh (i:=i) rfl rfl rfl FH FH FH;refine go ?_;apply wO;refine Au4 (z0:=⟨0,0,0,0⟩) (n:=xs.length) (cp:=c) (i:=i) (g:=g) Dl (fun w=>⟨rfl,rfl⟩) FK rfl rfl h3 h1.symm FM ?_;refine go ?_;refine An6 (xs:=zs.take i++List.replicate (xs.length - i) ⟨0,0,0,0⟩) i (fun F2=>?_) HX;rw [List.take_left' FY,h4'];apply wO;apply oc;rfl;exact Pz (i:=i) rfl rfl rfl FH FH
   refine go ?_;subst hil;refine ret (_,c,F2) trivial rfl
 ·obtain ⟨hfx,hfl⟩:=Ab4 hany;rw [hfx,hfl];refine go ?_;refine ret (a,c,F) trivial rfl
theorem Ay5 (fid:FuncId) (bd caps:List Value) (A:List Pc) (hA:A.all (fun p=>!p.mu)=true) (xs:List Ax) (a:Option Addr) (c:Nat) (F:List Nat) (p:Ax→Bool) (hb:Sb prog fid=true) (hl:xs.length≤1000000000)
  (hp:∀x∈xs,∀w,Od A w→Calls prog fid (bd++[(.agg #[.int .i64 (x).Ae,.int .i64 (x).state,.int .i64 (x).Ce,.int .i64 (x).D6]:Value)]++caps).toArray w (RB (.bool (p x)) w)) :
  Fn prog 248 [.slice a xs.length c,.func (.func fid) bd.toArray caps.toArray] (.sl Av (.slice a xs.length c) xs F::A) [] (fun (_:Unit)=>True) (fun _=>.bool (xs.any p)) (fun _=>[]):=by
 refine enter func248 rfl ntmps248 (fun w0=>?_) rfl GP .nil;refine go ?_;refine cb (fun w st=>(Aol fid bd caps A hA xs a c F p hb hl hp).val w (fun q hq=>st.on q (by simpa using hq)) GP) ?_;refine go ?_;refine ret () trivial ?_;rw [T9];rfl
theorem Bff (x:Aj) (r:Ax) (g:Nat) (b:Bool) (ck:Int) (q:Value) (a1:Option Addr) (c1:Nat) (F:List Nat) (h0:0≤x.next) (h1:x.next≤65535) (n0:0≤r.Ae) (n1:r.Ae≤65535):FV 249 [.agg #[.int .i64 r.Ae,.int .i64 r.state,.int .i64 r.Ce,.int .i64 r.D6],Il g 0 0] [.cel g 0 [.bool b,.int .i64 ck,.int .i64 x.next,.slice a1 x.Al.length c1,q],.isv Bg (.agg #[.int .i64 x.next,.slice a1 x.Al.length c1]) x F] (.bool (I4 x r.Ae)):=by
 refine enter func249 rfl ntmps249 fun w0=>?_;refine go ?_;intros;refine Ca (Abs x r.Ae _ F h0 h1 n0 n1) fun _ _=>?_;exact AA
theorem Uu (x:Ay) (v:Value) (F:List Nat):FV 178 [v] [.isv Bi v x F] (.bool (Bv x)):=by
 refine enter func178 rfl ntmps178 fun w0=>?_;refine En ?_;rintro a1 c1 F1 a2 c2 F2 rfl l1 l2;unfold maxLen at l1 l2;refine By x.Aa ?_;generalize F1=F3;refine go ?_;intros;refine ce (fun w s=>Tv _ _) ?_;cases g1:Ky x.Ai
 ·refine go ?_;refine ret () trivial ?_;simp [Bv,g1,Us]
 refine go ?_;cases hs:x.Bd
 ·have nog:Pu x=false→Bv x=false:=fun h=>by unfold Bv;rw [g1,hs];simpa using h
  refine go ?_;refine Dy rfl rfl (fun h1=>?_) (fun h1=>?_)
  rotate_left
  ·refine go ?_;refine ret () trivial ?_;rw [nog (by unfold Pu;rw [decide_eq_false h1];rfl)];rfl
  refine go ?_;refine Dy rfl rfl (fun h2=>?_) (fun h2=>?_)
  rotate_left
  ·exact EQ
  exact CT
 rename_i g;refine An3 (cs:=[.bool true,.int .i64 x.Ai,.int .i64 x.Aa.next,.slice a1 x.Aa.Al.length c1,.slice a2 x.Am.length c2]) ?_ FI;refine go ?_;refine Ca (Azh x.Aa _ F3) fun _ _=>?_;cases g2:Cu x.Aa
 ·refine go ?_;refine ret () trivial ?_;simp [Bv,g1,g2,hs,Us]
 obtain ⟨w0_,w1_⟩:=Ip g2;refine go ?_;refine Ca (Rq x.Am x.Aa.next _ F2) fun _ _=>?_;cases g3:Ms x.Am x.Aa.next
 ·refine go ?_;refine ret () trivial ?_;simp [Bv,g1,g2,g3,hs,Us]
 obtain ⟨-,q1,q2, -⟩:=De.1 g3;refine go ?_;refine cb (fun w st=>(Ay5 249 [] [Il g 0 0] [.cel g 0 [.bool true,.int .i64 x.Ai,.int .i64 x.Aa.next,.slice a1 x.Aa.Al.length c1,.slice a2 x.Am.length c2],.isv Bg (.agg #[.int .i64 x.Aa.next,.slice a1 x.Aa.Al.length c1]) x.Aa F3] rfl x.Am a2 c2 F2 (fun z=>I4 x.Aa z.Ae) FJ FH (fun z hz w hA=>by
  obtain ⟨n0,n1⟩:=Bc.1 (Er.1 (q2 z hz)).n;exact (Bff x.Aa z g true x.Ai _ a1 c1 F3 w0_ w1_ n0 n1).val w hA)).val w (fun q hq=>by
   simp only [List.mem_cons,List.not_mem_nil,or_false] at hq;rcases hq with rfl|rfl|rfl <;> exact st.get FL)) ?_
 refine go ?_;refine ret () trivial ?_;rw [show Bv x = !(x.Am.any fun z=>I4 x.Aa z.Ae) by unfold Bv Ak9;rw [g1,g2,g3,hs,List.not_any_eq_all_not];simp];rfl
theorem Bah {x:Ay} {k:Nat} (h:k < x.Am.length) (hh:I4 x.Aa x.Am[k].Ae=true):Ak9 x=false:=List.all_eq_false.2 ⟨_,List.getElem_mem h,by simp [hh]⟩
theorem Bal {w:Aj} {n:Int} (hw:Cu w=true) (hn:B8 n=true) (h8:gp w.next n < 8):(Up n w.next || I4 w n)=I4 w n:=by
 obtain ⟨w0,w1⟩:=Ip hw;obtain ⟨n0,n1⟩:=Bc.1 hn;have:Up n w.next=false:=by
  have:¬(1≤gp n w.next∧gp n w.next≤32767):=by unfold gp at *;omega
  unfold Up Ga;exact EM
 rw [this];rfl
theorem Alh (x:Ay) (v:Value) (F:List Nat):FV 137 [v] [.isv Bi v x F] (.bool (Bv x)):=by
 refine enter func137 rfl ntmps137 fun w0=>?_;refine En ?_;rintro a1 c1 F1 a2 c2 F2 rfl l1 l2;unfold maxLen at l1 l2;refine By x.Aa ?_;generalize F1=F3;refine go ?_;intros;refine ce (fun w s=>Aa8 _ _) ?_;cases g1:Ky x.Ai
 ·refine go ?_;refine ret () trivial ?_;simp [Bv,g1,Us]
 refine go ?_;refine Ca (Awz x.Aa _ F3) fun _ _=>?_;cases g2:Cu x.Aa
 ·refine go ?_;refine ret () trivial ?_;cases hg:Bv x
  ·rfl
  ·rw [(Ek.1 hg).w] at g2;cases g2
 obtain ⟨w0_,w1_⟩:=Ip g2;refine go ?_;refine Ca (Aw7 x.Am x.Aa.next _ F2) fun _ _=>?_;cases g3:Ms x.Am x.Aa.next
 ·refine go ?_;refine ret () trivial ?_;cases hg:Bv x
  ·rfl
  ·rw [(Ek.1 hg).q] at g3;cases g3
 obtain ⟨-,q1,q2, -⟩:=De.1 g3;refine go ?_;cases hs:x.Bd
 ·have nog:Pu x=false→Bv x=false:=fun h=>by unfold Bv;rw [g1,hs];simpa using h
  refine go ?_;refine Dy rfl rfl (fun h1=>?_) (fun h1=>?_)
  rotate_left
  ·refine go ?_;refine ret () trivial ?_;rw [nog (by unfold Pu;rw [decide_eq_false h1];rfl)];rfl
  refine go ?_;refine Dy rfl rfl (fun h2=>?_) (fun h2=>?_)
  rotate_left
  ·exact EQ
  exact CT
 refine go ?_;refine Eh [1,2] (fun k:Nat=>[(3,.int .i64 (k:Nat))]) (fun k=>k≤x.Am.length∧∀j (_:j < k) (h:j < x.Am.length),I4 x.Aa x.Am[j].Ae=false) (fun k=>x.Am.length - k) 0 ⟨Nat.zero_le _,fun j h=>by omega⟩ fun k hk=>?_;obtain ⟨hk1,hk2⟩:=hk;refine go ?_;refine A1 rfl (fun h3=>?_) (fun h3=>?_)
 ·have hk3:k < x.Am.length:=FH
  have hq:=Er.1 (q2 _ (List.getElem_mem hk3));obtain ⟨n0,n1⟩:=Bc.1 hq.n;refine Jd (xs:=x.Am) k ?_;rintro hi b o e;rw [e];refine go ?_;refine As [0,1] [] ?_;refine Dq 0 1 2 3 ?_;refine Dq 4 5 6 7 ?_;refine dN 8 ?_;refine oC ?_;refine Ca (Adw x.Aa x.Am[k].Ae _ F3 w0_ w1_ n0 n1) fun _ _=>?_;refine dk ?_;refine dd ?_;rw [show Hj x.Aa x.Am[k].Ae=I4 x.Aa x.Am[k].Ae from Bal g2 hq.n hq.g];cases g5:I4 x.Aa x.Am[k].Ae
  ·refine go ?_;refine Cg (k+1) ⟨FH,fun j hj h=>?_⟩ FH;rcases Nat.lt_or_eq_of_le (Nat.lt_succ_iff.1 hj) with h'|rfl
   ·exact hk2 j h' h
   ·exact g5
  ·refine go ?_;refine ret () trivial ?_;rw [show Bv x=false by unfold Bv;rw [g1,g2,g3,hs,Bah hk3 g5];rfl];rfl
 have hkl:k=x.Am.length:=FH
 refine go ?_;refine ret () trivial ?_;rw [show Bv x=true by
  unfold Bv Ak9;rw [g1,g2,g3,hs,List.all_eq_true.2 fun z hz=>?_];rfl;obtain ⟨i,hi,rfl⟩:=List.getElem_of_mem hz;rw [hk2 i FH hi];rfl];rfl
theorem Iv {α β:Type} {f:α→Option β} {l:List α} {k:Nat} (h:k < l.length):(l.take (k+1)).filterMap f=(l.take k).filterMap f++(f l[k]).toList:=by
 rw [List.take_add_one,List.getElem?_eq_getElem h,List.filterMap_append];cases hf:f l[k] <;> simp [hf]
theorem Ado {α β:Type} (f:α→Option β) (l:List α) (k:Nat):((l.take k).filterMap f).length≤k:=by
 have:=List.length_filterMap_le f (l.take k);rw [List.length_take] at this;omega
structure TkS where
 k:Nat
 a:Option Addr
 c:Nat
 F:List Nat
 a2:Option Addr
 c2:Nat
 F2:List Nat
 a3:Option Addr
 c3:Nat
 F3:List Nat
theorem Ajf (l:List Ax) (c d:Int) (a0:Option Addr) (c0:Nat) (F:List Nat) (hl:l.length≤1000000) (ht:∀r∈l,0≤r.D6∧r.D6≤3) (c0_:0≤c) (c1_:c≤1000000) (d0_:-1000000≤d) (d1_:d≤1000000) :
  Fn prog 325 [.slice a0 l.length c0,.int .i64 c,.int .i64 d] [.sl Av (.slice a0 l.length c0) l F] [] (fun (_:TkS)=>True) (fun s=>.tuple #[.slice s.a (l.filterMap (U3 c d)).length s.c,.slice s.a2 (l.filterMap (Q4 c)).length s.c2,.slice s.a3 (l.filterMap (Vd c)).length s.c3]) (fun s=>[.ow Av 257 (.slice s.a (l.filterMap (U3 c d)).length s.c) (l.filterMap (U3 c d)) s.F,.ow Bb 3 (.slice s.a2 (l.filterMap (Q4 c)).length s.c2) (l.filterMap (Q4 c)) s.F2,.ow Bb 3 (.slice s.a3 (l.filterMap (Vd c)).length s.c3) (l.filterMap (Vd c)) s.F3]):=by
 refine enter func325 rfl ntmps325 fun w0=>?_;refine go ?_;refine Db Av 257 ?_;refine Db Bb 3 ?_;refine Db Bb 3 ?_
 refine Cd [1,2,6,7,8,14,15] (fun s:TkS=>[(16,.int .i64 (s.k:Nat)),(9,.slice s.a ((l.take s.k).filterMap (U3 c d)).length s.c),(10,.slice s.a2 ((l.take s.k).filterMap (Q4 c)).length s.c2),(11,.slice s.a3 ((l.take s.k).filterMap (Vd c)).length s.c3)]) (fun s=>[.ow Av 257 (.slice s.a ((l.take s.k).filterMap (U3 c d)).length s.c) ((l.take s.k).filterMap (U3 c d)) s.F,.ow Bb 3 (.slice s.a2 ((l.take s.k).filterMap (Q4 c)).length s.c2) ((l.take s.k).filterMap (Q4 c)) s.F2,.ow Bb 3 (.slice s.a3 ((l.take s.k).filterMap (Vd c)).length s.c3) ((l.take s.k).filterMap (Vd c)) s.F3]) (fun s=>s.k≤l.length) (fun s=>l.length - s.k) ⟨0,_,_,_,_,_,_,_,_,_⟩ (Nat.zero_le _) fun s hs=>?_
 obtain ⟨k,a4,c4,F4,a5,c5,F5,a6,c6,F6⟩:=s;dsimp only at hs ⊢;have h1:=Ado (U3 c d) l k;have h2:=Ado (Q4 c) l k;have h3:=Ado (Vd c) l k;refine go ?_;refine A1 rfl (fun h4=>?_) (fun h4=>?_)
 ·have hk:k < l.length:=FH
  obtain ⟨t0,t1⟩:=ht _ (List.getElem_mem hk);refine Jd (xs:=l) k ?_;rintro hi b o e;rw [e];refine go ?_;intros;refine A1 rfl (fun h5=>?_) (fun h5=>?_)
  ·have h5':c < l[k].Ce:=FH
   refine go ?_;intros;have eo:((l.take (k+1)).filterMap (U3 c d))=((l.take k).filterMap (U3 c d))++[l[k]]:=by rw [Iv hk];simp [U3,h5']
   have es:((l.take (k+1)).filterMap (Q4 c))=((l.take k).filterMap (Q4 c)):=by rw [Iv hk];simp [Q4,h5']
   have el:((l.take (k+1)).filterMap (Vd c))=((l.take k).filterMap (Vd c)):=by rw [Iv hk];simp [Vd,h5']
   apply wO;refine Ps (ys:=[l[k]]) (Of l[k]) C0 fun a7 c7 F7=>?_;exact AD
  refine go ?_;refine A1 rfl (fun h6=>?_) (fun h6=>?_)
  ·refine go ?_;intros;have eo:((l.take (k+1)).filterMap (U3 c d))=((l.take k).filterMap (U3 c d)):=by rw [Iv hk];simp [U3,h5,h6]
   have es:((l.take (k+1)).filterMap (Q4 c))=((l.take k).filterMap (Q4 c)):=by rw [Iv hk];simp [Q4,h5,h6]
   have el:((l.take (k+1)).filterMap (Vd c))=((l.take k).filterMap (Vd c))++[l[k].Ae]:=by rw [Iv hk];simp [Vd,h5,h6]
   apply wO;refine Ps (ys:=[l[k].Ae]) (Tl _) C8 fun a8 c8 F8=>?_;exact AD
  refine go ?_;refine A1 rfl (fun h7=>?_) (fun h7=>?_)
  ·refine go ?_;intros;have eo:((l.take (k+1)).filterMap (U3 c d))=((l.take k).filterMap (U3 c d))++[(⟨l[k].Ae,2,c+3,l[k].D6+1⟩:Ax)]:=JL
   have es:((l.take (k+1)).filterMap (Q4 c))=((l.take k).filterMap (Q4 c))++[l[k].Ae]:=JM
   have el:((l.take (k+1)).filterMap (Vd c))=((l.take k).filterMap (Vd c)):=JK
   exact CI
  ·refine go ?_;intros;have eo:((l.take (k+1)).filterMap (U3 c d))=((l.take k).filterMap (U3 c d))++[(⟨l[k].Ae,1,c+d,l[k].D6⟩:Ax)]:=JL
   have es:((l.take (k+1)).filterMap (Q4 c))=((l.take k).filterMap (Q4 c)):=JM
   have el:((l.take (k+1)).filterMap (Vd c))=((l.take k).filterMap (Vd c)):=JK
   exact ES
 ·obtain rfl:k=l.length:=FH
  rw [List.take_length];refine go ?_;refine ret ⟨0,_,_,_,_,_,_,_,_,_⟩ trivial rfl
theorem Aw8 (l:List Ax) (c d:Int) (a0:Option Addr) (c0:Nat) (F:List Nat) (hl:l.length≤1000000) (ht:∀r∈l,0≤r.D6∧r.D6≤3) (c0_:0≤c) (c1_:c≤1000000) (d0_:-1000000≤d) (d1_:d≤1000000) :
  Fn prog 343 [.slice a0 l.length c0,.int .i64 c,.int .i64 d] [.sl Av (.slice a0 l.length c0) l F] [] (fun (_:TkS)=>True) (fun s=>.tuple #[.slice s.a (l.filterMap (U3 c d)).length s.c,.slice s.a2 (l.filterMap (Q4 c)).length s.c2,.slice s.a3 (l.filterMap (Vd c)).length s.c3]) (fun s=>[.ow Av 257 (.slice s.a (l.filterMap (U3 c d)).length s.c) (l.filterMap (U3 c d)) s.F,.ow Bb 3 (.slice s.a2 (l.filterMap (Q4 c)).length s.c2) (l.filterMap (Q4 c)) s.F2,.ow Bb 3 (.slice s.a3 (l.filterMap (Vd c)).length s.c3) (l.filterMap (Vd c)) s.F3]):=by
 refine enter func343 rfl ntmps343 fun w0=>?_;refine go ?_;intros;refine C7 Bb ?_;refine C7 Bb ?_;refine C7 Av ?_
 refine Cd [0,1,2,6,7,8] (fun s:TkS=>[(12,.int .i64 (s.k:Nat)),(9,.slice s.a ((l.take s.k).filterMap (U3 c d)).length s.c),(10,.slice s.a2 ((l.take s.k).filterMap (Q4 c)).length s.c2),(11,.slice s.a3 ((l.take s.k).filterMap (Vd c)).length s.c3)]) (fun s=>[.ow Av 257 (.slice s.a ((l.take s.k).filterMap (U3 c d)).length s.c) ((l.take s.k).filterMap (U3 c d)) s.F,.ow Bb 3 (.slice s.a2 ((l.take s.k).filterMap (Q4 c)).length s.c2) ((l.take s.k).filterMap (Q4 c)) s.F2,.ow Bb 3 (.slice s.a3 ((l.take s.k).filterMap (Vd c)).length s.c3) ((l.take s.k).filterMap (Vd c)) s.F3]) (fun s=>s.k≤l.length) (fun s=>l.length - s.k) ⟨0,_,_,_,_,_,_,_,_,_⟩ (Nat.zero_le _) fun s hs=>?_
 obtain ⟨k,a4,c4,F4,a5,c5,F5,a6,c6,F6⟩:=s;dsimp only at hs ⊢;have h1:=Ado (U3 c d) l k;have h2:=Ado (Q4 c) l k;have h3:=Ado (Vd c) l k;refine go ?_;refine A1 rfl (fun h4=>?_) (fun h4=>?_)
 ·have hk:k < l.length:=FH
  obtain ⟨t0,t1⟩:=ht _ (List.getElem_mem hk);refine Jd (xs:=l) k ?_;rintro hi b o e;rw [e];refine go ?_;intros;refine A1 rfl (fun h5=>?_) (fun h5=>?_)
  ·have h5':c < l[k].Ce:=FH
   refine go ?_;intros;have eo:((l.take (k+1)).filterMap (U3 c d))=((l.take k).filterMap (U3 c d))++[l[k]]:=by rw [Iv hk];simp [U3,h5']
   have es:((l.take (k+1)).filterMap (Q4 c))=((l.take k).filterMap (Q4 c)):=by rw [Iv hk];simp [Q4,h5']
   have el:((l.take (k+1)).filterMap (Vd c))=((l.take k).filterMap (Vd c)):=by rw [Iv hk];simp [Vd,h5']
   apply wO;refine Ps (ys:=[l[k]]) (Of l[k]) C0 fun a7 c7 F7=>?_;exact AD
  refine go ?_;refine A1 rfl (fun h6=>?_) (fun h6=>?_)
  ·refine go ?_;intros;have eo:((l.take (k+1)).filterMap (U3 c d))=((l.take k).filterMap (U3 c d)):=by rw [Iv hk];simp [U3,h5,h6]
   have es:((l.take (k+1)).filterMap (Q4 c))=((l.take k).filterMap (Q4 c)):=by rw [Iv hk];simp [Q4,h5,h6]
   have el:((l.take (k+1)).filterMap (Vd c))=((l.take k).filterMap (Vd c))++[l[k].Ae]:=by rw [Iv hk];simp [Vd,h5,h6]
   apply wO;refine Ps (ys:=[l[k].Ae]) (Tl _) C8 fun a8 c8 F8=>?_;exact AD
  refine go ?_;refine A1 rfl (fun h7=>?_) (fun h7=>?_)
  ·refine go ?_;intros;have eo:((l.take (k+1)).filterMap (U3 c d))=((l.take k).filterMap (U3 c d))++[(⟨l[k].Ae,2,c+3,l[k].D6+1⟩:Ax)]:=JL
   have es:((l.take (k+1)).filterMap (Q4 c))=((l.take k).filterMap (Q4 c))++[l[k].Ae]:=JM
   have el:((l.take (k+1)).filterMap (Vd c))=((l.take k).filterMap (Vd c)):=JK
   exact CI
  ·refine go ?_;intros;have eo:((l.take (k+1)).filterMap (U3 c d))=((l.take k).filterMap (U3 c d))++[(⟨l[k].Ae,1,c+d,l[k].D6⟩:Ax)]:=JL
   have es:((l.take (k+1)).filterMap (Q4 c))=((l.take k).filterMap (Q4 c)):=JM
   have el:((l.take (k+1)).filterMap (Vd c))=((l.take k).filterMap (Vd c)):=JK
   exact ES
 ·obtain rfl:k=l.length:=FH
  rw [List.take_length];refine go ?_;refine ret ⟨0,_,_,_,_,_,_,_,_,_⟩ trivial rfl
theorem Azk (x:Ay) (v:Value) (F:List Nat) (hl:x.Aa.Al.length≤1000000000) (hl2:x.Am.length≤1000000000):Fn prog 98 [v] [.isv Bi v x F] [] (fun (_:Value × List Nat)=>True) (fun s=>s.1) (fun s=>[.own Bx s.1 x s.2]):=by
 refine enter func98 rfl ntmps98 fun w0=>?_;refine En ?_;rintro a1 c1 F1 a2 c2 F2 rfl l1 l2;refine By x.Aa ?_;generalize F1=F3;refine go ?_;intros;refine Ca (Avu x.Aa _ F3 FH) fun z _=>?_;refine go ?_;refine Ca (Ut x.Am a2 c2 F2 hl2) fun q _=>?_;refine go ?_;refine Iz x ?_;exact AX
theorem Bjp (r:Ax) (n:Int) (gb:Nat) (h0:B8 r.Ae=true) (h1:0≤n) (h2:n≤65535):FV 367 [.agg #[.int .i64 r.Ae,.int .i64 r.state,.int .i64 r.Ce,.int .i64 r.D6],Il gb 0 0] [.cel gb 0 [.int .i64 n]] (.bool (Up r.Ae n)):=by
 obtain ⟨n0,n1⟩:=Bc.1 h0;refine enter func367 rfl ntmps367 fun w0=>?_;refine go ?_;intros;refine ce (fun w s=>Oh _ _ _ FH FH FH FH) ?_;exact AA
theorem Age (l:List Ax) (n:Int) (a:Option Addr) (c:Nat) (F:List Nat) (hl:l.length≤1000000000) (hs:∀q∈l,B8 q.Ae=true) (h1:0≤n) (h2:n≤65535):Fn prog 327 [.slice a l.length c,.int .i64 n] [.sl Av (.slice a l.length c) l F] [] (fun (_:Option Addr × Nat × List Nat)=>True) (fun z=>.slice z.1 (Aag l n).length z.2.1) (fun z=>[.ow Av 257 (.slice z.1 (Aag l n).length z.2.1) (Aag l n) z.2.2]):=by
 refine enter func327 rfl ntmps327 fun w0=>?_;refine go ?_;intros;rename_i gb;refine Ca (Ut l a c F hl) fun q _=>?_;refine An3 (cs:=[.int .i64 n]) ?_ FI;refine go ?_;refine Ca (Aoj 367 [] [Il gb 0 0] [.cel gb 0 [.int .i64 n]] rfl l q.1 q.2.1 q.2.2 (fun z=>Up z.Ae n) FJ hl (fun z hz w hA=>(Bjp z n gb (hs z hz) h1 h2).val w hA)) fun z _=>?_;refine go ?_;refine ret (z.1,z.2.1,z.2.2) trivial rfl
theorem Aet (r:Ay) (d:Int):(Ob r d).length≤r.Am.length:=List.length_filterMap_le _ _
theorem Ajg (r:Ay):(C5 r).length≤r.Am.length:=List.length_filterMap_le _ _
theorem Aje {r:Ay} {d:Int} (h:C5 r=[]):Cv r d=⟨r.Bd,r.Ai+1,r.Aa,Ob r d⟩:=if_pos h
theorem Aer {r:Ay} {d:Int} (h:C5 r≠[]):Cv r d=⟨r.Bd,r.Ai+1,Jh r.Aa (Dh (C5 r)),Aag (Ob r d) (Jh r.Aa (Dh (C5 r))).next⟩:=if_neg h
theorem Arg {r:Ay} (h:C5 r=[]):Hw r=[]:=if_pos h
theorem Amf {r:Ay} (h:C5 r≠[]):Hw r=Jg r.Aa (Dh (C5 r)):=if_neg h
theorem Alr {l:List Int} (h:l≠[]):Dh l=Cf (l[l.length - 1]'(by have:=List.length_pos_iff.2 h;omega)) 1:=by
 unfold Dh;rw [List.getLastD_eq_getLast?,List.getLast?_eq_getElem?,List.getElem?_eq_getElem (by have:=List.length_pos_iff.2 h;omega)];rfl
theorem Kx {x:Aj} (hg:Cu x=true):x.Al.length≤8∧∀s∈x.Al,s.Dg.size≤8:=by
 have hg0:=hg;unfold Cu at hg;simp only [Bool.and_eq_true,decide_eq_true_eq] at hg;refine ⟨by have:=hg.1.1.2;omega,fun s hs=>?_⟩;have:=List.all_eq_true.1 hg.1.2 s hs;unfold Hn at this;simp only [Bool.and_eq_true] at this;exact Vv this.1
structure PkS where
 k:Nat
 a:Option Addr
 c:Nat
 F:List Nat
structure TkR where
 a1:Option Addr
 c1:Nat
 F1:List Nat
 a2:Option Addr
 c2:Nat
 F2:List Nat
 a3:Option Addr
 c3:Nat
 F3:List Nat
 a4:Option Addr
 c4:Nat
 F4:List Nat
theorem Bdv (r:Ay) (d:Int) (g t o:Nat) (A B:List Value) (a1:Option Addr) (c1:Nat) (F1:List Nat) (a2:Option Addr) (c2:Nat) (F2:List Nat) (hg:Mn r) (d0:0≤d) (d1:d≤100) :
  Fn prog 266 [Il g o 0,.int .i64 d] [] [.row g t o A [.bool r.Bd,.int .i64 r.Ai,.int .i64 r.Aa.next,.slice a1 r.Aa.Al.length c1,.slice a2 r.Am.length c2] B,.ow Bz 272 (.slice a1 r.Aa.Al.length c1) r.Aa.Al F1,.ow Av 257 (.slice a2 r.Am.length c2) r.Am F2] (fun (_:TkR)=>True)
   (fun s=>.tuple #[.slice s.a3 (E8 r).length s.c3,.slice s.a4 (Hw r).length s.c4]) (fun s=>[.row g t o A [.bool (Cv r d).Bd,.int .i64 (Cv r d).Ai,.int .i64 (Cv r d).Aa.next,.slice s.a1 (Cv r d).Aa.Al.length s.c1,.slice s.a2 (Cv r d).Am.length s.c2] B,.ow Bz 272 (.slice s.a1 (Cv r d).Aa.Al.length s.c1) (Cv r d).Aa.Al s.F1,.ow Av 257 (.slice s.a2 (Cv r d).Am.length s.c2) (Cv r d).Am s.F2,.ow Ak 233 (.slice s.a3 (E8 r).length s.c3) (E8 r) s.F3,.ow A8 9 (.slice s.a4 (Hw r).length s.c4) (Hw r) s.F4]):=by
 have k0:=hg.k0;have k1:=hg.k1;obtain ⟨-,q1,q2, -⟩:=De.1 hg.q;obtain ⟨w0_,w1_⟩:=Ip hg.w;obtain ⟨hw8,hit⟩:=Kx hg.w;have hpl:(r.Am.filterMap (Q4 (r.Ai+1))).length≤8:=Nat.le_trans (List.length_filterMap_le _ _) q1;refine enter func266 rfl ntmps266 fun w0=>?_;refine go ?_;refine A4 (E:=Av) fun F9=>?_;refine As [1] [] ?_;refine Dq 0 1 2 3 ?_;refine Dq 4 5 6 7 ?_;refine dt 8 ?_;refine dN 9 ?_;refine oC ?_;refine Ca (Ajf r.Am (r.Ai+1) d a2 c2 F9 FH (fun q hq=>⟨(Er.1 (q2 q hq)).t0,(Er.1 (q2 q hq)).t1⟩) FH FH FH FH) fun z _=>?_
 rw [show r.Am.filterMap (Vd (r.Ai+1))=C5 r from rfl,show r.Am.filterMap (U3 (r.Ai+1) d)=Ob r d from rfl];refine dk ?_;refine Dq 10 11 12 13 ?_;refine Ec 14 15 ?_;refine dt 16 ?_;refine dd ?_;refine A4 (E:=Bb) (xs:=r.Am.filterMap (Q4 (r.Ai+1))) fun G2=>?_;refine A4 (E:=Bb) (xs:=C5 r) fun G3=>?_;refine Db Ak 233 ?_;refine go ?_
 refine Cd [0,4,5,6,9,44,45] (fun s:PkS=>[(46,.int .i64 (s.k:Nat)),(10,.slice s.a (((r.Am.filterMap (Q4 (r.Ai+1))).take s.k).map (pkR r.Aa.next)).length s.c)]) (fun s=>[.ow Ak 233 (.slice s.a (((r.Am.filterMap (Q4 (r.Ai+1))).take s.k).map (pkR r.Aa.next)).length s.c) (((r.Am.filterMap (Q4 (r.Ai+1))).take s.k).map (pkR r.Aa.next)) s.F]) (fun s=>s.k≤(r.Am.filterMap (Q4 (r.Ai+1))).length) (fun s=>(r.Am.filterMap (Q4 (r.Ai+1))).length - s.k) ⟨0,_,_,_⟩ (Nat.zero_le _) fun s hs=>?_;obtain ⟨k,a4,c4,F4⟩:=s;dsimp only at hs ⊢;generalize hsn:r.Am.filterMap (Q4 (r.Ai+1))=sn at *;refine go ?_
 refine A1 rfl (fun h4=>?_) (fun h4=>?_)
 ·have hk:k < sn.length:=FH
  have hkl:((sn.take k).map (pkR r.Aa.next)).length≤k:=FO
  refine I6 (xs:=sn) k ?_;rintro hi b o2 e;rw [e];refine go ?_;intros;have eo:(sn.take (k+1)).map (pkR r.Aa.next)=(sn.take k).map (pkR r.Aa.next)++[pkR r.Aa.next sn[k]]:=KS
  apply wO;refine Ps (ys:=[pkR r.Aa.next sn[k]]) (Dc (pkR r.Aa.next sn[k]) (by show (0:Nat)≤maxLen;exact Nat.zero_le _)) Hg fun a7 c7 F7=>?_;exact EE
 have hk:k=sn.length:=FH
 subst hk;rw [List.take_length];have ep:E8 r=sn.map (pkR r.Aa.next):=by unfold E8;rw [hsn]
 rw [ep];refine go ?_;by_cases hL:C5 r=[]
 ·refine A1 rfl (fun _=>?_) (fun h=>absurd (show ((C5 r).length:Int)=0 by rw [hL];rfl) h);rw [Aje hL,Arg hL];refine Db A8 9 ?_;refine go ?_;refine ret ⟨_,_,_,_,_,_,_,_,_,_,_,_⟩ trivial rfl
 ·have hl0:=List.length_pos_iff.2 hL;refine A1 rfl (fun h=>absurd h FH) (fun _=>?_);rw [Aer hL,Amf hL];obtain ⟨hs8,hsr⟩:=Agl hg hL;have hll8:=Ajg r;obtain ⟨hs0,hs1⟩:=Bc.1 hsr;have hll:=Alr hL;obtain ⟨l0,l1⟩:=Bc.1 (Aes hg (List.getElem_mem (show (C5 r).length - 1 < (C5 r).length by omega))).1;have hi1:((C5 r).length:Int) - 1=(((C5 r).length - 1:Nat):Int):=FH
  refine I6 (xs:=C5 r) ((C5 r).length - 1) ?_;rintro hi b o2 e;rw [e];refine Avj [.bool r.Bd,.int .i64 (r.Ai+1)] [.int .i64 r.Aa.next,.slice a1 r.Aa.Al.length c1] [.slice z.a (Ob r d).length z.c] ?_;refine go ?_;refine As [1] [] ?_;refine Dq 0 1 2 3 ?_;refine Ec 4 5 ?_;refine dt 6 ?_;rw [hi1];refine Ec 7 8 ?_;refine dN 9 ?_;refine oC ?_;refine ce (fun w s=>Ta _ _ _ FH FH) ?_;rw [←hll];refine dk ?_;refine dN 10 ?_;refine oC ?_;refine Ca (Aoo r.Aa (Dh (C5 r)) g t (o+2) (A++[.bool r.Bd,.int .i64 (r.Ai+1)]) _ a1 c1 F1 w0_ w1_ hs0 hs1 hw8 hit) fun y hy=>?_;refine dk ?_
  refine dt 11 ?_;refine dd ?_;obtain ⟨hy1,hy2⟩:=hy;have hmv:=Vz (t:=Dh (C5 r)) hg.w;have hm0:0≤y.y.next:=by rw [hy1];show 0≤(Jh r.Aa (Dh (C5 r))).next;rw [hmv.1];exact (J4 _ _).1
  have hm1:y.y.next≤65535:=by rw [hy1];show (Jh r.Aa (Dh (C5 r))).next≤65535;rw [hmv.1];exact (J4 _ _).2
  refine Ajb [.bool r.Bd,.int .i64 (r.Ai+1)] [.int .i64 y.y.next,.slice y.a y.y.Al.length y.c] [.slice z.a (Ob r d).length z.c] ?_;refine A4 (E:=Av) (xs:=Ob r d) fun F8=>?_;refine go ?_;refine As [1] [13] ?_;refine Dq 0 1 2 3 ?_;refine Dq 4 5 6 7 ?_;refine Ec 8 9 ?_;refine dN 10 ?_;refine oC ?_;refine Ca (Age (Ob r d) y.y.next z.a z.c F8 (by have:=Aet r d;omega) (fun q hq=>(Ac2 hg hq).1) hm0 hm1) fun u _=>?_;refine dk ?_;refine Ec 11 12 ?_;refine dN 13 ?_;refine oS ?_;refine Tf ?_;refine dd ?_;refine go ?_
  rw [show Jh r.Aa (Dh (C5 r))=y.y from hy1.symm,show Jg r.Aa (Dh (C5 r))=y.es from hy2.symm];refine ret ⟨_,_,_,_,_,_,_,_,_,_,_,_⟩ trivial rfl
theorem Vf (v:Value) (xs:List Int) (F:List Nat) (w:World) (h:Sl Bb w v xs F) (hm:xs.length≤4294967296) :
  Calls prog 94 #[v] w (Nd Bb 3 xs w):=by
 obtain ⟨ao,c,news,Fy,rfl,hl,hfy,hFy,hsrc⟩:=h.src;have hFl:=hfy.lt;have he:=fun w (a:Option Addr) (n c:Nat)=>Lib.run_eql_slice_nil (P:=prog) w 22 _ a n c 0 0 underlying22
 go_enter func94,ntmps94
 rcases hsrc with ⟨rfl,rfl,rfl⟩|⟨ad,rfl,hn⟩
 ·go_wp2
  go_ret
  exact BY
 ·go_wp2_with (at_builtin;refine Py C8 FK GE _ _ _ GE 3 (.int .i64 0) 8 underlying22 Ahv rfl (.slice (some ⟨w.heap.size,0,none⟩) 0 0) [] [w.heap.size] GE (Ow.empty (Ii.made _ _ _)) (Hd.one _) (some ad) xs c GE news Fy (hfy.frame fun b hb=>Below.heap_alloc _ _ _ (hFl b hb)) (.inr ⟨ad,rfl,fun j u hu=>kc ((Below.refl _ _).alloc (Nat.le_refl _) _) (hn j u hu)⟩) (fun b hb e=>by have:=hFl b hb;simp [Value.ownBlock] at e;omega) HQ HM ?_);intro v2 w2 F2 hA;go_wp2_with fail
  go_ret
  have hB:Below w.heap.size w w2:=((Below.refl _ _).alloc (Nat.le_refl _) _).trans (hA.I7.below FI FI);have hs:∀b,v2.ownBlock=some b→w.heap.size≤b:=fun b hb=>by rcases hA.Ato with e|e <;> rw [e] at hb <;> simp [Value.ownBlock] at hb <;> omega
  refine ⟨v2,F2,rfl,JJ,hA.ow.scal D5▸?_,fun b hb=>?_,hB⟩
  ·cases v2.ownBlock <;> simp
  ·rw [hA.ow.scal D5] at hb;exact hs b JV
theorem Acf (v:Value) (xs:List Int) (F:List Nat) (w:World) (h:Sl Bb w v xs F) (hm:xs.length≤4294967296) :
  Calls prog 141 #[v] w (Nd Bb 3 xs w):=by
 obtain ⟨ao,c,news,Fy,rfl,hl,hfy,hFy,hsrc⟩:=h.src;have hFl:=hfy.lt;have hsrc2:(ao=none∧c=0∧xs=[])∨∃ad,ao=some ad∧∀j u,news[j]?=some u→(w.alloc (.cells #[] 3)).cell? (ad.add j)=some u:=by
  rcases hsrc with h|⟨ad,h1,h2⟩
  ·exact .inl h
  ·exact .inr ⟨ad,h1,fun j u hu=>kc ((Below.refl _ _).alloc (Nat.le_refl _) _) (h2 j u hu)⟩
 go_enter func141,ntmps141
 go_wp2_with (at_builtin;refine Py C8 FK GE _ _ _ GE 3 (.int .i64 0) 8 underlying22 Ahv rfl (.slice (some ⟨w.heap.size,0,none⟩) 0 0) [] [w.heap.size] GE (Ow.empty (Ii.made _ _ _)) (Hd.one _) ao xs c GE news Fy (hfy.frame fun b hb=>Below.heap_alloc _ _ _ (hFl b hb)) hsrc2 (fun b hb e=>by have:=hFl b hb;simp [Value.ownBlock] at e;omega) HQ HM ?_);intro v2 w2 F2 hA;go_wp2_with fail
 go_ret
 have hB:Below w.heap.size w w2:=((Below.refl _ _).alloc (Nat.le_refl _) _).trans (hA.I7.below FI FI);have hs:∀b,v2.ownBlock=some b→w.heap.size≤b:=fun b hb=>by rcases hA.Ato with e|e <;> rw [e] at hb <;> simp [Value.ownBlock] at hb <;> omega
 refine ⟨v2,F2,rfl,JJ,hA.ow.scal D5▸?_,fun b hb=>?_,hB⟩
 ·cases v2.ownBlock <;> simp
 ·rw [hA.ow.scal D5] at hb;exact hs b JV
theorem Afy (v:Value) (e:Bf) (F:List Nat) (w:World) (h:Jz Bk w v e F) (hm:e.Ah.length≤4294967296) (hm2:∀x∈e.Ah,x.Bj.length≤4294967296) :
  Calls prog 97 #[v] w (Wm B4 e w):=by
 obtain ⟨_,rfl,v1,rfl,h1⟩:=h;obtain ⟨a,cap,rfl⟩:=h1.slice;have hl:=h1.len;unfold maxLen at hl;have hB0:∀A B:Obj,Below w.heap.size w ((w.alloc A).alloc B):=fun A B=>((Below.refl _ _).alloc (Nat.le_refl _) _).alloc FI _;have hFl:=h1.lt FK
 go_enter func97,ntmps97
 go_wp2_with fail;refine (Aoh _ e.Ah F _ (h1.below FK (hB0 _ _)) hm).mono ?_;rintro e' w1 ⟨v2,F2,rfl,ho,hd,hs,hF2,hb1⟩;obtain ⟨a2,cap2,rfl⟩:=ho.slice;have r0:=Ii.below (g:=w.heap.size) (t:=149) (cs:=[.int .i64 e.Ai,.slice a e.Ah.length cap]) HE hb1;have r1:=Ii.below (g:=w.heap.size+1) (t:=149) (cs:=[.int .i64 0,.slice none 0 0]) HE hb1;have hB:=tr (hB0 _ _) hb1 (Nat.le_refl _);have hm1:=Lib.hid (Mix.start (O:=Dz) (R:=Ds) (B1:=w.heap.size) (B0:=w.heap.size+2) rfl ho (by simpa using hs) (fun b hb=>(hF2 b hb).imp id fun hb=>hFl b hb) hd)
 have c0:=r0.cells;have f0:=r0.frozens;have f1:=r1.frozens;have c1:=r1.cells;clear hb1 ho hs hd hF2;go_wp2_with fail;have R0:=r0.set 1 (.slice a2 e.Ah.length cap2);have R1:=r1.setOther (p:=⟨w.heap.size,1,none⟩) FI (.slice a2 e.Ah.length cap2);have M1:=Lib.hid (hm1.out.setFar (p:=⟨w.heap.size,1,none⟩) (Nat.le_refl _) FI (.slice a2 e.Ah.length cap2));clear hm1
 go_loopw [3,11] (fun _ i wr=>∃k:Nat,k≤e.Ah.length∧i=.int .i64 k∧Hid (Mix Dz Ds 253 w.heap.size (w.heap.size+2) wr (.slice a2 e.Ah.length cap2) e.Ah k)∧Ii wr w.heap.size 149 [.int .i64 e.Ai,.slice a2 e.Ah.length cap2]∧Ii wr (w.heap.size+1) 149 [.int .i64 0,.slice none 0 0]∧Below w.heap.size w wr) (fun _ i _=>e.Ah.length - (intOf i).toNat)
 case atStart=>exact ⟨0,Nat.zero_le _,rfl,M1,by simpa using R0,R1,hB.setCell (Nat.le_refl _) _⟩
 case round =>
  obtain ⟨k,hk,rfl,hM,hr,hr1,hB⟩:=hrel;have c0:=hr.cells;have f0:=hr.frozens;have hsz:=hr1.lt;by_cases hlt:k < e.Ah.length
  ·obtain ⟨g,cap3,A,c,B,Fk,hv,hg,hrow,hA,hcl,hx, -,back⟩:=hM.out.at rfl hlt FH FH;cases hv;obtain ⟨u1,rfl,hf⟩:=id hx;obtain ⟨fa,fc,rfl⟩:=hf.slice;have a1:=hrow.cellMid (p:=k * 3+1) (j:=1) (by rw [hA];rfl) FI;simp only [List.getElem?_cons_zero,List.getElem?_cons_succ] at a1;have hne:¬g=w.heap.size:=FH
   have hne2:¬w.heap.size=g:=FH
   have hbk:=Lib.hid back;clear back;have hfl:=hm2 e.Ah[k] (List.getElem_mem _);go_wp2_with fail
   go_region_law (first|(go_simp;go_at_call 94;refine (Vf _ e.Ah[k].Bj Fk wr.drew (hf.frame fun _ _=>rfl) hfl).mono ?_;rintro e' w2 ⟨v3,F3,rfl,o3,n3,g3,hb2⟩;obtain ⟨d3,p3,rfl⟩:=o3.slice;have z3:=kc hb2 (show wr.drew.cell? ⟨w.heap.size,1,none⟩=some (.slice (some ⟨g,0,none⟩) e.Ah.length cap2) by simpa using c0 1);have z1:=kc hb2 (by simpa using a1);have zf:=((show Ii wr.drew g 253 _ from hrow).below hb2).frozens (k * 3+1)))
   all_goals
    have hr2:=((show Ii wr.drew w.heap.size 149 _ from hr).below hb2).setOther (p:=⟨g,k * 3+1,none⟩) hne (.slice d3 e.Ah[k].Bj.length p3);have hr3:=((show Ii wr.drew (w.heap.size+1) 149 _ from hr1).below hb2).setOther (p:=⟨g,k * 3+1,none⟩) FO (.slice d3 e.Ah[k].Bj.length p3);have hro:=((show Ii wr.drew g 253 _ from hrow).below hb2).setMid (p:=k * 3+1) (j:=1) (by rw [hA];rfl) FI (.slice d3 e.Ah[k].Bj.length p3);have hg3:∀b∈F3,wr.heap.size≤b:=g3;have hgs:=hrow.lt
    have hMk:=Lib.hid (hbk.out _ _ F3 hro ⟨_,rfl,o3.setFar (fun hm=>by have:=hg3 _ hm;simp at this;omega) _⟩ n3 hg3 (fun b hb hbg=>(Below.heap_setCell _ _ _ _ hbg).trans (hb2.block b hb)));have hB3:Below w.heap.size w (w2.setCell ⟨g,k * 3+1,none⟩ (.slice d3 e.Ah[k].Bj.length p3)):=(tr (Dt hB 1) hb2 (Nat.le_refl _)).setCell FO _;go_wp2_with fail;exact ⟨⟨k+1,FH,HL,hMk,hr2,hr3,hB3⟩,GO⟩
  ·have hk:k=e.Ah.length:=FH
   subst hk;obtain ⟨F4,o4,n4,g4⟩:=hM.out.done;have O4:=Lib.hid o4;clear hM o4;have d1:=hr1.cells;have fd:=hr1.frozens;go_wp2_with fail;refine bodyPost_ret (v:=.agg #[.int .i64 e.Ai,.slice a2 e.Ah.length cap2]) ?_ rfl ?_
   ·simp [results,results97,go_sem,c0,d1,fd]
   ·refine ⟨_,F4,rfl,⟨_,rfl,_,rfl,?_⟩,n4,fun b hb=>by have:=g4 b hb;omega,?_⟩
    ·repeat refine Ow.setFar ?_ (fun hm=>by have:=g4 _ hm;simp at this <;> omega) _
     exact O4.out
    ·repeat refine Below.setCell ?_ GD _
     exact hB
section
variable {c:Cx} {fr:Fr} {H:List Pc} {Φ:Gl}
theorem Ho {v:Value} {x:Dv} {F:List Nat} (h:∀(a1:Option Addr) (c1:Nat) (F1:List Nat) (a2:Option Addr) (c2:Nat) (F2:List Nat) (a3:Option Addr) (c3:Nat) (F3:List Nat) (a4:Option Addr) (c4:Nat) (F4:List Nat) (a5:Option Addr) (c5:Nat) (F5:List Nat) (a6:Option Addr) (c6:Nat) (F6:List Nat) (a7:Option Addr) (c7:Nat) (F7:List Nat),v=.agg #[.slice a1 x.Ao.Ad.length c1,.int .i64 x.Ab.Aa.Ap,.int .i64 x.Ab.Aa.size,.slice a2 x.Ab.Aa.An.length c2,.int .i64 x.Ab.Ai,.int .i64 x.Ab.quiet,.slice a3 x.Ab.holds.length c3,.slice a4 x.Af.length c4,.slice a5 x.Ac.length c5,.slice a6 x.down.length c6,.slice a7 x.up.length c7]→x.Ao.Ad.length≤maxLen→x.Ab.Aa.An.length≤maxLen→x.Ab.holds.length≤maxLen→x.Af.length≤maxLen→x.Ac.length≤maxLen→x.down.length≤maxLen→x.up.length≤maxLen→T c fr (.sl Bb (.slice a1 x.Ao.Ad.length c1) x.Ao.Ad F1::.sl A8 (.slice a2 x.Ab.Aa.An.length c2) x.Ab.Aa.An F2::.sl Bm (.slice a3 x.Ab.holds.length c3) x.Ab.holds F3::.sl Bk (.slice a4 x.Af.length c4) x.Af F4::.sl Bi (.slice a5 x.Ac.length c5) x.Ac F5::.sl (Ml Ak FK) (.slice a6 x.down.length c6) x.down F6::.sl (Ml Ak FK) (.slice a7 x.up.length c7) x.up F7::H) Φ) (hm:.isv Ny v x F∈H:=by exact A9):T c fr H Φ:=.mk fun a w s g=>by
 obtain ⟨cs,rfl,v1,v2,v3,v4,v5,v6,v7,G1,G2,G3,G4,G5,G6,G7,rfl,h1,h2,h3,h4,h5,h6,h7,rfl⟩:=s.get hm;obtain ⟨a1,c1,rfl⟩:=h1.slice;have l1:=h1.len;obtain ⟨a2,c2,rfl⟩:=h2.slice;have l2:=h2.len;obtain ⟨a3,c3,rfl⟩:=h3.slice;have l3:=h3.len;obtain ⟨a4,c4,rfl⟩:=h4.slice;have l4:=h4.len;obtain ⟨a5,c5,rfl⟩:=h5.slice;have l5:=h5.len;obtain ⟨a6,c6,rfl⟩:=h6.slice;have l6:=h6.len;obtain ⟨a7,c7,rfl⟩:=h7.slice;have l7:=h7.len;have t7:=s.ro (p:=.sl _ _ _ _) hm rfl rfl ⟨FK,h7⟩ FX
 have t6:=t7.ro (p:=.sl _ _ _ _) (List.mem_cons_of_mem _ hm) rfl rfl ⟨FK,h6⟩ FX;have t5:=t6.ro (p:=.sl _ _ _ _) (List.mem_cons_of_mem _ (List.mem_cons_of_mem _ hm)) rfl rfl ⟨FK,h5⟩ FX;have t4:=t5.ro (p:=.sl _ _ _ _) (List.mem_cons_of_mem _ (List.mem_cons_of_mem _ (List.mem_cons_of_mem _ hm))) rfl rfl ⟨FK,h4⟩ FX
 have t3:=t4.ro (p:=.sl _ _ _ _) (List.mem_cons_of_mem _ (List.mem_cons_of_mem _ (List.mem_cons_of_mem _ (List.mem_cons_of_mem _ hm)))) rfl rfl ⟨FK,h3⟩ FX;have t2:=t3.ro (p:=.sl _ _ _ _) (List.mem_cons_of_mem _ (List.mem_cons_of_mem _ (List.mem_cons_of_mem _ (List.mem_cons_of_mem _ (List.mem_cons_of_mem _ hm))))) rfl rfl ⟨FK,h2⟩ FX
 have t1:=t2.ro (p:=.sl _ _ _ _) (List.mem_cons_of_mem _ (List.mem_cons_of_mem _ (List.mem_cons_of_mem _ (List.mem_cons_of_mem _ (List.mem_cons_of_mem _ (List.mem_cons_of_mem _ hm)))))) rfl rfl ⟨FK,h1⟩ FX;exact (h a1 c1 G1 a2 c2 G2 a3 c3 G3 a4 c4 G4 a5 c5 G5 a6 c6 G6 a7 c7 G7 rfl  l1 l2 l3 l4 l5 l6 l7).h a w t1 g
theorem Gk (x:Dv) {a1:Option Addr} {c1:Nat} {F1:List Nat} {a2:Option Addr} {c2:Nat} {F2:List Nat} {a3:Option Addr} {c3:Nat} {F3:List Nat} {a4:Option Addr} {c4:Nat} {F4:List Nat} {a5:Option Addr} {c5:Nat} {F5:List Nat} {a6:Option Addr} {c6:Nat} {F6:List Nat} {a7:Option Addr} {c7:Nat} {F7:List Nat}  (h:T c fr (.isv Ny (.agg #[.slice a1 x.Ao.Ad.length c1,.int .i64 x.Ab.Aa.Ap,.int .i64 x.Ab.Aa.size,.slice a2 x.Ab.Aa.An.length c2,.int .i64 x.Ab.Ai,.int .i64 x.Ab.quiet,.slice a3 x.Ab.holds.length c3,.slice a4 x.Af.length c4,.slice a5 x.Ac.length c5,.slice a6 x.down.length c6,.slice a7 x.up.length c7]) x (F1++F2++F3++F4++F5++F6++F7)::H) Φ) (m1:.sl Bb (.slice a1 x.Ao.Ad.length c1) x.Ao.Ad F1∈H:=by exact A9) (m2:.sl A8 (.slice a2 x.Ab.Aa.An.length c2) x.Ab.Aa.An F2∈H:=by exact A9) (m3:.sl Bm (.slice a3 x.Ab.holds.length c3) x.Ab.holds F3∈H:=by exact A9) (m4:.sl Bk (.slice a4 x.Af.length c4) x.Af F4∈H:=by exact A9) (m5:.sl Bi (.slice a5 x.Ac.length c5) x.Ac F5∈H:=by exact A9) (m6:.sl (Ml Ak FK) (.slice a6 x.down.length c6) x.down F6∈H:=by exact A9) (m7:.sl (Ml Ak FK) (.slice a7 x.up.length c7) x.up F7∈H:=by exact A9):T c fr H Φ:=.mk fun a w s g=>by
 refine h.h a w (s.add (N:=[_]) (Below.refl _ _) (by intro q hq;obtain rfl:=List.mem_singleton.1 hq;exact ⟨_,rfl,_,_,_,_,_,_,_,_,_,_,_,_,_,_,rfl,(s.get m1).2,(s.get m2).2,(s.get m3).2,(s.get m4).2,(s.get m5).2,(s.get m6).2,(s.get m7).2,rfl⟩) ⟨FI,trivial⟩ fun q hq b hb=>?_) g;obtain rfl:=List.mem_singleton.1 hq;simp only [Pc.F,List.mem_append] at hb;rcases hb with (((((hb|hb)|hb)|hb)|hb)|hb)|hb
 ·exact .inr ⟨rfl,_,m1,rfl,hb⟩
 ·exact .inr ⟨rfl,_,m2,rfl,hb⟩
 ·exact .inr ⟨rfl,_,m3,rfl,hb⟩
 ·exact .inr ⟨rfl,_,m4,rfl,hb⟩
 ·exact .inr ⟨rfl,_,m5,rfl,hb⟩
 ·exact .inr ⟨rfl,_,m6,rfl,hb⟩
 ·exact .inr ⟨rfl,_,m7,rfl,hb⟩
theorem Ys {v:Value} {x:Dv} {F:List Nat} {S:List Pc} (h:∀(a1:Option Addr) (c1:Nat) (F1:List Nat) (a2:Option Addr) (c2:Nat) (F2:List Nat) (a3:Option Addr) (c3:Nat) (F3:List Nat) (a4:Option Addr) (c4:Nat) (F4:List Nat) (a5:Option Addr) (c5:Nat) (F5:List Nat) (a6:Option Addr) (c6:Nat) (F6:List Nat) (a7:Option Addr) (c7:Nat) (F7:List Nat),v=.agg #[.slice a1 x.Ao.Ad.length c1,.int .i64 x.Ab.Aa.Ap,.int .i64 x.Ab.Aa.size,.slice a2 x.Ab.Aa.An.length c2,.int .i64 x.Ab.Ai,.int .i64 x.Ab.quiet,.slice a3 x.Ab.holds.length c3,.slice a4 x.Af.length c4,.slice a5 x.Ac.length c5,.slice a6 x.down.length c6,.slice a7 x.up.length c7]→x.Ao.Ad.length≤maxLen→x.Ab.Aa.An.length≤maxLen→x.Ab.holds.length≤maxLen→x.Af.length≤maxLen→x.Ac.length≤maxLen→x.down.length≤maxLen→x.up.length≤maxLen→T c fr (.ow Bb 3 (.slice a1 x.Ao.Ad.length c1) x.Ao.Ad F1::.ow A8 9 (.slice a2 x.Ab.Aa.An.length c2) x.Ab.Aa.An F2::.ow Bm 203 (.slice a3 x.Ab.holds.length c3) x.Ab.holds F3::.ow B4 149 (.slice a4 x.Af.length c4) x.Af F4::.ow Bx 156 (.slice a5 x.Ac.length c5) x.Ac F5::.ow (Ko Ak 233) 158 (.slice a6 x.down.length c6) x.down F6::.ow (Ko Ak 233) 158 (.slice a7 x.up.length c7) x.up F7::S) Φ) (hp:Cn H (.own Zx v x F) S:=by exact Da):T c fr H Φ:=.mk fun a w s g=>by
 obtain ⟨hn,cs,rfl,v1,v2,v3,v4,v5,v6,v7,G1,G2,G3,G4,G5,G6,G7,rfl,h1,h2,h3,h4,h5,h6,h7,rfl⟩:=(s.pick hp).on (.own Zx v x F) FI;obtain ⟨a1,c1,rfl⟩:=h1.slice;have l1:=h1.len;obtain ⟨a2,c2,rfl⟩:=h2.slice;have l2:=h2.len;obtain ⟨a3,c3,rfl⟩:=h3.slice;have l3:=h3.len;obtain ⟨a4,c4,rfl⟩:=h4.slice;have l4:=h4.len;obtain ⟨a5,c5,rfl⟩:=h5.slice;have l5:=h5.len;obtain ⟨a6,c6,rfl⟩:=h6.slice;have l6:=h6.len;obtain ⟨a7,c7,rfl⟩:=h7.slice;have l7:=h7.len
 exact (h a1 c1 G1 a2 c2 G2 a3 c3 G3 a4 c4 G4 a5 c5 G5 a6 c6 G6 a7 c7 G7 rfl  l1 l2 l3 l4 l5 l6 l7).h a w (s.mer (M:=[.own Zx _ x _]) (N:=[.ow Bb _ _ _ G1,.ow A8 _ _ _ G2,.ow Bm _ _ _ G3,.ow B4 _ _ _ G4,.ow Bx _ _ _ G5,.ow (Ko Ak 233) _ _ _ G6,.ow (Ko Ak 233) _ _ _ G7]) (.cons hp .nil) (fun _ _=>⟨Qy ⟨(Ma (Ma (Ma (Ma (Ma (Ma hn)))))),h1⟩ (Qy ⟨Ach (Ma (Ma (Ma (Ma (Ma hn))))),h2⟩ (Qy ⟨Ach (Ma (Ma (Ma (Ma hn)))),h3⟩ (Qy ⟨Ach (Ma (Ma (Ma hn))),h4⟩ (Qy ⟨Ach (Ma (Ma hn)),h5⟩ (Qy ⟨Ach (Ma hn),h6⟩ (Qy ⟨Ach hn,h7⟩ (Auw))))))),GB⟩) GZ) g
theorem P2 (x:Dv) {a1:Option Addr} {c1:Nat} {F1:List Nat} {a2:Option Addr} {c2:Nat} {F2:List Nat} {a3:Option Addr} {c3:Nat} {F3:List Nat} {a4:Option Addr} {c4:Nat} {F4:List Nat} {a5:Option Addr} {c5:Nat} {F5:List Nat} {a6:Option Addr} {c6:Nat} {F6:List Nat} {a7:Option Addr} {c7:Nat} {F7:List Nat} {S1 S2 S3 S4 S5 S6 S7:List Pc}  (h:T c fr (.own Zx (.agg #[.slice a1 x.Ao.Ad.length c1,.int .i64 x.Ab.Aa.Ap,.int .i64 x.Ab.Aa.size,.slice a2 x.Ab.Aa.An.length c2,.int .i64 x.Ab.Ai,.int .i64 x.Ab.quiet,.slice a3 x.Ab.holds.length c3,.slice a4 x.Af.length c4,.slice a5 x.Ac.length c5,.slice a6 x.down.length c6,.slice a7 x.up.length c7]) x (F1++F2++F3++F4++F5++F6++F7)::S7) Φ) (m1:Cn H (.ow Bb 3 (.slice a1 x.Ao.Ad.length c1) x.Ao.Ad F1) S1:=by exact Da) (m2:Cn S1 (.ow A8 9 (.slice a2 x.Ab.Aa.An.length c2) x.Ab.Aa.An F2) S2:=by exact Da) (m3:Cn S2 (.ow Bm 203 (.slice a3 x.Ab.holds.length c3) x.Ab.holds F3) S3:=by exact Da) (m4:Cn S3 (.ow B4 149 (.slice a4 x.Af.length c4) x.Af F4) S4:=by exact Da) (m5:Cn S4 (.ow Bx 156 (.slice a5 x.Ac.length c5) x.Ac F5) S5:=by exact Da) (m6:Cn S5 (.ow (Ko Ak 233) 158 (.slice a6 x.down.length c6) x.down F6) S6:=by exact Da) (m7:Cn S6 (.ow (Ko Ak 233) 158 (.slice a7 x.up.length c7) x.up F7) S7:=by exact Da)  : T c fr H Φ:=.mk fun a w s g =>
 h.h a w (s.mer (M:=[.ow Bb _ _ _ F1,.ow A8 _ _ _ F2,.ow Bm _ _ _ F3,.ow B4 _ _ _ F4,.ow Bx _ _ _ F5,.ow (Ko Ak 233) _ _ _ F6,.ow (Ko Ak 233) _ _ _ F7]) (N:=[.own Zx _ x (F1++F2++F3++F4++F5++F6++F7)]) (.cons m1 (.cons m2 (.cons m3 (.cons m4 (.cons m5 (.cons m6 (.cons m7 (.nil)))))))) (fun hk hn=>⟨El ⟨GB,_,rfl,_,_,_,_,_,_,_,_,_,_,_,_,_,_,rfl,(Qz hk).2,(Qz (H9 hk)).2,(Qz (H9 (H9 hk))).2,(Qz (H9 (H9 (H9 hk)))).2,(Qz (H9 (H9 (H9 (H9 hk))))).2,(Qz (H9 (H9 (H9 (H9 (H9 hk)))))).2,(Qz (H9 (H9 (H9 (H9 (H9 (H9 hk))))))).2,rfl⟩,GB⟩) GZ) g
end
section
variable {c:Cx} {fr:Fr} {H:List Pc} {Φ:Gl}
theorem Om {v:Value} {x:Qe} {F:List Nat} (h:∀(a1:Option Addr) (c1:Nat) (F1:List Nat),v=.agg #[.slice a1 x.Ad.length c1]→x.Ad.length≤maxLen→T c fr (.sl Bb (.slice a1 x.Ad.length c1) x.Ad F1::H) Φ) (hm:.isv P0 v x F∈H:=by exact A9):T c fr H Φ:=.mk fun a w s g=>by
 exact AG
theorem I3 (x:Qe) {a1:Option Addr} {c1:Nat} {F1:List Nat}  (h:T c fr (.isv P0 (.agg #[.slice a1 x.Ad.length c1]) x (F1)::H) Φ) (m1:.sl Bb (.slice a1 x.Ad.length c1) x.Ad F1∈H:=by exact A9):T c fr H Φ:=.mk fun a w s g=>by
 exact AH
theorem Aee {v:Value} {x:Qe} {F:List Nat} {S:List Pc} (h:∀(a1:Option Addr) (c1:Nat) (F1:List Nat),v=.agg #[.slice a1 x.Ad.length c1]→x.Ad.length≤maxLen→T c fr (.ow Bb 3 (.slice a1 x.Ad.length c1) x.Ad F1::S) Φ) (hp:Cn H (.own Aex v x F) S:=by exact Da):T c fr H Φ:=.mk fun a w s g=>by
 have z1:=s.pick hp;obtain ⟨hn,cs,rfl,v1,rfl,h1⟩:=z1.on (.own Aex v x F) FI;obtain ⟨a1,c1,rfl⟩:=h1.slice;have l1:=h1.len;refine (h a1 c1 F rfl  l1).h a w (St.turn (M:=[.own Aex (.agg #[.slice a1 x.Ad.length c1]) x _]) (N:=[.ow Bb 3 (.slice a1 x.Ad.length c1) x.Ad F]) z1 (Dr.refl _ w) ?_ ?_ ?_) g
 ·exact DH
 ·exact ⟨FI,trivial⟩
 ·exact DN
theorem Aaw (x:Qe) {a1:Option Addr} {c1:Nat} {F1:List Nat} {S1:List Pc}  (h:T c fr (.own Aex (.agg #[.slice a1 x.Ad.length c1]) x (F1)::S1) Φ) (m1:Cn H (.ow Bb 3 (.slice a1 x.Ad.length c1) x.Ad F1) S1:=by exact Da)  : T c fr H Φ:=.mk fun a w s g=>by
 have z1:St c.G c.D c.w0 ([.ow Bb 3 (.slice a1 x.Ad.length c1) x.Ad F1]++S1) w:=by simpa using (show Ih H [.ow Bb 3 (.slice a1 x.Ad.length c1) x.Ad F1] S1 from Ih.cons m1 (Ih.nil)).st (X:=[]) HN
 obtain ⟨n1,k1⟩:=z1.on (.ow Bb 3 (.slice a1 x.Ad.length c1) x.Ad F1) FI;have hN:=n1;refine h.h a w (St.turn (M:=[.ow Bb 3 (.slice a1 x.Ad.length c1) x.Ad F1]) (N:=[.own Aex (.agg #[.slice a1 x.Ad.length c1]) x (F1)]) z1 (Dr.refl _ w) GU ⟨FI,trivial⟩ fun q hq b hb=>?_) g;exact BZ
end
structure U6 (n:Dv):Prop where
 t:n.Ao.Ad.length≤1048576
 i:n.Ab.Aa.An.length≤1048576
 h:n.Ab.holds.length≤1048576
 e:n.Af.length≤1048576
 e1:∀x∈n.Af,x.Ah.length≤1048576
 e2:∀x∈n.Af,∀y∈x.Ah,y.Bj.length≤1048576
 rl:n.Ac.length≤1048576
 r:∀x∈n.Ac,x.Aa.Al.length≤1048576∧x.Am.length≤1048576
 d:n.down.length≤1048576
 dq:∀q∈n.down,q.length≤1048576
 u:n.up.length≤1048576
 uq:∀q∈n.up,q.length≤1048576
structure ClN where
 g:Nat
 a1:Option Addr
 c1:Nat
 F1:List Nat
 a2:Option Addr
 c2:Nat
 F2:List Nat
 a3:Option Addr
 c3:Nat
 F3:List Nat
 g6:Nat
 F6:List Nat
 g7:Nat
 F7:List Nat
structure NV where
 a1:Option Addr
 c1:Nat
 F1:List Nat
 a2:Option Addr
 c2:Nat
 F2:List Nat
 a3:Option Addr
 c3:Nat
 F3:List Nat
 a4:Option Addr
 c4:Nat
 F4:List Nat
 a5:Option Addr
 c5:Nat
 F5:List Nat
 a6:Option Addr
 c6:Nat
 F6:List Nat
 a7:Option Addr
 c7:Nat
 F7:List Nat
structure KA where
 k:Nat
 a:Option Addr
 c:Nat
 F:List Nat
theorem Aon (n:Dv) (v:Value) (F:List Nat) (hs:U6 n):Fn prog 47 [v] [.isv Ny v n F] [] (fun (_:NV)=>True) (fun z=>.agg #[.slice z.a1 n.Ao.Ad.length z.c1,.int .i64 n.Ab.Aa.Ap,.int .i64 n.Ab.Aa.size,.slice z.a2 n.Ab.Aa.An.length z.c2,.int .i64 n.Ab.Ai,.int .i64 n.Ab.quiet,.slice z.a3 n.Ab.holds.length z.c3,.slice z.a4 n.Af.length z.c4,.slice z.a5 n.Ac.length z.c5,.slice z.a6 n.down.length z.c6,.slice z.a7 n.up.length z.c7]) (fun z=>[.ow Bb 3 (.slice z.a1 n.Ao.Ad.length z.c1) n.Ao.Ad z.F1,.ow A8 9 (.slice z.a2 n.Ab.Aa.An.length z.c2) n.Ab.Aa.An z.F2,.ow Bm 203 (.slice z.a3 n.Ab.holds.length z.c3) n.Ab.holds z.F3,.ow B4 149 (.slice z.a4 n.Af.length z.c4) n.Af z.F4,.ow Bx 156 (.slice z.a5 n.Ac.length z.c5) n.Ac z.F5,.ow (Ko Ak 233) 158 (.slice z.a6 n.down.length z.c6) n.down z.F6,.ow (Ko Ak 233) 158 (.slice z.a7 n.up.length z.c7) n.up z.F7]):=by
 refine enter func47 rfl ntmps47 fun w0=>?_;refine Ho ?_;rintro a1 c1 F1 a2 c2 F2 a3 c3 F3 a4 c4 F4 a5 c5 F5 a6 c6 F6 a7 c7 F7 rfl l1 l2 l3 l4 l5 l6 l7;refine Hf n.Ab ?_;refine go ?_;intros
 refine Ew [1,2] [0,1,6,7] (fun z:ClN=>[(3,Il z.g 0 0)]) (fun z=>[.row z.g 52 0 [] [.slice z.a1 n.Ao.Ad.length z.c1,.int .i64 n.Ab.Aa.Ap,.int .i64 n.Ab.Aa.size,.slice z.a2 n.Ab.Aa.An.length z.c2,.int .i64 n.Ab.Ai,.int .i64 n.Ab.quiet,.slice z.a3 n.Ab.holds.length z.c3,.slice none 0 0,.slice none 0 0,.slice (some ⟨z.g6,0,none⟩) n.down.length n.down.length,.slice (some ⟨z.g7,0,none⟩) n.up.length n.up.length] [],.ow Bb 3 (.slice z.a1 n.Ao.Ad.length z.c1) n.Ao.Ad z.F1,.ow A8 9 (.slice z.a2 n.Ab.Aa.An.length z.c2) n.Ab.Aa.An z.F2,.ow Bm 203 (.slice z.a3 n.Ab.holds.length z.c3) n.Ab.holds z.F3,.ow (Ko Ak 233) 158 (.slice (some ⟨z.g6,0,none⟩) n.down.length n.down.length) n.down z.F6,.ow (Ko Ak 233) 158 (.slice (some ⟨z.g7,0,none⟩) n.up.length n.up.length) n.up z.F7]) (fun _=>True) ?_ fun z _=>?_
 ·refine As [1] [] ?_;refine Dq 0 1 2 5 ?_;refine Dq 6 8 9 11 ?_;refine dt 12 ?_;refine dM 3 15 ?_ ?_
  ·refine oC ?_;refine cn (fun w st=>Vf _ n.Ao.Ad F1 w (st.get (p:=.sl _ _ _ _) FL).2 (by have:=hs.t;omega)) fun b1 d1 G1=>?_;refine dk ?_;refine dt 4 ?_;refine dM 7 15 ?_ ?_
   ·refine oC ?_;refine Ca (Agz n.Ab _ _ (by have:=hs.i;omega) (by have:=hs.h;omega)) fun s2 _=>?_;refine Qb (x:=n.Ab) ?_;rintro b2 d2 G2 b3 d3 G3 e2 - -;rw [e2];refine dk ?_;refine dM 10 15 ?_ ?_
    ·refine oC ?_;refine Ca (Jp n.down _ _ F6 (by have:=hs.d;omega) (fun q hq=>by have:=hs.dq q hq;omega)) fun s6 _=>?_;refine dk ?_;refine dM 13 15 ?_ ?_
     ·refine oC ?_;refine Ca (Jp n.up _ _ F7 (by have:=hs.u;omega) (fun q hq=>by have:=hs.uq q hq;omega)) fun s7 _=>?_;refine dk ?_;refine dt 14 ?_;refine dN 15 ?_;apply Cr;rfl;intro _;refine dk ?_;refine dN 16 ?_;refine oS ?_;refine dk ?_;refine dd ?_;refine Br (⟨_,b1,d1,G1,b2,d2,G2,b3,d3,G3,_,_,_,_⟩:ClN) trivial
     ·apply Cr;rfl;intro _;refine dk ?_;refine dN 13 ?_;refine oC ?_;exact AM
    ·apply Cr;rfl;intro _;refine dk ?_;refine dN 10 ?_;refine oC ?_;refine Ca (Jp n.down _ _ F6 (by have:=hs.d;omega) (fun q hq=>by have:=hs.dq q hq;omega)) fun s6 _=>?_;refine dk ?_;refine dN 13 ?_;refine oC ?_;exact AM
   ·apply Cr;rfl;intro _;refine dk ?_;refine dN 7 ?_;refine oC ?_;refine Ca (Agz n.Ab _ _ (by have:=hs.i;omega) (by have:=hs.h;omega)) fun s2 _=>?_;refine Qb (x:=n.Ab) ?_;rintro b2 d2 G2 b3 d3 G3 e2 - -;rw [e2];refine dk ?_;refine dN 10 ?_;refine oC ?_;refine Ca (Jp n.down _ _ F6 (by have:=hs.d;omega) (fun q hq=>by have:=hs.dq q hq;omega)) fun s6 _=>?_;refine dk ?_;refine dN 13 ?_;refine oC ?_;refine Ca (Jp n.up _ _ F7 (by have:=hs.u;omega) (fun q hq=>by have:=hs.uq q hq;omega)) fun s7 _=>?_;refine dk ?_;refine dt 14 ?_;refine dN 16 ?_;refine oS ?_;refine dk ?_;refine dd ?_
    refine Br (⟨_,b1,d1,G1,b2,d2,G2,b3,d3,G3,_,_,_,_⟩:ClN) trivial
  ·apply Cr;rfl;intro _;refine dk ?_;refine dN 3 ?_;refine oC ?_;refine cn (fun w st=>Vf _ n.Ao.Ad F1 w (st.get (p:=.sl _ _ _ _) FL).2 (by have:=hs.t;omega)) fun b1 d1 G1=>?_;refine dk ?_;refine dt 4 ?_;refine dN 7 ?_;refine oC ?_;refine Ca (Agz n.Ab _ _ (by have:=hs.i;omega) (by have:=hs.h;omega)) fun s2 _=>?_;refine Qb (x:=n.Ab) ?_;rintro b2 d2 G2 b3 d3 G3 e2 - -;rw [e2];refine dk ?_;refine dN 10 ?_;refine oC ?_;refine Ca (Jp n.down _ _ F6 (by have:=hs.d;omega) (fun q hq=>by have:=hs.dq q hq;omega)) fun s6 _=>?_;refine dk ?_;refine dN 13 ?_;refine oC ?_
   exact AM
 have he:=hs.e;have hr:=hs.rl;refine Db B4 149 ?_;refine go ?_
 refine Cd [1,2,3,24,25] (fun y:KA=>[(26,.int .i64 (y.k:Nat))]) (fun y=>[.row z.g 52 0 [] [.slice z.a1 n.Ao.Ad.length z.c1,.int .i64 n.Ab.Aa.Ap,.int .i64 n.Ab.Aa.size,.slice z.a2 n.Ab.Aa.An.length z.c2,.int .i64 n.Ab.Ai,.int .i64 n.Ab.quiet,.slice z.a3 n.Ab.holds.length z.c3,.slice y.a (n.Af.take y.k).length y.c,.slice none 0 0,.slice (some ⟨z.g6,0,none⟩) n.down.length n.down.length,.slice (some ⟨z.g7,0,none⟩) n.up.length n.up.length] [],.ow B4 149 (.slice y.a (n.Af.take y.k).length y.c) (n.Af.take y.k) y.F]) (fun y=>y.k≤n.Af.length) (fun y=>n.Af.length - y.k) ⟨0,none,0,[]⟩ (Nat.zero_le _) fun y hy=>?_
 refine go ?_;refine A1 rfl (fun h1=>?_) (fun h1=>?_)
 ·have hk:y.k < n.Af.length:=FH
  have htl:(n.Af.take y.k).length≤1048576:=FY
  refine Q6 (xs:=n.Af) y.k ?_;rintro hi4 b4 o4 a8 c8 F8 e4 l8;rw [e4];refine Nf n.Af[y.k] ?_;refine go ?_;intros;refine As [0,4] [7] ?_;refine Ec 0 1 ?_;refine dt 2 ?_;refine dN 3 ?_;refine oC ?_;refine cv (fun w st=>Afy _ n.Af[y.k] F8 w (st.get (p:=.isv _ _ _ _) FL) (by have:=hs.e1 _ (List.getElem_mem hk);omega) (fun x hx=>by have:=hs.e2 _ (List.getElem_mem hk) x hx;omega)) fun v9 F9=>?_;refine Hp (x:=n.Af[y.k]) ?_;rintro a9 c9 F10 rfl l9;refine E6 n.Af[y.k] ?_;refine dk ?_;refine dN 4 ?_;apply Lr;rfl;rfl;rfl;rfl;exact Ll;exact Kv;intro _;refine dk ?_;refine dN 5 ?_
  refine Adi Qq n.Af[y.k] rfl fun a7 c7 F7=>?_;refine dk ?_;refine dt 6 ?_;refine dN 7 ?_;refine oS ?_;refine Tf ?_;refine dd ?_;rw [←List.take_succ_eq_append_getElem hk];refine go ?_;refine Cg ⟨y.k+1,a7,c7,F7⟩ hk (by show n.Af.length - (y.k+1) < n.Af.length - y.k;omega)
 rw [show n.Af.take y.k=n.Af from List.take_of_length_le FH];obtain ⟨_,ea,ec,eF⟩:=y;dsimp only;refine Db Bx 156 ?_;refine go ?_
 refine Cd [2,3,39,40] (fun y:KA=>[(41,.int .i64 (y.k:Nat))]) (fun y=>[.row z.g 52 0 [] [.slice z.a1 n.Ao.Ad.length z.c1,.int .i64 n.Ab.Aa.Ap,.int .i64 n.Ab.Aa.size,.slice z.a2 n.Ab.Aa.An.length z.c2,.int .i64 n.Ab.Ai,.int .i64 n.Ab.quiet,.slice z.a3 n.Ab.holds.length z.c3,.slice ea n.Af.length ec,.slice y.a (n.Ac.take y.k).length y.c,.slice (some ⟨z.g6,0,none⟩) n.down.length n.down.length,.slice (some ⟨z.g7,0,none⟩) n.up.length n.up.length] [],.ow Bx 156 (.slice y.a (n.Ac.take y.k).length y.c) (n.Ac.take y.k) y.F]) (fun y=>y.k≤n.Ac.length) (fun y=>n.Ac.length - y.k) ⟨0,none,0,[]⟩ (Nat.zero_le _) fun y hy=>?_
 refine go ?_;refine A1 rfl (fun h2=>?_) (fun h2=>?_)
 ·have hk:y.k < n.Ac.length:=FH
  have htl:(n.Ac.take y.k).length≤1048576:=FY
  refine Kr (xs:=n.Ac) y.k ?_;rintro hi5 b5 o5 a8 c8 F8 a9 c9 F9 e5 l8 l9;rw [e5];refine Ep n.Ac[y.k] ?_;refine go ?_;intros;refine As [0,5] [7] ?_;refine Ec 0 1 ?_;refine dt 2 ?_;refine dN 3 ?_;refine oC ?_;refine Ca (Azk n.Ac[y.k] _ _ (by have:=(hs.r _ (List.getElem_mem hk)).1;omega) (by have:=(hs.r _ (List.getElem_mem hk)).2;omega)) fun s9 _=>?_;refine Ic (x:=n.Ac[y.k]) ?_;rintro a9 c9 G9 a10 c10 G10 e9 l9 l10;rw [e9];refine Iz n.Ac[y.k] ?_;refine dk ?_;refine dN 4 ?_;apply Lr;rfl;rfl;rfl;rfl;exact Ll;exact Kv;intro _;refine dk ?_;refine dN 5 ?_;refine Adi Pj n.Ac[y.k] rfl fun a7 c7 F7=>?_
  refine dk ?_;refine dt 6 ?_;refine dN 7 ?_;refine oS ?_;refine Tf ?_;refine dd ?_;rw [←List.take_succ_eq_append_getElem hk];refine go ?_;refine Cg ⟨y.k+1,a7,c7,F7⟩ hk (by show n.Ac.length - (y.k+1) < n.Ac.length - y.k;omega)
 rw [show n.Ac.take y.k=n.Ac from List.take_of_length_le FH];refine go ?_;refine ret ⟨z.a1,z.c1,z.F1,z.a2,z.c2,z.F2,z.a3,z.c3,z.F3,ea,ec,eF,y.a,y.c,y.F,_,_,z.F6,_,_,z.F7⟩ trivial rfl
theorem Ql {v:Int} (h:0≤v):Lib.itoa v=Lib.decDigits v.natAbs:=by unfold Lib.itoa;rw [if_neg FH,show v.toNat=v.natAbs by omega]
theorem Bhn (n:Int) (h0:0≤n) (h1:n≤999999) (w:World):Calls prog 146 #[.int .i64 n] w (RB (.string (bz (Lib.itoa n))) w):=by
 have:=Bgi n.toNat FH w;rw [show ((n.toNat:Nat):Int)=n by omega,show n.toNat=n.natAbs by omega,←Ql h0] at this;exact this
theorem Aky (i:Nat) (hi:i≤100):FV 267 [.int .i64 (i:Nat)] [] (.int .i64 (Ns i)):=by
 refine enter func267 rfl ntmps267 fun w0=>?_;exact AA
theorem Wz (i:Nat) (hi:i≤100):FV 293 [.int .i64 (i:Nat)] [] (.int .i64 (Ns i)):=by
 refine enter func293 rfl ntmps293 fun w0=>?_;exact AA
theorem Bc2 (i:Nat) (es:List ByteArray) (a:Option Addr) (c:Nat) (F FT:List Nat) (hi:i≤100) (hl:es.length≤1000000) (hz:∀e∈es,e.size≤1000000):Fn prog 268 [.int .i64 (i:Nat),.slice a es.length c] [.sl A8 (.slice a es.length c) es F,Gs FT] [] (fun (_:KA)=>True) (fun z=>.slice z.a (Vc i es).length z.c) (fun z=>[.ow A8 9 (.slice z.a (Vc i es).length z.c) (Vc i es) z.F]):=by
 have hs0:(bz (Lib.itoa ((i:Nat):Int))).size≤6:=JZ
 refine enter func268 rfl ntmps268 fun w0=>?_;refine Db A8 9 ?_;refine go ?_;refine Cd [0,4,8,9] (fun z:KA=>[(5,.slice z.a ((es.take z.k).map (Nq i)).length z.c),(10,.int .i64 (z.k:Nat))]) (fun z=>[.ow A8 9 (.slice z.a ((es.take z.k).map (Nq i)).length z.c) ((es.take z.k).map (Nq i)) z.F]) (fun z=>z.k≤es.length) (fun z=>es.length - z.k) ⟨0,none,0,[]⟩ (Nat.zero_le _) fun z hz0=>?_;have hml:((es.take z.k).map (Nq i)).length=z.k:=HZ
 refine go ?_;refine A1 rfl (fun h1=>?_) (fun h1=>?_)
 ·have hk:z.k < es.length:=FH
  have hse:=hz _ (List.getElem_mem hk);have z1:(⟨#[32]⟩:ByteArray).size=1:=rfl;have zs:(bz (Lib.itoa ((i:Nat):Int))++⟨#[32]⟩).size=_:=ByteArray.size_append;have zt:(bz (Lib.itoa ((i:Nat):Int))++⟨#[32]⟩++es[z.k]).size=_:=ByteArray.size_append;have hst:((es.take z.k).map (Nq i))++[Nq i es[z.k]]=(es.take (z.k+1)).map (Nq i):=by rw [List.take_succ_eq_append_getElem hk,List.map_append];rfl
  have hte:(Nq i es[z.k]).size≤1000010:=by unfold Nq;omega
  refine Mx (xs:=es) z.k ?_;rintro hi b o e1 s1;rw [e1];refine go ?_;refine cb (fun w st=>Aa5 ((i:Nat):Int) FH FH FT w (st.get (p:=Gs FT) FL)) ?_;refine Og ?_;intros;apply wO;refine Ps (ys:=[Nq i es[z.k]]) (Air GC) Dx fun a9 c9 F9=>?_;rw [hst];refine go ?_;refine Cg ⟨z.k+1,a9,c9,F9⟩ hk (by show es.length - (z.k+1) < es.length - z.k;omega)
 ·rw [show es.take z.k=es from List.take_of_length_le FH];exact CJ
theorem Alk (i:Nat) (es:List ByteArray) (a:Option Addr) (c:Nat) (F FT:List Nat) (hi:i≤100) (hl:es.length≤1000000) (hz:∀e∈es,e.size≤1000000):Fn prog 294 [.int .i64 (i:Nat),.slice a es.length c] [.sl A8 (.slice a es.length c) es F,Gs FT] [] (fun (_:KA)=>True) (fun z=>.slice z.a (Vc i es).length z.c) (fun z=>[.ow A8 9 (.slice z.a (Vc i es).length z.c) (Vc i es) z.F]):=by
 have hs0:(bz (Lib.itoa ((i:Nat):Int))).size≤6:=JZ
 refine enter func294 rfl ntmps294 fun w0=>?_;refine go ?_;intros;refine C7 A8 ?_;refine Cd [0,1,4] (fun z:KA=>[(5,.slice z.a ((es.take z.k).map (Nq i)).length z.c),(6,.int .i64 (z.k:Nat))]) (fun z=>[.ow A8 9 (.slice z.a ((es.take z.k).map (Nq i)).length z.c) ((es.take z.k).map (Nq i)) z.F]) (fun z=>z.k≤es.length) (fun z=>es.length - z.k) ⟨0,_,0,_⟩ (Nat.zero_le _) fun z hz0=>?_;have hml:((es.take z.k).map (Nq i)).length=z.k:=HZ
 refine go ?_;refine A1 rfl (fun h1=>?_) (fun h1=>?_)
 ·have hk:z.k < es.length:=FH
  have hse:=hz _ (List.getElem_mem hk);have z1:(⟨#[32]⟩:ByteArray).size=1:=rfl;have zs:(bz (Lib.itoa ((i:Nat):Int))++⟨#[32]⟩).size=_:=ByteArray.size_append;have zt:(bz (Lib.itoa ((i:Nat):Int))++⟨#[32]⟩++es[z.k]).size=_:=ByteArray.size_append;have hst:((es.take z.k).map (Nq i))++[Nq i es[z.k]]=(es.take (z.k+1)).map (Nq i):=by rw [List.take_succ_eq_append_getElem hk,List.map_append];rfl
  have hte:(Nq i es[z.k]).size≤1000010:=by unfold Nq;omega
  refine Mx (xs:=es) z.k ?_;rintro hi b o e1 s1;rw [e1];refine go ?_;refine As [0] [] ?_;refine Dq 0 1 4 5 ?_;refine Ec 6 7 ?_;refine dN 2 ?_;refine oC ?_;refine cb (fun w st=>Bhn ((i:Nat):Int) FH FH w) ?_;refine dk ?_;refine Ec 3 8 ?_;refine dN 9 ?_;apply Lr;rfl;rfl;rfl;rfl;exact Ll;exact Kv;intro _;refine dk ?_;refine dN 10 ?_;refine Ps (ys:=[Nq i es[z.k]]) (Air GC) Dx fun a9 c9 F9=>?_;refine dk ?_;refine dt 11 ?_;refine dd ?_;rw [hst];refine go ?_;refine Cg ⟨z.k+1,a9,c9,F9⟩ hk (by show es.length - (z.k+1) < es.length - z.k;omega)
 ·rw [show es.take z.k=es from List.take_of_length_le FH];exact CJ
end Go.Proofs.YtcmighgaiacgoaaGreatDoor
namespace Go.Proofs.YtcmighgaiacgoaaGreatDoor

theorem Y5 {α:Type} {p:α→Bool}:∀{xs:List α} {k:Nat},k≤xs.length→(∀j (_:j < k) (h:j < xs.length),p xs[j]=true)→(∀h:k < xs.length,p xs[k]=false)→(xs.takeWhile p).length=k
 | [],k,hk,_,_=>by simp at hk;simp [hk]
 | x::r,0,_,_,h2=>by have:=h2 FI;simp at this;simp [this]
 | x::r,k+1,hk,h1,h2=>by
  have hx:p x=true:=h1 0 FH FI;rw [List.takeWhile_cons_of_pos hx,List.length_cons,Y5 (xs:=r) (k:=k) (by simpa using hk) (fun j hj h=>by have:=h1 (j+1) FH GA;simpa using this) (fun h=>by have:=h2 GA;simpa using this)]
theorem Rz {α:Type} {p:α→Bool}:∀{xs:List α},(xs.takeWhile p).length≤xs.length∧(∀j (_:j < (xs.takeWhile p).length) (h:j < xs.length),p xs[j]=true)∧∀h:(xs.takeWhile p).length < xs.length,p xs[(xs.takeWhile p).length]=false
 | []=>by simp
 | x::r=>by
  cases hx:p x
  ·rw [List.takeWhile_cons_of_neg JC];simp [hx]
  ·rw [List.takeWhile_cons_of_pos hx];obtain ⟨h1,h2,h3⟩:=Rz (p:=p) (xs:=r);refine ⟨IS,fun j hj h=>?_,fun h=>?_⟩
   ·cases j with
    | zero=>simpa using hx
    | succ j=>simpa using h2 j IR GA
   ·simpa using h3 GA
def Bej {α:Type} (f:α→Int):Option α→Bool
 | some x=>decide (f x=0)
 | none=>false
end Go.Proofs.YtcmighgaiacgoaaGreatDoor
