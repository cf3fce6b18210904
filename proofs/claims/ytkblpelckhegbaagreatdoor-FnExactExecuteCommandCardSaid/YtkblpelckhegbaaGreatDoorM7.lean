/- Part 7 of the proof: 48 texts, one behind the other. -/
import Derived.Test.YtkblpelckhegbaaGreatDoorShelf
import Derived.Deep.RegionHeld3
import Derived.Lib.Strings
import Derived.Lib.LaidTab
import Derived.Lib.ItoaMem
import Derived.WideLaws
import Derived.RangeFuncCalls
import Derived.RangeFuncFrom
import Derived.RangeFuncLeaves
import Derived.TacticsInMore
import Derived.OrdersIn
import Derived.WalkKit
import Derived.LoopNIn
import Derived.LoopIn
import Derived.OwnWalkIn
import Derived.Test.YtkblpelckhegbaaGreatDoorM6
open _root_.Go.Proofs.Tryz
set_option maxRecDepth 100000
set_option maxHeartbeats 8000000
set_option linter.all false
set_option linter.unusedVariables false
set_option linter.unusedSimpArgs false
namespace Go.Proofs.YtkblpelckhegbaaGreatDoor
theorem BW{p:Prop}(h:p:=by refine I9 (xs:=x.Al) i ?_;rintro hi2 b o e;rw [e];refine go ?_;intros;apply wO;refine Qa (Tq _) Dd fun a7 c7 F7=>?_;refine go ?_;rw [←eo];refine Ce (⟨i+1,_,_,_⟩:AwS) (by show i+1≤x.Al.length;omega) (by show x.Al.length - (i+1) < x.Al.length - i;omega)):p:=h
theorem CG{p:Prop}(h:p:=by exact ⟨by omega,fun e=>by rw [e] at this;exact absurd this.1 (by decide)⟩):p:=h
theorem DC{p:Prop}(h:p:=by refine go ?_;intros;rw [hop];refine ret (z.a,z.c,z.F) trivial rfl):p:=h
theorem ED{p:Prop}(h:p:=by refine Ce (k+1) hk3 (by omega)):p:=h
theorem GK{p:Prop}(h:p:=by obtain ⟨v1,v2,v3,v4,v5,v6,v7,F1,F2,F3,F4,F5,F6,F7,rfl,s1,s2,h1,h2,h3,h4,h5,h6,h7,rfl⟩:=h;exact ⟨v1,v2,v3,v4,v5,v6,v7,F1,F2,F3,F4,F5,F6,F7,rfl,s1,s2,h1.frame fun b hb=>hF b (by simp [hb]),h2.frame fun b hb=>hF b (by simp [hb]),h3.frame fun b hb=>hF b (by simp [hb]),h4.frame fun b hb=>hF b (by simp [hb]),h5.frame fun b hb=>hF b (by simp [hb]),h6.frame fun b hb=>hF b (by simp [hb]),h7.frame fun b hb=>hF b (by simp [hb]),rfl⟩):p:=h
theorem GM{p:Prop}(h:p:=by exact fun _ _ _ h=>h):p:=h
theorem GO{p:Prop}(h:p:=by simp only [ByteArray.size_append,sz1];omega):p:=h
theorem IW{p:Prop}(h:p:=by rw [hj];exact D7 (Below.refl _ _) _):p:=h
theorem JN{p:Prop}(h:p:=by obtain ⟨v1,v2,v3,v4,v5,v6,v7,F1,F2,F3,F4,F5,F6,F7,rfl,s1,s2,h1,h2,h3,h4,h5,h6,h7,rfl⟩:=h;rfl):p:=h
theorem KE{p:Prop}(h:p:=by have:=run_endLoop (P:=P) hl (by rw [hrec];simp);rw [hrec] at this;exact this):p:=h
theorem KS{p:Prop}(h:p:=by rw [List.take_add_one,List.getElem?_eq_getElem hi,List.map_append];rfl):p:=h
theorem KX{p:Prop}(h:p:=by rw [ByteArray.size_extract];omega):p:=h
theorem LH{p:Prop}(h:p:=by rw [Js];exact Em 1 _ (by omega)):p:=h
end Go.Proofs.YtkblpelckhegbaaGreatDoor
namespace Go.Proofs.YtkblpelckhegbaaGreatDoor

open Go.RowKit
end Go.Proofs.YtkblpelckhegbaaGreatDoor
namespace Go.Proofs.YtkblpelckhegbaaGreatDoor
open Go.RowKit
def Bkc (e:ByteArray):Int:=((e.data.toList.getD 0 0).toNat:Int) - 48
def Bki (i:Nat) (E:List ByteArray):List ByteArray:=(E.filter fun e=>decide (Bkc e=((i:Nat):Int))).map fun e=>e.extract 2 e.size
def EvW (E:List ByteArray):Prop:=∀e∈E,∃i x,1≤i∧i≤7∧e=N3 i x
theorem Bcu {i:Nat} (h:i≤7) (x:ByteArray):N3 i x=bz (UInt8.ofNat (48+i)::32::x.data.toList):=by
 have e:bz (Lib.itoa ((i:Nat):Int))=bz [UInt8.ofNat (48+i)]:=by
  rw [Qw (Int.natCast_nonneg i),Int.natAbs_natCast,Lib.decDigits,dif_pos FJ]
 unfold N3;rw [e,←Yi (_++_),Is,Is];rfl
theorem EvW.app {a b:List ByteArray} (h:EvW a) (h2:EvW b):EvW (a++b):=fun e he=>by
 rcases List.mem_append.1 he with he|he
 ·exact h e he
 ·exact h2 e he
theorem EvW.Vk {i:Nat} (h1:1≤i) (h7:i≤7) (es:List ByteArray):EvW (Vk i es):=fun e he=>by
 obtain ⟨x, -,rfl⟩:=List.mem_map.1 he;exact ⟨i,x,h1,h7,rfl⟩
theorem EvW.nil:EvW []:=fun e he=>by cases he
structure SrI (S:List ByteArray) (f:Int) (w:Aw):Prop where
 h:∃i,i+w.Ao.length=S.length∧w.Ap=Ci f ((i:Nat):Int)∧w.Ao=S.drop i
structure NtJ (S:List ByteArray) (f:Int) (n:Du) (E:List ByteArray):Prop where
 s:SrI S f n.Ab.Aa
 d:∀q∈n.down,∀p∈q,PkI S f p
 r:∀i (h:i < n.Ac.length),RcI S f n.Ac[i] (Bki i E)
 e:EvW E
section
variable {S:List ByteArray} {f:Int} {n:Du} {E:List ByteArray}
theorem SrI.Fv {w:Aw} (h:SrI S f w):Mi w=Ci f ((S.length:Nat):Int):=by
 obtain ⟨i,h1,h2, -⟩:=h.h;unfold Mi;rw [h2,Agj,h1]
theorem SrI.Ap {w:Aw} (h:SrI S f w):∃i,i≤S.length∧w.Ap=Ci f ((i:Nat):Int):=by
 obtain ⟨i,h1,h2, -⟩:=h.h;exact ⟨i,FJ,h2⟩
theorem SrI.Dn {w:Aw} (h:SrI S f w) (hs:1≤w.size):SrI S f (Dn w):=by
 obtain ⟨i,h1,h2,h3⟩:=h.h;unfold Go.Proofs.YtkblpelckhegbaaGreatDoor.Dn
 split
 ·rename_i e;refine ⟨i+1,?_,?_,?_⟩
  ·show i+1+(w.Ao.drop 1).length=_;rw [List.length_drop];omega
  ·show Ci w.Ap 1=_;rw [h2,show Ci (Ci f (i:Nat)) 1=Ci (Ci f (i:Nat)) ((1:Nat):Int) from rfl,Agj]
  ·show w.Ao.drop 1=_;rw [h3,List.drop_drop]
 ·exact h
theorem SrI.push {w:Aw} (h:SrI S f w) (hs:1≤w.size) (t:ByteArray):SrI (S++[t]) f (Di w t):=by
 obtain ⟨i,h1,h2,h3⟩:=(h.Dn hs).h;refine ⟨i,?_,h2,?_⟩
 ·show i+((Go.Proofs.YtkblpelckhegbaaGreatDoor.Dn w).Ao++[t]).length=_;rw [List.length_append,List.length_append,List.length_singleton];omega
 ·show (Go.Proofs.YtkblpelckhegbaaGreatDoor.Dn w).Ao++[t]=_;rw [h3,List.drop_append_of_le_length FJ]
theorem NtJ.mono {S2:List ByteArray} (h:NtJ S f n E) (hs:SrI (S++S2) f n.Ab.Aa):NtJ (S++S2) f n E:=⟨hs,fun q hq p hp=>(h.d q hq p hp).mono,fun i hi=>(h.r i hi).mono,h.e⟩
theorem Az1 {P:NE→Prop} (hP:∀(x y:NE) (s:Kq),P x→At x.1=true→Ex s=true→s.Cp≠1→Bo x.1 s=some y→P (y.1,x.2++y.2)) {x:NE} (hg:At x.1=true) (h:P x):P (drE x):=by
 have ht:∀(x:NE) (s:Kq),P x→At x.1=true→Ex s=true→s.Cp≠1→P (Nx x s):=fun x s hx hg hs hk=>by
  cases e:Bo x.1 s with
  | none=>rw [Kc e];exact hx
  | some y=>rw [Z3 e];exact hP x y s hx hg hs hk e
 have hr:∀(x:NE),P x→At x.1=true→∀k,k+1≤x.1.An.Ad.length→P (Ig x k):=fun x hx hg k=>by
  have hn8:=(H9 (A1.1 hg).t).n1
  induction k with
  | zero=>intro _;exact hx
  | succ k ih =>
   intro hk;have f1:=(P7 hg k FJ).1;have hk1:k+1 < (Ig x k).1.An.Ad.length:=by rw [f1.t];omega
   have f2:=(Arl f1.g FJ hk1).1;have p2:=ht _ (Jg (k+1)) (ih FJ) f1.g (Be6 FJ FJ) (by show (2:Int)≠1;decide);exact ht _ (Mz (k+1)) p2 f2.g (Bbl FJ FJ) (by show (5:Int)≠1;decide)
 unfold drE;generalize wN x.1=m
 induction m generalizing x with
 | zero=>exact h
 | succ m ih =>
  unfold Uc
  split
  ·exact h
  ·have h2:=(H9 (A1.1 hg).t).n0;exact ih (Nk hg).1.g (hr x h hg _ FJ)
end
def lgB (b:UInt8):Prop:=(32≤b.toNat∧b.toNat≤126)∧b≠35
instance (b:UInt8):Decidable (lgB b):=by unfold lgB;infer_instance
def Z9 (l:Bs):Prop:=∀b∈l,lgB b
theorem Z9.app {a b:Bs} (h:Z9 a) (k:Z9 b):Z9 (a++b):=fun x hx=>by
 rcases List.mem_append.1 hx with h1|h1
 ·exact h x h1
 ·exact k x h1
theorem Awu {s:ByteArray} (h:R5 s=true):∀c∈s.data.toList,97≤c.toNat∧c.toNat≤122:=by
 unfold R5 Abi low Gj at h;simp only [Bool.and_eq_true,List.all_eq_true,decide_eq_true_eq] at h;exact fun c hc=>by have:=h.2 c hc;omega
def evK (e:ByteArray):Prop:=e=Ap8∨e=Yt∨∃t,R5 t=true∧e=Aip t
def slK (l:List Gh):Prop:=∀s∈l,s.V2=true→R5 s.Dk=true
theorem slK.drop {l:List Gh} (h:slK l) (k:Nat):slK (l.drop k):=fun s hs=>h s (List.mem_of_mem_drop hs)
theorem Ai6 {w:Aj} (h:Cu w=true):slK w.Am:=fun s hs _=>by
 unfold Cu at h;simp only [Bool.and_eq_true] at h;have:=List.all_eq_true.1 h.1.2 s hs;unfold H3 at this;simp only [Bool.and_eq_true] at this;exact this.1
theorem Bbs:∀(l:List Gh) (n:Int),slK l→∀e∈(rel n l).2.2,evK e
 | [],_,_,e,he=>by cases he
 | s::r,n,h,e,he=>by
  unfold rel at he
  split at he
  ·rename_i hs;rcases List.mem_cons.1 he with rfl|he
   ·exact .inr (.inr ⟨_,h s FK hs,rfl⟩)
   ·exact Bbs r _ (fun x hx=>h x JC) e he
  ·cases he
theorem Bah:∀(m:Nat) (w:Aj),slK w.Am→∀e∈Pf m w,evK e
 | 0,_,_,e,he=>by cases he
 | m+1,w,h,e,he=>by
  unfold Pf at he;rcases List.mem_cons.1 he with rfl|he
  ·cases hw:w.Am with
   | nil=>exact .inl rfl
   | cons s r =>
    by_cases hs:s.V2=true
    ·exact .inr (.inr ⟨s.Dk,h s (by rw [hw];simp) hs,by simp [Hb,hs]⟩)
    ·exact .inl (by simp [Hb,hs])
  ·exact Bah m (shW w) (by rw [show (shW w).Am=w.Am.drop 1 by simp [shW]];exact h.drop 1) e he
theorem Au2 {w:Aj} {t:Int} (h:slK w.Am):∀e∈Jm w t,evK e:=fun e he=>by
 unfold Jm at he;rcases List.mem_append.1 he with he|he
 ·exact Bah _ _ h e he
 ·exact Bbs _ _ (by rw [Ue];exact h.drop _) e he
theorem Bji {w:Aj} {n:Int} {t:ByteArray} (h:slK w.Am) (ht:R5 t=true):slK (Aab w n t).Am:=fun s hs hv=>by
 unfold Aab M3 at hs;rcases List.mem_or_eq_of_mem_set hs with hs|rfl
 ·unfold Na at hs;rcases List.mem_append.1 hs with hs|hs
  ·exact h s hs hv
  ·rw [(List.mem_replicate.1 hs).2] at hv;cases hv
 ·exact ht
theorem Bhg {r:Az} {p:Ar} (hg:Mv r) (hp:Bw p=true):∀e∈Iv r p,evK e:=fun e he=>by
 unfold Iv at he
 split at he
 ·unfold Ni at he;have hs:=Ai6 (Rt hg hp).1;have hd:R5 p.data=true:=by have h:=hp;unfold Bw at h;simp only [Bool.and_eq_true] at h;exact h.1.1.2
  rcases List.mem_append.1 he with he|he
  ·unfold Lm Mo at he
   split at he
   ·cases he
   ·split at he
    ·cases he
    ·exact Bbs _ _ (Bji hs hd) e he
  ·unfold Pw at he
   split at he
   ·split at he
    ·exact Au2 (Ai6 (Us hg hp).1) e he
    ·rw [List.mem_singleton] at he;exact .inr (.inl he)
   ·cases he
 ·cases he
theorem Bh6 {r:Az} (hg:Mv r):∀e∈H8 r,evK e:=fun e he=>by
 unfold H8 at he
 split at he
 ·cases he
 ·exact Au2 (Ai6 hg.w) e he
def evN (e:ByteArray):Prop:=∃i x,i≤7∧evK x∧e=N3 i x
theorem Bcv {i:Nat} (h:i≤7) {es:List ByteArray} (he:∀e∈es,evK e):∀e∈Vk i es,evN e:=fun e hm=>by
 obtain ⟨x,hx,rfl⟩:=List.mem_map.1 hm;exact ⟨i,x,h,he x hx,rfl⟩
theorem Bcy {n:Du} (hg:At n=true) (hc:n.Ab.Ai < 9999):∀k,k+1≤n.An.Ad.length→∀e∈(Bg n k).2,evN e
 | 0,_,e,he=>by cases he
 | k+1,hk,e,he=>by
  obtain ⟨hG,ht, -⟩:=Qn hg hc k FJ;have hn8:=(H9 hG.t).n1;have hi:k+1 < (Bg n k).1.An.Ad.length:=by rw [ht];omega
  obtain ⟨g1,g2,g3,g4,r⟩:=hG.rn hi;rcases List.mem_append.1 (show e∈(Bg n k).2++(Oi (Bg n k).1 (k+1)).2 from he) with he|he
  ·exact Bcy hg hc k FJ e he
  ·unfold Oi at he;cases hl:Eu (Bg n k).1.An.Ad ((k+1:Nat):Int)
   ·rw [hl,if_neg FM] at he;cases he
   ·rw [hl,if_pos rfl,Hv g2] at he;exact Bcv FJ (Bh6 (Eb.1 (r.hf FJ hl).2.1)) e he
theorem Atv {n:Du} {s:Kq} {y:NE} (hg:At n=true) (hs:Ex s=true) (e:Bo n s=some y):∀z∈y.2,evN z:=by
 have hG:=A1.1 hg;unfold Bo at e
 split at e
 ·cases e;exact fun z hz=>by cases hz
 ·rename_i h1
  split at e
  ·split at e
   ·cases e
   ·cases e;have:=Zc hG.s;exact Bcy hg FJ _ (by have:=(H9 hG.t).n0;omega)
  ·rename_i h4;unfold Ex at hs;rw [if_neg h1,if_neg h4] at hs;simp only [Bool.and_eq_true] at hs;have hf:=O9.1 hs.1.2;have hpg:=Ml (s:=s) hg;have hq:=Nb (s:=s) hg;have htl:(Hn n s).An=n.An:=KO
   unfold C6 at e
   split at e
   ·cases e
   ·rename_i hb
    split at e
    ·cases e
    ·rename_i h2;have hpk:=N7 hq.1 (Pt (q:=Vj n s) FJ)
     split at e
     ·cases e;have hi:s.node.toNat < (Hn n s).An.Ad.length:=by rw [htl];omega
      obtain ⟨i1,i2,i3,i4,hrn⟩:=(A1.1 hpg).rn hi;unfold C7;cases hl:Eu (Hn n s).An.Ad ((s.node.toNat:Nat):Int)
      ·rw [if_neg FM];exact fun z hz=>by cases hz
      ·rw [if_pos rfl,Hv i2];exact Bcv FJ (Bhg (Eb.1 (hrn.hf FJ hl).2.1) hpk)
     ·split at e
      ·cases e;exact fun z hz=>by cases hz
      ·cases e;exact fun z hz=>by cases hz
theorem Bg6 {n:Du} (hg:At n=true):∀z∈(Ri n).2,evN z :=
 Az1 (P:=fun x=>∀z∈x.2,evN z) (fun x y s hx hgx hs _ e z hz=>by
  rcases List.mem_append.1 hz with hz|hz
  ·exact hx z hz
  ·exact Atv hgx hs e z hz) (x:=(n,[])) hg fun z hz=>by cases hz
theorem Awa {e:ByteArray} (h:evK e):Z9 e.data.toList∧e.size≤9:=by
 rcases h with rfl|rfl|⟨t,ht,rfl⟩
 ·exact ⟨fun b hb=>by rw [List.mem_singleton.1 (show b∈[45] from hb)];decide,FM⟩
 ·exact ⟨fun b hb=>by rw [List.mem_singleton.1 (show b∈[33] from hb)];decide,FM⟩
 ·have h8:=Wa ht;refine ⟨?_,by unfold Aip;rw [ByteArray.size_append];show 1+_≤9;omega⟩;unfold Aip;rw [Is];refine Z9.app (fun b hb=>by rw [List.mem_singleton.1 (show b∈[43] from hb)];decide) fun b hb=>?_;have:=Awu ht b hb;exact CG
theorem Zm {e:ByteArray} (h:evN e):Z9 e.data.toList∧e.size≤11:=by
 obtain ⟨i,x,hi,hx,rfl⟩:=h;obtain ⟨h1,h2⟩:=Awa hx;rw [Bcu hi,Kr,Ka];refine ⟨fun b hb=>?_,by simp only [List.length_cons,C0];omega⟩;rcases List.mem_cons.1 hb with rfl|hb
 ·have e:(UInt8.ofNat (48+i)).toNat=48+i:=by rw [UInt8.toNat_ofNat'];omega
  exact ⟨FJ,fun h=>by have:=congrArg UInt8.toNat h;rw [e] at this;have:(35:UInt8).toNat=35:=rfl;omega⟩
 ·rcases List.mem_cons.1 hb with rfl|hb
  ·decide
  ·exact h1 b hb
structure Log where
 C2:ByteArray
 pending:ByteArray
 count:Int
def Aoi:Br Log where
 sz:=3
 Ky _ cs x F:=cs=[.string x.C2,.string x.pending,.int .i64 x.count]∧x.C2.size≤maxLen∧x.pending.size≤maxLen∧F=[]
 len h:=by obtain ⟨rfl,s1,s2,rfl⟩:=h;rfl
 lt h:=by obtain ⟨rfl,s1,s2,rfl⟩:=h;simp
 frame h _:=h
def Af5 (x:Log):Nat:=x.C2.size+x.pending.size
theorem Bfq (v:Value) (x:Log) (F:List Nat) (n:Int) (w:World) (h:Jy Aoi w v x F) (h0:0≤n) (h1:n≤1048576) :
  Calls prog 12 #[v,.int .i64 n] w (RB (.int .i64 (Ze n (Af5 x))) w):=by
 obtain ⟨_,rfl,rfl,s1,s2,rfl⟩:=h;have hB0:∀A:Obj,Below w.heap.size w (w.alloc A):=fun A=>(Below.refl _ _).alloc (Nat.le_refl _) _;unfold maxLen at s1 s2;unfold Af5
 go_enter func12,ntmps12
 go_wp2
 all_goals go_ret
 all_goals exact ⟨If HV,hB0 _⟩
theorem Bfx (v:Value) (x:Log) (F:List Nat) (w:World) (h:Jy Aoi w v x F) (hl:Af5 x≤1048576) :
  Calls prog 19 #[v] w (Wt Aoi x w):=by
 obtain ⟨_,rfl,rfl,s1,s2,rfl⟩:=h;have hB0:∀A B C:Obj,Below w.heap.size w (((w.alloc A).alloc B).alloc C):=fun A B C=>(((Below.refl _ _).alloc (Nat.le_refl _) _).alloc FK _).alloc GF _
 go_enter func19,ntmps19
 go_wp2_with fail;refine bodyPost_ret (v:=.agg #[.string x.C2,.string x.pending,.int .i64 x.count]) ?_ rfl ?_
 ·simp [results,results19,go_sem]
 ·exact ⟨_,[],rfl,⟨_,rfl,rfl,s1,s2,rfl⟩,FK,FK,GB⟩
theorem Bea (va vb:Value) (x:Log) (Fa Fb:List Nat) (w:World) (ha:Jy Aoi w va x Fa) (hb:Jy Aoi w vb x Fb) :
  Calls prog 24 #[va,vb] w (RB (.bool true) w):=by
 obtain ⟨_,rfl,rfl,s1,s2,rfl⟩:=ha;obtain ⟨_,rfl,rfl,t1,t2,rfl⟩:=hb;have hB0:∀A B:Obj,Below w.heap.size w ((w.alloc A).alloc B):=fun A B=>((Below.refl _ _).alloc (Nat.le_refl _) _).alloc FK _;have hE:∀z:Int,(z != z)=false:=fun z=>by simp
 go_enter func24,ntmps24
 go_wp2_with fail
 go_ret
 exact ⟨rfl,hB0 _ _⟩
structure Cs where
 Bl:Du
 Lq:Log
def Df:Br Cs where
 sz:=14
 Ky w cs x F:=∃v1 v2 v3 v4 v5 v6 v7 F1 F2 F3 F4 F5 F6 F7,cs=[v1,.int .i64 x.Bl.Ab.Aa.Ap,.int .i64 x.Bl.Ab.Aa.size,v2,.int .i64 x.Bl.Ab.Ai,.int .i64 x.Bl.Ab.quiet,v3,v4,v5,v6,v7,.string x.Lq.C2,.string x.Lq.pending,.int .i64 x.Lq.count]∧x.Lq.C2.size≤maxLen∧x.Lq.pending.size≤maxLen∧Sl Bb w v1 x.Bl.An.Ad F1∧Sl A8 w v2 x.Bl.Ab.Aa.Ao F2∧Sl Bn w v3 x.Bl.Ab.holds F3∧Sl Bk w v4 x.Bl.Af F4∧Sl Bi w v5 x.Bl.Ac F5∧Sl (Mr Ak FM) w v6 x.Bl.down F6∧Sl (Mr Ak FM) w v7 x.Bl.up F7∧F=F1++F2++F3++F4++F5++F6++F7
 len h:=JN
 lt h:=by
  obtain ⟨v1,v2,v3,v4,v5,v6,v7,F1,F2,F3,F4,F5,F6,F7,rfl,s1,s2,h1,h2,h3,h4,h5,h6,h7,rfl⟩:=h;intro b hb;simp only [List.mem_append] at hb;rcases hb with (((((hb|hb)|hb)|hb)|hb)|hb)|hb
  ·exact h1.lt FM b hb
  ·exact h2.lt FM b hb
  ·exact h3.lt FM b hb
  ·exact h4.lt FM b hb
  ·exact h5.lt FM b hb
  ·exact h6.lt FM b hb
  ·exact h7.lt FM b hb
 frame h hF:=GK
theorem Acu:Yf Df:=fun h u hu=>by
 obtain ⟨v1,v2,v3,v4,v5,v6,v7,F1,F2,F3,F4,F5,F6,F7,rfl,s1,s2,h1,h2,h3,h4,h5,h6,h7,rfl⟩:=h;simp only [List.mem_cons,List.not_mem_nil,or_false] at hu;rcases hu with rfl|rfl|rfl|rfl|rfl|rfl|rfl|rfl|rfl|rfl|rfl|rfl|rfl|rfl
 ·exact h1.one
 ·rfl
 ·rfl
 ·exact h2.one
 ·rfl
 ·rfl
 ·exact h3.one
 ·exact h4.one
 ·exact h5.one
 ·exact h6.one
 ·exact h7.one
 ·rfl
 ·rfl
 ·rfl
def Md:Br Cs where
 sz:=14
 Ky w cs x F:=∃v1 v2 v3 v4 v5 v6 v7 F1 F2 F3 F4 F5 F6 F7,cs=[v1,.int .i64 x.Bl.Ab.Aa.Ap,.int .i64 x.Bl.Ab.Aa.size,v2,.int .i64 x.Bl.Ab.Ai,.int .i64 x.Bl.Ab.quiet,v3,v4,v5,v6,v7,.string x.Lq.C2,.string x.Lq.pending,.int .i64 x.Lq.count]∧x.Lq.C2.size≤maxLen∧x.Lq.pending.size≤maxLen∧Ow Bb 3 w v1 x.Bl.An.Ad F1∧Ow A8 9 w v2 x.Bl.Ab.Aa.Ao F2∧Ow Bn 215 w v3 x.Bl.Ab.holds F3∧Ow Ca 133 w v4 x.Bl.Af F4∧Ow By 140 w v5 x.Bl.Ac F5∧Ow (Kx Ak 223) 142 w v6 x.Bl.down F6∧Ow (Kx Ak 223) 142 w v7 x.Bl.up F7∧F=F1++F2++F3++F4++F5++F6++F7
 len h:=JN
 lt h:=by
  obtain ⟨v1,v2,v3,v4,v5,v6,v7,F1,F2,F3,F4,F5,F6,F7,rfl,s1,s2,h1,h2,h3,h4,h5,h6,h7,rfl⟩:=h;intro b hb;simp only [List.mem_append] at hb;rcases hb with (((((hb|hb)|hb)|hb)|hb)|hb)|hb
  ·exact h1.lt b hb
  ·exact h2.lt b hb
  ·exact h3.lt b hb
  ·exact h4.lt b hb
  ·exact h5.lt b hb
  ·exact h6.lt b hb
  ·exact h7.lt b hb
 frame h hF:=GK
theorem Xg:Yf Md:=fun h u hu=>by
 obtain ⟨v1,v2,v3,v4,v5,v6,v7,F1,F2,F3,F4,F5,F6,F7,rfl,s1,s2,h1,h2,h3,h4,h5,h6,h7,rfl⟩:=h;simp only [List.mem_cons,List.not_mem_nil,or_false] at hu;rcases hu with rfl|rfl|rfl|rfl|rfl|rfl|rfl|rfl|rfl|rfl|rfl|rfl|rfl|rfl
 ·exact h1.one
 ·rfl
 ·rfl
 ·exact h2.one
 ·rfl
 ·rfl
 ·exact h3.one
 ·exact h4.one
 ·exact h5.one
 ·exact h6.one
 ·exact h7.one
 ·rfl
 ·rfl
 ·rfl
theorem Jv:Ng Md Df:=⟨rfl,fun h=>by
 obtain ⟨v1,v2,v3,v4,v5,v6,v7,F1,F2,F3,F4,F5,F6,F7,rfl,s1,s2,h1,h2,h3,h4,h5,h6,h7,rfl⟩:=h;obtain ⟨G1,g1,k1⟩:=h1.sl (Ng.refl _);obtain ⟨G2,g2,k2⟩:=h2.sl (Ng.refl _);obtain ⟨G3,g3,k3⟩:=h3.sl (Ng.refl _);obtain ⟨G4,g4,k4⟩:=h4.sl Mq;obtain ⟨G5,g5,k5⟩:=h5.sl Sf;obtain ⟨G6,g6,k6⟩:=h6.sl (Q3 (Ng.refl _) FM _);obtain ⟨G7,g7,k7⟩:=h7.sl (Q3 (Ng.refl _) FM _);refine ⟨G1++G2++G3++G4++G5++G6++G7,?_,v1,v2,v3,v4,v5,v6,v7,G1,G2,G3,G4,G5,G6,G7,rfl,s1,s2,k1,k2,k3,k4,k5,k6,k7,rfl⟩;intro b hb;simp only [List.mem_append] at hb ⊢;rcases hb with (((((hb|hb)|hb)|hb)|hb)|hb)|hb
 ·simp [g1 b hb]
 ·simp [g2 b hb]
 ·simp [g3 b hb]
 ·simp [g4 b hb]
 ·simp [g5 b hb]
 ·simp [g6 b hb]
 ·simp [g7 b hb]⟩
def N9 (x:Cs):Nat:=Zj x.Bl+Af5 x.Lq
def Ja (x:Cs):Nat:=Vy x.Bl
def Ma (k:Int) (x:Cs):Cs:=⟨U5 (k) x.Bl,x.Lq⟩
theorem Ab5 (x:Cs) (h:N9 x≤1048576):Ja x≤4294967296:=by
 have h0:=Og El (fun _=>0) 1 (fun x=>by simp [El]) x.Bl.An.Ad;have h1:=Og Oo ByteArray.size 1 (fun x=>by simp [Oo]) x.Bl.Ab.Aa.Ao;have h2:=Og Hl (fun _=>0) 2 Ar5 x.Bl.Ab.holds;have h3:=Og Cg E9 2 Aj0 x.Bl.Af;have h4:=Og Cf Gg 4 Ahe x.Bl.Ac;have h5:=Og (B8 Bd) (Kn Ej) 5 (fun x=>by have:=Og Bd Ej 5 Ab3 x;omega) x.Bl.down;have h6:=Og (B8 Bd) (Kn Ej) 5 (fun x=>by have:=Og Bd Ej 5 Ab3 x;omega) x.Bl.up;simp only [N9,Oe,Jw,Ko,Zj,Af5,Ja,I2,E6,Gk,Vy] at h ⊢;omega
-- markConsole: a nested struct with several slices is not written here
def Ac7 (s:Gh):ByteArray:=if s.V2 then (if s.Dk=⟨#[]⟩ then ⟨#[46]⟩ else s.Dk) else ⟨#[63]⟩
def slT (x:Aj) (k:Nat):ByteArray:=(x.Am.take k).foldl (fun a s=>a++(⟨#[32]⟩++Ac7 s)) (bz (Lib.decDigits x.next.toNat)++⟨#[58]⟩)
def Aap (x:Aj):ByteArray:=slT x x.Am.length
theorem Ac4 {x:Aj} {k:Nat} (hk:k < x.Am.length):slT x (k+1)=slT x k++(⟨#[32]⟩++Ac7 x.Am[k]):=by
 unfold slT;rw [←List.take_append_getElem hk,List.foldl_append];rfl
theorem Bgo {x:Aj} {k:Nat} (hk:k < x.Am.length) (h:x.Am[k].V2=false):slT x k++⟨#[32,63]⟩=slT x (k+1):=by
 rw [Ac4 hk,Ac7,h];rfl
theorem Bgn {x:Aj} {k:Nat} (hk:k < x.Am.length) (h:x.Am[k].V2=true) (h2:x.Am[k].Dk=⟨#[]⟩):slT x k++⟨#[32,46]⟩=slT x (k+1):=by
 rw [Ac4 hk,Ac7,h,if_pos rfl,if_pos h2];rfl
theorem Bgp {x:Aj} {k:Nat} (hk:k < x.Am.length) (h:x.Am[k].V2=true) (h2:¬x.Am[k].Dk=⟨#[]⟩):slT x k++(⟨#[32]⟩++x.Am[k].Dk)=slT x (k+1):=by
 rw [Ac4 hk,Ac7,h,if_pos rfl,if_neg h2]
theorem Atw {s:Gh} (h:s.Dk.size≤8):(Ac7 s).size≤8:=by
 unfold Ac7;split
 ·split
  ·decide
  ·exact h
 ·decide
theorem Ac3 {x:Aj} (hg:Cu x=true):∀k,(slT x k).size≤6+9 * k
 | 0=>by
  obtain ⟨n0,n1,hl,hit⟩:=Tm hg;unfold slT;rw [List.take_zero,List.foldl_nil,ByteArray.size_append,Ka];have:=Em 4 x.next.toNat FJ
  have:(⟨#[58]⟩:ByteArray).size=1:=rfl;omega
 | k+1=>by
  have ih:=Ac3 hg k;obtain ⟨n0,n1,hl,hit⟩:=Tm hg;by_cases hk:k < x.Am.length
  ·rw [Ac4 hk,ByteArray.size_append,ByteArray.size_append];have:=Atw (hit _ (List.getElem_mem hk));have:(⟨#[32]⟩:ByteArray).size=1:=rfl;omega
  ·have e:slT x (k+1)=slT x k:=by unfold slT;rw [List.take_of_length_le FJ,List.take_of_length_le FJ]
   rw [e];omega
theorem Aqz (x:Aj) (v:Value) (F FT:List Nat) (hg:Cu x=true):FV 220 [v] [.isv Bh v x F,Hp FT] (.string (Aap x)):=by
 obtain ⟨n0,n1,hl,hit⟩:=Tm hg;have hzd:(bz (Lib.decDigits x.next.toNat)).size≤5:=by rw [Ka];exact Em 4 _ FJ
 have z58:(⟨#[58]⟩:ByteArray).size=1:=rfl;refine enter func220 rfl ntmps220 fun w0=>?_;refine Cd ?_;rintro a1 c1 F1 rfl l1;unfold maxLen at l1;refine go ?_;intros;refine cb (fun w st=>Abb x.next FJ FJ FT w (st.get (p:=Hp FT) FK)) ?_;rw [show Lib.itoa x.next=Lib.decDigits x.next.toNat by unfold Lib.itoa;rw [if_neg FJ]];refine go ?_;refine D8 [2,11,12] (fun k:Nat=>[(3,.string (slT x k)),(13,.int .i64 k)]) (fun k=>k≤x.Am.length) (fun k=>x.Am.length - k) 0 (Nat.zero_le _) fun k hk=>?_;have hz:=Ac3 hg k;have z2:(⟨#[32,63]⟩:ByteArray).size=2:=rfl
 have z3:(⟨#[32,46]⟩:ByteArray).size=2:=rfl;have z1:(⟨#[32]⟩:ByteArray).size=1:=rfl;refine go ?_;refine Ax rfl (fun h=>?_) (fun h=>?_)
 ·have hk3:k < x.Am.length:=FJ
  have hs8:=hit _ (List.getElem_mem hk3);refine P4 (xs:=x.Am) k ?_;rintro hi b o e s1;rw [e];refine go ?_;intros;cases g2:x.Am[k].V2
  ·refine go ?_;rw [Bgo hk3 g2];exact ED
  ·
   refine go ?_;by_cases g3:x.Am[k].Dk=⟨#[]⟩
   ·rw [decide_eq_true g3];refine go ?_;rw [Bgn hk3 g2 g3];exact ED
   ·rw [decide_eq_false g3];have z9:=ByteArray.size_append (a:=⟨#[32]⟩) (b:=x.Am[k].Dk);refine go ?_;rw [Bgp hk3 g2 g3];exact ED
 ·obtain rfl:k=x.Am.length:=FJ
  refine go ?_;refine ret () trivial ?_;unfold Aap;rfl
theorem Aw0 (x:Aj) (v:Value) (F FT:List Nat) (hg:Cu x=true):FV 172 [v] [.isv Bh v x F,Hp FT] (.string (Aap x)):=by
 obtain ⟨n0,n1,hl,hit⟩:=Tm hg;have hzd:(bz (Lib.decDigits x.next.toNat)).size≤5:=by rw [Ka];exact Em 4 _ FJ
 have z58:(⟨#[58]⟩:ByteArray).size=1:=rfl;refine enter func172 rfl ntmps172 fun w0=>?_;refine Cd ?_;rintro a1 c1 F1 rfl l1;unfold maxLen at l1;refine go ?_;intros;refine cb (fun w st=>(by rw [show x.next=((x.next.toNat:Nat):Int) by omega];exact Bgj _ FJ w)) ?_;refine go ?_;refine D8 [1,2] (fun k:Nat=>[(3,.string (slT x k)),(4,.int .i64 k)]) (fun k=>k≤x.Am.length) (fun k=>x.Am.length - k) 0 (Nat.zero_le _) fun k hk=>?_;have hz:=Ac3 hg k;have z2:(⟨#[32,63]⟩:ByteArray).size=2:=rfl;have z3:(⟨#[32,46]⟩:ByteArray).size=2:=rfl;have z1:(⟨#[32]⟩:ByteArray).size=1:=rfl;refine go ?_
 refine Ax rfl (fun h=>?_) (fun h=>?_)
 ·have hk3:k < x.Am.length:=FJ
  have hs8:=hit _ (List.getElem_mem hk3);refine P4 (xs:=x.Am) k ?_;rintro hi b o e s1;rw [e];refine go ?_;cases g2:x.Am[k].V2
  ·refine go ?_;rw [Bgo hk3 g2];exact ED
  ·
   refine go ?_;by_cases g3:x.Am[k].Dk=⟨#[]⟩
   ·rw [decide_eq_true g3];refine go ?_;rw [Bgn hk3 g2 g3];exact ED
   ·rw [decide_eq_false g3];have z9:=ByteArray.size_append (a:=slT x k) (b:=⟨#[32]⟩);refine go ?_;rw [ByteArray.append_assoc,Bgp hk3 g2 g3];exact ED
 ·obtain rfl:k=x.Am.length:=FJ
  refine go ?_;refine ret () trivial ?_;unfold Aap;rfl
theorem Awv (xs:List Bs) (x sep:Bs) (h:0 < xs.length):Lib.join (xs++[x]) sep=Lib.join xs sep++(sep++x):=by
 cases xs with
 | nil=>cases h
 | cons a r =>
  rw [List.cons_append,Lib.join_cons,Lib.join_cons];unfold Lib.joinTail;simp
theorem Acm {sep:Bs} {m:Nat}:∀{xs:List Bs},(∀x∈xs,x.length≤m)→(Lib.joinTail sep xs).length≤(sep.length+m) * xs.length
 | [],_=>by unfold Lib.joinTail;simp
 | x::r,h=>by
  have ih:=Acm (sep:=sep) (m:=m) (xs:=r) fun y hy=>h y LK;have hx:=h x FK;unfold Lib.joinTail at ih ⊢;simp only [List.map_cons,List.flatten_cons,List.length_append,List.length_cons] at ih ⊢;rw [Nat.mul_add];omega
theorem Apr {sep:Bs} {m:Nat} {xs:List Bs} (h:∀x∈xs,x.length≤m):(Lib.join xs sep).length≤(sep.length+m) * xs.length:=by
 cases xs with
 | nil=>simp [Lib.join]
 | cons a r =>
  have hr:=Acm (sep:=sep) (m:=m) (xs:=r) fun y hy=>h y LK;have ha:=h a FK;rw [Lib.join_cons,List.length_append,List.length_cons,Nat.mul_add];omega
def jn (l:List Int):Bs:=Lib.join (l.map Lib.itoa) [32]
theorem Bhk {l:List Int} {k:Nat} (h:∀x∈l,0≤x∧x.natAbs < 10 ^ (k+1)):(jn l).length≤(k+2) * l.length:=by
 have:=Apr (sep:=[32]) (m:=k+1) (xs:=l.map Lib.itoa) fun y hy=>by
  obtain ⟨x,hx,rfl⟩:=List.mem_map.1 hy;rw [Qw (h x hx).1];exact Em k _ (h x hx).2
 unfold jn;rw [List.length_map] at this;simp only [List.length_cons,List.length_nil] at this;rw [show (k+2)=(0+1+(k+1)) by omega];exact this
def slB (r:Az):ByteArray:=if r.Be then Aap r.Aa else ⟨#[45]⟩
def Bgi (r:Az) (f:Int):ByteArray:=bz (Lib.itoa f)++⟨#[32]⟩++slB r++⟨#[10]⟩
theorem Be3 {n:Du} (hg:At n=true) {i:Nat} (hi:i < n.Ac.length):Bx n.Ac[i]=true:=by
 obtain ⟨-, -,hl,ha⟩:=U2.1 hg;obtain ⟨q1,q2,q3,q4⟩:=Bm.1 hl;have h:=ha i FJ;rw [Vw FJ hi FJ FJ,←Aer] at h;unfold Ai0 at h;simp only [Bool.and_eq_true] at h;exact h.1.1.1.2
theorem Bht {r:Az} (hg:Bx r=true) (hs:r.Be=true):Cu r.Aa=true:=by
 unfold Bx at hg;rw [hs] at hg;simp only [Bool.and_eq_true,if_true] at hg;exact hg.2.1.1
theorem Bce {r:Az} (hg:Bx r=true):(slB r).size≤100:=by
 unfold slB
 split
 ·rename_i hs;have h:=Bht hg hs;obtain ⟨-, -,hl, -⟩:=Tm h;have:=Ac3 h r.Aa.Am.length;unfold Aap;omega
 ·decide
theorem Bel {n:Int} {k:Nat} (h0:0≤n) (h1:n.natAbs < 10 ^ (k+1)):(bz (Lib.itoa n)).size≤k+1:=by rw [Ka,Qw h0];exact Em k _ h1
theorem Alu {c:Cs} (hn:At c.Bl=true) {i:Nat} (hi:i < c.Bl.Ac.length) (h8:i < 8):(Bgi c.Bl.Ac[i] ((i:Nat):Int)).size≤103:=by
 have e1:(bz (Lib.itoa ((i:Nat):Int))).size≤1:=Bel (k:=0) FJ (by show _ < 10;omega);have e2:=Bce (Be3 hn hi);have e3:(⟨#[32]⟩:ByteArray).size=1:=rfl;have e4:(⟨#[10]⟩:ByteArray).size=1:=rfl;unfold Bgi;simp only [ByteArray.size_append];omega
section
variable {c:Cx} {fr:Fr} {H:List Pc} {Φ:Gl}
theorem Ab2 (x:Log) (s1:x.C2.size≤maxLen) (s2:x.pending.size≤maxLen) (h:T c fr (.isv Aoi (.agg #[.string x.C2,.string x.pending,.int .i64 x.count]) x ([])::H) Φ)  : T c fr H Φ:=.mk fun a w s g=>by
 refine h.h a w (s.add (N:=[_]) (Below.refl _ _) (by intro q hq;obtain rfl:=List.mem_singleton.1 hq;exact ⟨_,rfl,rfl,s1,s2,rfl⟩) ⟨FK,trivial⟩ fun q hq b hb=>?_) g;obtain rfl:=List.mem_singleton.1 hq;simp [Pc.F] at hb
end
end Go.Proofs.YtkblpelckhegbaaGreatDoor
namespace Go.Proofs.YtkblpelckhegbaaGreatDoor.Lg
open Go.RowKit
theorem Ad4 (c:UInt8):∀l:List UInt8,decide (0≤Lib.indexByte l c)=Kj c l:=by
 intro l;have h1:∀l:List UInt8, -1≤Lib.indexByte l c:=by
  intro l
  induction l with
  | nil=>simp [Lib.indexByte]
  | cons b l ih=>simp only [Lib.indexByte];split <;> (try split) <;> omega
 have h2:∀l:List UInt8,(0≤Lib.indexByte l c)↔Kj c l=true:=by
  intro l
  induction l with
  | nil=>simp [Lib.indexByte,Kj]
  | cons b l ih =>
   have h2:=h1 l;rw [show Kj c (b::l)=(b == c || Kj c l) from rfl,Bool.or_eq_true,←ih];simp only [Lib.indexByte];by_cases hb:(b == c)=true
   ·simp [hb]
   ·rw [if_neg hb];simp only [hb]
    split
    ·rename_i h3;simp at h3;simp [h3]
    ·rename_i h3;simp at h3;omega
 rw [Bool.eq_iff_iff,decide_eq_true_iff];exact h2 l
theorem Ahf (s:ByteArray) (c:UInt8) (w:World):Calls prog 116 #[.string s,.string ⟨#[c]⟩] w fun e w'=>e=.returned (.bool (Kj c s.data.toList))∧w=w' :=
 (Tryz.strings_Contains_one s c w).mono fun _ _ ⟨he,hw⟩=>⟨by rw [he,Ad4],hw.symm⟩
def Bx (c r:ByteArray):Bool:=Gj 1 c.size 160 && decide ((r.size:Int)≤200) && I7 c.data.toList && I7 r.data.toList && !Kj 64 c.data.toList
theorem Xz (c r:ByteArray) (w:World) (hc:c.size≤maxLen) (hr:r.size≤maxLen) :
  Calls prog 52 #[.agg #[.string c,.string r]] w (RB (.bool (Bx c r)) w):=by
 go_enter func52,ntmps52
 go_wp2_with (first
  | (go_at_call 114;refine (Ik _ _ _ _).mono ?_;rintro e w' ⟨rfl,rfl⟩)
  | (go_at_call 115;refine (Apo _ _ GI).mono ?_;rintro e w' ⟨rfl,rfl⟩)
  | (go_at_call 116;refine (Ahf _ _ _).mono ?_;rintro e w' ⟨rfl,rfl⟩))
 all_goals go_ret
 all_goals refine ⟨Cm ?_,(Below.refl _ _).alloc (Nat.le_refl _) _⟩
 all_goals simp [Bx, *]
 all_goals omega
theorem Asp (c r:ByteArray):Bx c r=(!c.data.toList.isEmpty && (I7 c.data.toList && decide ((c.size:Int)≤160)) && !Kj 64 c.data.toList && (I7 r.data.toList && decide ((r.size:Int)≤200))):=by
 have h0:(!c.data.toList.isEmpty)=decide ((1:Int)≤c.size):=by
  have e:c.data.toList.length=c.size:=FK
  cases h:c.data.toList with
  | nil=>rw [h] at e;simp at e;simp [←e]
  | cons b l=>rw [h] at e;simp at e;simp;omega
 rw [h0,Bx,Gj];cases decide ((1:Int)≤c.size) <;> cases decide ((c.size:Int)≤160) <;> cases decide ((r.size:Int)≤200) <;> cases I7 c.data.toList <;> cases I7 r.data.toList <;> simp
theorem Zr (c r:ByteArray) (w:World) (hc:c.size≤maxLen) (hr:r.size≤maxLen) :
  Calls prog 15 #[.agg #[.string c,.string r]] w (RB (.bool (Bx c r)) w):=by
 go_enter func15,ntmps15
 go_wp2_with (first
  | (go_at_call 35;refine (As2 _ _ _ GI).mono ?_;rintro e w' ⟨rfl,rfl⟩)
  | (go_at_call 36;refine (As1 _ 64 _ GI).mono ?_;rintro e w' ⟨rfl,rfl⟩))
 all_goals go_ret
 all_goals refine ⟨Cm ?_,(Below.refl _ _).alloc (Nat.le_refl _) _⟩
 all_goals simp only [ByteArray.toList_eq] at *
 all_goals rw [Asp]
 ·have h:c.data.toList=[]:=GI
  simp [h]
 ·have h:Kj 64 c.data.toList=true:=GI
  simp [h]
 ·have h1:¬c.data.toList=[]:=GI
  have h2:I7 c.data.toList=true∧(c.size:Int)≤160:=GI
  have h3:¬Kj 64 c.data.toList=true:=GI
  simp [h2,h3, -List.isEmpty_iff,List.isEmpty_eq_false_iff.2 h1]
 ·have h2:¬(I7 c.data.toList=true∧(c.size:Int)≤160):=GI
  have h3:(I7 c.data.toList && decide ((c.size:Int)≤160))=false:=by
   rw [Bool.eq_false_iff];intro h;simp only [Bool.and_eq_true,decide_eq_true_iff] at h;exact h2 h
  rw [h3];simp
def bs (l:Bs):ByteArray:=⟨l.toArray⟩
theorem Jr (l:Bs):(bs l).data.toList=l:=by simp [bs]
theorem Ae8 (s:ByteArray):bs s.data.toList=s:=by simp [bs]
theorem Js (l:Bs):(bs l).size=l.length:=by simp [bs,ByteArray.size]
theorem C0 (s:ByteArray):s.data.toList.length=s.size:=by simp
theorem Is (s t:ByteArray):(s++t).data.toList=s.data.toList++t.data.toList:=by simp [ByteArray.data_append]
theorem Adt (s t:ByteArray):s++t=bs (s.data.toList++t.data.toList):=by rw [←Is,Ae8]
theorem Zw {a b:ByteArray} (h:a=b):Ending.returned (.string a)=.returned (.string b):=by rw [h]
def Adn:Br Unit where
 sz:=0
 Ky w cs _ F:=cs=[]∧Lib.TabIs prog w "internal/strconv.uint64pow10" .u64 Lib.pow10Tab∧F=[1]∧1 < w.heap.size
 len h:=LB
 lt h:=by intro b hb;rw [h.2.2.1] at hb;simp at hb;rw [hb];exact h.2.2.2
 frame h hF:=by
  obtain ⟨h1,h2,rfl,h4⟩:=h;have e:=hF 1 FK;refine ⟨h1,?_,rfl,?_⟩
  ·unfold Lib.TabIs World.var? at h2 ⊢;rw [show prog.globalNamed "internal/strconv.uint64pow10" = some 1 by kernel_rfl] at h2 ⊢;simp only [Option.bind_some] at h2 ⊢;rw [e];exact h2
  ·rw [Array.getElem?_eq_getElem h4] at e;exact (Array.getElem?_eq_some_iff.1 e).1
theorem Adn.tab {w:World} {F:List Nat} (h:Jy Adn w (.agg #[]) () F):Lib.TabIs prog w "internal/strconv.uint64pow10" .u64 Lib.pow10Tab:=by
 obtain ⟨cs,_,h⟩:=h;exact h.2.1
theorem Aa0 (w:World) (k:Nat) (os:Array Obj):Below w.heap.size w (Go.Sort.grow (w.drewN k) os):=by
 refine ⟨rfl,rfl,rfl,?_,fun i hi=>?_⟩
 ·simp [Go.Sort.grow,World.drewN]
 ·simp [Go.Sort.grow,World.drewN,Array.getElem?_append_left hi]
theorem Aze (n:Nat) (hn:n≤9223372036854775807) (F:List Nat) (w:World) (hT:Jy Adn w (.agg #[]) () F) :
  Calls prog 127 #[.int .i64 (n:Int)] w (RB (.string (bs (Lib.decDigits n))) w):=by
 refine (Tryz.strconv_Itoa (n:Int) FJ FJ w (Adn.tab hT)).mono ?_;rintro e w' ⟨rfl,k,os,rfl⟩;refine ⟨Zw ?_,Aa0 w k os⟩;unfold bs;rw [show Lib.itoa (n:Int)=Lib.decDigits n from by unfold Lib.itoa;rw [if_neg FJ];simp]
theorem Amf (l:Bs) (c:UInt8):((Tt (l++[c]):Nat):Int)=(41 * (Tt l:Int)+(c.toNat:Int)+1) % 999979:=by
 rw [Ayl];unfold Ac6;omega
theorem Ar4 (s:ByteArray) (w:World) (hs:s.size≤maxLen) :
  Calls prog 222 #[.string s] w fun e w'=>e=.returned (.int .i64 (Tt s.data.toList))∧w=w':=by
 unfold maxLen at hs
 go_enter func222,ntmps222
 go_wp2
 go_loop [3,7] (fun h i=>∃k:Nat,k≤s.size∧i=.int .i64 k∧h=.int .i64 (Tt (s.data.toList.take k))) (fun _ i=>s.size - (intOf i).toNat)
 case atStart=>exact ⟨0,Nat.zero_le _,rfl,rfl⟩
 case round =>
  obtain ⟨k,hk,rfl,rfl⟩:=hrel;by_cases hlt:k < s.size
  ·have hb:(s[k].toNat:Int)≤255:=IZ
   have hS:=Lib.hid (Amf (s.data.toList.take k) s[k]);rw [←Amh s k hlt] at hS;have hl:=Ac5 (s.data.toList.take k);generalize Tt (s.data.toList.take k)=n at *
   go_wp2
   go_round
   case rel=>exact ⟨k+1,FJ,HX,by rw [hS.out]⟩
   case measure=>simp [intOf];omega
  ·go_wp2
   go_ret
   exact ⟨If (by rw [Arb s k hlt]),rfl⟩
theorem Bew (s:ByteArray) (w:World) (hs:s.size≤maxLen) :
  Calls prog 174 #[.string s] w fun e w'=>e=.returned (.int .i64 (Tt s.data.toList))∧w=w':=by
 unfold maxLen at hs
 go_enter func174,ntmps174
 go_wp2
 go_loop [3,4] (fun h i=>∃k:Nat,k≤s.size∧i=.int .i64 k∧h=.int .i64 (Tt (s.data.toList.take k))) (fun _ i=>s.size - (intOf i).toNat)
 case atStart=>exact ⟨0,Nat.zero_le _,rfl,rfl⟩
 case round =>
  obtain ⟨k,hk,rfl,rfl⟩:=hrel;by_cases hlt:k < s.size
  ·have hb:(s[k].toNat:Int)≤255:=IZ
   have hS:=Lib.hid (Amf (s.data.toList.take k) s[k]);rw [←Amh s k hlt] at hS;have hl:=Ac5 (s.data.toList.take k);generalize Tt (s.data.toList.take k)=n at *
   go_wp2
   go_round
   case rel=>exact ⟨k+1,FJ,HX,by rw [hS.out]⟩
   case measure=>simp [intOf];omega
  ·go_wp2
   go_ret
   exact ⟨If (by rw [Arb s k hlt]),rfl⟩
theorem Xb:∀(k n:Nat) (w:World),n < 10 ^ (k+1)→n≤999999999999999999 →
  Calls prog 86 #[.int .i64 (n:Int)] w fun e w'=>e=.returned (.string (bs (Lib.decDigits n)))∧∃j,w'=w.drewN j:=_root_.Go.Proofs.YtkblpelckhegbaaGreatDoor.Xb
theorem Bay (s:ByteArray) (w:World) (hs0:s.size≤4294967296) :
  Calls prog 97 #[.string s] w fun e w'=>e=.returned (.string (bs (Ph s.data.toList)))∧∃j,w'=w.drewN j:=by
 have hl:=Ac5 s.data.toList;have hn:=fun w=>Xb 5 (Tt s.data.toList) w FJ FJ;have hS:Hid (s++⟨#[35]⟩++bs (Lib.decDigits (Tt s.data.toList))=bs (Ph s.data.toList)):=by
  refine Lib.hid ?_;rw [Adt,Is,Jr];congr 1;simp [Ph]
 have hD:(bs (Lib.decDigits (Tt s.data.toList))).size≤6:=by rw [Js];exact Em 5 _ FJ
 generalize bs (Lib.decDigits (Tt s.data.toList))=D at *;have hs:s.size≤maxLen:=GC
 go_enter func97,ntmps97
 go_wp2_with (first
  | (go_at_call 174;refine (Bew _ _ GI).mono ?_;rintro e w' ⟨rfl,rfl⟩)
  | (go_at_call 86;refine (hn _).mono ?_;rintro e w' ⟨rfl,j,rfl⟩))
 go_ret
 exact ⟨Zw hS.out,_,rfl⟩
theorem Qv (c:UInt8):∀l:Bs,(c∈l→Lib.indexByte l c=(Ei c l).length)∧(c ∉ l→Lib.indexByte l c=-1)
 | []=>by simp [Lib.indexByte]
 | b::l=>by
  obtain ⟨h1,h2⟩:=Qv c l;unfold Lib.indexByte Ei;by_cases hb:b=c
  ·subst hb;simp
  ·have hb':(b == c)=false:=JV
   rw [hb'];have hm:c∈b::l↔c∈l:=by
    rw [List.mem_cons];exact ⟨fun h=>h.resolve_left (fun e=>hb e.symm),.inr⟩
   rw [hm];refine ⟨fun h=>?_,fun h=>?_⟩
   ·rw [h1 h];have:((Ei c l).length:Int)≠-1:=FJ
    simp [Ei,hb] at this ⊢
   ·rw [h2 h];simp
theorem Ade (c:UInt8) (l:Bs):(Ei c l).length≤l.length:=by
 unfold Ei;exact (List.takeWhile_sublist _).length_le
theorem Avm {c:UInt8} {l:Bs} (h:c∈l):(Ei c l).length < l.length:=by
 rcases Px c l with ⟨_,h2⟩|⟨h2,_⟩
 ·have:=congrArg List.length h2;simp at this;omega
 ·exact absurd h h2
def Rh (c:UInt8) (s:ByteArray):ByteArray:=bs (Ei c s.data.toList)
def Sz (c:UInt8) (s:ByteArray):ByteArray:=bs (M7 c s.data.toList)
theorem Auo {c:UInt8} {s:ByteArray} (h:c∈s.data.toList):s.extract 0 (Ei c s.data.toList).length=Rh c s∧s.extract ((Ei c s.data.toList).length+1) s.size=Sz c s:=by
 rcases Px c s.data.toList with ⟨_,h2⟩|⟨h2,_⟩
 ·constructor
  ·rw [Lib.extract_eq];unfold Rh bs;congr 2;rw [List.drop_zero,Nat.sub_zero];exact (congrArg (List.take _) h2).trans List.take_left
  ·rw [Lib.extract_eq];unfold Sz bs;congr 2;rw [List.take_of_length_le FK];refine (congrArg (List.drop _) h2).trans ?_;rw [←List.drop_drop,List.drop_left];rfl
 ·exact absurd h h2
theorem Axm (s:ByteArray) (c:UInt8) (w:World) (hs:s.size≤maxLen) :
  Calls prog 273 #[.string s,.string ⟨#[c]⟩] w fun e w'=>e=.returned (.tuple #[.string (Rh c s),.string (Sz c s),.bool (Kj c s.data.toList)])∧∃j,w'=w.drewN j:=by
 unfold maxLen at hs;have hi:=fun w=>Tryz.stringslite_Index_one s c w;by_cases h:c∈s.data.toList
 ·have hc:=Auo h;have hl:=Avm h;rw [C0] at hl;have hst:Kj c s.data.toList=true:=by unfold Kj;rw [List.any_eq_true];exact ⟨c,h,FK⟩
  have hst:=Lib.hid hst;rw [(Qv c _).1 h] at hi;generalize (Ei c s.data.toList).length=n at *;have hc1:=Lib.hid hc.1;have hc2:=Lib.hid hc.2;clear hc
  go_enter func273,ntmps273
  go_wp2_with (go_at_call 274;refine (hi _).mono ?_;rintro e w' ⟨rfl,rfl⟩)
  go_quiet (fail)
  go_wp2_with fail;refine bodyPost_ret (v:=.tuple #[.string (Rh c s),.string (Sz c s),.bool true]) ?_ rfl ?_
  ·simp [results,results273,go_sem,hc1.out,hc2.out]
  ·exact ⟨by rw [hst.out],_,rfl⟩
 ·have hst:Kj c s.data.toList=false:=by unfold Kj;rw [List.any_eq_false];intro x hx;simp;rintro rfl;exact h hx
  have h1:Rh c s=s:=by unfold Rh;rw [Avn (fun x hx e=>h (by rw [←e];exact hx)),Ae8]
  have h2:Sz c s=⟨#[]⟩:=by unfold Sz;rw [Akw (fun x hx e=>h (by rw [←e];exact hx))];rfl
  rw [(Qv c _).2 h] at hi;replace hst:=Lib.hid hst;replace h1:=Lib.hid h1;replace h2:=Lib.hid h2
  go_enter func273,ntmps273
  go_wp2_with (go_at_call 274;refine (hi _).mono ?_;rintro e w' ⟨rfl,rfl⟩);refine bodyPost_ret (v:=.tuple #[.string s,.string ⟨#[]⟩,.bool false]) ?_ rfl ?_
  ·simp [results,results273,go_sem]
  ·exact ⟨by rw [hst.out,h1.out,h2.out],0,rfl⟩
end Go.Proofs.YtkblpelckhegbaaGreatDoor.Lg
namespace Go.Proofs.YtkblpelckhegbaaGreatDoor
open Go.RowKit
structure O5 where
 Je:ByteArray
 Hh:ByteArray
def Nm:Br O5 where
 sz:=2
 Ky _ cs x F:=cs=[.string x.Je,.string x.Hh]∧x.Je.size≤maxLen∧x.Hh.size≤maxLen∧F=[]
 len h:=by obtain ⟨rfl,s1,s2,rfl⟩:=h;rfl
 lt h:=by obtain ⟨rfl,s1,s2,rfl⟩:=h;simp
 frame h _:=h
theorem Y0:Yf Nm:=fun h u hu=>by
 obtain ⟨rfl,s1,s2,rfl⟩:=h;simp only [List.mem_cons,List.not_mem_nil,or_false] at hu;rcases hu with rfl|rfl
 ·rfl
 ·rfl
theorem Ah1:(prog.info? 66).map (fun i=>(i.zero,i.size,i.bytes))=some (some (.agg #[.string ⟨#[]⟩,.string ⟨#[]⟩]),2,32):=by kernel_rfl
end Go.Proofs.YtkblpelckhegbaaGreatDoor
namespace Go.Proofs.YtkblpelckhegbaaGreatDoor.Lg
open Go.RowKit
theorem O7 (c r:ByteArray):Bx c r=Afc c.data.toList r.data.toList:=by
 unfold Bx Afc;rw [C0,C0]
theorem Bbz {a b:ByteArray} {x y:Bool} (h:a=b) (h2:x=y):Ending.returned (.tuple #[.string a,.bool x])=.returned (.tuple #[.string b,.bool y]):=by rw [h,h2]
theorem Ay6 (s:ByteArray) (c:UInt8) (w:World) (hs:s.size≤maxLen) :
  Calls prog 201 #[.string s,.string ⟨#[c]⟩] w fun e w'=>e=.returned (.tuple #[.string (Rh c s),.string (Sz c s),.bool (Kj c s.data.toList)])∧∃j,w'=w.drewN j:=by
 go_enter func201,ntmps201
 go_wp2_with (go_at_call 273;refine (Axm _ _ _ hs).mono ?_;rintro e w' ⟨rfl,j,rfl⟩);refine bodyPost_ret (v:=.tuple #[.string (Rh c s),.string (Sz c s),.bool (Kj c s.data.toList)]) ?_ rfl ⟨rfl,_,rfl⟩;simp [results,results201,go_sem]
theorem Ts {s:ByteArray} {n:Nat} (h:s.data.toList.length≤n):s.size≤n:=by rwa [C0] at h
theorem Abv (s:ByteArray) (F:List Nat) (w:World) (hs0:s.size≤3000) (h35:∀b∈s.data.toList,b≠35) (hT:Jy Adn w (.agg #[]) () F) :
  Calls prog 126 #[.string s] w (RB (.tuple #[.string (bs (Ph s.data.toList)),.bool true]) w):=by
 have hl:=Ac5 s.data.toList;have hD:(bs (Lib.decDigits (Tt s.data.toList))).size≤6:=by rw [Js];exact Em 5 _ FJ
 have hS:Hid (s++⟨#[35]⟩++bs (Lib.decDigits (Tt s.data.toList))=bs (Ph s.data.toList)):=by
  refine Lib.hid ?_;rw [Adt,Is,Jr];congr 1;simp [Ph]
 have hI:=fun w F hT=>Aze (Tt s.data.toList) FJ F w hT;have hs:s.size≤maxLen:=GC
 have hst:Kj 35 s.data.toList=false:=by unfold Kj;rw [List.any_eq_false];intro x hx;simp;exact h35 x hx
 have hct:=fun w=>Ahf s 35 w;rw [hst] at hct;generalize bs (Lib.decDigits (Tt s.data.toList))=D at *;clear hst h35
 go_enter func126,ntmps126
 go_wp2_with (first
  | (go_at_call 116;refine (hct _).mono ?_;rintro e w' ⟨rfl,rfl⟩)
  | (go_at_call 222;refine (Ar4 _ _ GI).mono ?_;rintro e w' ⟨rfl,rfl⟩)
  | (go_at_call 127;refine (hI _ _ hT).mono ?_;rintro e w' ⟨rfl,hb⟩))
 refine bodyPost_ret (v:=.tuple #[.string (s++⟨#[35]⟩++D),.bool true]) ?_ rfl ⟨Bbz hS.out rfl,hb⟩;simp [results,results126,go_sem]
end Go.Proofs.YtkblpelckhegbaaGreatDoor.Lg
namespace Go.Proofs.YtkblpelckhegbaaGreatDoor
open Go.RowKit
structure Bix where
 Bjj:Int
 got:Int
 Bjk:Int
 Bkr:Int
theorem Bam (b:UInt8) (r:Bs):∀x:Bs,(∀c∈x,c≠b)→Lib.index (x++b::r) [b]=x.length
 | [],_=>by simp [Lib.index]
 | c::x,h=>by
  have ih:=Bam b r x (fun d hd=>h d (by simp [hd]));have hc:¬b=c:=fun e=>h c FK e.symm;rw [List.cons_append,Lib.index,if_neg JY,ih,if_neg GF];simp
theorem Ao0 (l:Bs) (b:UInt8) (d:Nat) (hb:Lib.digitVal b=some d):∀acc n,Lib.decFrom acc l=some n→Lib.decFrom acc (l++[b])=some (n * 10+d):=by
 induction l with
 | nil=>intro acc n h;simp [Lib.decFrom] at h ⊢;subst h;rw [hb]
 | cons a l ih =>
  intro acc n h;simp only [List.cons_append,Lib.decFrom] at h ⊢;cases ha:Lib.digitVal a with
  | none=>rw [ha] at h;cases h
  | some x =>
   have h2:Lib.decFrom (acc * 10+x) l=some n:=by simpa [ha] using h
   exact ih _ _ h2
theorem Amy:∀d:Nat,d < 10→Lib.digitVal (UInt8.ofNat (48+d))=some d:=by decide
theorem Ahh:∀(k u:Nat),u < 10 ^ (k+1)→Lib.decFrom 0 (Lib.decDigits u)=some u
 | 0,u,h=>by
  have h3:u < 10:=GE
  rw [Lib.decDigits,dif_pos h3,Lib.decFrom,Amy u h3];simp [Lib.decFrom]
 | k+1,u,h=>by
  by_cases h3:u < 10
  ·rw [Lib.decDigits,dif_pos h3,Lib.decFrom,Amy u h3];simp [Lib.decFrom]
  ·have ih:=Ahh k (u / 10) LG;rw [Lib.decDigits,dif_neg h3,Ao0 _ _ _ (Amy (u % 10) FJ) _ _ ih]
   congr 1;omega
theorem Av0 (u:Nat) (h:u < 10000000):Lib.atoiAll (Lib.decDigits u)=.ok (u:Int):=by
 have hl:=Em 6 u FJ;have hp:=Zl u;rw [Lib.atoiAll_short _ FJ];have:Lib.atoi (Lib.decDigits u)=some (u:Int):=by
  have hb:=Ahh 6 u FJ;cases hd:Lib.decDigits u with
  | nil=>rw [hd] at hp;simp at hp
  | cons b r =>
   have hm:=Qd u b (by rw [hd];simp);have h45:(45:UInt8).toNat=45:=rfl;have h43:(43:UInt8).toNat=43:=rfl;rw [Lib.atoi,if_neg (by simp;intro e;subst e;omega),if_neg (by simp;intro e;subst e;omega)];unfold Lib.decNat;rw [if_neg FK,←hd,hb];rfl
 rw [this];rfl
def Ee (b:UInt8):Bs→List Bs
 | []=>[[]]
 | c::r=>if c == b then []::Ee b r else match Ee b r with
  | []=>[[c]]
  | x::xs=>(c::x)::xs
theorem Zy {b:UInt8}:∀{x:Bs} (r:Bs),(∀c∈x,c≠b)→Ee b (x++b::r)=x::Ee b r
 | [],r,_=>by simp [Ee]
 | c::x,r,h=>by
  have ih:=Zy (b:=b) (x:=x) r fun d hd=>h d (by simp [hd]);have hb:(c == b)=false:=by simpa using h c FK
  simp only [List.cons_append,Ee,hb,ih];simp
theorem Wo {b:UInt8}:∀{x:Bs},(∀c∈x,c≠b)→Ee b x=[x]
 | [],_=>rfl
 | c::x,h=>by
  have ih:=Wo (b:=b) (x:=x) fun d hd=>h d (by simp [hd]);have hb:(c == b)=false:=by simpa using h c FK
  simp only [Ee,hb,ih];simp
theorem Sx (b:UInt8) (l:Bs):∃r,Ee b l=Ei b l::r∧(r=[]↔b ∉ l):=by
 rcases Px b l with ⟨h,h2⟩|⟨h,h2,_⟩
 ·refine ⟨Ee b (M7 b l),?_,?_⟩
  ·conv=>lhs;rw [h2]
   exact Zy _ Adf
  ·refine ⟨fun e=>?_,fun e=>absurd h e⟩;have:∀l:Bs,Ee b l≠[]:=by
    intro l;cases l with
    | nil=>simp [Ee]
    | cons c r =>
     unfold Ee
     split
     ·simp
     ·split <;> simp
   exact absurd e (this _)
 ·exact ⟨[],by rw [Wo fun c hc e=>h (by rw [←e];exact hc),h2],JS⟩
theorem Asc {l:Bs} {f k:Nat} (hf:f≤k) (hk:k < l.length):l.drop f=(l.drop f).take (k - f)++l[k]::l.drop (k+1):=by
 have h1:(l.drop f).drop (k - f)=l.drop k:=by rw [List.drop_drop];congr 1;omega
 conv=>lhs;rw [←List.take_append_drop (k - f) (l.drop f),h1,List.drop_eq_getElem_cons hk]
theorem Ayq {l:Bs} {f k:Nat} (hf:f≤k) (hk:k < l.length):(l.drop f).take (k+1 - f)=(l.drop f).take (k - f)++[l[k]]:=by
 rw [show k+1 - f=(k - f)+1 by omega,List.take_succ_eq_append_getElem HU]
 congr 2
 rw [List.getElem_drop];congr 1;omega
theorem Azu (s:ByteArray) (k:Nat) (h:k < s.size):s.data.toList[k]'GE=s[k]:=rfl
theorem Bi6 (s:ByteArray) (f k:Nat):s.extract f k=bz ((s.data.toList.drop f).take (k - f)):=Lib.extract_eq s f k
theorem Zn (s:ByteArray) (f:Nat):s.extract f s.size=bz (s.data.toList.drop f):=by
 rw [Lib.extract_eq];unfold bz;rw [List.take_of_length_le FK]
theorem Bcg (b:UInt8):∀(l:Bs),Lib.splitB ⟨#[b]⟩ 0 (l.count b) (bz l)=(Ee b l).map bz:=by
 intro l
 induction hn:l.length using Nat.strongRecOn generalizing l with
 | ind n ih =>
  subst hn;rcases Px b l with ⟨h,h2⟩|⟨h, -, -⟩
  ·obtain ⟨u,r,hm,e⟩:∃u r:Bs,(∀c∈u,c≠b)∧l=u++b::r:=⟨_,_,Adf,h2⟩;subst e;clear h h2;have hc0:u.count b=0:=List.count_eq_zero.2 fun hc=>hm b hc rfl;have hcnt:(u++b::r).count b=r.count b+1:=by rw [List.count_append,List.count_cons_self,hc0];omega
   have hi:Lib.indexB (bz (u++b::r)) ⟨#[b]⟩=(u.length:Int):=by
    unfold Lib.indexB;rw [Kr];exact Bam b r u hm
   have e1:(bz (u++b::r)).extract 0 (u.length+0)=bz u:=by
    rw [←Yi (ByteArray.extract _ _ _),Lib.extract_from_zero,Kr,Nat.add_zero,List.take_left]
   have e2:(bz (u++b::r)).extract (u.length+(⟨#[b]⟩:ByteArray).size) (bz (u++b::r)).size=bz r:=by
    rw [←Yi (ByteArray.extract _ _ _)]
    congr 1
    rw [Lib.extract_data,Kr,Ka,show (⟨#[b]⟩:ByteArray).size=1 from rfl,show u++b::r=(u++[b])++r by simp,List.drop_left' FK];exact List.take_of_length_le FR
   rw [hcnt,Lib.splitB_hit _ _ _ _ _ hi,e1,e2,ih _ FR _ rfl,Zy _ hm];rfl
  ·have hc0:l.count b=0:=List.count_eq_zero.2 h;rw [hc0,Lib.splitB_zero,Wo fun c hc e=>h (by subst e;exact hc)];rfl
theorem Aja (b:UInt8) (s:ByteArray):Lib.splitB ⟨#[b]⟩ 0 (Lib.countB s ⟨#[b]⟩) s=(Ee b s.data.toList).map bz:=by
 have h:=Bcg b s.data.toList;rw [Yi] at h;rw [←h]
 congr 1
 have:=Lib.count_one b s.data.toList;unfold Lib.countB;exact this
section
variable {P:Program} {n:Nat} {fr:Fr} {H:List Pc} {ty:TypeId} {x:Operand} {t t2:TypeId}
theorem Bin (hx:ev fr x=some .nilIface) (hu:P.underlying t=some (.interface (P.methodsAt t))):Yd P n fr H (.binOp .neq t x (.const .nilIface) t2) ty (.bool false):=.mk fun c w d pos Ci gd hA _=>by
 have e:binOp .neq t .nilIface .nilIface=(do pure (.bool (!(←Op.equal t .nilIface .nilIface)))):=rfl;have eg:eqGuard .neq t x (.const .nilIface) .nilIface .nilIface=pure ():=by unfold eqGuard;simp
 have ec:c.eval (.const .nilIface)=.nilIface:=rfl;simp only [execOp,hA.ev hx,ec,eg,e,Sem.run_bind,Sem.run_pure,Result.andThen_ok,run_equal_nil_nil w t hu];rfl
theorem Bdl {u:TypeId} {p:Value} (hx:ev fr x=some (.iface u p)) (hu:P.underlying t=some (.interface (P.methodsAt t))):Yd P n fr H (.binOp .neq t x (.const .nilIface) t2) ty (.bool true):=.mk fun c w d pos Ci gd hA _=>by
 have e:binOp .neq t (.iface u p) .nilIface=(do pure (.bool (!(←Op.equal t (.iface u p) .nilIface)))):=rfl;have eg:eqGuard .neq t x (.const .nilIface) (.iface u p) .nilIface=pure ():=by unfold eqGuard;simp
 have ec:c.eval (.const .nilIface)=.nilIface:=rfl;simp only [execOp,hA.ev hx,ec,eg,e,Sem.run_bind,Sem.run_pure,Result.andThen_ok,run_equal_held_nil w t u p hu];rfl
end
section
variable {c:Cx} {fr:Fr} {H:List Pc} {d:Nat} {Φ:Gl}
theorem cx {f:Nat} {vs:List Value} (V:Value→Prop) (hc:∀w,St c.G c.D c.w0 H w→Calls c.P f vs.toArray w fun e w'=>∃v,V v∧e=.returned v∧Below w.heap.size w w') (h:∀v,V v→T c ((d,v)::fr) H Φ):Cl c fr H d f vs Φ :=
 Aaf hc fun w e w' s ⟨v,hv,he,hB⟩=>⟨v,he,fun a g=>(h v hv).h a w' (s.below hB) g⟩
end
def C5 (s:ByteArray):Int × Bool:=match Lib.atoiAll s.data.toList with
 | .ok v=>if Gj (-999999) v 999999 && decide (bz (Lib.itoa v)=s) then (v,true) else (0,false)
 | _=>(0,false)
theorem Ag3 (s:ByteArray) (FT:List Nat) (hs:s.size≤1000000000):FV 206 [.string s] [Hp FT] (.tuple #[.int .i64 (C5 s).1,.bool (C5 s).2]):=by
 have hu:prog.underlying 315=some (.interface (prog.methodsAt 315)):=FL
 refine enter func206 rfl ntmps206 fun w0=>?_;refine go ?_;have bad:(∀v,Lib.atoiAll s.data.toList≠.ok v)→C5 s=(0,false):=fun h=>by
  unfold C5;cases h2:Lib.atoiAll s.data.toList with
  | ok v=>exact absurd h2 (h v)
  | _=>rfl
 match h:Lib.atoiAll s.data.toList with
 | Lib.NumEnd.ok v =>
  obtain ⟨b0,b1⟩:=Lib.atoiAll_bounds h;refine cb (fun w st=>(Tryz.strconv_Atoi_ok s FJ v h w).mono fun e w' hh=>⟨hh.1,?_⟩) ?_
  ·rcases hh.2 with rfl|⟨t,rfl⟩
   ·exact Below.refl _ _
   ·exact Lib.bytesWorld_below _ _ _
  refine go ?_;apply wO;apply oc;rfl;exact Bin rfl hu;refine go ?_;refine ce (fun w s=>Ik _ _ _ _) ?_;cases g1:Gj (-999999) v 999999
  ·refine go ?_;rw [show C5 s=(0,false) by unfold C5;rw [h];simp [g1]];exact BC
  refine go ?_;refine cb (fun w st=>Abb v FJ FJ FT w (st.get (p:=Hp FT) FK)) ?_;refine go ?_;by_cases g2:bz (Lib.itoa v)=s
  ·rw [decide_eq_false (by simpa using g2)];refine go ?_;rw [show C5 s=(v,true) by unfold C5;rw [h];simp [g1,g2]];exact BC
  ·rw [decide_eq_true g2];refine go ?_;rw [show C5 s=(0,false) by unfold C5;rw [h];simp [g2]];exact BC
 | Lib.NumEnd.syntax =>
  rw [bad JS];refine cx (fun v=>∃n u p,v=.tuple #[.int .i64 n,.iface u p]) (fun w st=>?_) ?_
  ·obtain ⟨tp,p,hv⟩:=(Hp.env (st.get (p:=Hp FT) FK)).2.2.1;refine (Tryz.strconv_Atoi_syntax_var s FJ h tp p w hv).mono ?_;rintro e w' ⟨N,rfl, -, -,hB⟩;exact ⟨_,⟨_,_,_,rfl⟩,rfl,hB⟩
  rintro _ ⟨n,u,p,rfl⟩;refine go ?_;apply wO;apply oc;rfl;exact Bdl rfl hu;exact AA
 | Lib.NumEnd.range =>
  rw [bad JS];refine cx (fun v=>∃n u p,v=.tuple #[.int .i64 n,.iface u p]) (fun w st=>?_) ?_
  ·obtain ⟨tp,p,hv⟩:=(Hp.env (st.get (p:=Hp FT) FK)).2.2.2;refine (Tryz.strconv_Atoi_range_var s FJ h tp p w hv).mono ?_;rintro e w' ⟨N,rfl, -, -,hB⟩;exact ⟨_,⟨_,_,_,rfl⟩,rfl,hB⟩
  rintro _ ⟨n,u,p,rfl⟩;refine go ?_;apply wO;apply oc;rfl;exact Bdl rfl hu;exact AA
theorem Atl (u:Nat) (h:u≤999999):C5 (bz (Lib.decDigits u))=((u:Int),true):=by
 unfold C5;rw [Kr,Av0 u FJ];have e:Lib.itoa (u:Int)=Lib.decDigits u:=by unfold Lib.itoa;rw [if_neg FJ];simp
 simp only [e];rw [show Gj (-999999) (u:Int) 999999=true by unfold Gj;rw [decide_eq_true FJ,decide_eq_true FJ];rfl];simp
def Ar9 (n:Int):Bs:=Lib.decDigits n.toNat
def atW (ws:List Bs) (i:Nat):Bs:=ws.getD i []
theorem Bd8 {n:Int} (h:n≤1000000):(Ar9 n).length≤7:=Em 6 _ FJ
section
variable {c:Cx} {fr:Fr} {H:List Pc} {Φ:Gl}
end
theorem Bap {n:Int} (h:0≤n):Lib.itoa n=Ar9 n:=by unfold Lib.itoa Ar9;rw [if_neg FJ]
theorem Bbd (n:Int) (h0:0≤n) (h1:n≤1000000) (w:World):Calls prog 86 #[.int .i64 n] w (RB (.string (bz (Ar9 n))) w):=by
 obtain ⟨k,rfl⟩:∃k:Nat,n=k:=⟨n.toNat,FJ⟩;refine (Xb 6 k w FJ FJ).mono ?_;rintro e w2 ⟨rfl,j,rfl⟩;exact ⟨rfl,D7 (Below.refl _ _) j⟩
structure Bi2 where
 o:List Bs
 f:Nat
 k:Nat
 a:Option Addr
 c:Nat
 F:List Nat
structure Bi1 (b:UInt8) (s:ByteArray) (z:Bi2):Prop where
 k:z.k≤s.size
 f:z.f≤z.k
 l:z.o.length≤z.f
 e:Ee b s.data.toList=z.o++Ee b (s.data.toList.drop z.f)
 n:∀x∈(s.data.toList.drop z.f).take (z.k - z.f),x≠b
theorem Alq (s:ByteArray) (b:UInt8) (hs:s.size≤16777216):Fn prog 37 [.string s,.int .u8 (b.toNat:Int)] [] [] (fun (_:Option Addr × Nat × List Nat)=>True) (fun z=>.slice z.1 ((Ee b s.data.toList).map bz).length z.2.1) (fun z=>[.ow A8 9 (.slice z.1 ((Ee b s.data.toList).map bz).length z.2.1) ((Ee b s.data.toList).map bz) z.2.2]):=by
 refine enter func37 rfl ntmps37 fun w0=>?_;refine go ?_;intros;refine Dc A8 ?_;refine go ?_;refine Cj [0,1,4] (fun z:Bi2=>[(5,.slice z.a (z.o.map bz).length z.c),(6,.int .i64 (z.f:Nat)),(7,.int .i64 (z.k:Nat))]) (fun z=>[.ow A8 9 (.slice z.a (z.o.map bz).length z.c) (z.o.map bz) z.F]) (Bi1 b s) (fun z=>s.size - z.k) ⟨[],0,0,_,_,_⟩ ⟨Nat.zero_le _,Nat.le_refl _,Nat.le_refl _,rfl,FK⟩ fun z hz=>?_;obtain ⟨z1,z2,z3,z4,z5⟩:=hz;have hml:(z.o.map bz).length=z.o.length:=List.length_map ..;refine go ?_;refine Ax rfl (fun h1=>?_) (fun h1=>?_)
 ·have hk:z.k < s.size:=FJ
  have hkl:z.k < s.data.toList.length:=by rw [C0];exact hk
  refine go ?_;refine Ax rfl (fun h2=>?_) (fun h2=>?_)
  ·have hb:s[z.k]=b:=UInt8.toNat_inj.1 (by have:((s[z.k]).toNat:Int)=(b.toNat:Int):=h2;omega);have h3:=Asc (l:=s.data.toList) z2 hkl;rw [Azu s z.k hk,hb] at h3;have h4:Ee b (s.data.toList.drop z.f)=(s.data.toList.drop z.f).take (z.k - z.f)::Ee b (s.data.toList.drop (z.k+1)):=by rw [h3,Zy _ z5,←h3]
   have hx:(s.extract z.f z.k).size≤maxLen:=by unfold maxLen;simp;omega
   refine O3 ?_;intros;apply wO;apply oc;rfl;exact Bit rfl rfl rfl FJ FJ FJ;refine O3 ?_;intros;rw [show s.extract ((z.f:Nat):Int).toNat ((z.k:Nat):Int).toNat=s.extract z.f z.k from rfl];apply wO;refine Qa (Aqt hx) Eh fun a9 c9 F9=>?_;refine go ?_;have e9:z.o.map bz++[s.extract z.f z.k]=(z.o++[(s.data.toList.drop z.f).take (z.k - z.f)]).map bz:=by rw [List.map_append,Bi6 s z.f z.k];rfl
   rw [e9];refine Ce ⟨z.o++[(s.data.toList.drop z.f).take (z.k - z.f)],z.k+1,z.k+1,a9,c9,F9⟩ ⟨by show z.k+1≤s.size;omega,Nat.le_refl _,by show (z.o++[_]).length≤z.k+1;simp;omega,by show _=(z.o++[_])++Ee b (s.data.toList.drop (z.k+1));rw [z4,h4];simp,by show ∀x∈(s.data.toList.drop (z.k+1)).take (z.k+1 - (z.k+1)),x≠b;simp⟩ (by show s.size - (z.k+1) < s.size - z.k;omega)
  ·refine go ?_;refine Ce ⟨z.o,z.f,z.k+1,z.a,z.c,z.F⟩ ⟨by show z.k+1≤s.size;omega,by show z.f≤z.k+1;omega,z3,z4,by
    show ∀x∈(s.data.toList.drop z.f).take (z.k+1 - z.f),x≠b;rw [Ayq z2 hkl,Azu s z.k hk];intro x hx;rcases List.mem_append.1 hx with hx|hx
    ·exact z5 x hx
    ·rw [List.mem_singleton] at hx;subst hx;intro e;exact h2 (by show ((s[z.k]).toNat:Int)=(b.toNat:Int);rw [e])⟩ (by show s.size - (z.k+1) < s.size - z.k;omega)
 ·have hke:z.k=s.size:=FJ
  have h4:Ee b s.data.toList=z.o++[s.data.toList.drop z.f]:=by
   rw [z4,Wo];rw [List.take_of_length_le FR] at z5;exact z5
  have hx:(s.extract z.f s.size).size≤maxLen:=by unfold maxLen;simp;omega
  refine O3 ?_;intros;apply wO;apply oc;rfl;exact Ajt rfl rfl FJ FJ;refine O3 ?_;intros;rw [show s.extract ((z.f:Nat):Int).toNat s.size=s.extract z.f s.size from rfl];apply wO;refine Qa (Aqt hx) Eh fun a9 c9 F9=>?_;refine go ?_;have e9:z.o.map bz++[s.extract z.f s.size]=(Ee b s.data.toList).map bz:=by rw [h4,List.map_append,Zn s z.f];rfl
  rw [e9];refine ret (a9,c9,F9) trivial rfl
end Go.Proofs.YtkblpelckhegbaaGreatDoor
namespace Go.Proofs.YtkblpelckhegbaaGreatDoor.Lg
open Go.RowKit
theorem Bhc (s:ByteArray) (f k:Nat):s.extract f k=bs ((s.data.toList.drop f).take (k - f)):=Lib.extract_eq s f k
theorem Zn (s:ByteArray) (f:Nat):s.extract f s.size=bs (s.data.toList.drop f):=by
 rw [Lib.extract_eq];unfold bs;rw [List.take_of_length_le FK]
theorem Aec (s:ByteArray) (c:UInt8) (w:World) (hs:s.size≤16777216) :
  Calls prog 37 #[.string s,.int .u8 (c.toNat:Int)] w (No A8 9 ((Ee c s.data.toList).map bs) w) :=
 ((Alq s c hs).made w (fun _ h=>by cases h) (fun _=>rfl)).mono fun e w1 ⟨z,_,he,hH,hn,hF,hB⟩=>⟨_,z.2.2,he,(hH _ (List.mem_singleton.2 rfl)).2,by simpa [fp,Pc.F] using hn,by simpa [fp,Pc.F] using hF,hB⟩
end Go.Proofs.YtkblpelckhegbaaGreatDoor.Lg
namespace Go.Proofs.YtkblpelckhegbaaGreatDoor
open Go.RowKit
section
variable {c:Cx} {fr:Fr} {H:List Pc} {Φ:Gl}
theorem Aj5 (x:O5) (s1:x.Je.size≤maxLen) (s2:x.Hh.size≤maxLen) (w:World):C1 Nm w [.string x.Je,.string x.Hh] [x] []:=⟨_,[],[],[],FK,FK,⟨rfl,s1,s2,rfl⟩,rfl,rfl⟩
end
end Go.Proofs.YtkblpelckhegbaaGreatDoor
namespace Go.Proofs.YtkblpelckhegbaaGreatDoor.Lg
open Go.RowKit
theorem Aot (k:Nat) (c r:ByteArray):bs (Lib.decDigits k)++⟨#[32]⟩++c++⟨#[64]⟩++r=bs (Ls k c.data.toList r.data.toList):=by
 rw [Adt (_++_) r,Is,Is,Is,Jr];congr 1;simp [Ls]
theorem Azs (l:Bs):bs l++⟨#[10]⟩=bs (l++[10]):=by rw [Adt,Jr]
theorem Aha {P:Program} {f:FuncId} {a:Array Value} {w:World} {v:Value} (h:Calls P f a w fun e w1=>e=.returned v∧∃j,w1=w.drewN j):Calls P f a w (RB v w):=h.mono fun e w1 ⟨he,j,hj⟩=>⟨he,IW⟩
theorem sz1 (x:UInt8):(⟨#[x]⟩:ByteArray).size=1:=rfl
theorem Ahm (k:Nat) (c r:ByteArray) (F:List Nat) (hk:k≤59) (hg:Z6 c.data.toList r.data.toList):FV 54 [.int .i64 (k:Int),.agg #[.string c,.string r]] [.isv Adn (.agg #[]) () F] (.string (bs (Le k c.data.toList r.data.toList))):=by
 have hb0:=Adu hk hg;have hm:=Tw (k:=k) hg;have hX:=Aot k c r;have hc1:c.size≤160:=Ts hg.c1;have hr1:r.size≤200:=Ts hg.r1;have hD:(bs (Lib.decDigits k)).size≤2:=LH
 have hE:(bs (Ph (Ls k c.data.toList r.data.toList))).size≤400:=by rw [Js];have:=Aes (Ls k c.data.toList r.data.toList);omega
 have hN:=Azs (Ph (Ls k c.data.toList r.data.toList));have hI:=fun w hT=>Aze k FJ F w hT;have hA:=fun w hT=>Abv (bs (Ls k c.data.toList r.data.toList)) F w (by rw [Js];omega) (by rw [Jr];exact fun b hb=>(hm b hb).2) hT;rw [Jr,←hX] at hA;rw [show bs (Le k c.data.toList r.data.toList)=bs (Ph (Ls k c.data.toList r.data.toList)++[10]) from rfl];generalize bs (Lib.decDigits k)=D at *;generalize bs (Ph (Ls k c.data.toList r.data.toList))=E at *;refine enter func54 rfl ntmps54 fun w0=>?_;refine go ?_;intros;refine As [0] [] ?_;refine Ds 0 3 4 7 ?_;refine dt 8 ?_;refine dN 1 ?_;refine oC ?_
 refine cb (fun w st=>hI w (st.get (p:=.isv Adn (.agg #[]) () F) FO)) ?_;refine dk ?_;refine dt 2 ?_ (hy:=Of rfl rfl GO);refine dt 5 ?_ (hy:=Of rfl rfl GO);refine dt 6 ?_ (hy:=Of rfl rfl GO);refine dt 9 ?_ (hy:=Of rfl rfl GO);refine dN 10 ?_;refine oC ?_;refine cb (fun w st=>hA w (st.get (p:=.isv Adn (.agg #[]) () F) FO)) ?_;refine dk ?_;refine Ds 11 12 13 14 ?_;refine dt 15 ?_;refine dd ?_
 refine go ?_;intros;apply wO;apply oc;rfl;exact Of rfl rfl (by rw [sz1];omega);refine go ?_;intros;refine ret () trivial ?_;rw [←hN];rfl
theorem Yl (k:Nat) (c r:ByteArray) (F:List Nat) (w:World) (hk:k≤59) (hg:Z6 c.data.toList r.data.toList) (hT:Jy Adn w (.agg #[]) () F) :
  Calls prog 54 #[.int .i64 (k:Int),.agg #[.string c,.string r]] w (RB (.string (bs (Le k c.data.toList r.data.toList))) w):=(Ahm k c r F hk hg).val w (En hT)
theorem Alr (k:Nat) (c r:ByteArray) (hk:k≤59) (hg:Z6 c.data.toList r.data.toList):FV 43 [.int .i64 (k:Int),.agg #[.string c,.string r]] [] (.string (bs (Le k c.data.toList r.data.toList))):=by
 have hb0:=Adu hk hg;have hm:=Tw (k:=k) hg;have hX:=Aot k c r;have hc1:c.size≤160:=Ts hg.c1;have hr1:r.size≤200:=Ts hg.r1;have hD:(bs (Lib.decDigits k)).size≤2:=LH
 have hE:(bs (Ph (Ls k c.data.toList r.data.toList))).size≤400:=by rw [Js];have:=Aes (Ls k c.data.toList r.data.toList);omega
 have hN:=Azs (Ph (Ls k c.data.toList r.data.toList));have hI:=fun w=>Aha (Xb 1 k w FJ FJ);have hA:=fun w=>Aha (Bay (bs (Ls k c.data.toList r.data.toList)) w (by rw [Js];omega));rw [Jr,←hX] at hA;rw [show bs (Le k c.data.toList r.data.toList)=bs (Ph (Ls k c.data.toList r.data.toList)++[10]) from rfl];generalize bs (Lib.decDigits k)=D at *;generalize bs (Ph (Ls k c.data.toList r.data.toList))=E at *;refine enter func43 rfl ntmps43 fun w0=>?_;refine go ?_;intros;refine As [0] [] ?_;refine Ds 0 3 4 7 ?_;refine dt 8 ?_;refine dN 1 ?_;refine oC ?_;refine cb (fun w st=>hI w) ?_
 refine dk ?_;refine dt 2 ?_ (hy:=Of rfl rfl GO);refine dt 5 ?_ (hy:=Of rfl rfl GO);refine dt 6 ?_ (hy:=Of rfl rfl GO);refine dt 9 ?_ (hy:=Of rfl rfl GO);refine dN 10 ?_;refine oC ?_;refine cb (fun w st=>hA w) ?_;refine dk ?_;refine dt 11 ?_ (hy:=Of rfl rfl GO);refine dt 12 ?_;refine dd ?_;refine go ?_;intros;refine ret () trivial ?_;rw [←hN];rfl
theorem Axe (k:Nat) (c r:ByteArray) (w:World) (hk:k≤59) (hg:Z6 c.data.toList r.data.toList) :
  Calls prog 43 #[.int .i64 (k:Int),.agg #[.string c,.string r]] w (RB (.string (bs (Le k c.data.toList r.data.toList))) w):=(Alr k c r hk hg).val w nofun
theorem Bei {a b:ByteArray} (h:Bx a b=true):Z6 a.data.toList b.data.toList:=Jk (by rw [←O7];exact h)
theorem Avc {l:Bs} {k:Nat} (h:(Ei 35 l).length < (Ib k).length∨(Ei 35 l).take (Ib k).length≠Ib k):Uo l k=(([],[]),false):=by
 unfold Uo;rw [if_pos h]
theorem Bfe {l:Bs} {k:Nat} {rest:Bs} (h:¬((Ei 35 l).length < (Ib k).length∨(Ei 35 l).take (Ib k).length≠Ib k)) (hr:rest=(Ei 35 l).drop (Ib k).length) (h2:(Ei 64 rest).length=rest.length):Uo l k=(([],[]),false):=by
 subst hr;unfold Uo;rw [if_neg h];simp only [];rw [if_pos h2]
theorem Bff {l:Bs} {k:Nat} {rest:Bs} (h:¬((Ei 35 l).length < (Ib k).length∨(Ei 35 l).take (Ib k).length≠Ib k)) (hr:rest=(Ei 35 l).drop (Ib k).length) (h2:¬(Ei 64 rest).length=rest.length) :
  Uo l k=((Ei 64 rest,rest.drop ((Ei 64 rest).length+1)),Afc (Ei 64 rest) (rest.drop ((Ei 64 rest).length+1)) && (Le k (Ei 64 rest) (rest.drop ((Ei 64 rest).length+1)) == l++[10])):=by
 subst hr;unfold Uo;rw [if_neg h];simp only [];rw [if_neg h2]
theorem Bab (l:Bs) (n:Nat):(bs l).extract 0 n=bs (l.take n):=by rw [Bhc,Jr];simp
theorem Baa (l:Bs) (n:Nat):(bs l).extract n (bs l).size=bs (l.drop n):=by rw [Zn,Jr]
theorem Azv {a b:Bs}:bs a=bs b↔a=b:=⟨fun h=>by have:=congrArg (fun x=>x.data.toList) h;simpa [Jr] using this,fun h=>by rw [h]⟩
theorem Ans {c:UInt8} {l:Bs} (h:0 < ((Ee c l).map bs).length):((Ee c l).map bs)[0]=bs (Ei c l):=by
 obtain ⟨r,hr,_⟩:=Sx c l;simp [hr]
theorem Ant (c:UInt8) (l:Bs):0 < ((Ee c l).map bs).length:=by
 obtain ⟨r,hr,_⟩:=Sx c l;simp [hr]
theorem Axf (s:ByteArray) (k:Nat) (hk:k≤59) (hs:s.size≤16777216):FV 161 [.string s,.int .i64 (k:Int)] [] (.tuple #[.agg #[.string (bs (Uo s.data.toList k).1.1),.string (bs (Uo s.data.toList k).1.2)],.bool (Uo s.data.toList k).2]):=by
 have hI:=fun w=>Aha (Xb 1 k w FJ FJ);have hah:bs (Lib.decDigits k)++⟨#[32]⟩=bs (Ib k):=by rw [Adt,Jr];rfl
 have hD:(bs (Lib.decDigits k)).size≤2:=LH
 have hT0:=Ade 35 s.data.toList;rw [C0] at hT0;have e0:=Js (Ib k);have hA:(Ib k).length≤3:=by have:=Em 1 k FJ;simp [Ib];omega
 have e1:=Js (Ei 35 s.data.toList);have e2:=Bab (Ei 35 s.data.toList) (Ib k).length;have e3:=Baa (Ei 35 s.data.toList) (Ib k).length;refine enter func161 rfl ntmps161 fun w0=>?_;refine go ?_;intros;refine cb (fun w st=>hI w) ?_;apply wO;apply oc;rfl;exact Of rfl rfl (by rw [sz1];omega);rw [hah];refine go ?_;intros;refine cn (fun w st=>Aec s 35 w hs) fun a2 c2 F2=>?_;refine A4 (E:=A8) (xs:=(Ee 35 s.data.toList).map bs) fun F3=>?_;have hi7:=Ant 35 s.data.toList;refine Nq (xs:=(Ee 35 s.data.toList).map bs) 0 ?_;rintro hi0 b0 o0 rfl q0;rw [Ans];rw [←e0] at e2 e3
 have e4:(Ei 35 s.data.toList).take (bs (Ib k)).size=Ib k↔(bs (Ei 35 s.data.toList)).extract 0 (bs (Ib k)).size=bs (Ib k):=by rw [e2,Azv]
 rw [e0] at e4;have hr3:((bs (Ei 35 s.data.toList)).extract (bs (Ib k)).size (bs (Ei 35 s.data.toList)).size).data.toList=(Ei 35 s.data.toList).drop (Ib k).length:=by rw [e3,Jr,e0]
 generalize bs (Ei 35 s.data.toList)=tx at *;rw [←e0] at e4;generalize bs (Ib k)=ah at *;refine go ?_;intros;by_cases hlt:tx.size < ah.size
 ·rw [Avc (.inl FJ),show decide ((tx.size:Int) < (ah.size:Int))=true from decide_eq_true FJ];refine go ?_;intros;exact BC
 rw [show decide ((tx.size:Int) < (ah.size:Int))=false from decide_eq_false FJ];refine go ?_;intros;apply wO;apply oc;rfl;exact Biu rfl rfl FJ FJ;refine go ?_;intros;refine Ax rfl (fun h4=>?_) (fun h4=>?_)
 ·rw [Avc (.inr (fun e=>h4 (e4.1 (by rw [e0];exact e))))];refine go ?_;intros;exact BC
 have h4:tx.extract 0 ah.size=ah:=Decidable.not_not.1 h4;have hyes:¬((Ei 35 s.data.toList).length < (Ib k).length∨(Ei 35 s.data.toList).take (Ib k).length≠Ib k):=by
  rintro (h|h)
  ·omega
  ·exact h (by rw [←e0];exact e4.2 h4)
 refine go ?_;intros;apply wO;apply oc;rfl;exact Ajt rfl rfl FJ FJ;rw [show tx.extract ((ah.size:Nat):Int).toNat tx.size=tx.extract ah.size tx.size from rfl];have hrz:(tx.extract ah.size tx.size).size≤16777216:=KX
 generalize tx.extract ah.size tx.size=rs at *;refine go ?_;intros;refine cn (fun w st=>Aec rs 64 w hrz) fun a4 c4 F4=>?_;refine A4 (E:=A8) (xs:=(Ee 64 rs.data.toList).map bs) fun F5=>?_;have hi8:=Ant 64 rs.data.toList;refine Nq (xs:=(Ee 64 rs.data.toList).map bs) 0 ?_;rintro hi1 b1 o1 rfl q1;rw [Ans];have e5:=Js (Ei 64 rs.data.toList);have e6:=Ade 64 rs.data.toList;have e7:=Zn rs ((Ei 64 rs.data.toList).length+1);have e8:=C0 rs;have e9:=Jr (Ei 64 rs.data.toList);have hnb:=fun h=>Bfe (l:=s.data.toList) (k:=k) hyes hr3 h;have hnc:=fun h=>Bff (l:=s.data.toList) (k:=k) hyes hr3 h;rw [←e5] at e7
 generalize bs (Ei 64 rs.data.toList)=ak at *;refine go ?_;intros;refine Ax rfl (fun h5=>?_) (fun h5=>?_)
 ·rw [hnb FJ];refine go ?_;intros;exact BC
 have hno:=hnc FJ;refine go ?_;intros;apply wO;apply oc;rfl;exact Ajt rfl rfl FJ FJ;rw [show rs.extract ((ak.size:Int)+1).toNat rs.size=rs.extract (ak.size+1) rs.size from rfl];have hrp:(rs.extract (ak.size+1) rs.size).size≤16777216:=KX
 have p1:(rs.extract (ak.size+1) rs.size).data.toList=rs.data.toList.drop ((Ei 64 rs.data.toList).length+1):=by rw [e7,Jr,e5]
 generalize rs.extract (ak.size+1) rs.size=rp at *;rw [←p1,←e9,←O7] at hno;refine go ?_;intros;rw [hno];cases hg:Bx ak rp
 ·skip
  refine As [0] [] ?_;refine Ed 0 1 ?_;refine dN 2 ?_;refine oC ?_;refine cb (fun w st=>Zr ak rp w GC GC) ?_;rw [hg];refine dk ?_;refine dt 3 ?_;refine ds 4 ?_;refine ds 5 ?_;refine ds 6 ?_;refine ds 7 ?_;refine ds 8 ?_;refine ds 9 ?_;refine dt 10 ?_;refine dN 11 ?_;refine oS ?_;refine dk ?_;refine dt 12 ?_;refine dd ?_;refine go ?_;intros;refine ret () trivial ?_;dsimp only;rw [Ae8,Ae8];rw [Bool.false_and];rfl
 ·skip
  refine As [0] [] ?_;refine Ed 0 1 ?_;refine dN 2 ?_;refine oC ?_;refine cb (fun w st=>Zr ak rp w GC GC) ?_;rw [hg];refine dk ?_;refine dt 3 ?_;refine Dr 4 ?_;refine Dr 5 ?_;refine Dr 7 ?_;refine Dr 8 ?_ (hy:=Of rfl rfl (by rw [sz1];omega));refine d1g 6 ?_;apply On.h;refine oC ?_;refine Cb (Alr k ak rp hk (Bei hg)) fun _ _=>?_;refine dk ?_;refine Dr 9 ?_;refine dt 10 ?_;refine dN 11 ?_;refine oS ?_;refine dk ?_;refine dt 12 ?_;refine dd ?_;refine go ?_;intros;refine ret () trivial ?_;dsimp only;rw [Ae8,Ae8]
  rw [Bool.true_and,show (decide (bs (Le k ak.data.toList rp.data.toList)=s++⟨#[10]⟩))=(Le k ak.data.toList rp.data.toList == s.data.toList++[10]) from by
   rw [Adt,Bool.eq_iff_iff];simp [Azv]]
  rfl
end Go.Proofs.YtkblpelckhegbaaGreatDoor.Lg
namespace Go.Proofs.YtkblpelckhegbaaGreatDoor
open Go.RowKit
theorem Ayc {n:Nat} {P:Program} {row:String} {args:Array Value} {w:World} {R:Value→World→Prop} (h:Rows P row args w R):RowsIn Fence.wide n P row args w R:=fun c cs _=>by
 obtain ⟨v,w',r,s⟩:=h c cs;exact ⟨v,w',r,stepsIn_wide.2 s⟩
theorem Ain {l n:Nat} {P:Program} {o:Oper} {a:Act} {w:World} {K:Act→World→Prop} {Q:Exit→Act→World→Prop} (hd:∀c,o.op≠.defer c) (h:o.wp P a w K Q) :
  o.wpIn (Fence.wide.inRound l) n P a w K Q:=by
 refine ⟨fun f _=>trivial,?_⟩;rw [Fence.inRound_round,Oper.semAt_some l _ _ hd];unfold Oper.wp at h;generalize (execOp a.eval o).run P w=r at *;cases r with
 | ok x w' =>
  cases x <;> simp only [Oper.upon,Oper.uponIn] at h ⊢ <;>
   first
    | exact h
    | exact ⟨(fun e=>by cases e),CallsIn.inRound l (callsIn_wide.2 h)⟩
    | exact ⟨(fun e=>by cases e),Ayc h⟩
 | halt x w'=>cases x <;> simp only [Oper.upon,Oper.uponIn] at h ⊢ <;> exact h
def Xi (o:Oper):Bool:=match o.op with
 | .defer _=>false
 | _=>true
theorem Aio {o:Oper} (h:Xi o=true):∀c,o.op≠.defer c:=fun c e=>by simp [Xi,e] at h
theorem Abh {l n:Nat} {P:Program} {ops:Array Oper} {Q:Exit→Act→World→Prop} (hQ:∀a w,¬Q .outgrown a w):∀{lst:List Oper} {a:Act} {w:World},
  (∀o∈lst,Xi o=true)→wpList P ops Q lst a w→wpListIn (Fence.wide.inRound l) n P ops Q lst a w
 | [],_,_,_,h=>h
 | o::rest,a,w,hp,h=>by
  unfold wpList at h;unfold wpListIn
  split
  ·rename_i hw;rw [if_pos hw] at h;rcases h with h|⟨_,a',w',h⟩
   ·refine Ain (Aio (hp o FK)) (Oper.wp_mono (fun a w h=>?_) h);exact Abh hQ (fun o ho=>hp o (by simp [ho])) h
   ·exact absurd h (hQ a' w')
  ·rename_i hw;rw [if_neg hw] at h;exact ⟨fun f _=>trivial,Abh hQ (fun o ho=>hp o (by simp [ho])) h⟩
theorem Il {l n id:Nat} {P:Program} {ops:List Oper} {Q:Exit→Act→World→Prop} {a:Act} {w:World} (hQ:∀a w,¬Q .outgrown a w) (hp:(ops.all Xi)=true)
  (h:wpList P ops.toArray Q ops a w):(Code.region id ops.toArray false).wpIn (Fence.wide.inRound l) n P Q a w :=
 wpIn_region_lit (Abh hQ (fun o ho=>List.all_eq_true.1 hp o ho) h)
theorem Zk {l n:Nat} {P:Program} {md:Region.Mode} {ops:Array Oper} {Q:Exit→Act→World→Prop} (hQ:∀a w,¬Q .outgrown a w) (hp:(ops.toList.all Xi)=true):∀(f:Nat) (listed:Array Bool) (a:Act) (w:World),
  wpAny P md ops Q f listed a w→wpAnyIn (Fence.wide.inRound l) n P md ops Q f listed a w
 | 0,_,_,_,h=>h
 | f+1,listed,a,w,h=>by
  refine ⟨h.1,fun i hi=>?_⟩;have h1:=h.2 i hi;unfold wpOp at h1;unfold wpOpIn;cases ho:ops[i]? with
  | none=>rw [ho] at h1;exact Zk hQ hp f _ _ _ h1
  | some o =>
   rw [ho] at h1;have hpo:Xi o=true:=List.all_eq_true.1 hp o (by rw [←Array.getElem?_toList] at ho;exact List.mem_of_getElem? ho);dsimp only at h1 ⊢
   split
   ·rename_i hw;rw [if_pos hw] at h1;rcases h1 with h1|⟨_,a',w',h1⟩
    ·exact Ain (Aio hpo) (Oper.wp_mono (fun a w h=>Zk hQ hp f _ a w h) h1)
    ·exact absurd h1 (hQ a' w')
   ·rename_i hw;rw [if_neg hw] at h1;exact ⟨fun f _=>trivial,Zk hQ hp f _ _ _ h1⟩
def AbB {β:Type} (b:List Nat) (J:β→World→Prop):Prop:=∀s W W',J s W→D6 b W W'→J s W'
def Aoo (ks:List Nat) (W W':World):Prop:=∀k∈ks,W'.heap[k]?=W.heap[k]?
def Azl (P:Program) (gf:Nat) (lb:Array Value) (b:Nat) (xs:List ByteArray) (W0:World):Prop :=
 ∀(n l:Nat) (J Jx:List ByteArray→World→Prop),AbB [b] J→AbB [b] Jx →
  (∀m pre x post W1,xs=pre++x::post→J pre W1→YieldAt Fence.wide m P l #[.string x] W1 fun e W' =>
   (e=.returned (.bool true)∧J (pre++[x]) W'∧W'.heap[b]?=W1.heap[b]?)∨(e=.returned (.bool false)∧Jx (pre++[x]) W')) →
  J [] W0→CallsIn Fence.wide n P gf (#[.func (.yield l) #[] #[]]++lb) W0 fun e W'=>(∃v,e=.returned v)∧(J xs W'∨∃pre x post,xs=pre++x::post∧Jx (pre++[x]) W')
def Bd4 (ks:List Nat) (I:List ByteArray→World→Prop) (Ix:Code→List ByteArray→World→Prop) (ys:List ByteArray) (W:World):Exit→Act→World→Prop
 | .normal,_,W'=>Aoo ks W W'∧I ys W'
 | .ret,_,W'=>Aoo ks W W'∧Ix .ret ys W'
 | .exit id,_,W'=>Aoo ks W W'∧Ix (.exit id) ys W'
 | .goto t,_,W'=>Aoo ks W W'∧Ix (.goto t) ys W'
 | .panic _,_,_=>False
 | .outgrown,_,_=>False
theorem Ov (W:World) (l:Nat) (o:Obj):D6 [l] W (W.putObj l o) :=
 ⟨rfl,rfl,rfl,FK,fun k _ hk=>World.putObj_heap_other (fun e=>hk (by simp [e]))⟩
theorem Aoa {P:Program} {g:Operand} {ps:Array Tmp} {assign body:Code} {Q:Exit→Act→World→Prop} {a:Act} {w:World} {n gf b:Nat} {lb:Array Value} {xs:List ByteArray}
  (hg:a.eval g=.func (.func gf) #[] lb) (eg:∀args w,(callFunc gf args).run P w=.ok (.enter gf args) w) (hps:ps.size=1) (hb:b < w.heap.size)
  (hseq:∀W0,W0.heap[b]?=w.heap[b]?→Azl P gf lb b xs W0)
  (I:List ByteArray→World→Prop) (Ix:Code→List ByteArray→World→Prop) (hI:AbB [b,w.heap.size+1] I) (hIx:∀c,AbB [b,w.heap.size+1] (Ix c)) (h0:I [] w) (a₁:ByteArray→Act)
  (hassign:∀(m:Nat) (x:ByteArray) (W:World) (K:Act→World→Prop),K (a₁ x) W →
   assign.wpIn (Fence.wide.inRound (w.heap.size+1)) m P (Exit.then K (fun _ _ _=>False)) { tmps:=(ps.zip #[.string x]).foldl (fun t (p,v)=>t.setIfInBounds p v) a.tmps,defers:=[] } W)
  (hbody:∀(m:Nat) (pre post:List ByteArray) (x:ByteArray) (W:World),xs=pre++x::post→w.heap.size+2≤W.heap.size→I pre W →
   body.wpIn (Fence.wide.inRound (w.heap.size+1)) m P (Bd4 [b,w.heap.size,w.heap.size+1] I Ix (pre++[x]) W) (a₁ x) W)
  (hdone:∀(W:World),I xs W→W.heap[w.heap.size]?=some (.deferred (some []))→Q .normal { a with defers:={ target:=.collected w.heap.size,args:=#[] }::a.defers } W)
  (hstop:∀(c:Code) (pre post:List ByteArray) (x:ByteArray) (W:World),xs=pre++x::post→Ix c (pre++[x]) W→W.heap[w.heap.size]?=some (.deferred (some [])) →
   c.wpIn Fence.wide n P Q { a with defers:={ target:=.collected w.heap.size,args:=#[] }::a.defers } W) :
  (Code.rangeFunc g ps assign body).wpIn Fence.wide n P Q a w:=by
 refine wpIn_rangeFunc ?_;intro fn hfn;rw [Fence.wide_round];obtain ⟨rec,hrec⟩:∃rec:LoopState→Option Code→Loop,rec=fun st pe=>{ state:=st,pending:=pe,fn,tmps:=a.tmps,params:=ps,assign,body,defers:=w.heap.size }:=⟨_,rfl⟩;obtain ⟨W1,hW1⟩:∃W1,(w.alloc (.deferred (some []))).alloc (.loop (rec .ready none))=W1:=⟨_,rfl⟩;have hL1:W1.heap[w.heap.size+1]?=some (.loop (rec .ready none)):=by
  rw [←hW1];have:=World.alloc_heap_new (w.alloc (.deferred (some []))) (.loop (rec .ready none));rwa [World.size_alloc] at this
 have hK1:W1.heap[w.heap.size]?=some (.deferred (some [])):=by
  rw [←hW1];exact (Below.heap_alloc _ _ _ FK).trans (World.alloc_heap_new w _)
 have hk1:D6 [b,w.heap.size+1] w W1:=by rw [←hW1];exact ((D6.refl _ _).alloc _).alloc _
 have hb1:W1.heap[b]?=w.heap[b]?:=by
  rw [←hW1];exact (Below.heap_alloc _ _ _ FR).trans (Below.heap_alloc _ _ _ hb)
 refine ⟨w.heap.size+1,[{ target:=.collected w.heap.size,args:=#[] }],W1,{ target:=.fn (.func gf) lb,args:=#[.func (.yield (w.heap.size+1)) #[] #[]] },W1,gf,
  #[.func (.yield (w.heap.size+1)) #[] #[]]++lb,W1,?_,?_,?_,?_,(fun e=>by cases e),?_⟩
 ·rw [←hW1,hrec];exact run_enterLoop_outer _ _ _ _ _
 ·simp only [resolve,hg];simp [go_sem]
 ·intro f' hf';trivial
 ·simp [invoke,go_sem,eg]
 have far:∀{W W':World} {k:Nat} {o:Obj},D6 [b] W W'→b < w.heap.size→w.heap.size≤k→W.heap[k]?=some o→W'.heap[k]?=some o:=fun {W W' k o} hk h1 h2 h3 =>
  (hk.block k (Array.getElem?_eq_some_iff.1 h3).1 FR).trans h3
 have wider:∀{W W':World},D6 [b] W W'→D6 [b,w.heap.size+1] W W':=fun h=>h.mono fun x hx _=>by simp at hx ⊢;omega
 have wider2:∀{W W':World},D6 [w.heap.size+1] W W'→D6 [b,w.heap.size+1] W W':=fun h=>h.mono fun x hx _=>by simp at hx ⊢;omega
 refine (hseq W1 hb1 (n - 1) (w.heap.size+1)
  (fun pre W=>I pre W∧W.heap[w.heap.size+1]?=some (.loop (rec .ready none))∧W.heap[w.heap.size]?=some (.deferred (some [])))
  (fun pre W=>∃c,Ix c pre W∧W.heap[w.heap.size+1]?=some (.loop (rec .done (some c)))∧W.heap[w.heap.size]?=some (.deferred (some [])))
  (fun s A B hs hk=>⟨hI s A B hs.1 (wider hk),far hk hb FJ hs.2.1,far hk hb FJ hs.2.2⟩)
  (fun s A B hs hk=>by
   obtain ⟨c,hc,hl,hd⟩:=hs;exact ⟨c,hIx c s A B hc (wider hk),far hk hb FJ hl,far hk hb FJ hd⟩)
  ?_ ⟨hI _ _ _ h0 hk1,hL1,hK1⟩).mono ?_
 ·rintro m pre x post W hxs ⟨hi,hl,hk⟩;have hlt:w.heap.size+1 < W.heap.size:=(Array.getElem?_eq_some_iff.1 hl).1;have hy:=run_yield (P:=P) (args:=#[.string x]) hl (by rw [hrec];exact hps.symm);rw [hrec] at hy;refine ⟨fn,_,assign,body,hy,roundIn_of_wpIn hfn (hassign m x W _ ⟨_,run_beginRound hl (by rw [hrec]),?_⟩)⟩;obtain ⟨W2,hW2⟩:∃W2,W.putObj (w.heap.size+1) (.loop { rec .ready none with state:=.busy })=W2:=⟨_,rfl⟩;rw [hW2];have hl2:W2.heap[w.heap.size+1]?=some (.loop { rec .ready none with state:=.busy }):=by rw [←hW2];exact World.putObj_heap_same hlt
  have hk2:W2.heap[w.heap.size]?=some (.deferred (some [])):=by rw [←hW2];exact (World.putObj_heap_other FJ).trans hk
  have hb2:W2.heap[b]?=W.heap[b]?:=by rw [←hW2];exact World.putObj_heap_other FJ
  have hi2:I pre W2:=hI _ _ _ hi (by rw [←hW2];exact wider2 (Ov _ _ _));have hs2:w.heap.size+2≤W2.heap.size:=by rw [←hW2];simp;omega
  refine wpIn_mono (hbody m pre post x _ hxs hs2 hi2) ?_
  have fin:∀(Yt:Option Code) (W3:World),Aoo [b,w.heap.size,w.heap.size+1] W2 W3 →
    (Instr.endRound (w.heap.size+1) Yt).run P W3=.ok (.bool Yt.isNone) (W3.putObj (w.heap.size+1) (.loop (rec (if Yt.isNone then .ready else .done) Yt))) ∧
    (W3.putObj (w.heap.size+1) (.loop (rec (if Yt.isNone then .ready else .done) Yt))).heap[w.heap.size+1]?=some (.loop (rec (if Yt.isNone then .ready else .done) Yt)) ∧
    (W3.putObj (w.heap.size+1) (.loop (rec (if Yt.isNone then .ready else .done) Yt))).heap[w.heap.size]?=some (.deferred (some [])) ∧
    (W3.putObj (w.heap.size+1) (.loop (rec (if Yt.isNone then .ready else .done) Yt))).heap[b]?=W.heap[b]?:=fun Yt W3 hk3=>by
   have hl3:=(hk3 (w.heap.size+1) FK).trans hl2;have h4:=run_endRound (P:=P) Yt hl3;rw [hrec] at h4 ⊢;exact ⟨h4,World.putObj_heap_same (Array.getElem?_eq_some_iff.1 hl3).1,(World.putObj_heap_other FJ).trans ((hk3 w.heap.size FK).trans hk2),(World.putObj_heap_other FJ).trans ((hk3 b FK).trans hb2)⟩
  rintro e a3 W3 hp;cases e with
  | normal =>
   obtain ⟨hk3,hi3⟩:=hp;obtain ⟨hr,hl4,hd4,hb4⟩:=fin none W3 hk3;exact ⟨_,_,hr,.inl ⟨rfl,⟨hI _ _ _ hi3 (wider2 (Ov _ _ _)),hl4,hd4⟩,hb4⟩⟩
  | ret =>
   obtain ⟨hk3,hi3⟩:=hp;obtain ⟨hr,hl4,hd4,hb4⟩:=fin (some .ret) W3 hk3;exact ⟨_,_,hr,.inr ⟨rfl,.ret,hIx _ _ _ _ hi3 (wider2 (Ov _ _ _)),hl4,hd4⟩⟩
  | exit id =>
   obtain ⟨hk3,hi3⟩:=hp;obtain ⟨hr,hl4,hd4,hb4⟩:=fin (some (.exit id)) W3 hk3;exact ⟨_,_,hr,.inr ⟨rfl,.exit id,hIx _ _ _ _ hi3 (wider2 (Ov _ _ _)),hl4,hd4⟩⟩
  | goto t =>
   obtain ⟨hk3,hi3⟩:=hp;obtain ⟨hr,hl4,hd4,hb4⟩:=fin (some (.goto t)) W3 hk3;exact ⟨_,_,hr,.inr ⟨rfl,.goto t,hIx _ _ _ _ hi3 (wider2 (Ov _ _ _)),hl4,hd4⟩⟩
  | panic ch=>exact hp.elim
  | outgrown=>exact hp.elim
 ·rintro e W2 ⟨⟨v,rfl⟩,(⟨hi,hl,hk⟩|⟨pre,x,post,hxs,c,hi,hl,hk⟩)⟩
  ·exact ⟨none,_,KE,hdone _ (hI _ _ _ hi (wider2 (Ov _ _ _))) ((World.putObj_heap_other FJ).trans hk)⟩
  ·exact ⟨some c,_,KE,hstop c pre post x _ hxs (hIx _ _ _ _ hi (wider2 (Ov _ _ _))) ((World.putObj_heap_other FJ).trans hk)⟩
end Go.Proofs.YtkblpelckhegbaaGreatDoor
namespace Go.Proofs.YtkblpelckhegbaaGreatDoor.Lg
open Go.RowKit
theorem Aok (s:ByteArray) (c:UInt8) (w:World):Calls prog 272 #[.string s,.int .u8 (c.toNat:Int)] w fun e w'=>e=.returned (.int .i64 (Lib.indexByte s.data.toList c))∧w=w':=by
 refine (Tryz.strings_IndexByte s c.toNat w).mono ?_;rintro e w' ⟨rfl,rfl⟩;exact ⟨FK,rfl⟩
def Jl (s:ByteArray):List ByteArray:=(Ea s.data.toList).map bs
theorem As5 {s:ByteArray} (h:¬0 < s.size):Jl s=[]:=by
 have:s.data.toList=[]:=List.eq_nil_of_length_eq_zero (by rw [C0];omega);unfold Jl;rw [this];rfl
theorem As4 {s:ByteArray} (h:10∈s.data.toList):Jl s=bs (Ei 10 s.data.toList++[10])::Jl (bs (M7 10 s.data.toList)) ∧
  s.extract 0 ((Ei 10 s.data.toList).length+1)=bs (Ei 10 s.data.toList++[10])∧s.extract ((Ei 10 s.data.toList).length+1) s.size=bs (M7 10 s.data.toList):=by
 refine ⟨?_,?_,(Auo h).2⟩
 ·rcases Px 10 s.data.toList with ⟨_,h2⟩|⟨h2,_⟩
  ·unfold Jl;rw [Jr]
   conv=>lhs;rw [h2]
   rw [Uk _ Adf];rfl
  ·exact absurd h h2
 ·rcases Px 10 s.data.toList with ⟨_,h2⟩|⟨h2,_⟩
  ·rw [Lib.extract_eq];unfold bs;congr 2;rw [List.drop_zero,Nat.sub_zero];refine (congrArg (List.take _) h2).trans ?_;rw [List.take_append,List.take_of_length_le FJ];simp
  ·exact absurd h h2
theorem Ap4 {s:ByteArray} (h0:0 < s.size) (h:10 ∉ s.data.toList):Jl s=[s]:=by
 unfold Jl;rw [Xc (fun e=>by have:=C0 s;rw [e] at this;simp at this;omega) (fun c hc e=>h (by rw [←e];exact hc))];simp [Ae8]
theorem Av1 {s:ByteArray} (h:10∈s.data.toList):(bs (M7 10 s.data.toList)).size < s.size:=by
 rcases Px 10 s.data.toList with ⟨_,h2⟩|⟨h2,_⟩
 ·have:=congrArg List.length h2;rw [Js];rw [C0] at this;simp at this;omega
 ·exact absurd h h2
def Amw (b:Nat) (w:World):Nat:=match w.cell? ⟨b,0,none⟩ with
 | some (.string r)=>r.size
 | _=>0
theorem Aa1 {b:Nat} {t:TypeId} {w:World} {r:ByteArray} (h:Ir w b t [.string r]):Amw b w=r.size:=by
 unfold Amw;rw [h.cell];rfl
theorem Bdr (s:ByteArray) (w:World):Calls prog 200 #[.string s] w fun e w'=>e=.returned (.func (.func 271) #[] #[.pointer (some ⟨w.heap.size,0,none⟩)])∧w'=w.alloc (.cells #[.string s] 9):=by
 go_enter func200,ntmps200
 go_wp2_with fail;refine bodyPost_ret (v:=.func (.func 271) #[] #[.pointer (some ⟨w.heap.size,0,none⟩)]) ?_ rfl ⟨rfl,rfl⟩;simp [results,results200,go_sem]
theorem Axl (s:ByteArray) (b:Nat) (W0:World) (hs:s.size≤4294967296) (hr:Ir W0 b 9 [.string s]):Azl prog 271 #[.pointer (some ⟨b,0,none⟩)] b (Jl s) W0:=by
 intro n l J Jx hJ hJx hY h0;refine callsIn_of_wp func271 rfl trivial ?_ rfl;simp only [ntmps271,List.size_toArray,List.length_cons,List.length_nil,Nat.reduceAdd,Nat.reduceSub,Array.replicate_succ,Array.replicate_zero,List.push_toArray,List.append_toArray,List.cons_append,List.nil_append];have c0:=hr.cells
 gi_wp2
 gi_loopw [3] (fun _ wr=>∃(pre:List ByteArray) (r:ByteArray),Hid (Jl s=pre++Jl r)∧r.size≤4294967296∧Ir wr b 9 [.string r]∧J pre wr) (fun _ wr=>Amw b wr)
 case atStart=>exact ⟨[],s,rfl,hs,hr,h0⟩
 case round =>
  obtain ⟨pre,r,hx,hrs,hrow,hj⟩:=hrel;have hm:=Lib.hid (Aa1 hrow);have hi:=fun w=>Aok r 10 w;by_cases hz:0 < r.size
  ·by_cases hn:10∈r.data.toList
   ·obtain ⟨hl,hx1,hx2⟩:=As4 hn;have hbl:=Av1 hn;have hlt:=Avm hn;rw [C0] at hlt;rw [(Qv 10 _).1 hn] at hi;generalize (Ei 10 r.data.toList).length=i at *;generalize bs (Ei 10 r.data.toList++[10])=x at *;generalize bs (M7 10 r.data.toList)=rest at *;have hx3:Hid (Jl s=pre++x::Jl rest):=by have:=hx.out;rw [hl] at this;exact Lib.hid this
    replace hx1:=Lib.hid hx1;replace hx2:=Lib.hid hx2;replace hi:=Lib.hid hi;replace hY:=Lib.hid hY;have hw:=Lib.hid (show IntKind.i64.wrap ((i:Int)+1)=(i:Int)+1 from by rw [IntKind.wrap_i64];omega);have hn1:=Lib.hid (show ((i:Int)+1).toNat=i+1 from by omega);clear hx hl hn;have c1:=hrow.cells;have f1:=hrow.frozens
    gi_wp2_with (refine ⟨trivial,(fun e=>by cases e),?_⟩;refine (callsIn_wide.2 (hi.out _)).mono ?_;rintro e w' ⟨rfl,rfl⟩)
    refine wpIn_wide.2 ?_;clear c1 f1;refine Fm.start (S:=(fun w'=>w'.cell? ⟨b,0,none⟩=some (.string r))) (X:=(fun i=>i == 9)) FL ?_;have al:Below wr.heap.size wr wr.drew:=D7 (Below.refl _ _) 1;have hs_w1:=al.size;replace hrow:=hrow.below al;have hB:=al;generalize wr.drew=w1 at *;clear al;have hS:(fun w'=>w'.cell? ⟨b,0,none⟩=some (.string r)) w1:=hrow.cells 0;refine Fm.take (i:=0) (oi:=_) (v:=?_) FX FL FL FL FL FL GM (Or.inl ⟨GG,?_⟩) hS ?_
    rotate_left
    ·(intro wS hSw;(try dsimp only at hSw);go_simp;try with_reducible rfl)
    try simp only [Act.put,List.setIfInBounds_toArray,List.set_cons_zero,List.set_cons_succ]
    refine Fm.take (i:=1) (oi:=_) (v:=?_) FX FL FL FL FL FL GM (Or.inl ⟨GG,?_⟩) hS ?_
    rotate_left
    ·(intro wS hSw;(try dsimp only at hSw);go_simp;try with_reducible rfl)
    try simp only [Act.put,List.setIfInBounds_toArray,List.set_cons_zero,List.set_cons_succ]
    refine Fm.take (i:=2) (oi:=_) (v:=?_) FX FL FL FL FL FL GM (Or.inl ⟨GG,?_⟩) hS ?_
    rotate_left
    ·(intro wS hSw;(try dsimp only at hSw);go_simp;rw [hw.out];try with_reducible rfl)
    try simp only [Act.put,List.setIfInBounds_toArray,List.set_cons_zero,List.set_cons_succ]
    refine Fm.take (i:=3) (oi:=_) (v:=?_) FX FL FL FL FL FL GM (Or.inl ⟨GG,?_⟩) hS ?_
    rotate_left
    ·(intro wS hSw;(try dsimp only at hSw);go_simp;rw [if_pos FJ,hx1.out];try with_reducible rfl)
    try simp only [Act.put,List.setIfInBounds_toArray,List.set_cons_zero,List.set_cons_succ]
    refine Fm.take (i:=4) (oi:=_) (v:=?_) FX FL FL FL FL FL GM (Or.inl ⟨GG,?_⟩) hS ?_
    rotate_left
    ·(intro wS hSw;(try dsimp only at hSw);go_simp;try with_reducible rfl)
    try simp only [Act.put,List.setIfInBounds_toArray,List.set_cons_zero,List.set_cons_succ]
    refine Fm.take (i:=5) (oi:=_) (v:=?_) FX FL FL FL FL FL GM (Or.inl ⟨GG,?_⟩) hS ?_
    rotate_left
    ·(intro wS hSw;(try dsimp only at hSw);go_simp;try with_reducible rfl)
    try simp only [Act.put,List.setIfInBounds_toArray,List.set_cons_zero,List.set_cons_succ]
    refine Fm.take (i:=6) (oi:=_) (v:=?_) FX FL FL FL FL FL GM (Or.inl ⟨GG,?_⟩) hS ?_
    rotate_left
    ·(intro wS hSw;(try dsimp only at hSw);go_simp;rw [hw.out];try with_reducible rfl)
    try simp only [Act.put,List.setIfInBounds_toArray,List.set_cons_zero,List.set_cons_succ]
    refine Fm.take (i:=7) (oi:=_) (v:=?_) FX FL FL FL FL FL GM (Or.inl ⟨GG,?_⟩) hS ?_
    rotate_left
    ·(intro wS hSw;(try dsimp only at hSw);go_simp;rw [if_pos FJ,hx2.out];try with_reducible rfl)
    try simp only [Act.put,List.setIfInBounds_toArray,List.set_cons_zero,List.set_cons_succ]
    refine Fm.only (i:=8) (o:=_) FL FX (fun K hK=>?_)
    try go_simp
    clear hS;have hS:(fun w'=>w'.cell? ⟨b,0,none⟩=some (.string r)) w1:=hrow.cells 0;refine hK.out _ _ (fun _=>hS) ?_;clear hK K
    try simp only [Act.put,List.setIfInBounds_toArray,List.set_cons_zero,List.set_cons_succ]
    refine Fm.only (i:=9) (o:=_) FL FX (fun K hK=>?_);have c_hrow:=hrow.cells;have f_hrow:=hrow.frozens
    go_simp
    clear c_hrow f_hrow;refine hK.out _ _ (fun h=>by cases h) ?_;clear hK K
    try simp only [Act.put,List.setIfInBounds_toArray,List.set_cons_zero,List.set_cons_succ]
    refine Fm.done FL ?_ _
    (try clear hS)
    have hrow2:Ir (w1.setCell ⟨b,0,none⟩ (.string rest)) b 9 [.string rest]:=hrow.set 0 (.string rest);have hj2:J pre (w1.setCell ⟨b,0,none⟩ (.string rest)):=hJ _ _ _ hj ((D6.ofBelow hB).setCell FK _);clear hrow hj hB;generalize (w1.setCell ⟨b,0,none⟩ (.string rest))=w9 at *;obtain ⟨fn,tmps,assign,body,hy,hR⟩:=hY.out (n - 1) pre x (Jl rest) w9 hx3.out hj2;replace hR:=Lib.hid hR
    gi_wp2
    refine ⟨(fun e=>by cases e),?_⟩;refine hR.out.mono ?_;rintro e W3 (⟨rfl,hJ3,hk3⟩|⟨rfl,hJx3⟩)
    ·have hrow3:=hrow2.Jd hk3;have hm3:=Aa1 hrow3
     gi_wp2
     go_roundw
     case rel=>exact ⟨pre++[x],rest,by refine Lib.hid ?_;rw [hx3.out];simp,FJ,hrow3,hJ3⟩
     case measure=>have:=hm.out;omega
    ·gi_wp2
     refine bodyPost_ret (results_none rfl _ _ _) rfl ?_;exact ⟨⟨_,rfl⟩,.inr ⟨pre,x,Jl rest,hx3.out,hJx3⟩⟩
   ·have hl:=Ap4 hz hn;rw [(Qv 10 _).2 hn] at hi;have hx3:Hid (Jl s=pre++r::[]):=by have:=hx.out;rw [hl] at this;exact Lib.hid this
    replace hi:=Lib.hid hi;have c1:=hrow.cells;have f1:=hrow.frozens;have hrow2:Ir (wr.setCell ⟨b,0,none⟩ (.string ⟨#[]⟩)) b 9 [.string ⟨#[]⟩]:=hrow.set 0 (.string ⟨#[]⟩);have hj2:J pre (wr.setCell ⟨b,0,none⟩ (.string ⟨#[]⟩)):=hJ _ _ _ hj ((D6.refl _ _).setCell FK _);obtain ⟨fn,tmps,assign,body,hy,hR⟩:=hY (n - 1) pre r [] _ hx3.out hj2;replace hR:=Lib.hid hR;replace hrow2:=Lib.hid hrow2;clear hx hl hn hY
    gi_wp2_with (refine ⟨trivial,(fun e=>by cases e),?_⟩;refine (callsIn_wide.2 (hi.out _)).mono ?_;rintro e w' ⟨rfl,rfl⟩)
    refine ⟨(fun e=>by cases e),?_⟩;refine hR.out.mono ?_;rintro e W3 (⟨rfl,hJ3,hk3⟩|⟨rfl,hJx3⟩)
    ·have hrow3:=hrow2.out.Jd hk3;have hm3:=Aa1 hrow3
     gi_wp2
     go_roundw
     case rel=>exact ⟨pre++[r],⟨#[]⟩,by refine Lib.hid ?_;rw [hx3.out];simp [Jl,Ea],Nat.zero_le _,hrow3,hJ3⟩
     case measure=>have h7:=hm.out;have h8:(⟨#[]⟩:ByteArray).size=0:=rfl;omega
    ·gi_wp2
     refine bodyPost_ret (results_none rfl _ _ _) rfl ?_;exact ⟨⟨_,rfl⟩,.inr ⟨pre,r,[],hx3.out,hJx3⟩⟩
  ·have c1:=hrow.cells;have f1:=hrow.frozens
   gi_wp2
   go_end0
   refine ⟨⟨_,rfl⟩,.inl ?_⟩;have h1:=hx.out;rw [As5 hz,List.append_nil] at h1;rw [h1];exact hj
def Ki (k:Int) (x:O5):ByteArray × Bool:=(bs ((Agb k x.Je.data.toList x.Hh.data.toList).getD []),(Agb k x.Je.data.toList x.Hh.data.toList).isSome)
def Af8:ByteArray × Bool→World→Ending→World→Prop:=fun (r0,r1) w e w'=>e=.returned (.tuple #[.string r0,.bool r1])∧Below w.heap.size w w'
theorem Al5 {k:Int} {x:O5} (h:(Gj 0 k 59 && Bx x.Je x.Hh)=false):Ki k x=(bs [],false):=by
 rw [O7] at h;unfold Ki Agb;rw [if_neg (by rw [h];simp)];rfl
theorem Atk {k:Nat} {x:O5} (hk:k≤59) (h:Bx x.Je x.Hh=true):Ki (k:Int) x=(bs (Le k x.Je.data.toList x.Hh.data.toList),true):=by
 rw [O7] at h;unfold Ki Agb;rw [if_pos (by rw [h];simp [Gj];omega)];rfl
theorem Ag0 (x0:Int) (v1:Value) (x1:O5) (F1:List Nat) (FT:List Nat) (w:World) (h1:Jy Nm w v1 x1 F1) (hT:Jy Adn w (.agg #[]) () FT) :
  Calls prog 202 #[.int .i64 x0,v1] w (Af8 (Ki x0 x1) w):=by
 obtain ⟨_,rfl,rfl,s1,s2,rfl⟩:=h1;have hin:=fun w=>Ik x0 0 59 w;have hgd:=fun w=>Xz x1.Je x1.Hh w s1 s2;have hB0:∀A:Obj,Below w.heap.size w (w.alloc A):=fun A=>(Below.refl _ _).alloc (Nat.le_refl _) _;cases hb:Gj 0 x0 59 with
 | false =>
  rw [Al5 (by rw [hb];rfl)];rw [hb] at hin;clear hb
  go_enter func202,ntmps202
  go_wp2_with (first|(go_at_call 114;refine (hin _).mono ?_;rintro e w' ⟨rfl,rfl⟩));refine bodyPost_ret (v:=.tuple #[.string ⟨#[]⟩,.bool false]) ?_ rfl ⟨rfl,hB0 _⟩;simp [results,results202,go_sem]
 | true =>
  have hk:0≤x0∧x0≤59:=by simpa [Gj] using hb
  cases hg:Bx x1.Je x1.Hh with
  | false =>
   rw [Al5 (by rw [hg];simp)];rw [hb] at hin;rw [hg] at hgd;clear hb hg
   go_enter func202,ntmps202
   go_wp2_with (first|(go_at_call 114;refine (hin _).mono ?_;rintro e w' ⟨rfl,rfl⟩)|(go_at_call 52;refine (hgd _).mono ?_;rintro e w1 ⟨rfl,hb1⟩));refine bodyPost_ret (v:=.tuple #[.string ⟨#[]⟩,.bool false]) ?_ rfl ⟨rfl,(hB0 _).trans (hb1.mono FK)⟩;simp [results,results202,go_sem]
  | true =>
   obtain ⟨k,rfl⟩:=Int.eq_ofNat_of_zero_le hk.1;have hk9:k≤59:=FJ
   rw [Atk hk9 hg];rw [hb] at hin;rw [hg] at hgd;have hl:=Lib.hid (fun w hT=>Yl k x1.Je x1.Hh FT w hk9 (Jk (by rw [←O7];exact hg)) hT);clear hb hg hk;have R:=fun (w1:World) (hb1:Below (w.alloc (.cells #[.string x1.Je,.string x1.Hh] 66)).heap.size (w.alloc (.cells #[.string x1.Je,.string x1.Hh] 66)) w1)=>(Ir.made w 66 [.string x1.Je,.string x1.Hh]).below hb1;replace R:=Lib.hid R;have hT1:=hT.below (hB0 (.cells #[.string x1.Je,.string x1.Hh] 66))
   go_enter func202,ntmps202
   go_wp2_with (first|(go_at_call 114;refine (hin _).mono ?_;rintro e w' ⟨rfl,rfl⟩)|(go_at_call 52;refine (hgd _).mono ?_;rintro e w1 ⟨rfl,hb1⟩;have c_R:=(R.out _ hb1).cells)|(go_at_call 54;refine (hl.out _ (hT1.below hb1)).mono ?_;rintro e w2 ⟨rfl,hb2⟩));refine bodyPost_ret (v:=.tuple #[.string (bs (Le k x1.Je.data.toList x1.Hh.data.toList)),.bool true]) ?_ rfl ⟨rfl,((hB0 _).trans (hb1.mono FK)).trans (hb2.mono (by have:=hb1.size;simp at this;omega))⟩;simp [results,results202,go_sem]
theorem Axy {k:Nat} {x:Bs} (h:okL k x=true):∃y,x=y++[10]∧∀b∈y,32≤b.toNat∧b.toNat≤126:=by
 obtain ⟨c,r,_,hg,rfl⟩:=U6.1 h;have hG:=Jk hg;refine ⟨Ph (Ls k c r),rfl,fun b hb=>?_⟩;unfold Ph at hb;simp only [List.mem_append,List.mem_cons] at hb;rcases hb with hb|rfl|hb
 ·exact (Tw hG b hb).1
 ·decide
 ·have:=Qd _ b hb;omega
theorem Bho {k:Nat} {z:Bs} (h:∀b∈z,b≠10):okL k z=false:=by
 cases hk:okL k z with
 | false=>rfl
 | true =>
  obtain ⟨y,rfl,_⟩:=Axy hk;exact absurd rfl (h 10 FK)
theorem Avw {k:Nat} {x:Bs} (h:okL k x=true) (r:Bs):acc k (Ea (x++r))=x::acc (k+1) (Ea r):=by
 obtain ⟨y,rfl,hy⟩:=Aly h;rw [List.append_assoc,List.singleton_append,Uk _ hy];simp [acc,h]
theorem Anl {d:Bs} (hd:(Bp d).flatten.length=d.length) (q:Bs):Bp (d++q)=Bp d++acc (Bp d).length (Ea q):=by
 have hf:=Y1 hd;have h2:=To (xs:=Bp d) (by rw [hf];exact hf) q;rw [Wh hd] at h2;exact h2
structure Akr (d p:Bs) (n:Int):Prop where
 all:(Bp (d++p)).flatten=d++p
 dur:(Bp d).flatten=d
 Yj:n=(Bp (d++p)).length
theorem Arn {d p:Bs} {n:Int} (h:Kv d p n=true):Akr d p n:=by
 unfold Kv at h;simp only [Bool.and_eq_true,decide_eq_true_eq] at h;exact ⟨Wh (by simp [h.2.1.1]),Wh h.2.1.2,h.2.2.symm⟩
theorem Akr.bool {d p:Bs} {n:Int} (h:Akr d p n):Kv d p n=true:=by
 unfold Kv;have h1:=Nu (d++p);have h2:=congrArg List.length h.all;have h3:=congrArg List.length h.dur;rw [List.length_append] at h2;simp only [Bool.and_eq_true,decide_eq_true_eq];exact ⟨FJ,⟨h2,h3⟩,h.Yj.symm⟩
theorem Akr.append {d p x:Bs} {n:Int} (h:Akr d p n) (hx:okL (Bp (d++p)).length x=true):Akr d (p++x) (n+1)∧Bp (d++(p++x))=Bp (d++p)++[x]:=by
 have h1:=Anl (d:=d++p) (by rw [h.all]) x;have h2:=Avw hx [];simp only [List.append_nil,Ea,acc] at h2;rw [h2,List.append_assoc] at h1;refine ⟨⟨?_,h.dur,?_⟩,h1⟩
 ·rw [h1,List.flatten_append,h.all];simp
 ·rw [h1,List.length_append,h.Yj];simp
def Rp (l:Bs):O5:=⟨bs (Af9 l),bs (Agf l)⟩
def Afv (x:ByteArray):O5:=Rp x.data.toList
theorem Ax8 (x:ByteArray):Afv x=⟨Rh 64 (Sz 32 (Rh 35 x)),Sz 64 (Sz 32 (Rh 35 x))⟩:=by
 simp only [Afv,Rp,Rh,Sz,Jr,Af9,Agf,Ajh]
def E7 (pre:List ByteArray):List Bs:=pre.map fun x=>x.data.toList
theorem Xe (pre:List ByteArray) (x:ByteArray):E7 (pre++[x])=E7 pre++[x.data.toList]:=by simp [E7]
theorem Sp (pre:List ByteArray):(E7 pre).length=pre.length:=by simp [E7]
theorem R6 (s:ByteArray):E7 (Jl s)=Ea s.data.toList:=by
 unfold E7 Jl;rw [List.map_map];have:(fun x:ByteArray=>x.data.toList) ∘ bs=id:=by funext l;simp [bs]
 rw [this,List.map_id]
def X0 (pre:List ByteArray):List Int:=(Lt 0 (E7 pre)).map Int.ofNat
theorem Vz (pre:List ByteArray):(X0 pre).length=pre.length+1:=by simp [X0,Ty,Sp]
def Py (pre:List ByteArray):Nat:=(E7 pre).flatten.length
theorem Asf (pre:List ByteArray) (x:ByteArray):X0 (pre++[x])=X0 pre++[(Py pre:Int)+(x.size:Int)]:=by
 unfold X0 Py;rw [Xe,Ahn];simp
theorem Aho (pre:List ByteArray):(X0 pre)[pre.length]?=some (Py pre:Int):=by
 have h:=Aa7 (n:=0) (xs:=E7 pre);have hl:=Vz pre;rw [List.getLast?_eq_getElem?,Ty,Sp] at h;unfold X0;rw [List.getElem?_map,show pre.length=pre.length+1 - 1 from rfl,h];simp [Py]
theorem Ark {s:ByteArray} {pre post:List ByteArray} (h:Jl s=pre++post):Py pre≤s.size:=by
 have h1:=congrArg (fun l=>(E7 l).flatten.length) h;simp only [R6,Tn] at h1;rw [C0] at h1;have:E7 (pre++post)=E7 pre++E7 post:=by simp [E7]
 rw [this,List.flatten_append,List.length_append] at h1;unfold Py;omega
theorem Az0 {s:ByteArray} {pre post:List ByteArray} (h:Jl s=pre++post):pre.length≤s.size:=by
 have h1:=Ark h;have h2:∀xs:List Bs,(∀x∈xs,x≠[])→xs.length≤xs.flatten.length:=by
  intro xs
  induction xs with
  | nil=>simp
  | cons x xs ih =>
   intro hx;have h3:=ih fun y hy=>hx y LK;have h4:1≤x.length:=by
    have:=hx x FK;cases x with
    | nil=>exact absurd rfl this
    | cons=>simp
   simp only [List.length_cons,List.flatten_cons,List.length_append];omega
 have h5:=h2 (E7 pre) fun x hx=>by
  refine Xd (l:=s.data.toList) ?_;rw [←R6,h];simp only [E7,List.map_append,List.mem_append];exact .inl hx
 rw [Sp] at h5;unfold Py at h1;omega
theorem Bey {s:ByteArray} {pre post:List ByteArray} {x:ByteArray} (h:Jl s=pre++x::post):Py pre+x.size≤s.size:=by
 have h1:Jl s=(pre++[x])++post:=by rw [h];simp
 have h2:=Ark h1;unfold Py at h2 ⊢;rw [Xe] at h2;simp at h2 ⊢;omega
theorem Fm.startIn {P:Program} {ops:Array Oper} {Q:Exit→Act→World→Prop} {S:World→Prop} {X:Nat→Bool} {l n id:Nat} {a:Act} {w:World} (hm:P.follows .mixedOrders=true) (hQ:∀a w,¬Q .outgrown a w) (hp:(ops.toList.all Xi)=true)
  (h:Fm P .any ops Q S X ops.size (Array.replicate ops.size false) a w.drew):(Code.region id ops true).wpIn (Fence.wide.inRound l) n P Q a w :=
 wpIn_region_any hm (Zk hQ hp _ _ _ _ (Fm.any _ _ _ _ h))
theorem Ak2 (c:UInt8) (s:ByteArray):(Rh c s).size≤s.size:=by
 unfold Rh;rw [Js];have:=Ade c s.data.toList;rw [C0] at this;exact this
theorem Ak1 (c:UInt8) (s:ByteArray):(Sz c s).size≤s.size:=by
 unfold Sz;rw [Js];rcases Px c s.data.toList with ⟨_,h2⟩|⟨_,_,h2⟩
 ·have:=congrArg List.length h2;rw [C0] at this;simp at this;omega
 ·rw [h2];simp
theorem Bb3 {w:World} {g:Nat} {t:TypeId} {cs:List Value} (h:Ir w g t cs):∀j u,cs[j]?=some u→w.cell? ((⟨g,0,none⟩:Addr).add j)=some u:=fun j u hu=>by
 rw [←hu,←h.cell j];by_cases hj:j=0
 ·subst hj;rfl
 ·simp [Addr.add,hj]
theorem Ak5 {w:World} {t:TypeId} {pre:List ByteArray} {gb off ec:Nat} {F:List Nat} (h:Ow Bb t w (.slice (some ⟨gb,off,none⟩) (pre.length+1) ec) (X0 pre) F):w.cell? ⟨gb,off+pre.length,none⟩=some (.int .i64 (Py pre:Int)):=by
 obtain ⟨F',_,hs⟩:=h.read;have hl:=Vz pre;obtain ⟨b,o,e,hc⟩:=hs.int.2.2 pre.length FJ;cases e;rw [hc];have:=Aho pre;rw [List.getElem?_eq_getElem FJ] at this;rw [Option.some.inj this]
theorem Av6 {w:World} {t:TypeId} {pre:List ByteArray} {eo:Option Addr} {ec:Nat} {F:List Nat} (h:Ow Bb t w (.slice eo (pre.length+1) ec) (X0 pre) F):∃gb off,eo=some ⟨gb,off,none⟩:=by
 obtain ⟨F',_,hs⟩:=h.read;have hl:=Vz pre;obtain ⟨b,o,e,hc⟩:=hs.int.2.2 pre.length FJ;exact ⟨b,o,e⟩
def Aax (k:Nat) (W0 W:World):Prop:=W.heap[k]?=W0.heap[k]?∧k < W.heap.size
theorem Aax.below {k W0 W w'} (h:Aax k W0 W) (hb:Below W.heap.size W w'):Aax k W0 w':=⟨(hb.block k h.2).trans h.1,Nat.lt_of_lt_of_le h.2 hb.size⟩
theorem Aax.keepK {k W0 W w' F} (h:Aax k W0 W) (hk:D6 F W w') (hn:k ∉ F):Aax k W0 w':=⟨(hk.block k h.2 hn).trans h.1,Nat.lt_of_lt_of_le h.2 hk.size⟩
theorem Aax.alloc {k W0 W} (h:Aax k W0 W) (o:Obj):Aax k W0 (W.alloc o):=h.below ((Below.refl _ _).alloc (Nat.le_refl _) _)
theorem Aax.Jd {k W0 W w'} (h:Aax k W0 W) (e:w'.heap[k]?=W.heap[k]?):Aax k W0 w':=by
 refine ⟨e.trans h.1,?_⟩;rw [Array.getElem?_eq_getElem h.2] at e;exact (Array.getElem?_eq_some_iff.1 e).1
def RdI (w w1:World) (FT:List Nat) (pre:List ByteArray) (W:World):Prop :=
 ∃lo lc F1 eo ec F2,Ir W w.heap.size 146 [.slice lo pre.length lc]∧Ir W (w.heap.size+1+1) 22 [.slice eo (pre.length+1) ec] ∧
  Ow Nm 66 W (.slice lo pre.length lc) (pre.map Afv) F1∧F1.Nodup∧Ow Bb 3 W (.slice eo (pre.length+1) ec) (X0 pre) F2∧F2.Nodup ∧
  (∀b∈F1,w1.heap.size+1 < b)∧(∀b∈F2,b=w.heap.size+1∨w1.heap.size+1 < b)∧(∀b∈F1,b ∉ F2)∧Jy Adn W (.agg #[]) () FT∧Below w.heap.size w W ∧
  Hid (acc 0 (E7 pre)=E7 pre)
theorem RdI.Jd {w w1:World} {FT:List Nat} {g4:Nat} (h4:w.heap.size+1+1 < g4) (h5:g4 < w1.heap.size) (hFT:∀b∈FT,b < w.heap.size):AbB [g4,w1.heap.size+1] (RdI w w1 FT):=by
 rintro pre W W' ⟨lo,lc,F1,eo,ec,F2,r1,r3,o1,n1,o2,n2,f1,f2,d,hT,hB,ha⟩ hk;refine ⟨lo,lc,F1,eo,ec,F2,r1.keepK hk FR,r3.keepK hk FR,o1.Jd hk (fun b hb hm=>?_),n1,o2.Jd hk (fun b hb hm=>?_),n2,f1,f2,d,hT.Jd hk (fun b hb hm=>?_),hB.trans (hk.below hB.size (fun b hb=>?_)),ha⟩
 ·have:=f1 b hb;simp at hm;omega
 ·have:=f2 b hb;simp at hm;omega
 ·have:=hFT b hb;simp at hm;omega
 ·simp at hb;omega
def RdX (w w1:World) (FT:List Nat) (c:Code) (ys:List ByteArray) (W:World):Prop :=
 c=.exit 0∧∃pre x,ys=pre++[x]∧RdI w w1 FT pre W∧okL pre.length x.data.toList=false
def Bgc (s:ByteArray) (w:World) (e:Ending) (w':World):Prop :=
 ∃u0 G0 u1 G1,e=.returned (.tuple #[u0,u1])∧Ow Nm 66 w' u0 ((Bp s.data.toList).map Rp) G0∧G0.Nodup∧Ow Bb 3 w' u1 ((Lt 0 (Bp s.data.toList)).map Int.ofNat) G1∧G1.Nodup ∧
  (∀b∈G0,w.heap.size≤b)∧(∀b∈G1,w.heap.size≤b)∧(∀b∈G0,b ∉ G1)∧Below w.heap.size w w'
theorem Aop {k:Nat} {xs:List Bs} {x:Bs} (h:acc k xs=xs) (hx:okL (k+xs.length) x=true):acc k (xs++[x])=xs++[x]:=by
 rw [Wu k xs _ h];simp [acc,hx]
theorem Azn {k:Nat} {xs:List Bs} {x:Bs} (post:List Bs) (h:acc k xs=xs) (hx:okL (k+xs.length) x=false):acc k (xs++x::post)=xs:=by
 rw [Wu k xs _ h];simp [acc,hx]
theorem Atd {s:ByteArray} (h:acc 0 (E7 (Jl s))=E7 (Jl s)):E7 (Jl s)=Bp s.data.toList:=by
 rw [R6] at h ⊢;exact h.symm
theorem Aqg {s:ByteArray} {pre post:List ByteArray} {x:ByteArray} (hs:Jl s=pre++x::post) (h:acc 0 (E7 pre)=E7 pre) (hx:okL pre.length x.data.toList=false):E7 pre=Bp s.data.toList:=by
 unfold Bp;rw [←R6,hs];have:E7 (pre++x::post)=E7 pre++x.data.toList::E7 post:=by simp [E7]
 rw [this,Azn _ h (by rw [Sp,Nat.zero_add];exact hx)]
theorem RdI.post {s:ByteArray} {w w1:World} {FT:List Nat} {pre:List ByteArray} {W:World} (h1:w.heap.size+1 < w1.heap.size) (ho:E7 pre=Bp s.data.toList)
  (h:RdI w w1 FT pre W):∃lo lc eo ec,Ir W w.heap.size 146 [.slice lo pre.length lc]∧Ir W (w.heap.size+1+1) 22 [.slice eo (pre.length+1) ec] ∧
   ∀W',D6 [w1.heap.size] W W'→Bgc s w (.returned (.tuple #[.slice lo pre.length lc,.slice eo (pre.length+1) ec])) W':=by
 obtain ⟨lo,lc,F1,eo,ec,F2,r1,r3,o1,n1,o2,n2,f1,f2,d,hT,hB,ha⟩:=h;refine ⟨lo,lc,eo,ec,r1,r3,fun W' hk=>⟨_,F1,_,F2,rfl,?_,n1,?_,n2,fun b hb=>by have:=f1 b hb;omega,fun b hb=>by have:=f2 b hb;omega,d,hB.trans (hk.below hB.size (fun b hb=>by simp at hb;omega))⟩⟩
 ·have e:(Bp s.data.toList).map Rp=pre.map Afv:=by rw [←ho];simp [E7,Afv]
  rw [e];exact o1.Jd hk (fun b hb hm=>by have:=f1 b hb;simp at hm;omega)
 ·have e:(Lt 0 (Bp s.data.toList)).map Int.ofNat=X0 pre:=by rw [←ho];rfl
  rw [e];exact o2.Jd hk (fun b hb hm=>by have:=f2 b hb;simp at hm;omega)
theorem RdI.acc {w w1:World} {FT:List Nat} {pre:List ByteArray} {W:World} (h:RdI w w1 FT pre W):acc 0 (E7 pre)=E7 pre:=by
 obtain ⟨_,_,_,_,_,_,_,_,_,_,_,_,_,_,_,_,_,h⟩:=h;exact h.out
theorem Akd (s:ByteArray) (FT:List Nat) (w:World) (hs:s.size≤16777216) (hT:Jy Adn w (.agg #[]) () FT) :
  Calls prog 112 #[.string s] w (Bgc s w):=by
 have hFT:=hT.lt;refine (callsIn_wide (n:=9)).1 (callsIn_of_wp_marks func112 rfl trivial ?_ rfl);simp only [ntmps112,List.size_toArray,List.length_cons,List.length_nil,Nat.reduceAdd,Nat.reduceSub,Array.replicate_succ,Array.replicate_zero,List.push_toArray,List.append_toArray,List.cons_append,List.nil_append];refine wpIn_wide.2 ?_;go_wp2_with (go_at_call 200;refine (Bdr _ _).mono ?_;rintro e w' ⟨rfl,rfl⟩)
 have al:Below w.heap.size w ((((w.alloc (.cells #[.slice none 0 0] 146)).alloc (.cells #[.int .i64 0] 3)).alloc (.cells #[.slice (some ⟨w.heap.size+1,0,none⟩) 1 1] 22)).alloc (.cells #[.string s] 9)):=by
  repeat refine Below.alloc ?_ GF _
  exact Below.refl _ _
 have n_R1:Ir ((((w.alloc (.cells #[.slice none 0 0] 146)).alloc (.cells #[.int .i64 0] 3)).alloc (.cells #[.slice (some ⟨w.heap.size+1,0,none⟩) 1 1] 22)).alloc (.cells #[.string s] 9)) (w.heap.size) 146 [.slice none 0 0]:=HF
 have n_R2:Ir ((((w.alloc (.cells #[.slice none 0 0] 146)).alloc (.cells #[.int .i64 0] 3)).alloc (.cells #[.slice (some ⟨w.heap.size+1,0,none⟩) 1 1] 22)).alloc (.cells #[.string s] 9)) (w.heap.size+1) 3 [.int .i64 0]:=HF
 have n_R3:Ir ((((w.alloc (.cells #[.slice none 0 0] 146)).alloc (.cells #[.int .i64 0] 3)).alloc (.cells #[.slice (some ⟨w.heap.size+1,0,none⟩) 1 1] 22)).alloc (.cells #[.string s] 9)) (w.heap.size+1+1) 22 [.slice (some ⟨w.heap.size+1,0,none⟩) 1 1]:=HF
 have n_R4:Ir ((((w.alloc (.cells #[.slice none 0 0] 146)).alloc (.cells #[.int .i64 0] 3)).alloc (.cells #[.slice (some ⟨w.heap.size+1,0,none⟩) 1 1] 22)).alloc (.cells #[.string s] 9)) (w.heap.size+1+1+1) 9 [.string s]:=HF
 have hs_w1:w.heap.size+1+1+1 < ((((w.alloc (.cells #[.slice none 0 0] 146)).alloc (.cells #[.int .i64 0] 3)).alloc (.cells #[.slice (some ⟨w.heap.size+1,0,none⟩) 1 1] 22)).alloc (.cells #[.string s] 9)).heap.size:=GF
 replace hT:=hT.below al;have hB:=al;generalize ((((w.alloc (.cells #[.slice none 0 0] 146)).alloc (.cells #[.int .i64 0] 3)).alloc (.cells #[.slice (some ⟨w.heap.size+1,0,none⟩) 1 1] 22)).alloc (.cells #[.string s] 9))=w1 at *;have R1:=n_R1;clear n_R1;have R2:=n_R2;clear n_R2;have R3:=n_R3;clear n_R3;have R4:=n_R4;clear n_R4;clear al;have h0:RdI w w1 FT [] w1:=by
  refine ⟨none,0,[],some ⟨w.heap.size+1,0,none⟩,1,[w.heap.size+1],R1,R3,.inl ⟨rfl,rfl,rfl⟩,FK,?_,FK,FK,FK,FK,hT,hB,Lib.hid rfl⟩;exact .inr ⟨w.heap.size+1,1,[.int .i64 0],[],[],rfl,by simpa using R2,by rw [Vz];simp,GC,rfl,⟨[.int .i64 0],[],[],[],rfl,rfl,⟨rfl,rfl⟩,rfl,rfl⟩,rfl⟩
 refine (wpIn_wide (n:=9)).1 ?_
 apply Aoa (b:=w.heap.size+1+1+1) (xs:=Jl s) (gf:=271) (lb:=#[.pointer (some ⟨w.heap.size+1+1+1,0,none⟩)]) rfl (enters_of func271 FL rfl) rfl FJ
  (fun W0 hW0=>Axl s _ W0 FJ (R4.Jd hW0)) (RdI w w1 FT) (RdX w w1 FT) (RdI.Jd FJ FJ hFT)
  (by
   rintro c ys W W' ⟨hc,pre,x,hy,hi,hk2⟩ hk;exact ⟨hc,pre,x,hy,RdI.Jd FJ FJ hFT _ _ _ hi hk,hk2⟩) h0
 case hassign =>
  intro m x W K hK;refine Il (fun _ _ h=>h) FL ?_;simp only [List.zip_toArray,List.foldl_toArray,List.zip_cons_cons,List.zip_nil_right,List.foldl_cons,List.foldl_nil,List.setIfInBounds_toArray,List.set_cons_zero,List.set_cons_succ];go_wp2_with fail;exact hK
 case hbody =>
  intro m pre post x W hxs hsz hI;clear R1 R2 R3 R4 hT hB h0;have hxl:=Bey hxs;have hcl:=Az0 hxs;have hends:=Aho pre;have hel:=Vz pre;have hT0:=hFT;obtain ⟨lo,lc,F1,eo,ec,F2,G1,G3,o1,n1,o2,n2,f1,f2,dd,hT,hB,ha⟩:=hI;have S4:Aax (w.heap.size+1+1+1) W W:=⟨rfl,FJ⟩;have S5:Aax w1.heap.size W W:=⟨rfl,FJ⟩;have S6:Aax (w1.heap.size+1) W W:=⟨rfl,FJ⟩;have z1:=Ak2 35 x;have z2:=Ak1 32 (Rh 35 x);have z3:=Ak2 64 (Sz 32 (Rh 35 x));have z4:=Ak1 64 (Sz 32 (Rh 35 x));have hk1:=Lib.hid (fun w=>Ay6 x 35 w GC)
  have hk2:=Lib.hid (fun w=>Ay6 (Rh 35 x) 32 w GC);have hk3:=Lib.hid (fun w=>Ay6 (Sz 32 (Rh 35 x)) 64 w GC);have hrec:=Ax8 x;have hcm:(Rh 64 (Sz 32 (Rh 35 x))).data.toList=Af9 x.data.toList:=by simp only [Rh,Sz,Jr,Af9,Ajh]
  have hrp:(Sz 64 (Sz 32 (Rh 35 x))).data.toList=Agf x.data.toList:=by simp only [Rh,Sz,Jr,Agf,Ajh]
  generalize Rh 35 x=y1 at *;generalize Sz 32 y1=y2 at *;generalize Rh 64 y2=cc at *;generalize Sz 64 y2=rr at *;generalize hy1f:Sz 35 x=y3 at *;generalize hy2f:Rh 32 y1=y4 at *;clear hy1f hy2f;have sc:cc.size≤maxLen:=GC
  have sr:rr.size≤maxLen:=GC
  have hE:=Lib.hid (fun w v hv hT=>Ag0 (pre.length:Int) v ⟨cc,rr⟩ [] FT w hv hT);have hres:Ki (pre.length:Int) ⟨cc,rr⟩=(bs ((Agb (pre.length:Int) (Af9 x.data.toList) (Agf x.data.toList)).getD []),(Agb (pre.length:Int) (Af9 x.data.toList) (Agf x.data.toList)).isSome):=by unfold Ki;rw [hcm,hrp]
  replace hres:=Lib.hid hres;replace hrec:=Lib.hid hrec;replace hends:=Lib.hid hends;replace hel:=Lib.hid hel;replace hxs:=Lib.hid hxs;clear hcm hrp;refine wpIn_block ?_;refine wpIn_seq_k (fun _ _=>?_);refine Il (fun _ _ h=>h) FL ?_;go_wp2_with fail;refine (hk1.out _).mono ?_;rintro e w21 ⟨rfl,j,hj⟩;have hb:Below W.heap.size W w21:=IW
  clear hj;have hs_w21:=hb.size;replace G1:=G1.below hb;replace G3:=G3.below hb;replace o1:=o1.below hb;replace o2:=o2.below hb;replace hT:=hT.below hb;replace S4:=S4.below hb;replace S5:=S5.below hb;replace S6:=S6.below hb;replace hB:=tr hB hb (Nat.le_refl _);clear hb;go_wp2_with fail;refine wpIn_seq_k (fun _ _=>?_);refine Il (fun _ _ h=>h) FL ?_;go_wp2_with fail;refine (hk2.out _).mono ?_;rintro e w22 ⟨rfl,j,hj⟩;have hb:Below w21.heap.size w21 w22:=IW
  clear hj;have hs_w22:=hb.size;replace G1:=G1.below hb;replace G3:=G3.below hb;replace o1:=o1.below hb;replace o2:=o2.below hb;replace hT:=hT.below hb;replace S4:=S4.below hb;replace S5:=S5.below hb;replace S6:=S6.below hb;replace hB:=tr hB hb (Nat.le_refl _);clear hb;go_wp2_with fail;refine wpIn_seq_k (fun _ _=>?_);refine Il (fun _ _ h=>h) FL ?_;go_wp2_with fail;refine (hk3.out _).mono ?_;rintro e w23 ⟨rfl,j,hj⟩;have hb:Below w22.heap.size w22 w23:=IW
  clear hj;have hs_w23:=hb.size;replace G1:=G1.below hb;replace G3:=G3.below hb;replace o1:=o1.below hb;replace o2:=o2.below hb;replace hT:=hT.below hb;replace S4:=S4.below hb;replace S5:=S5.below hb;replace S6:=S6.below hb;replace hB:=tr hB hb (Nat.le_refl _);clear hb;go_wp2_with fail;clear hk1 hk2 hk3;refine wpIn_seq_k (fun _ _=>?_);refine Il (fun _ _ h=>h) FL ?_;go_wp2_with fail;have al:Below w23.heap.size w23 (w23.alloc (.cells #[.string cc,.string rr] 66)):=by
   repeat refine Below.alloc ?_ GF _
   exact Below.refl _ _
  have n_R8:=Ir.made w23 66 [.string cc,.string rr];have hs_w24:w23.heap.size < (w23.alloc (.cells #[.string cc,.string rr] 66)).heap.size:=FK
  replace G1:=G1.below al;replace G3:=G3.below al;replace o1:=o1.below al;replace o2:=o2.below al;replace hT:=hT.below al;replace S4:=S4.below al;replace S5:=S5.below al;replace S6:=S6.below al;replace hB:=tr hB al (Nat.le_refl _);generalize (w23.alloc (.cells #[.string cc,.string rr] 66))=w24 at *;have R8:=n_R8;clear n_R8;clear al;cases henc:Agb (pre.length:Int) (Af9 x.data.toList) (Agf x.data.toList) with
  | none =>
   have hno:okL pre.length x.data.toList=false:=by unfold okL;rw [henc];rfl
   have hE2:=hE.out;rw [hres.out,henc] at hE2;replace hE2:=Lib.hid hE2;refine wpIn_seq_k (fun _ _=>?_);refine wpIn_seq_k (fun _ _=>?_);refine Il (fun _ _ h=>h) FL ?_;have c_G1:=G1.cells;have f_G1:=G1.frozens;have c_R8:=R8.cells;have f_R8:=R8.frozens;go_wp2_with fail;clear c_G1 f_G1 c_R8 f_R8;refine (hE2.out _ _ ⟨_,rfl,rfl,sc,sr,rfl⟩ hT).mono ?_;rintro e w25 ⟨rfl,hb⟩;have hs_w25:=hb.size;clear hE hE2;replace G1:=G1.below hb;replace G3:=G3.below hb;replace R8:=R8.below hb;replace o1:=o1.below hb;replace o2:=o2.below hb;replace hT:=hT.below hb;replace S4:=S4.below hb
   replace S5:=S5.below hb;replace S6:=S6.below hb;replace hB:=tr hB hb (Nat.le_refl _);clear hb;go_wp2_with fail;refine wpIn_seq_k (fun _ _=>?_);refine Il (fun _ _ h=>h) FL ?_;go_wp2_with fail;refine wpIn_cond_true rfl ?_;refine wpIn_exit ?_;refine ⟨fun k hk=>?_,rfl,pre,x,rfl,⟨lo,lc,F1,eo,ec,F2,G1,G3,o1,n1,o2,n2,f1,f2,dd,hT,hB,ha⟩,hno⟩;simp only [List.mem_cons,List.not_mem_nil,or_false] at hk;rcases hk with rfl|rfl|rfl
   ·exact S4.1
   ·exact S5.1
   ·exact S6.1
  | some y =>
   by_cases hyx:y=x.data.toList
   ·have hok:okL pre.length x.data.toList=true:=by unfold okL;rw [henc,hyx];simp
    rw [hyx] at henc;have hE2:=hE.out;rw [hres.out,henc] at hE2;simp only [Option.getD_some,Ae8,Option.isSome_some] at hE2;replace hE2:=Lib.hid hE2;refine wpIn_seq_k (fun _ _=>?_);refine wpIn_seq_k (fun _ _=>?_);refine Il (fun _ _ h=>h) FL ?_;have c_G1:=G1.cells;have f_G1:=G1.frozens;have c_R8:=R8.cells;have f_R8:=R8.frozens;go_wp2_with fail;clear c_G1 f_G1 c_R8 f_R8;refine (hE2.out _ _ ⟨_,rfl,rfl,sc,sr,rfl⟩ hT).mono ?_;rintro e w26 ⟨rfl,hb⟩;have hs_w26:=hb.size;clear hE hE2;replace G1:=G1.below hb;replace G3:=G3.below hb;replace R8:=R8.below hb;replace o1:=o1.below hb
    replace o2:=o2.below hb;replace hT:=hT.below hb;replace S4:=S4.below hb;replace S5:=S5.below hb;replace S6:=S6.below hb;replace hB:=tr hB hb (Nat.le_refl _);clear hb;go_wp2_with fail;refine wpIn_seq_k (fun _ _=>?_);refine Il (fun _ _ h=>h) FL ?_;go_wp2_with fail;refine wpIn_cond_false rfl ?_;refine wpIn_skip ?_;go_wp2_with fail;have lF1:=o1.lt;have lF2:=o2.lt;have hnd:∀b∈FT,b < w.heap.size:=hT0;clear henc hres;refine wpIn_seq_k (fun _ _=>?_);refine Il (fun _ _ h=>h) FL ?_
    have c_G1:=G1.cells;have f_G1:=G1.frozens;have d_G1:=fun o=>(G1.alloc o).cells;have e_G1:=fun o=>(G1.alloc o).frozens;have c_R8:=R8.cells;have f_R8:=R8.frozens;have d_R8:=fun o=>(R8.alloc o).cells;have e_R8:=fun o=>(R8.alloc o).frozens
    go_wp2_with (at_builtin;refine P8 Y0 FM GG _ _ _ GG 66 (.agg #[.string ⟨#[]⟩,.string ⟨#[]⟩]) 32 underlying146 Ah1 rfl (.slice lo pre.length lc) (pre.map Afv) F1 GG (o1.below ((Below.refl _ _).alloc (Nat.le_refl _) _)) (Hd.of n1) (some ⟨w26.heap.size,0,none⟩) [⟨cc,rr⟩] 1 GG [.string cc,.string rr] [] (C1.one ⟨rfl,sc,sr,rfl⟩) (.inr ⟨_,rfl,World.news_of_block (heap_alloc_new w26 _)⟩) FK (by simp;unfold maxLen;omega) FR ?_);clear c_G1 f_G1 d_G1 e_G1 c_R8 f_R8 d_R8 e_R8;intro v6 w27 F6 hA
    have o6:=hA.ow;have n6:=hA.Bbc n1 FK FK;have m6:=hA.mem;have K6:=hA.Jd;obtain ⟨a6,c6,hv6⟩:=hA.val;clear hA;have hv7:v6=.slice a6 (pre.length+1) c6:=by simpa using hv6
    subst hv7;clear hv6;have al:=(Below.refl w26.heap.size w26).alloc (Nat.le_refl _) (.cells #[.string cc,.string rr] 66);have hs_w27:w26.heap.size+1≤w27.heap.size:=by have:=K6.size;simpa using this
    have f6:∀b∈F6,w1.heap.size+1 < b:=fun b hb=>by
     rcases m6 b hb with h7|h7|h7
     ·exact f1 b h7
     ·simp at h7
     ·simp at h7;omega
    have d6:∀b∈F6,b ∉ F2:=fun b hb hm=>by
     rcases m6 b hb with h7|h7|h7
     ·exact dd b h7 hm
     ·simp at h7
     ·have:=lF2 b hm;simp at h7;omega
    replace G1:=(G1.below al).keepK K6 (fun hm=>by have:=f1 _ hm;omega);replace G3:=(G3.below al).keepK K6 (fun hm=>by have:=f1 _ hm;omega);replace o2:=(o2.below al).Jd K6 (fun b hb hm=>dd b hm hb);replace hT:=(hT.below al).Jd K6 (fun b hb hm=>by have:=f1 b hm;have:=hnd b hb;omega);replace S4:=(S4.below al).keepK K6 (fun hm=>by have:=f1 _ hm;omega);replace S5:=(S5.below al).keepK K6 (fun hm=>by have:=f1 _ hm;omega);replace S6:=(S6.below al).keepK K6 (fun hm=>by have:=f1 _ hm;omega)
    replace hB:=(tr hB al (Nat.le_refl _)).trans (K6.below (B:=w.heap.size) (by have:=hB.size;simp;omega) (fun b hb=>by have:=f1 b hb;omega));clear K6 m6 al o1 n1 dd lF1 lF2 R8;have c_G1:=G1.cells;have f_G1:=G1.frozens;go_wp2_with fail;clear c_G1 f_G1;have K7:D6 [w.heap.size] w27 (w27.setCell ⟨w.heap.size,0,none⟩ (.slice a6 (pre.length+1) c6)):=(D6.refl _ _).setCell FK _;have G1b:Ir (w27.setCell ⟨w.heap.size,0,none⟩ (.slice a6 (pre.length+1) c6)) w.heap.size 146 [(.slice a6 (pre.length+1) c6)]:=G1.set 0 (.slice a6 (pre.length+1) c6);replace G3:=G3.keepK K7 FR
    replace o2:=o2.Jd K7 (fun b hb hm=>by have:=f2 b hb;simp at hm;omega);replace o6:=o6.Jd K7 (fun b hb hm=>by have:=f6 b hb;simp at hm;omega);replace hT:=hT.Jd K7 (fun b hb hm=>by have:=hnd b hb;simp at hm;omega);replace S4:=S4.keepK K7 FR;replace S5:=S5.keepK K7 FR;replace S6:=S6.keepK K7 FR;replace hB:=hB.trans (K7.below (B:=w.heap.size) (by have:=hB.size;omega) (fun b hb=>by simp at hb;omega));have hs_w28:w27.heap.size≤(w27.setCell ⟨w.heap.size,0,none⟩ (.slice a6 (pre.length+1) c6)).heap.size:=K7.size;clear K7 G1
    generalize (w27.setCell ⟨w.heap.size,0,none⟩ (.slice a6 (pre.length+1) c6))=w28 at *;have G1:=G1b;clear G1b;obtain ⟨gb,off,rfl⟩:=Av6 o2;have hw4:=Lib.hid (show IntKind.i64.wrap (pre.length:Int)=(pre.length:Int) from by rw [IntKind.wrap_i64];omega);have hw9:=Lib.hid (show IntKind.i64.wrap ((Py pre:Int)+(x.size:Int))=(Py pre:Int)+(x.size:Int) from by rw [IntKind.wrap_i64];omega)
    refine Fm.startIn (S:=(fun w'=>w'.cell? ⟨w.heap.size+1+1,0,none⟩=some (.slice (some ⟨gb,off,none⟩) (pre.length+1) ec)∧w'.cell? ⟨gb,off+pre.length,none⟩=some (.int .i64 (Py pre:Int)))) (X:=(fun i=>i == 11 || i == 12)) FL (fun _ _ h=>h) FL ?_;have al:Below w28.heap.size w28 w28.drew:=D7 (Below.refl _ _) 1;have hs_w29:=al.size;replace G1:=G1.below al;replace G3:=G3.below al;replace o2:=o2.below al;replace hT:=hT.below al;replace S4:=S4.below al;replace S5:=S5.below al;replace S6:=S6.below al;replace o6:=o6.below al;replace hB:=tr hB al (Nat.le_refl _)
    generalize w28.drew=w29 at *;clear al;have hS:(fun w'=>w'.cell? ⟨w.heap.size+1+1,0,none⟩=some (.slice (some ⟨gb,off,none⟩) (pre.length+1) ec)∧w'.cell? ⟨gb,off+pre.length,none⟩=some (.int .i64 (Py pre:Int))) w29:=⟨G3.cells 0,Ak5 o2⟩;refine Fm.take (i:=0) (oi:=_) (v:=?_) FX FL FL FL FL FL GM (Or.inl ⟨GG,?_⟩) hS ?_
    rotate_left
    ·(intro wS hSw;(try dsimp only at hSw);go_simp;try with_reducible rfl)
    try simp only [Act.put,List.setIfInBounds_toArray,List.set_cons_zero,List.set_cons_succ]
    refine Fm.take (i:=1) (oi:=_) (v:=?_) FX FL FL FL FL FL GM (Or.inl ⟨GG,?_⟩) hS ?_
    rotate_left
    ·(intro wS hSw;(try dsimp only at hSw);go_simp;try with_reducible rfl)
    try simp only [Act.put,List.setIfInBounds_toArray,List.set_cons_zero,List.set_cons_succ]
    refine Fm.take (i:=2) (oi:=_) (v:=?_) FX FL FL FL FL FL GM (Or.inl ⟨GG,?_⟩) hS ?_
    rotate_left
    ·(intro wS hSw;(try dsimp only at hSw);go_simp;try with_reducible rfl)
    try simp only [Act.put,List.setIfInBounds_toArray,List.set_cons_zero,List.set_cons_succ]
    refine Fm.take (i:=3) (oi:=_) (v:=?_) FX FL FL FL FL FL GM (Or.inl ⟨GG,?_⟩) hS ?_
    rotate_left
    ·(intro wS hSw;(try dsimp only at hSw);go_simp;try with_reducible rfl)
    try simp only [Act.put,List.setIfInBounds_toArray,List.set_cons_zero,List.set_cons_succ]
    refine Fm.take (i:=4) (oi:=_) (v:=?_) FX FL FL FL FL FL GM (Or.inl ⟨GG,?_⟩) hS ?_
    rotate_left
    ·(intro wS hSw;(try dsimp only at hSw);go_simp;rw [hw4.out];try with_reducible rfl)
    try simp only [Act.put,List.setIfInBounds_toArray,List.set_cons_zero,List.set_cons_succ]
    refine Fm.take (i:=5) (oi:=_) (v:=?_) FX FL FL FL FL FL GM (Or.inl ⟨GG,?_⟩) hS ?_
    rotate_left
    ·(intro wS hSw;(try dsimp only at hSw);go_simp;rw [if_pos FJ];try with_reducible rfl)
    try simp only [Act.put,List.setIfInBounds_toArray,List.set_cons_zero,List.set_cons_succ]
    refine Fm.take (i:=6) (oi:=_) (v:=?_) FX FL FL FL FL FL GM (Or.inl ⟨GG,?_⟩) hS ?_
    rotate_left
    ·(intro wS hSw;(try dsimp only at hSw);go_simp;try with_reducible rfl)
    try simp only [Act.put,List.setIfInBounds_toArray,List.set_cons_zero,List.set_cons_succ]
    refine Fm.take (i:=7) (oi:=_) (v:=?_) FX FL FL FL FL FL GM (Or.inl ⟨GG,?_⟩) hS ?_
    rotate_left
    ·(intro wS hSw;(try dsimp only at hSw);go_simp;try with_reducible rfl)
    try simp only [Act.put,List.setIfInBounds_toArray,List.set_cons_zero,List.set_cons_succ]
    refine Fm.take (i:=8) (oi:=_) (v:=?_) FX FL FL FL FL FL GM (Or.inl ⟨GG,?_⟩) hS ?_
    rotate_left
    ·(intro wS hSw;(try dsimp only at hSw);go_simp;try with_reducible rfl)
    try simp only [Act.put,List.setIfInBounds_toArray,List.set_cons_zero,List.set_cons_succ]
    refine Fm.take (i:=9) (oi:=_) (v:=?_) FX FL FL FL FL FL GM (Or.inl ⟨GG,?_⟩) hS ?_
    rotate_left
    ·(intro wS hSw;(try dsimp only at hSw);go_simp;rw [hw9.out];try with_reducible rfl)
    try simp only [Act.put,List.setIfInBounds_toArray,List.set_cons_zero,List.set_cons_succ]
    refine Fm.only (i:=10) (o:=_) FL FX (fun K hK=>?_)
    go_simp
    have al:Below w29.heap.size w29 (w29.alloc (.cells #[.int .i64 ((Py pre:Int)+(x.size:Int))] 3)):=by
     repeat refine Below.alloc ?_ GF _
     exact Below.refl _ _
    have n_R9:=Ir.made w29 3 [.int .i64 ((Py pre:Int)+(x.size:Int))];have hs_w30:w29.heap.size < (w29.alloc (.cells #[.int .i64 ((Py pre:Int)+(x.size:Int))] 3)).heap.size:=FK
    replace G1:=G1.below al;replace G3:=G3.below al;replace o2:=o2.below al;replace hT:=hT.below al;replace S4:=S4.below al;replace S5:=S5.below al;replace S6:=S6.below al;replace o6:=o6.below al;replace hB:=tr hB al (Nat.le_refl _);generalize (w29.alloc (.cells #[.int .i64 ((Py pre:Int)+(x.size:Int))] 3))=w30 at *;have R9:=n_R9;clear n_R9;clear al;clear hS;have hS:(fun w'=>w'.cell? ⟨w.heap.size+1+1,0,none⟩=some (.slice (some ⟨gb,off,none⟩) (pre.length+1) ec)∧w'.cell? ⟨gb,off+pre.length,none⟩=some (.int .i64 (Py pre:Int))) w30:=⟨G3.cells 0,Ak5 o2⟩;refine hK.out _ _ (fun _=>hS) ?_;clear hK K
    try simp only [Act.put,List.setIfInBounds_toArray,List.set_cons_zero,List.set_cons_succ]
    refine Fm.only (i:=11) (o:=_) FL FX (fun K hK=>?_);have lF2:=o2.lt;have lF6:=o6.lt;refine Aq3 Dd FM GG _ _ _ GG 3 (.int .i64 0) 8 underlying22 Ah2 rfl (.slice (some ⟨gb,off,none⟩) (pre.length+1) ec) (X0 pre) F2 GG o2 (Hd.of n2) (some ⟨w29.heap.size,0,none⟩) [(Py pre:Int)+(x.size:Int)] 1 GG [.int .i64 ((Py pre:Int)+(x.size:Int))] [] (C1.one ⟨rfl,rfl⟩) (.inr ⟨_,rfl,(Bb3 R9)⟩) FK (by have:=hel.out;simp;unfold maxLen;omega) (by have:=hel.out;simp;omega) ?_;intro v8 w31 F8 hA
    have o8:=hA.ow;have n8:=hA.Bbc n2 FK FK;have m8:=hA.mem;have K8:=hA.Jd;obtain ⟨a8,c8,hv8⟩:=hA.val;clear hA;have hv9:v8=.slice a8 (pre.length+1+1) c8:=by rw [hv8,hel.out];rfl
    subst hv9;clear hv8;have hs_w31:=K8.size;have f8:∀b∈F8,b=w.heap.size+1∨w1.heap.size+1 < b:=fun b hb=>by
     rcases m8 b hb with h7|h7|h7
     ·exact f2 b h7
     ·simp at h7
     ·omega
    have d8:∀b∈F6,b ∉ F8:=fun b hb hm=>by
     rcases m8 b hm with h7|h7|h7
     ·exact d6 b hb h7
     ·simp at h7
     ·have:=lF6 b hb;omega
    replace G1:=G1.keepK K8 (fun hm=>by have:=f2 _ hm;omega);replace G3:=G3.keepK K8 (fun hm=>by have:=f2 _ hm;omega);replace o6:=o6.Jd K8 (fun b hb hm=>d6 b hb hm);replace hT:=hT.Jd K8 (fun b hb hm=>by have:=f2 b hm;have:=hnd b hb;omega);replace S4:=S4.keepK K8 (fun hm=>by have:=f2 _ hm;omega);replace S5:=S5.keepK K8 (fun hm=>by have:=f2 _ hm;omega);replace S6:=S6.keepK K8 (fun hm=>by have:=f2 _ hm;omega);replace hB:=hB.trans (K8.below (B:=w.heap.size) (by have:=hB.size;omega) (fun b hb=>by have:=f2 b hb;omega));clear K8 m8 lF2 lF6 R9 o2;refine hK.out _ _ (fun h=>by cases h) ?_;clear hK K
    try simp only [Act.put,List.setIfInBounds_toArray,List.set_cons_zero,List.set_cons_succ]
    refine Fm.only (i:=12) (o:=_) FL FX (fun K hK=>?_);have c_G3:=G3.cells;have f_G3:=G3.frozens
    go_simp
    clear c_G3 f_G3;refine hK.out _ _ (fun h=>by cases h) ?_;clear hK K
    try simp only [Act.put,List.setIfInBounds_toArray,List.set_cons_zero,List.set_cons_succ]
    refine Fm.done FL ?_ _
    (try clear hS)
    have K9:D6 [w.heap.size+1+1] w31 (w31.setCell ⟨w.heap.size+1+1,0,none⟩ (.slice a8 (pre.length+1+1) c8)):=(D6.refl _ _).setCell FK _;have G3b:Ir (w31.setCell ⟨w.heap.size+1+1,0,none⟩ (.slice a8 (pre.length+1+1) c8)) (w.heap.size+1+1) 22 [(.slice a8 (pre.length+1+1) c8)]:=G3.set 0 (.slice a8 (pre.length+1+1) c8);replace G1:=G1.keepK K9 GF;replace o6:=o6.Jd K9 (fun b hb hm=>by have:=f6 b hb;simp at hm;omega);replace o8:=o8.Jd K9 (fun b hb hm=>by have:=f8 b hb;simp at hm;omega);replace hT:=hT.Jd K9 (fun b hb hm=>by have:=hnd b hb;simp at hm;omega)
    replace S4:=S4.keepK K9 GF;replace S5:=S5.keepK K9 GF;replace S6:=S6.keepK K9 GF;replace hB:=hB.trans (K9.below (B:=w.heap.size) (by have:=hB.size;omega) (fun b hb=>by simp at hb;omega));have hlen:(pre++[x]).length=pre.length+1:=FK
    have hmap:(pre++[x]).map Afv=pre.map Afv++[⟨cc,rr⟩]:=by rw [List.map_append,←hrec.out];rfl
    refine ⟨fun k hk=>?_,?_⟩
    ·simp only [List.mem_cons,List.not_mem_nil,or_false] at hk;rcases hk with rfl|rfl|rfl
     ·exact S4.1
     ·exact S5.1
     ·exact S6.1
    ·unfold RdI;rw [hlen,hmap,Asf,Xe];exact ⟨a6,c6,F6,a8,c8,F8,G1,G3b,o6,n6,o8,n8,f6,f8,d8,hT,hB,Lib.hid (Aop ha.out (by rw [Sp,Nat.zero_add];exact hok))⟩
   ·have hno:okL pre.length x.data.toList=false:=by unfold okL;rw [henc];simpa using hyx
    have hne:((bs y).toList == x.toList)=false:=by rw [ByteArray.toList_eq,ByteArray.toList_eq,Jr];simpa using hyx
    have hE2:=hE.out;rw [hres.out,henc] at hE2;replace hE2:=Lib.hid hE2;refine wpIn_seq_k (fun _ _=>?_);refine wpIn_seq_k (fun _ _=>?_);refine Il (fun _ _ h=>h) FL ?_;have c_G1:=G1.cells;have f_G1:=G1.frozens;have c_R8:=R8.cells;have f_R8:=R8.frozens;go_wp2_with fail;clear c_G1 f_G1 c_R8 f_R8;refine (hE2.out _ _ ⟨_,rfl,rfl,sc,sr,rfl⟩ hT).mono ?_;rintro e w32 ⟨rfl,hb⟩;have hs_w32:=hb.size;clear hE hE2;replace G1:=G1.below hb;replace G3:=G3.below hb;replace R8:=R8.below hb;replace o1:=o1.below hb;replace o2:=o2.below hb;replace hT:=hT.below hb;replace S4:=S4.below hb
    replace S5:=S5.below hb;replace S6:=S6.below hb;replace hB:=tr hB hb (Nat.le_refl _);clear hb;go_wp2_with fail;refine wpIn_seq_k (fun _ _=>?_);refine Il (fun _ _ h=>h) FL ?_;go_wp2_with fail;refine wpIn_cond_true rfl ?_;refine wpIn_exit ?_;refine ⟨fun k hk=>?_,rfl,pre,x,rfl,⟨lo,lc,F1,eo,ec,F2,G1,G3,o1,n1,o2,n2,f1,f2,dd,hT,hB,ha⟩,hno⟩;simp only [List.mem_cons,List.not_mem_nil,or_false] at hk;rcases hk with rfl|rfl|rfl
    ·exact S4.1
    ·exact S5.1
    ·exact S6.1
 case hdone =>
  intro W hi hD;obtain ⟨lo,lc,eo,ec,r1,r3,hp⟩:=RdI.post (s:=s) FJ (Atd hi.acc) hi;replace hp:=Lib.hid hp;clear R1 R2 R3 R4 hT hB h0 hi;have c1:=r1.cells;have c3:=r3.cells;go_wp2_with fail
  go_quiet (fail)
  go_wp2_with fail;refine ⟨FK,.inl ⟨_,_,rfl,run_takeDeferred (show (World.drewN W nq).heap[w1.heap.size]?=_ from hD),?_⟩⟩;refine ⟨_,?_,hp.out _ ⟨rfl,rfl,rfl,by simp [World.drewN],fun k hk hm=>World.putObj_heap_other KT⟩⟩;simp [results,results112,go_sem]
 case hstop =>
  intro c pre post x W hxs hix hD;obtain ⟨rfl,pre',x',hy,hi,hok⟩:=hix;obtain ⟨rfl,hxx⟩:=List.append_inj' hy rfl;simp only [List.cons.injEq,and_true] at hxx;subst hxx;obtain ⟨lo,lc,eo,ec,r1,r3,hp⟩:=RdI.post (s:=s) FJ (Aqg hxs hi.acc hok) hi;replace hp:=Lib.hid hp;clear R1 R2 R3 R4 hT hB h0 hi hxs hy;refine wpIn_exit ?_;have c1:=r1.cells;have c3:=r3.cells;go_wp2_with fail
  go_quiet (fail)
  go_wp2_with fail;refine ⟨FK,.inl ⟨_,_,rfl,run_takeDeferred (show (World.drewN W nq).heap[w1.heap.size]?=_ from hD),?_⟩⟩;refine ⟨_,?_,hp.out _ ⟨rfl,rfl,rfl,by simp [World.drewN],fun k hk hm=>World.putObj_heap_other KT⟩⟩;simp [results,results112,go_sem]
theorem Avv (xs:List Bs):acc 60 xs=[]:=by
 cases xs with
 | nil=>rfl
 | cons x r =>
  have:okL 60 x=false:=by
   cases h:okL 60 x with
   | false=>rfl
   | true=>obtain ⟨c,r,hk,_⟩:=U6.1 h;omega
  simp [acc,this]
theorem Alz {l rest:Bs} {pre:List Bs} (hl:l=pre.flatten++rest) (h:acc 0 pre=pre):Bp l=pre++acc pre.length (Ea rest):=by rw [hl];exact To h rest
theorem Asl {rest:Bs} (h:rest≠[]):∃x post,Ea rest=x::post∧(10∈rest→x=Ei 10 rest++[10]∧post=Ea (M7 10 rest))∧(10 ∉ rest→x=rest):=by
 rcases Px 10 rest with ⟨h1,h2⟩|⟨h1,h2,_⟩
 ·refine ⟨Ei 10 rest++[10],Ea (M7 10 rest),?_,fun _=>⟨rfl,rfl⟩,fun e=>absurd h1 e⟩
  conv=>lhs;rw [h2]
  exact Uk _ Adf
 ·exact ⟨rest,[],Xc h fun c hc e=>h1 (by rw [←e];exact hc),fun e=>absurd e h1,fun _=>rfl⟩
theorem Afs {l rest:Bs} {pre:List Bs} (hl:l=pre.flatten++rest) (h:acc 0 pre=pre) (hr:rest=[]∨pre.length=60):Bp l=pre:=by
 rw [Alz hl h];rcases hr with rfl|hr
 ·simp [Ea,acc]
 ·rw [hr,Avv];simp
theorem Aim {l rest:Bs} {pre:List Bs} (hl:l=pre.flatten++rest) (h:acc 0 pre=pre) (hr:rest≠[]) (hb:10 ∉ rest∨okL pre.length (Ei 10 rest++[10])=false):Bp l=pre:=by
 rw [Alz hl h];obtain ⟨x,post,hx,h1,h2⟩:=Asl hr;have:okL pre.length x=false:=by
  by_cases hm:10∈rest
  ·rw [(h1 hm).1];exact hb.resolve_left (fun e=>e hm)
  ·rw [h2 hm];exact Bho fun b hb e=>hm (by rw [←e];exact hb)
 rw [hx];simp [acc,this]
theorem Aqf {l rest:Bs} {pre:List Bs} (hl:l=pre.flatten++rest) (h:acc 0 pre=pre) (hm:10∈rest) (hok:okL pre.length (Ei 10 rest++[10])=true) :
  acc 0 (pre++[Ei 10 rest++[10]])=pre++[Ei 10 rest++[10]]∧l=(pre++[Ei 10 rest++[10]]).flatten++M7 10 rest:=by
 refine ⟨Aop h (by rw [Nat.zero_add];exact hok),?_⟩;rcases Px 10 rest with ⟨_,h2⟩|⟨h2,_⟩
 ·rw [hl];conv=>lhs;rw [h2]
  simp
 ·exact absurd hm h2
theorem Ayi (c:UInt8) (l:Bs):(Ee c l).length < 2↔c ∉ l:=by
 obtain ⟨r,hr,he⟩:=Sx c l;rw [hr,←he];cases r <;> simp
theorem Bhu {k:Nat} {x:Bs} (h:okL k x=true):(Rp x).Je.size≤maxLen∧(Rp x).Hh.size≤maxLen:=by
 obtain ⟨c,r,_,hg,e⟩:=U6.1 h;have hG:=Jk hg;rw [e];unfold Rp;rw [Ahd hG,Aiv hG];have:=hG.c1;have:=hG.r1;show (bs c).size≤_∧(bs r).size≤_;rw [Js,Js];unfold maxLen;omega
structure OpS where
 pre:List Bs
 rest:Bs
 a:Option Addr
 c:Nat
 F:List Nat
structure Bj7 (l:Bs) (z:OpS):Prop where
 l:l=z.pre.flatten++z.rest
 a:acc 0 z.pre=z.pre
 p:z.pre.length≤60
theorem Als (s:ByteArray) (hs:s.size≤16777216):Fn prog 82 [.string s] [] [] (fun (_:Option Addr × Nat × List Nat)=>True) (fun z=>.tuple #[.slice z.1 ((Bp s.data.toList).map Rp).length z.2.1,.int .i64 ((Bp s.data.toList).flatten.length:Nat)]) (fun z=>[.ow Nm 66 (.slice z.1 ((Bp s.data.toList).map Rp).length z.2.1) ((Bp s.data.toList).map Rp) z.2.2]):=by
 refine enter func82 rfl ntmps82 fun w0=>?_;refine go ?_;intros;refine Dc Nm ?_;refine go ?_;intros;refine Cj [0,2,3] (fun z:OpS=>[(4,.slice z.a (z.pre.map Rp).length z.c),(5,.int .i64 (z.pre.flatten.length:Nat))]) (fun z=>[.ow Nm 66 (.slice z.a (z.pre.map Rp).length z.c) (z.pre.map Rp) z.F]) (Bj7 s.data.toList) (fun z=>z.rest.length) ⟨[],s.data.toList,_,_,_⟩ ⟨rfl,rfl,Nat.zero_le _⟩ fun z hz=>?_;have hsz:=congrArg List.length hz.l;rw [C0,List.length_append] at hsz;have hp:=hz.p;have hml:(z.pre.map Rp).length=z.pre.length:=List.length_map ..
 have hend:Bp s.data.toList=z.pre→z.pre=Bp s.data.toList:=Eq.symm;refine go ?_;intros;by_cases hr:z.rest=[]
 ·have hop:=Afs hz.l hz.a (.inl hr);rw [show decide (((z.pre.flatten.length:Nat):Int) < (s.size:Int))=false from decide_eq_false (by rw [hr,List.length_nil] at hsz;omega)];exact DC
 have hr1:0 < z.rest.length:=List.length_pos_iff.2 hr;rw [show decide (((z.pre.flatten.length:Nat):Int) < (s.size:Int))=true from decide_eq_true FJ];refine go ?_;intros;refine Ax rfl (fun h6=>?_) (fun h6=>?_)
 rotate_left
 ·have hop:=Afs hz.l hz.a (.inr FJ);exact DC
 have hp9:z.pre.length≤59:=FJ
 refine go ?_;intros;apply wO;apply oc;rfl;exact Ajt rfl rfl FJ FJ;rw [show s.extract ((z.pre.flatten.length:Nat):Int).toNat s.size=bs z.rest by rw [show ((z.pre.flatten.length:Nat):Int).toNat=z.pre.flatten.length from rfl,Zn,hz.l,List.drop_left]];have hrz:(bs z.rest).size≤16777216:=by rw [Js];omega
 refine go ?_;intros;refine cn (fun w st=>Aec (bs z.rest) 10 w hrz) fun a2 c2 F2=>?_;rw [Jr];refine A4 (E:=A8) (xs:=(Ee 10 z.rest).map bs) fun F3=>?_;have hi8:=Ant 10 z.rest;refine Nq (xs:=(Ee 10 z.rest).map bs) 0 ?_;rintro hi0 b0 o0 rfl q0;rw [Ans];have hus:=Ade 10 z.rest;have hus2:=Js (Ei 10 z.rest);have hls:=Ayi 10 z.rest
 obtain ⟨cc,rr,hRf,hrec⟩:∃cc rr,FV 161 [.string (bs (Ei 10 z.rest)),.int .i64 ((z.pre.map Rp).length:Int)] [] (.tuple #[.agg #[.string cc,.string rr],.bool (okL z.pre.length (Ei 10 z.rest++[10]))])∧(okL z.pre.length (Ei 10 z.rest++[10])=true→(⟨cc,rr⟩:O5)=Rp (Ei 10 z.rest++[10])):=by
  have hRf:=Axf (bs (Ei 10 z.rest)) z.pre.length hp9 FJ;rw [Jr,Aqq hp9] at hRf;rw [hml];refine ⟨_,_,hRf,fun h=>?_⟩;rw [Ax5 (by rw [Aqq hp9];exact h)];rfl
 have hsl:((Ee 10 z.rest).map bs).length=(Ee 10 z.rest).length:=List.length_map ..;refine go ?_;intros;refine Cb hRf fun _ _=>?_;refine go ?_;intros;by_cases hm:10∈z.rest
 ·rw [show decide ((((Ee 10 z.rest).map bs).length:Int) < 2)=false from decide_eq_false (by have:=mt hls.1 (fun h=>h hm);omega)];cases hok:okL z.pre.length (Ei 10 z.rest++[10])
  ·have hop:=Aim hz.l hz.a hr (.inr hok);exact DC
  obtain ⟨hg1,hg2⟩:=Aqf hz.l hz.a hm hok;have hq:=Bhu hok;have hbl:=congrArg List.length hg2;rw [C0,List.length_append] at hbl;have e9:∀x,x=Rp (Ei 10 z.rest++[10])→z.pre.map Rp++[x]=(z.pre++[Ei 10 z.rest++[10]]).map Rp:=fun x h=>by rw [h,List.map_append];rfl
  have e9:=e9 ⟨cc,rr⟩ (hrec hok);rw [←hrec hok] at hq;refine O3 ?_;intros;apply wO;refine Qa (Aj5 ⟨cc,rr⟩ hq.1 hq.2) Y0 fun a9 c9 F9=>?_;rw [e9];have hfl:(z.pre++[Ei 10 z.rest++[10]]).flatten.length=z.pre.flatten.length+(Ei 10 z.rest).length+1:=FR
  refine go ?_;intros;rw [show ((z.pre.flatten.length:Nat):Int)+((bs (Ei 10 z.rest)).size:Int)+1=(((z.pre++[Ei 10 z.rest++[10]]).flatten.length:Nat):Int) by rw [hfl];omega];refine Ce ⟨z.pre++[Ei 10 z.rest++[10]],M7 10 z.rest,a9,c9,F9⟩ ⟨hg2,hg1,by show (z.pre++[_]).length≤60;simp;omega⟩ (by show (M7 10 z.rest).length < z.rest.length;omega)
 ·have hop:=Aim hz.l hz.a hr (.inl hm);rw [show decide ((((Ee 10 z.rest).map bs).length:Int) < 2)=true from decide_eq_true (by have:=hls.2 hm;omega)];exact DC
theorem Af4 {d p:Bs} {n:Int} (h:Kv d p n=true):0≤n∧n≤60:=by
 have h1:=(Arn h).Yj;have h2:=(Nu (d++p)).2;omega
theorem Alu {k:Nat} {c r:ByteArray} (hk:k≤59) (h:Bx c r=true):(bs (Le k c.data.toList r.data.toList)).size≤372:=by
 rw [Js];exact Aef hk (Jk (by rw [←O7];exact h))
theorem Avr (v:Value) (xs:List Int) (F:List Nat) (z:Int) (w:World) (h:Sl Bb w v xs F) :
  Calls prog 203 #[v,.int .i64 z] w fun e w'=>e=.returned (.int .i64 (S0 (fun x=>z == x) xs))∧w=w':=by
 obtain ⟨a,cap,rfl⟩:=h.slice;obtain ⟨-,hl,hc⟩:=h.int;unfold maxLen at hl
 go_enter func203,ntmps203
 go_wp2
 go_loop [5,8] (fun _ i=>∃k:Nat,k≤xs.length∧i=.int .i64 k∧Hid (∀j,j < k→∀hj:j < xs.length,(z == xs[j])=false)) (fun _ i=>xs.length - (intOf i).toNat)
 case atStart=>exact ⟨0,Nat.zero_le _,rfl,fun j hj=>by omega⟩
 case round =>
  obtain ⟨k,hk,rfl,hz⟩:=hrel;by_cases hlt:k < xs.length
  ·obtain ⟨b,off,rfl,c0⟩:=hc k hlt;clear hc;cases hp:(z == xs[k])
   ·have hp2:=Lib.hid hp
    go_wp2
    exact ⟨⟨k+1,FJ,HX,Lib.hid fun j hj hl=>by rcases Nat.lt_or_eq_of_le (Nat.le_of_lt_succ hj) with h|h;exact hz.out j h hl;subst h;exact hp2.out⟩,GT⟩
   ·have hp2:=Lib.hid hp
    go_wp2
    go_ret
    exact ⟨If (Pp hlt hz.out hp2.out).symm,rfl⟩
  ·go_wp2
   go_ret
   exact ⟨If (N6 (fun j hj=>hz.out j FJ hj)).symm,rfl⟩
theorem Aby (v:Value) (xs:List Int) (F:List Nat) (z:Int) (w:World) (h:Sl Bb w v xs F) :
  Calls prog 113 #[v,.int .i64 z] w fun e w'=>e=.returned (.bool (xs.any fun x=>z == x))∧w=w':=by
 go_enter func113,ntmps113
 go_wp2_with fail;refine (Avr v xs F z _ h).mono ?_;rintro e w1 ⟨rfl,rfl⟩;go_wp2_with fail
 go_ret
 exact ⟨Cm (Ud _ xs),rfl⟩
theorem Azp (A:List Bs) (n:Nat):(((Lt 0 A).map Int.ofNat).any fun x=>(n:Int) == x)=(Lt 0 A).contains n:=by
 generalize Lt 0 A=l
 induction l with
 | nil=>rfl
 | cons a l ih =>
  rw [List.map_cons,List.any_cons,ih,List.contains_cons]
  congr 1
  rw [Bool.eq_iff_iff];simp;constructor <;> intro h <;> omega
end Go.Proofs.YtkblpelckhegbaaGreatDoor.Lg
namespace Go.Proofs.YtkblpelckhegbaaGreatDoor
open Go.RowKit
theorem Avl {FT:List Nat} {w:World} (h:(Hp FT).P w):Jy Lg.Adn w (.agg #[]) () [1]:=by
 have ht:=(Hp.env h).1;have hc:=Lib.TabIs.cell ht (g:=1) FL 0 (by rw [Lib.pow10Tab_length];omega);exact ⟨[],rfl,rfl,ht,rfl,World.block_lt_of_cell? w ⟨1,0,none⟩ hc⟩
theorem Bkj {p q:Pc} (h:Ae4 p q):Tg [p,q]:=⟨JS,FK,trivial⟩
theorem Ake (s:ByteArray) (hs:s.size≤16777216) (FT:List Nat):Fn prog 112 [.string s] [Hp FT] [] (fun (_:(Option Addr × Nat × List Nat) × (Option Addr × Nat × List Nat))=>True) (fun z=>.tuple #[.slice z.1.1 ((Bp s.data.toList).map Lg.Rp).length z.1.2.1,.slice z.2.1 ((Lt 0 (Bp s.data.toList)).map Int.ofNat).length z.2.2.1]) (fun z=>[.ow Nm 66 (.slice z.1.1 ((Bp s.data.toList).map Lg.Rp).length z.1.2.1) ((Bp s.data.toList).map Lg.Rp) z.1.2.2,.ow Bb 3 (.slice z.2.1 ((Lt 0 (Bp s.data.toList)).map Int.ofNat).length z.2.2.1) ((Lt 0 (Bp s.data.toList)).map Int.ofNat) z.2.2.2]):=fun w hA _=>by
 refine (Lg.Akd s _ w hs (Avl (hA (Hp FT) FK))).mono ?_;rintro e w' ⟨u0,G0,u1,G1,rfl,o0,n0,o1,n1,b0,b1,dj,hB⟩;obtain ⟨a,c,rfl⟩:=o0.slice;obtain ⟨b,k,rfl⟩:=o1.slice;refine ⟨((a,c,G0),(b,k,G1)),trivial,rfl,N0 ⟨n0,o0⟩ ⟨n1,o1⟩,Bkj ?_,D6.ofBelow hB,fun p hp q hq=>?_⟩
 ·exact fun _ q hq hp=>dj q hq hp
 ·simp only [List.mem_cons,List.not_mem_nil,or_false] at hp;rcases hp with rfl|rfl
  ·exact .inl (b0 q hq)
  ·exact .inl (b1 q hq)
theorem Amq (d p:ByteArray) (n:Int) (FT:List Nat) (hz:d.size+p.size≤1048576):FV 51 [.agg #[.string d,.string p,.int .i64 n]] [Hp FT] (.bool (Kv d.data.toList p.data.toList n)):=by
 have hsm:=Nu (d.data.toList++p.data.toList);have hvp:Kv d.data.toList p.data.toList n=(decide ((Bp (d.data.toList++p.data.toList)).flatten.length=d.size+p.size) && (Lt 0 (Bp (d.data.toList++p.data.toList))).contains d.size && decide (n=((Bp (d.data.toList++p.data.toList)).length:Int))):=by rw [←Bda];unfold At8;rw [C0,C0]
 have hR:=Ake (d++p) (by rw [ByteArray.size_append];omega) FT;rw [Lg.Is] at hR;have hL:=Aa7 (n:=0) (xs:=Bp (d.data.toList++p.data.toList));have hc:=Lg.Azp (Bp (d.data.toList++p.data.toList)) d.size;have hE:((Lt 0 (Bp (d.data.toList++p.data.toList))).map Int.ofNat).length=(Bp (d.data.toList++p.data.toList)).length+1:=by simp [Ty]
 rw [←hc] at hvp;have hL:∀h:(Bp (d.data.toList++p.data.toList)).length < ((Lt 0 (Bp (d.data.toList++p.data.toList))).map Int.ofNat).length,((Lt 0 (Bp (d.data.toList++p.data.toList))).map Int.ofNat)[(Bp (d.data.toList++p.data.toList)).length]=((Bp (d.data.toList++p.data.toList)).flatten.length:Int):=fun h=>by
  rw [List.getLast?_eq_getElem?,Ty,Nat.add_sub_cancel,List.getElem?_eq_getElem (by rw [Ty];omega)] at hL;have:=Option.some.inj hL;simp only [List.getElem_map,this];simp
 have hRl:((Bp (d.data.toList++p.data.toList)).map Lg.Rp).length=(Bp (d.data.toList++p.data.toList)).length:=FK
 generalize (Bp (d.data.toList++p.data.toList)).map Lg.Rp=R at *;generalize (Lt 0 (Bp (d.data.toList++p.data.toList))).map Int.ofNat=E at *;generalize (Bp (d.data.toList++p.data.toList)).flatten.length=T at *;generalize (Bp (d.data.toList++p.data.toList)).length=K at *;replace hL:=hL FJ;refine enter func51 rfl ntmps51 fun w0=>?_;refine go ?_;intros;refine Cb hR fun z _=>?_;obtain ⟨⟨a,c,G⟩,⟨b,e,J⟩⟩:=z;dsimp only;refine A4 (E:=Bb) (xs:=E) fun F8=>?_;refine I5 (xs:=E) K ?_;rintro hi0 b0 o0 rfl
 repeat (first|apply Q7|(apply wO;apply oc;rfl;exact ydE)|apply X6|apply Abl|(apply Arr;rfl;rfl)|(apply Arq;rfl;rfl;rfl;rfl)|(apply Ars;rfl;rfl;rfl)|(apply c_t;rfl)|(apply c_f;rfl)|apply Wy|apply Tj|apply Afp)
 by_cases h1:T=d.size+p.size
 ·cases h2:E.any fun x=>(d.size:Int) == x
  ·have hQ:Kv d.data.toList p.data.toList n=false:=by rw [hvp,h2];simp
   refine As [0,3] [] ?_;refine Ds 0 1 2 3 ?_;rw [show ((E.length:Nat):Int) - 1=((K:Nat):Int) by omega];refine Ds 4 5 6 7 ?_;refine Ds 8 9 10 11 ?_;refine Ed 12 13 ?_;rw [hL,show decide ((T:Int)=(d.size:Int)+(p.size:Int))=true from decide_eq_true FJ];refine dt 14 ?_;refine Dr 15 ?_;refine Dr 16 ?_;refine Dr 17 ?_;refine Dr 18 ?_;refine d1g 19 ?_;apply On.h;refine oC ?_;refine ce (fun w st=>Lg.Aby _ _ _ _ w (st.get (p:=.sl _ _ _ _) FO).2) ?_;rw [h2];refine dk ?_;refine Ed 20 21 ?_;refine ds 22 ?_;refine ds 23 ?_;refine ds 24 ?_;refine ds 25 ?_;refine ds 26 ?_
   refine Ed 27 28 ?_;refine dd ?_;refine go ?_;refine ret () trivial ?_;rw [hQ]
   first|rfl|(rw [hRl];rfl)
  ·have hQ:Kv d.data.toList p.data.toList n=decide (n=(K:Int)):=by rw [hvp,h2,decide_eq_true h1];simp
   refine As [0,3] [] ?_;refine Ds 0 1 2 3 ?_;rw [show ((E.length:Nat):Int) - 1=((K:Nat):Int) by omega];refine Ds 4 5 6 7 ?_;refine Ds 8 9 10 11 ?_;refine Ed 12 13 ?_;rw [hL,show decide ((T:Int)=(d.size:Int)+(p.size:Int))=true from decide_eq_true FJ];refine dt 14 ?_;refine Dr 15 ?_;refine Dr 16 ?_;refine Dr 17 ?_;refine Dr 18 ?_;refine d1g 19 ?_;apply On.h;refine oC ?_;refine ce (fun w st=>Lg.Aby _ _ _ _ w (st.get (p:=.sl _ _ _ _) FO).2) ?_;rw [h2];refine dk ?_;refine Ed 20 21 ?_;refine Dr 22 ?_;refine Dr 23 ?_;refine Dr 24 ?_;refine Dr 25 ?_;refine Dr 26 ?_
   refine Ed 27 28 ?_;refine dd ?_;refine go ?_;refine ret () trivial ?_;rw [hQ]
   first|rfl|(rw [hRl];rfl)
 ·have hQ:Kv d.data.toList p.data.toList n=false:=by rw [hvp,decide_eq_false h1];simp
  refine As [0,3] [] ?_;refine Ds 0 1 2 3 ?_;rw [show ((E.length:Nat):Int) - 1=((K:Nat):Int) by omega];refine Ds 4 5 6 7 ?_;refine Ds 8 9 10 11 ?_;refine Ed 12 13 ?_;rw [hL,show decide ((T:Int)=(d.size:Int)+(p.size:Int))=false from decide_eq_false FJ];refine dt 14 ?_;refine ds 15 ?_;refine ds 16 ?_;refine ds 17 ?_;refine ds 18 ?_;refine ds 19 ?_;refine Ed 20 21 ?_;refine ds 22 ?_;refine ds 23 ?_;refine ds 24 ?_;refine ds 25 ?_;refine ds 26 ?_;refine Ed 27 28 ?_;refine dd ?_;refine go ?_;refine ret () trivial ?_;rw [hQ]
  first|rfl|(rw [hRl];rfl)
theorem Apx (d p:ByteArray) (n:Int) (hz:d.size+p.size≤1048576):FV 34 [.agg #[.string d,.string p,.int .i64 n]] [] (.bool (Kv d.data.toList p.data.toList n)):=by
 have hsm:=Nu (d.data.toList++p.data.toList);have hsm2:=Nu d.data.toList;have hvp:Kv d.data.toList p.data.toList n=(decide (d.size+p.size≤30000) && (decide ((Bp (d.data.toList++p.data.toList)).flatten.length=d.size+p.size) && decide ((Bp d.data.toList).flatten.length=d.size) && decide (((Bp (d.data.toList++p.data.toList)).length:Int)=n))):=by
  unfold Kv;simp only [C0]
 have h1:=Lg.Als (d++p) (by rw [ByteArray.size_append];omega);rw [Lg.Is] at h1;have h2:=Lg.Als d FJ;have hRl:((Bp (d.data.toList++p.data.toList)).map Lg.Rp).length=(Bp (d.data.toList++p.data.toList)).length:=FK
 generalize (Bp (d.data.toList++p.data.toList)).map Lg.Rp=R at *;generalize (Bp (d.data.toList++p.data.toList)).flatten.length=T at *;generalize (Bp (d.data.toList++p.data.toList)).length=K at *;generalize (Bp d.data.toList).map Lg.Rp=R2 at *;generalize (Bp d.data.toList).flatten.length=T2 at *;rw [hvp];refine enter func34 rfl ntmps34 fun w0=>?_;refine go ?_;intros;refine Ax rfl (fun h3=>?_) (fun h3=>?_)
 ·refine go ?_;refine ret () trivial ?_;rw [decide_eq_false FJ];rfl
 rw [decide_eq_true (show d.size+p.size≤30000 by omega)];refine go ?_;refine Cb h1 fun z _=>?_;refine go ?_;refine Cb h2 fun y _=>?_;by_cases h4:T=d.size+p.size
 ·have e4:decide ((T:Int)=(d.size:Int)+(p.size:Int))=true:=decide_eq_true FJ;rw [decide_eq_true h4];refine go ?_;rw [e4];by_cases h5:T2=d.size
  ·have e5:decide ((T2:Int)=(d.size:Int))=true:=decide_eq_true FJ;rw [decide_eq_true h5];refine go ?_;rw [e5];refine go ?_;refine ret () trivial ?_;rw [hRl];rfl
  ·have e5:decide ((T2:Int)=(d.size:Int))=false:=decide_eq_false FJ;rw [decide_eq_false h5];refine go ?_;rw [e5];exact AA
 ·have e4:decide ((T:Int)=(d.size:Int)+(p.size:Int))=false:=decide_eq_false FJ;rw [decide_eq_false h4];refine go ?_;rw [e4];exact AA
theorem Ayh (d p c r:ByteArray) (k:Nat) (hv:Kv d.data.toList p.data.toList k=true) (hk:k≤59) (hr:Lg.Bx c r=true) (hz:d.size+p.size≤30000) (hc1:c.size≤160) (hr1:r.size≤200):FV 17 [.agg #[.string d,.string p,.int .i64 (k:Int)],.agg #[.string c,.string r]] [] (.tuple #[.agg #[.string d,.string (p++Lg.bs (Le k c.data.toList r.data.toList)),.int .i64 ((k:Int)+1)],.int .i64 0]):=by
 have hln:=Lg.Alu hk hr;have hG:Z6 c.data.toList r.data.toList:=Jk (by rw [←Lg.O7];exact hr);have hL:=fun w=>Lg.Axe k c r w hk hG;generalize Lg.bs (Le k c.data.toList r.data.toList)=ln at *;refine enter func17 rfl ntmps17 fun w0=>?_;refine go ?_;intros;refine Cb (Apx d p k FJ) fun _ _=>?_;rw [hv];refine go ?_;refine cb (fun w st=>Lg.Zr c r w GC GC) ?_;rw [hr];refine go ?_;refine Ax rfl (fun h3=>?_) (fun h3=>?_)
 ·exact absurd h3 FJ
 repeat (first|apply Q7|(apply wO;apply oc;rfl;exact ydE)|apply X6|apply Abl|(apply Arr;rfl;rfl)|(apply Arq;rfl;rfl;rfl;rfl)|(apply Ars;rfl;rfl;rfl)|(apply c_t;rfl)|(apply c_f;rfl)|apply Wy|apply Tj|apply Afp)
 refine As [1,2] [8] ?_;refine Ds 0 1 2 3 ?_;refine dt 4 ?_;refine dN 5 ?_;refine oC ?_;refine cb (fun w st=>hL w) ?_;refine dk ?_;refine Ed 6 7 ?_;refine dN 8 ?_;refine oS ?_;refine Tx ?_;exact CR
section
variable {c:Cx} {fr:Fr} {H:List Pc} {Φ:Gl}
theorem Ct {v:Value} {x:Cs} {F:List Nat} (h:∀(a1:Option Addr) (c1:Nat) (F1:List Nat) (a2:Option Addr) (c2:Nat) (F2:List Nat) (a3:Option Addr) (c3:Nat) (F3:List Nat) (a4:Option Addr) (c4:Nat) (F4:List Nat) (a5:Option Addr) (c5:Nat) (F5:List Nat) (a6:Option Addr) (c6:Nat) (F6:List Nat) (a7:Option Addr) (c7:Nat) (F7:List Nat),v=.agg #[.slice a1 x.Bl.An.Ad.length c1,.int .i64 x.Bl.Ab.Aa.Ap,.int .i64 x.Bl.Ab.Aa.size,.slice a2 x.Bl.Ab.Aa.Ao.length c2,.int .i64 x.Bl.Ab.Ai,.int .i64 x.Bl.Ab.quiet,.slice a3 x.Bl.Ab.holds.length c3,.slice a4 x.Bl.Af.length c4,.slice a5 x.Bl.Ac.length c5,.slice a6 x.Bl.down.length c6,.slice a7 x.Bl.up.length c7,.string x.Lq.C2,.string x.Lq.pending,.int .i64 x.Lq.count]→x.Lq.C2.size≤maxLen→x.Lq.pending.size≤maxLen→x.Bl.An.Ad.length≤maxLen→x.Bl.Ab.Aa.Ao.length≤maxLen→x.Bl.Ab.holds.length≤maxLen→x.Bl.Af.length≤maxLen→x.Bl.Ac.length≤maxLen→x.Bl.down.length≤maxLen→x.Bl.up.length≤maxLen→T c fr (.sl Bb (.slice a1 x.Bl.An.Ad.length c1) x.Bl.An.Ad F1::.sl A8 (.slice a2 x.Bl.Ab.Aa.Ao.length c2) x.Bl.Ab.Aa.Ao F2::.sl Bn (.slice a3 x.Bl.Ab.holds.length c3) x.Bl.Ab.holds F3::.sl Bk (.slice a4 x.Bl.Af.length c4) x.Bl.Af F4::.sl Bi (.slice a5 x.Bl.Ac.length c5) x.Bl.Ac F5::.sl (Mr Ak FM) (.slice a6 x.Bl.down.length c6) x.Bl.down F6::.sl (Mr Ak FM) (.slice a7 x.Bl.up.length c7) x.Bl.up F7::H) Φ) (hm:.isv Df v x F∈H:=by exact A9):T c fr H Φ:=.mk fun a w s g=>by
 obtain ⟨cs,rfl,v1,v2,v3,v4,v5,v6,v7,G1,G2,G3,G4,G5,G6,G7,rfl,s1,s2,h1,h2,h3,h4,h5,h6,h7,rfl⟩:=s.get hm;obtain ⟨a1,c1,rfl⟩:=h1.slice;have l1:=h1.len;obtain ⟨a2,c2,rfl⟩:=h2.slice;have l2:=h2.len;obtain ⟨a3,c3,rfl⟩:=h3.slice;have l3:=h3.len;obtain ⟨a4,c4,rfl⟩:=h4.slice;have l4:=h4.len;obtain ⟨a5,c5,rfl⟩:=h5.slice;have l5:=h5.len;obtain ⟨a6,c6,rfl⟩:=h6.slice;have l6:=h6.len;obtain ⟨a7,c7,rfl⟩:=h7.slice;have l7:=h7.len;have t7:=s.ro (p:=.sl _ _ _ _) hm rfl rfl ⟨FM,h7⟩ FZ
 have t6:=t7.ro (p:=.sl _ _ _ _) (List.mem_cons_of_mem _ hm) rfl rfl ⟨FM,h6⟩ FZ;have t5:=t6.ro (p:=.sl _ _ _ _) (List.mem_cons_of_mem _ (List.mem_cons_of_mem _ hm)) rfl rfl ⟨FM,h5⟩ FZ;have t4:=t5.ro (p:=.sl _ _ _ _) (List.mem_cons_of_mem _ (List.mem_cons_of_mem _ (List.mem_cons_of_mem _ hm))) rfl rfl ⟨FM,h4⟩ FZ
 have t3:=t4.ro (p:=.sl _ _ _ _) (List.mem_cons_of_mem _ (List.mem_cons_of_mem _ (List.mem_cons_of_mem _ (List.mem_cons_of_mem _ hm)))) rfl rfl ⟨FM,h3⟩ FZ;have t2:=t3.ro (p:=.sl _ _ _ _) (List.mem_cons_of_mem _ (List.mem_cons_of_mem _ (List.mem_cons_of_mem _ (List.mem_cons_of_mem _ (List.mem_cons_of_mem _ hm))))) rfl rfl ⟨FM,h2⟩ FZ
 have t1:=t2.ro (p:=.sl _ _ _ _) (List.mem_cons_of_mem _ (List.mem_cons_of_mem _ (List.mem_cons_of_mem _ (List.mem_cons_of_mem _ (List.mem_cons_of_mem _ (List.mem_cons_of_mem _ hm)))))) rfl rfl ⟨FM,h1⟩ FZ;exact (h a1 c1 G1 a2 c2 G2 a3 c3 G3 a4 c4 G4 a5 c5 G5 a6 c6 G6 a7 c7 G7 rfl s1 s2 l1 l2 l3 l4 l5 l6 l7).h a w t1 g
theorem Ep (x:Cs) {a1:Option Addr} {c1:Nat} {F1:List Nat} {a2:Option Addr} {c2:Nat} {F2:List Nat} {a3:Option Addr} {c3:Nat} {F3:List Nat} {a4:Option Addr} {c4:Nat} {F4:List Nat} {a5:Option Addr} {c5:Nat} {F5:List Nat} {a6:Option Addr} {c6:Nat} {F6:List Nat} {a7:Option Addr} {c7:Nat} {F7:List Nat} (s1:x.Lq.C2.size≤maxLen) (s2:x.Lq.pending.size≤maxLen) (h:T c fr (.isv Df (.agg #[.slice a1 x.Bl.An.Ad.length c1,.int .i64 x.Bl.Ab.Aa.Ap,.int .i64 x.Bl.Ab.Aa.size,.slice a2 x.Bl.Ab.Aa.Ao.length c2,.int .i64 x.Bl.Ab.Ai,.int .i64 x.Bl.Ab.quiet,.slice a3 x.Bl.Ab.holds.length c3,.slice a4 x.Bl.Af.length c4,.slice a5 x.Bl.Ac.length c5,.slice a6 x.Bl.down.length c6,.slice a7 x.Bl.up.length c7,.string x.Lq.C2,.string x.Lq.pending,.int .i64 x.Lq.count]) x (F1++F2++F3++F4++F5++F6++F7)::H) Φ) (m1:.sl Bb (.slice a1 x.Bl.An.Ad.length c1) x.Bl.An.Ad F1∈H:=by exact A9) (m2:.sl A8 (.slice a2 x.Bl.Ab.Aa.Ao.length c2) x.Bl.Ab.Aa.Ao F2∈H:=by exact A9) (m3:.sl Bn (.slice a3 x.Bl.Ab.holds.length c3) x.Bl.Ab.holds F3∈H:=by exact A9) (m4:.sl Bk (.slice a4 x.Bl.Af.length c4) x.Bl.Af F4∈H:=by exact A9) (m5:.sl Bi (.slice a5 x.Bl.Ac.length c5) x.Bl.Ac F5∈H:=by exact A9) (m6:.sl (Mr Ak FM) (.slice a6 x.Bl.down.length c6) x.Bl.down F6∈H:=by exact A9) (m7:.sl (Mr Ak FM) (.slice a7 x.Bl.up.length c7) x.Bl.up F7∈H:=by exact A9):T c fr H Φ:=.mk fun a w s g=>by
 refine h.h a w (s.add (N:=[_]) (Below.refl _ _) (by intro q hq;obtain rfl:=List.mem_singleton.1 hq;exact ⟨_,rfl,_,_,_,_,_,_,_,_,_,_,_,_,_,_,rfl,s1,s2,(s.get m1).2,(s.get m2).2,(s.get m3).2,(s.get m4).2,(s.get m5).2,(s.get m6).2,(s.get m7).2,rfl⟩) ⟨FK,trivial⟩ fun q hq b hb=>?_) g;obtain rfl:=List.mem_singleton.1 hq;simp only [Pc.F,List.mem_append] at hb;rcases hb with (((((hb|hb)|hb)|hb)|hb)|hb)|hb
 ·exact .inr ⟨rfl,_,m1,rfl,hb⟩
 ·exact .inr ⟨rfl,_,m2,rfl,hb⟩
 ·exact .inr ⟨rfl,_,m3,rfl,hb⟩
 ·exact .inr ⟨rfl,_,m4,rfl,hb⟩
 ·exact .inr ⟨rfl,_,m5,rfl,hb⟩
 ·exact .inr ⟨rfl,_,m6,rfl,hb⟩
 ·exact .inr ⟨rfl,_,m7,rfl,hb⟩
theorem Ank {v:Value} {x:Cs} {F:List Nat} {S:List Pc} (h:∀(a1:Option Addr) (c1:Nat) (F1:List Nat) (a2:Option Addr) (c2:Nat) (F2:List Nat) (a3:Option Addr) (c3:Nat) (F3:List Nat) (a4:Option Addr) (c4:Nat) (F4:List Nat) (a5:Option Addr) (c5:Nat) (F5:List Nat) (a6:Option Addr) (c6:Nat) (F6:List Nat) (a7:Option Addr) (c7:Nat) (F7:List Nat),v=.agg #[.slice a1 x.Bl.An.Ad.length c1,.int .i64 x.Bl.Ab.Aa.Ap,.int .i64 x.Bl.Ab.Aa.size,.slice a2 x.Bl.Ab.Aa.Ao.length c2,.int .i64 x.Bl.Ab.Ai,.int .i64 x.Bl.Ab.quiet,.slice a3 x.Bl.Ab.holds.length c3,.slice a4 x.Bl.Af.length c4,.slice a5 x.Bl.Ac.length c5,.slice a6 x.Bl.down.length c6,.slice a7 x.Bl.up.length c7,.string x.Lq.C2,.string x.Lq.pending,.int .i64 x.Lq.count]→x.Lq.C2.size≤maxLen→x.Lq.pending.size≤maxLen→x.Bl.An.Ad.length≤maxLen→x.Bl.Ab.Aa.Ao.length≤maxLen→x.Bl.Ab.holds.length≤maxLen→x.Bl.Af.length≤maxLen→x.Bl.Ac.length≤maxLen→x.Bl.down.length≤maxLen→x.Bl.up.length≤maxLen→T c fr (.ow Bb 3 (.slice a1 x.Bl.An.Ad.length c1) x.Bl.An.Ad F1::.ow A8 9 (.slice a2 x.Bl.Ab.Aa.Ao.length c2) x.Bl.Ab.Aa.Ao F2::.ow Bn 215 (.slice a3 x.Bl.Ab.holds.length c3) x.Bl.Ab.holds F3::.ow Ca 133 (.slice a4 x.Bl.Af.length c4) x.Bl.Af F4::.ow By 140 (.slice a5 x.Bl.Ac.length c5) x.Bl.Ac F5::.ow (Kx Ak 223) 142 (.slice a6 x.Bl.down.length c6) x.Bl.down F6::.ow (Kx Ak 223) 142 (.slice a7 x.Bl.up.length c7) x.Bl.up F7::S) Φ) (hp:Co H (.own Md v x F) S:=by exact De):T c fr H Φ:=.mk fun a w s g=>by
 obtain ⟨hn,cs,rfl,v1,v2,v3,v4,v5,v6,v7,G1,G2,G3,G4,G5,G6,G7,rfl,s1,s2,h1,h2,h3,h4,h5,h6,h7,rfl⟩:=(s.pick hp).on (.own Md v x F) FK;obtain ⟨a1,c1,rfl⟩:=h1.slice;have l1:=h1.len;obtain ⟨a2,c2,rfl⟩:=h2.slice;have l2:=h2.len;obtain ⟨a3,c3,rfl⟩:=h3.slice;have l3:=h3.len;obtain ⟨a4,c4,rfl⟩:=h4.slice;have l4:=h4.len;obtain ⟨a5,c5,rfl⟩:=h5.slice;have l5:=h5.len;obtain ⟨a6,c6,rfl⟩:=h6.slice;have l6:=h6.len;obtain ⟨a7,c7,rfl⟩:=h7.slice;have l7:=h7.len
 exact (h a1 c1 G1 a2 c2 G2 a3 c3 G3 a4 c4 G4 a5 c5 G5 a6 c6 G6 a7 c7 G7 rfl s1 s2 l1 l2 l3 l4 l5 l6 l7).h a w (s.mer (M:=[.own Md _ x _]) (N:=[.ow Bb _ _ _ G1,.ow A8 _ _ _ G2,.ow Bn _ _ _ G3,.ow Ca _ _ _ G4,.ow By _ _ _ G5,.ow (Kx Ak 223) _ _ _ G6,.ow (Kx Ak 223) _ _ _ G7]) (.cons hp .nil) (fun _ _=>⟨Q8 ⟨(Mk (Mk (Mk (Mk (Mk (Mk hn)))))),h1⟩ (Q8 ⟨Acq (Mk (Mk (Mk (Mk (Mk hn))))),h2⟩ (Q8 ⟨Acq (Mk (Mk (Mk (Mk hn)))),h3⟩ (Q8 ⟨Acq (Mk (Mk (Mk hn))),h4⟩ (Q8 ⟨Acq (Mk (Mk hn)),h5⟩ (Q8 ⟨Acq (Mk hn),h6⟩ (Q8 ⟨Acq hn,h7⟩ (Aux))))))),GD⟩) HB) g
theorem Ry (x:Cs) {a1:Option Addr} {c1:Nat} {F1:List Nat} {a2:Option Addr} {c2:Nat} {F2:List Nat} {a3:Option Addr} {c3:Nat} {F3:List Nat} {a4:Option Addr} {c4:Nat} {F4:List Nat} {a5:Option Addr} {c5:Nat} {F5:List Nat} {a6:Option Addr} {c6:Nat} {F6:List Nat} {a7:Option Addr} {c7:Nat} {F7:List Nat} {S1 S2 S3 S4 S5 S6 S7:List Pc} (s1:x.Lq.C2.size≤maxLen) (s2:x.Lq.pending.size≤maxLen) (h:T c fr (.own Md (.agg #[.slice a1 x.Bl.An.Ad.length c1,.int .i64 x.Bl.Ab.Aa.Ap,.int .i64 x.Bl.Ab.Aa.size,.slice a2 x.Bl.Ab.Aa.Ao.length c2,.int .i64 x.Bl.Ab.Ai,.int .i64 x.Bl.Ab.quiet,.slice a3 x.Bl.Ab.holds.length c3,.slice a4 x.Bl.Af.length c4,.slice a5 x.Bl.Ac.length c5,.slice a6 x.Bl.down.length c6,.slice a7 x.Bl.up.length c7,.string x.Lq.C2,.string x.Lq.pending,.int .i64 x.Lq.count]) x (F1++F2++F3++F4++F5++F6++F7)::S7) Φ) (m1:Co H (.ow Bb 3 (.slice a1 x.Bl.An.Ad.length c1) x.Bl.An.Ad F1) S1:=by exact De) (m2:Co S1 (.ow A8 9 (.slice a2 x.Bl.Ab.Aa.Ao.length c2) x.Bl.Ab.Aa.Ao F2) S2:=by exact De) (m3:Co S2 (.ow Bn 215 (.slice a3 x.Bl.Ab.holds.length c3) x.Bl.Ab.holds F3) S3:=by exact De) (m4:Co S3 (.ow Ca 133 (.slice a4 x.Bl.Af.length c4) x.Bl.Af F4) S4:=by exact De) (m5:Co S4 (.ow By 140 (.slice a5 x.Bl.Ac.length c5) x.Bl.Ac F5) S5:=by exact De) (m6:Co S5 (.ow (Kx Ak 223) 142 (.slice a6 x.Bl.down.length c6) x.Bl.down F6) S6:=by exact De) (m7:Co S6 (.ow (Kx Ak 223) 142 (.slice a7 x.Bl.up.length c7) x.Bl.up F7) S7:=by exact De)  : T c fr H Φ:=.mk fun a w s g =>
 h.h a w (s.mer (M:=[.ow Bb _ _ _ F1,.ow A8 _ _ _ F2,.ow Bn _ _ _ F3,.ow Ca _ _ _ F4,.ow By _ _ _ F5,.ow (Kx Ak 223) _ _ _ F6,.ow (Kx Ak 223) _ _ _ F7]) (N:=[.own Md _ x (F1++F2++F3++F4++F5++F6++F7)]) (.cons m1 (.cons m2 (.cons m3 (.cons m4 (.cons m5 (.cons m6 (.cons m7 (.nil)))))))) (fun hk hn=>⟨En ⟨GD,_,rfl,_,_,_,_,_,_,_,_,_,_,_,_,_,_,rfl,s1,s2,(Q9 hk).2,(Q9 (Ie hk)).2,(Q9 (Ie (Ie hk))).2,(Q9 (Ie (Ie (Ie hk)))).2,(Q9 (Ie (Ie (Ie (Ie hk))))).2,(Q9 (Ie (Ie (Ie (Ie (Ie hk)))))).2,(Q9 (Ie (Ie (Ie (Ie (Ie (Ie hk))))))).2,rfl⟩,GD⟩) HB) g
end
def Ks (x:Cs):Bool:=At x.Bl && Kv x.Lq.C2.data.toList x.Lq.pending.data.toList x.Lq.count
theorem Adq (x:Cs) (v:Value) (F FT:List Nat) (hz:x.Lq.C2.size+x.Lq.pending.size≤1048576):FV 21 [v] [.isv Df v x F,Hp FT] (.bool (Ks x)):=by
 refine enter func21 rfl ntmps21 fun w0=>?_;refine Ct ?_;rintro a1 c1 F1 a2 c2 F2 a3 c3 F3 a4 c4 F4 a5 c5 F5 a6 c6 F6 a7 c7 F7 rfl s1 s2 l1 l2 l3 l4 l5 l6 l7;refine Gz x.Bl ?_;generalize hFN:F1++F2++F3++F4++F5++F6++F7=FN;refine go ?_;intros;refine Cb (Abz x.Bl _ FN) fun _ _=>?_;unfold Ks;cases g1:At x.Bl
 ·exact AA
 refine go ?_;refine Cb (Amq x.Lq.C2 x.Lq.pending x.Lq.count FT hz) fun _ _=>?_;exact AA
theorem Axg (x:Cs) (v:Value) (F:List Nat) (hz:x.Lq.C2.size+x.Lq.pending.size≤1048576):FV 14 [v] [.isv Df v x F] (.bool (Ks x)):=by
 refine enter func14 rfl ntmps14 fun w0=>?_;refine Ct ?_;rintro a1 c1 F1 a2 c2 F2 a3 c3 F3 a4 c4 F4 a5 c5 F5 a6 c6 F6 a7 c7 F7 rfl s1 s2 l1 l2 l3 l4 l5 l6 l7;refine Gz x.Bl ?_;generalize hFN:F1++F2++F3++F4++F5++F6++F7=FN;refine go ?_;intros;refine Cb (Aeb x.Bl _ FN) fun _ _=>?_;unfold Ks;cases g1:At x.Bl
 ·exact AA
 refine go ?_;refine Cb (Apx x.Lq.C2 x.Lq.pending x.Lq.count hz) fun _ _=>?_;exact AA
theorem Asa {u:Nat} (h:u < 10000000):Lib.decNat (Lib.decDigits u)=some u:=by
 have hb:=Ahh 6 u FJ;have hp:=Zl u;unfold Lib.decNat;rw [if_neg (by intro e;rw [List.isEmpty_iff] at e;rw [e] at hp;simp at hp),hb]
theorem Ah4 {v:Int} (h:v < 0):Lib.itoa v=45::Lib.decDigits v.natAbs:=by unfold Lib.itoa;rw [if_pos h]
theorem App {v:Int} (h:0≤v):Lib.itoa v=Lib.decDigits v.natAbs:=by unfold Lib.itoa;rw [if_neg FJ,show v.toNat=v.natAbs by omega]
theorem Aiz {v:Int} (h0:-999999≤v) (h1:v≤999999):C5 (bz (Lib.itoa v))=(v,true):=by
 by_cases hn:v < 0
 ·have hl:=Em 5 v.natAbs FJ;have ha:Lib.atoiAll (Lib.itoa v)=.ok v:=by
   rw [Ah4 hn,Lib.atoiAll_short _ FR];have:Lib.atoi (45::Lib.decDigits v.natAbs)=some v:=by
    rw [Lib.atoi,if_pos GG,Asa FJ];show some (-((v.natAbs:Nat):Int))=some v
    congr 1;omega
   rw [this];rfl
  unfold C5;rw [Kr,ha];show (if Gj (-999999) v 999999 && decide (bz (Lib.itoa v)=bz (Lib.itoa v)) then (v,true) else (0,false))=(v,true);rw [decide_eq_true rfl,show Gj (-999999) v 999999=true by unfold Gj;rw [decide_eq_true h0,decide_eq_true h1];rfl];rfl
 ·rw [App FJ,Atl v.natAbs FJ]
  congr 1;omega
theorem Aqu (s:ByteArray):C5 s=(0,false)∨∃v:Int, -999999≤v∧v≤999999∧s=bz (Lib.itoa v):=by
 unfold C5
 split
 ·rename_i v _;cases h:(Gj (-999999) v 999999 && decide (bz (Lib.itoa v)=s))
  ·exact .inl rfl
  ·unfold Gj at h;simp only [Bool.and_eq_true,decide_eq_true_eq] at h;exact .inr ⟨v,h.1.1,h.1.2,h.2.symm⟩
 ·exact .inl rfl
def unS (l:Bs):Bs:=if 1 < l.length∧l.head?=some 45 then l.drop 1 else l
def Ahk (l:Bs):Nat:=l.foldl (fun a c=>10 * a+(c.toNat - 48)) 0
theorem Ahl (l:Bs) (c:UInt8):Ahk (l++[c])=10 * Ahk l+(c.toNat - 48):=by unfold Ahk;rw [List.foldl_append];rfl
theorem Auq:∀(n:Nat) (l:Bs),l.length=n→(∀c∈l,48≤c.toNat∧c.toNat≤57)→Ahk l < 10 ^ n
 | 0,l,h,_=>by rw [List.length_eq_zero_iff.1 h];decide
 | n+1,l,h,hd=>by
  have hne:l≠[]:=by intro e;rw [e] at h;simp at h
  have e:=List.dropLast_concat_getLast hne;have ih:=Auq n l.dropLast FR fun c hc=>hd c (List.dropLast_subset _ hc);have hc:=hd _ (List.getLast_mem hne);rw [←e,Ahl,Nat.pow_succ];omega
theorem Bg5:∀d:Nat,d < 10→(UInt8.ofNat (48+d)).toNat=48+d:=by decide
theorem Ao2:∀(k u:Nat),u < 10 ^ (k+1)→Ahk (Lib.decDigits u)=u
 | 0,u,h=>by
  have h3:u < 10:=GE
  rw [Lib.decDigits,dif_pos h3];unfold Ahk;simp only [List.foldl_cons,List.foldl_nil];rw [Bg5 u h3];omega
 | k+1,u,h=>by
  by_cases h3:u < 10
  ·rw [Lib.decDigits,dif_pos h3];unfold Ahk;simp only [List.foldl_cons,List.foldl_nil];rw [Bg5 u h3];omega
  ·rw [Lib.decDigits,dif_neg h3,Ahl,Ao2 k (u / 10) LG,Bg5 _ FJ];omega
theorem Bc7 {v:Int} (h0:-999999≤v) (h1:v≤999999):unS (Lib.itoa v)=Lib.decDigits v.natAbs∧((unS (Lib.itoa v)).length < (Lib.itoa v).length↔v < 0):=by
 have hp:=Zl v.natAbs;by_cases hn:v < 0
 ·rw [Ah4 hn];unfold unS;rw [if_pos ⟨FR,rfl⟩];exact ⟨rfl,by simp [hn]⟩
 ·rw [App FJ];have:¬(1 < (Lib.decDigits v.natAbs).length∧(Lib.decDigits v.natAbs).head?=some 45):=by
   rintro ⟨-,h⟩;have:=Qd _ 45 (List.mem_of_mem_head? h);revert this;decide
  unfold unS;rw [if_neg this];exact ⟨rfl,FR⟩
theorem Wm {s:ByteArray} (h:C5 s≠(0,false)):∃v:Int, -999999≤v∧v≤999999∧s=bz (Lib.itoa v)∧1≤(unS s.data.toList).length∧(unS s.data.toList).length≤6∧(∀c∈unS s.data.toList,48≤c.toNat∧c.toNat≤57)∧Ahk (unS s.data.toList)=v.natAbs∧((unS s.data.toList).length < s.size↔v < 0):=by
 rcases Aqu s with h2|⟨v,h0,h1,rfl⟩
 ·exact absurd h2 h
 ·obtain ⟨e,e2⟩:=Bc7 h0 h1;have hl:=Em 5 v.natAbs FJ;rw [Kr,Ka];refine ⟨v,h0,h1,rfl,?_,?_,?_,?_,e2⟩
  ·rw [e];exact Zl _
  ·rw [e];exact hl
  ·rw [e];exact Qd _
  ·rw [e];exact Ao2 5 _ FJ
structure Bkp (c:Int) (x:Gs):Prop where
 n0:0≤x.Ae
 n1:x.Ae≤65535
 f:∀f∈x.Bj,1≤f∧f≤7
 p:0 < x.Bj.length
 l:x.Bj.length≤7
 u0:c+1≤x.Ch
 u1:x.Ch≤c+6
structure Bkq (e:Bf) (k:Nat) (y:Bf):Prop where
 g:Ba y=true
 c:y.Ai=e.Ai+(k:Int)
 u:∀x∈y.Ah,x.Ch≤e.Ai+6
theorem Bbe (n:Int) (h0:-999999≤n) (hn:n < 0):FV 86 [.int .i64 n] [] (.string (bz (Lib.itoa n))):=by
 have hz:(bz (Ar9 (-n))).size≤7:=by rw [Ka];exact Bd8 FJ
 have zl:(⟨#[45]⟩:ByteArray).size=1:=rfl;refine enter func86 rfl ntmps86 fun w0=>?_;refine go ?_;refine Ax rfl (fun e0=>?_) (fun e0=>?_)
 rotate_left
 ·exact absurd hn e0
 refine go ?_;refine cb (fun w st=>Bbd (-n) FJ FJ w) ?_;refine go ?_;rw [show (⟨#[45]⟩:ByteArray)++bz (Ar9 (-n))=bz (Lib.itoa n) by
  rw [Ah4 hn];unfold Ar9;rw [show (-n).toNat=n.natAbs by omega];apply ByteArray.ext;simp [bz,ByteArray.data_append]]
 exact BC
theorem Ael (n:Int) (h0:-999999≤n) (h1:n≤999999) (w:World):Calls prog 86 #[.int .i64 n] w (RB (.string (bz (Lib.itoa n))) w):=by
 by_cases hn:n < 0
 ·exact (Bbe n h0 hn).val w (fun p hp=>by cases hp)
 ·rw [Bap FJ];exact Bbd n FJ FJ w
theorem Bc6 {s:ByteArray} (h:1 < s.size):unS s.data.toList=if s[0]=45 then (s.extract 1 s.size).data.toList else s.data.toList:=by
 have e:s.data.toList.head?=some s[0]:=by
  rw [List.head?_eq_getElem?,List.getElem?_eq_getElem (by rw [C0];omega)];rfl
 unfold unS;rw [C0,e,Zn,Kr];by_cases h2:s[0]=45
 ·rw [if_pos ⟨h,by rw [h2]⟩,if_pos h2]
 ·rw [if_neg (fun hh=>h2 (Option.some.inj hh.2)),if_neg h2]
theorem Ayw {s:ByteArray} (h:¬1 < s.size):unS s.data.toList=s.data.toList:=by
 unfold unS;rw [C0,if_neg (fun hh=>h hh.1)]
theorem Bdn {P:Program} {n:Nat} {fr:Fr} {H:List Pc} {ty:TypeId} {x y:Operand} {a b:Int} {t t':TypeId} (hx:ev fr x=some (.int .u8 a)) (hy:ev fr y=some (.int .u8 b)) (h0:0≤a - b) (h1:a - b≤255):Yd P n fr H (.binOp .sub t x y t') ty (.int .u8 (a - b)):=.mk fun c w d pos Ci gd hA _=>by
 simp [execOp,hA.ev hx,hA.ev hy,eqGuard_sub,binOp_sub,Op.intArith,IntWalk.u8_in _ ⟨h0,h1⟩]
structure Bj9 (t:ByteArray) (z:Nat × Nat):Prop where
 k:z.2≤t.size
 v:z.1=Ahk (t.data.toList.take z.2)
 d:∀c∈t.data.toList.take z.2,48≤c.toNat∧c.toNat≤57
theorem Bax (s:ByteArray) (hs:s.size≤1000000000):FV 92 [.string s] [] (.tuple #[.int .i64 (C5 s).1,.bool (C5 s).2]):=by
 refine enter func92 rfl ntmps92 fun w0=>?_;apply Q7;apply Akx
 repeat (apply wO;apply oc;rfl;exact ydE)
 apply X6;apply Abl;apply Q7;apply Akx
 repeat (apply wO;apply oc;rfl;exact ydE)
 apply X6;apply Abl;apply Q7;refine E4 [0,2,3] [] (fun t:ByteArray=>[(4,.string t)]) (fun _=>[]) (fun t=>t.data.toList=unS s.data.toList∧t.size≤s.size) ?_ fun t hz=>?_
 ·refine go ?_;refine Dx rfl rfl (fun h1=>?_) (fun h1=>?_)
  ·have h1:1 < s.size:=FJ
   refine go ?_;refine Ax rfl (fun h2=>?_) (fun h2=>?_)
   ·have ht:(s.extract 1 s.size).data.toList=unS s.data.toList:=by rw [Bc6 h1,if_pos (UInt8.toNat_inj.1 (by have:((s[0]).toNat:Int)=45:=h2;show (s[0]).toNat=45;omega))]
    refine O3 ?_;intros;apply wO;apply oc;rfl;exact Ajt rfl rfl FJ FJ;rw [show s.extract (1:Int).toNat s.size=s.extract 1 s.size from rfl];refine go ?_;refine Bt (s.extract 1 s.size) ⟨ht,KX⟩
   ·have ht:s.data.toList=unS s.data.toList:=by rw [Bc6 h1,if_neg (fun e=>h2 (by show ((s[0]).toNat:Int)=45;rw [e];rfl))]
    refine go ?_;refine Bt s ⟨ht,Nat.le_refl _⟩
  ·refine go ?_;refine Bt s ⟨(Ayw FJ).symm,Nat.le_refl _⟩
 obtain ⟨ht,hts⟩:=hz;refine go ?_;refine ce (fun w s=>Ku _ _ _ _) ?_;cases g1:Gj 1 ((t.size:Nat):Int) 6
 ·have hr:C5 s=(0,false):=by
   rcases Classical.em (C5 s=(0,false)) with h|h
   ·exact h
   ·exfalso;obtain ⟨v,h0,h1',hsv,q1,q2,q3,q4,q5⟩:=Wm h;rw [←ht,C0] at q1 q2;have:Gj 1 ((t.size:Nat):Int) 6=true:=by unfold Gj;rw [decide_eq_true FJ,decide_eq_true FJ];rfl
    rw [this] at g1;cases g1
  rw [hr];exact AA
 obtain ⟨t1,t6⟩:1≤t.size∧t.size≤6:=by unfold Gj at g1;simp only [Bool.and_eq_true,decide_eq_true_eq] at g1;omega
 refine go ?_;refine D8 [0,2,3,4] (fun z:Nat × Nat=>[(5,.int .i64 (z.1:Nat)),(6,.int .i64 (z.2:Nat))]) (Bj9 t) (fun z=>t.size - z.2) (0,0) ⟨Nat.zero_le _,rfl,FK⟩ fun z hz=>?_;obtain ⟨vv,k⟩:=z;obtain ⟨z1,z2,z3⟩:=hz;dsimp only at z1 z2 z3 ⊢;have hv6:vv≤999999:=by
  have:=Auq (t.data.toList.take k).length _ rfl z3;have hl:(t.data.toList.take k).length≤6:=by rw [List.length_take,C0];omega
  have:=Nat.pow_le_pow_right (show 0 < 10 by omega) hl;omega
 refine go ?_;refine Ax rfl (fun h1=>?_) (fun h1=>?_)
 ·have hk:k < t.size:=FJ
  have hkl:k < t.data.toList.length:=by rw [C0];exact hk
  have hm:t[k]∈unS s.data.toList:=by rw [←ht];exact List.getElem_mem hkl
  refine go ?_;refine Dx rfl rfl (fun h3=>?_) (fun h3=>?_)
  ·have h3:((t[k]).toNat:Int) < 48:=h3;have hr:C5 s=(0,false):=by
    rcases Classical.em (C5 s=(0,false)) with h|h
    ·exact h
    ·exfalso;obtain ⟨v,h0,h1',hsv,q1,q2,q3,q4,q5⟩:=Wm h;have:=q3 _ hm;omega
   rw [hr];exact AA
  have h3k:¬((t[k]).toNat:Int) < 48:=h3;refine go ?_;refine Ax rfl (fun h4=>?_) (fun h4=>?_)
  ·have h4:57 < ((t[k]).toNat:Int):=h4;have hr:C5 s=(0,false):=by
    rcases Classical.em (C5 s=(0,false)) with h|h
    ·exact h
    ·exfalso;obtain ⟨v,h0,h1',hsv,q1,q2,q3,q4,q5⟩:=Wm h;have:=q3 _ hm;omega
   rw [hr];exact AA
  have h4k:¬57 < ((t[k]).toNat:Int):=h4;refine go ?_;apply wO;apply oc;rfl;exact Bdn rfl rfl FJ FJ;apply wO;apply oc;rfl;exact Arv rfl FJ FJ;refine O3 ?_;intros;have e48:∀x:Nat,48≤x→10 * ((vv:Nat):Int)+(((x:Nat):Int) - 48)=((10 * vv+(x - 48):Nat):Int):=fun x hx=>by omega
  rw [e48]
  rotate_left
  ·show 48≤(t[k]).toNat;omega
  refine go ?_;have etk:t.data.toList.take (k+1)=t.data.toList.take k++[t[k]]:=by rw [List.take_succ_eq_append_getElem hkl];rfl
  refine Ce (10 * vv+((t[k]).toNat - 48),k+1) ⟨by show k+1≤t.size;omega,by show _=Ahk (t.data.toList.take (k+1));rw [etk,Ahl,←z2],by
   show ∀c∈t.data.toList.take (k+1),48≤c.toNat∧c.toNat≤57;rw [etk];intro c hc;rcases List.mem_append.1 hc with hc|hc
   ·exact z3 c hc
   ·rw [List.mem_singleton] at hc;subst hc;omega⟩ (by show t.size - (k+1) < t.size - k;omega)
 ·have hks:k=t.size:=FJ
  have z2:vv=Ahk (unS s.data.toList):=by rw [←ht,z2,List.take_of_length_le (by rw [C0];omega)]
  have htz:(unS s.data.toList).length=t.size:=by rw [←ht,C0]
  refine go ?_;refine Ax rfl (fun h5=>?_) (fun h5=>?_)
  ·refine go ?_;refine cb (fun w st=>Ael (-((vv:Nat):Int)) FJ FJ w) ?_;refine go ?_;by_cases h6:bz (Lib.itoa (-((vv:Nat):Int)))=s
   ·have hr:C5 s=(-((vv:Nat):Int),true):=by rw [←h6];exact Aiz FJ FJ
    rw [decide_eq_false (by simpa using h6),hr];exact AA
   ·rw [decide_eq_true h6];have hr:C5 s=(0,false):=by
     rcases Classical.em (C5 s=(0,false)) with h|h
     ·exact h
     ·exfalso;obtain ⟨v,h0,h1',hsv,q1,q2,q3,q4,q5⟩:=Wm h;rw [htz] at q5;have hv:v=-((vv:Nat):Int):=FJ
      exact h6 (by rw [←hv];exact hsv.symm)
    rw [hr];exact AA
  ·refine go ?_;refine cb (fun w st=>Ael (((vv:Nat):Int)) FJ FJ w) ?_;refine go ?_;by_cases h6:bz (Lib.itoa (((vv:Nat):Int)))=s
   ·have hr:C5 s=(((vv:Nat):Int),true):=by rw [←h6];exact Aiz FJ FJ
    rw [decide_eq_false (by simpa using h6),hr];exact AA
   ·rw [decide_eq_true h6];have hr:C5 s=(0,false):=by
     rcases Classical.em (C5 s=(0,false)) with h|h
     ·exact h
     ·exfalso;obtain ⟨v,h0,h1',hsv,q1,q2,q3,q4,q5⟩:=Wm h;rw [htz] at q5;have hv:v=((vv:Nat):Int):=FJ
      exact h6 (by rw [←hv];exact hsv.symm)
    rw [hr];exact AA
end Go.Proofs.YtkblpelckhegbaaGreatDoor
namespace Go.Proofs.YtkblpelckhegbaaGreatDoor

open Go.RowKit
open Go.RowKit
end Go.Proofs.YtkblpelckhegbaaGreatDoor
namespace Go.Proofs.YtkblpelckhegbaaGreatDoor
open Go.RowKit
theorem Bcf {w:World} {a:Option Addr} {n cp:Nat} {xs:List ByteArray} {F:List Nat} (h:(Pc.sl A8 (.slice a n cp) xs F).P w) (h0:0 < xs.length):∃b o,a=some ⟨b,o,none⟩∧n=xs.length∧xs.length≤cp∧b < w.heap.size∧∀(j:Nat) x,xs[j]?=some x→w.cell? ⟨b,o+j,none⟩=some (.string x):=by
 have hlt:=h.2.lt;obtain ⟨hz,a',cap,hv,hl,h|⟨b,o,F',rfl,hne,rfl,hc⟩⟩:=h
 ·rw [h.1] at h0;simp at h0
 ·simp only [Value.slice.injEq] at hv;obtain ⟨rfl,rfl,rfl⟩:=hv;refine ⟨b,o,rfl,rfl,hl.1,hlt FM b FK,fun j x hj=>?_⟩;obtain ⟨hj1,rfl⟩:=List.getElem?_eq_some_iff.1 hj;obtain ⟨cs,F1,⟨rfl, -, -⟩,h2, -⟩:=hc.get j hj1;have:=h2 0 FM;simpa [A8] using this
theorem Bas (xs:List ByteArray) (sep:ByteArray) (a:Option Addr) (cp:Nat) (F:List Nat) (w:World) (h:(Pc.sl A8 (.slice a xs.length cp) xs F).P w) (h0:0 < xs.length) (hN:xs.length≤100000000000000) (hlen:(Lib.join (xs.map (·.data.toList)) sep.data.toList).length≤100000000000000) :
  Calls prog 214 #[.slice a xs.length cp,.string sep] w (RB (.string (bz (Lib.join (xs.map (·.data.toList)) sep.data.toList))) w):=by
 obtain ⟨b,o,rfl, -,hcap,hb,hc⟩:=Bcf h h0;exact Tryz.strings_Join b o cp xs sep w hc hb FJ hcap FJ
theorem Bhm (n:Nat):madeCells (Value.string ⟨#[]⟩).cells (n * 1)=(List.replicate n (Value.string ⟨#[]⟩)).toArray:=by
 rw [Nat.mul_one];apply Array.ext
 ·simp [madeCells]
 ·intro i h1 h2;simp [madeCells,Value.cells,Nat.mod_one]
theorem Apg (w:World):∀n:Nat,C1 A8 w (List.replicate n (Value.string ⟨#[]⟩)) (List.replicate n ⟨#[]⟩) []
 | 0=>⟨rfl,rfl⟩
 | n+1=>⟨[.string ⟨#[]⟩],List.replicate n (Value.string ⟨#[]⟩),[],[],by simp [List.replicate_succ],FK,⟨rfl,Nat.zero_le _,rfl⟩,Apg w n⟩
def itB (f:Int):ByteArray:=bz (Lib.itoa f)
def zsJ (l:List Int) (k:Nat):List ByteArray:=(l.take k).map itB++List.replicate (l.length - k) ⟨#[]⟩
theorem Bf9 {l:List Int} {k:Nat} (h:k≤l.length):(zsJ l k).length=l.length:=by unfold zsJ;simp;omega
theorem Bga {l:List Int} {k:Nat} (h:k < l.length):(zsJ l k).set k (itB l[k])=zsJ l (k+1):=by
 unfold zsJ;have e:List.replicate (l.length - k) (⟨#[]⟩:ByteArray)=⟨#[]⟩::List.replicate (l.length - (k+1)) ⟨#[]⟩:=HT
 have hl:((l.take k).map itB).length=k:=HZ
 rw [e,List.set_append_right _ _ FJ,hl,Nat.sub_self,List.set_cons_zero,List.take_succ_eq_append_getElem h,List.map_append];simp only [List.map_cons,List.map_nil,List.append_assoc,List.cons_append,List.nil_append]
theorem Ah3 (l:List Int):(l.map itB).map (·.data.toList)=l.map Lib.itoa:=by
 rw [List.map_map];exact List.map_congr_left fun x _=>by simp [itB,Kr]
theorem Ben (l:List Int) (g:Nat) (F:List Nat) (w:World) (hf:∀f∈l,0≤f∧f.natAbs < 10 ^ (4+1)) (h0:0 < l.length) (h7:l.length≤1000) (h:(Pc.sl A8 (.slice (some ⟨g,0,none⟩) l.length l.length) (l.map itB) F).P w) :
  Calls prog 214 #[.slice (some ⟨g,0,none⟩) l.length l.length,.string ⟨#[32]⟩] w (RB (.string (bz (jn l))) w):=by
 have hml:(l.map itB).length=l.length:=List.length_map ..;have hd:(⟨#[32]⟩:ByteArray).data.toList=[32]:=rfl;have hj:=Bhk (k:=4) hf;have:=Bas (l.map itB) ⟨#[32]⟩ (some ⟨g,0,none⟩) l.length F w (by rw [hml];exact h) FJ FJ (by rw [hd,Ah3];unfold jn at hj;omega);rw [hml,hd,Ah3] at this;exact this
theorem Beo (l:List Int) (a:Option Addr) (c:Nat) (F FT:List Nat) (hf:∀f∈l,0≤f∧f.natAbs < 10 ^ (4+1)) (h0:0 < l.length) (h7:l.length≤1000):FV 295 [.slice a l.length c,.string ⟨#[32]⟩] [.sl Bb (.slice a l.length c) l F,Hp FT] (.string (bz (jn l))):=by
 refine enter func295 rfl ntmps295 fun w0=>?_;refine go ?_;apply wO;refine Axw l.length (cs:=List.replicate l.length (.string ⟨#[]⟩)) rfl rfl rfl (Bhm _) FJ FJ fun g=>?_;refine Ll (E:=A8) (xs:=List.replicate l.length ⟨#[]⟩) (fun w=>Apg w _) ?_ (by rw [List.length_replicate];omega);rw [List.length_replicate,show List.replicate l.length (⟨#[]⟩:ByteArray)=zsJ l 0 by unfold zsJ;simp];refine go ?_
 refine Cj [1,4,5,11,12] (fun k:Nat=>[(13,.int .i64 (k:Nat))]) (fun k=>[.ow A8 9 (.slice (some ⟨g,0,none⟩) l.length l.length) (zsJ l k) [g]]) (fun k=>k≤l.length) (fun k=>l.length - k) 0 (Nat.zero_le _) fun k hk=>?_;have hzl:=Bf9 hk;refine go ?_;refine Ax rfl (fun h1=>?_) (fun h1=>?_)
 ·have hk1:k < l.length:=FJ
  have hfk:=hf _ (List.getElem_mem hk1);refine I5 (xs:=l) k ?_;rintro hi b o e1;rw [e1];refine go ?_;refine cb (fun w st=>Abb l[k] FJ FJ FT w (st.get (p:=Hp FT) FK)) ?_;refine P5 (m:=1) Hj k ?_ FP rfl FJ;rintro _ g2 A cs B e2 - hr hH;cases e2;obtain ⟨rfl, -⟩:=hr w0;refine go ?_;refine Pd (itB l[k]) hH (fun w=>⟨rfl,by rw [itB,Ka,Qw hfk.1];have:=Em 4 l[k].natAbs hfk.2;unfold maxLen;omega,rfl⟩) ?_;rw [Bga hk1];refine go ?_;refine Ce (k+1) hk1 FJ
 ·have hk1:k=l.length:=FJ
  subst hk1;rw [show zsJ l l.length=l.map itB by unfold zsJ;simp];have hml:(l.map itB).length=l.length:=List.length_map ..;refine A4 (E:=A8) (xs:=l.map itB) fun F8=>?_;refine go ?_;refine cb (fun w st=>Ben l g F8 w hf h0 h7 (st.get (p:=.sl _ _ _ _) FK)) ?_;exact AA
structure RtS where
 k:Nat
 a:Option Addr
 c:Nat
 F:List Nat
end Go.Proofs.YtkblpelckhegbaaGreatDoor
namespace Go.Proofs.YtkblpelckhegbaaGreatDoor

open Go.RowKit
end Go.Proofs.YtkblpelckhegbaaGreatDoor
namespace Go.Proofs.YtkblpelckhegbaaGreatDoor
open Go.RowKit
def Sr (ts:List ByteArray):Bool:=ts.all fun t=>(C5 t).2
def Kk (ts:List ByteArray):List Int:=ts.map fun t=>(C5 t).1
def S9 (ts:List ByteArray):List Int × Bool:=if Sr ts then (Kk ts,true) else ([],false)
theorem Bbj {ts:List ByteArray} {k:Nat} (h:k < ts.length) (hp:(C5 ts[k]).2=false):Sr ts=false:=by
 unfold Sr;rw [List.all_eq_false];exact ⟨ts[k],List.getElem_mem h,IC⟩
theorem Ata {ts:List ByteArray} {k:Nat} (h:k < ts.length) (hp:(C5 ts[k]).2=true) (ha:Sr (ts.take k)=true):Sr (ts.take (k+1))=true:=by
 unfold Sr at *;rw [List.take_succ_eq_append_getElem h,List.all_append,ha];simp [hp]
theorem Arm {ts:List ByteArray} {k:Nat} (h:k < ts.length):Kk (ts.take (k+1))=Kk (ts.take k)++[(C5 ts[k]).1]:=by
 unfold Kk;rw [List.take_succ_eq_append_getElem h,List.map_append];rfl
structure PeZ where
 k:Nat
 a:Option Addr
 c:Nat
 F:List Nat
theorem Aqi (ts:List ByteArray) (a:Option Addr) (c:Nat) (F FT:List Nat) (hs:∀t∈ts,t.size≤1000000000) (hl:ts.length≤1000):Fn prog 124 [.slice a ts.length c] [.sl A8 (.slice a ts.length c) ts F,Hp FT] [] (fun (_:PeZ)=>True) (fun z=>.tuple #[.slice z.a (S9 ts).1.length z.c,.bool (S9 ts).2]) (fun z=>[.ow Bb 3 (.slice z.a (S9 ts).1.length z.c) (S9 ts).1 z.F]):=by
 refine enter func124 rfl ntmps124 fun w0=>?_;refine go ?_;refine Dj Bb 3 ?_;refine Cj [2,3,9,10] (fun z:PeZ=>[(4,.slice z.a (Kk (ts.take z.k)).length z.c),(11,.int .i64 (z.k:Nat))]) (fun z=>[.ow Bb 3 (.slice z.a (Kk (ts.take z.k)).length z.c) (Kk (ts.take z.k)) z.F]) (fun z=>z.k≤ts.length∧Sr (ts.take z.k)=true) (fun z=>ts.length - z.k) ⟨0,none,0,[]⟩ ⟨Nat.zero_le _,rfl⟩ fun z hz=>?_;obtain ⟨z2,z3⟩:=hz;have hvl:(Kk (ts.take z.k)).length=z.k:=by unfold Kk;rw [List.length_map,List.length_take];omega
 refine go ?_;refine Ax rfl (fun h1=>?_) (fun h1=>?_)
 ·have hk:z.k < ts.length:=FJ
  have hx:=hs _ (List.getElem_mem hk);refine Nq (a:=a) (xs:=ts) z.k ?_;rintro hi b o e s1;rw [e];refine go ?_;refine cb (fun w st=>(Ag3 ts[z.k] FT hx).val w (En (st.get (p:=Hp FT) FK))) ?_;cases g:(C5 ts[z.k]).2
  ·rw [show S9 ts=([],false) by unfold S9;rw [Bbj hk g];rfl];refine Dj Bb 3 ?_;refine go ?_;refine ret ⟨0,none,0,[]⟩ trivial rfl
  refine O3 ?_;intros;apply wO;refine Qa (Rd (C5 ts[z.k]).1) Dd fun a9 c9 F9=>?_;refine go ?_;rw [←Arm hk];refine Ce ⟨z.k+1,a9,c9,F9⟩ ⟨by show z.k+1≤ts.length;omega,Ata hk g z3⟩ (by show ts.length - (z.k+1) < ts.length - z.k;omega)
 ·have hk:ts.take z.k=ts:=List.take_of_length_le FJ;rw [hk] at z3 hvl ⊢;rw [show S9 ts=(Kk ts,true) by unfold S9;rw [z3];rfl];exact CL
theorem Ayy (t:Bs):(Ee 32 t).length≤t.length+1∧∀u∈Ee 32 t,u.length≤t.length:=by
 have hcb:=Lib.countB_le ⟨#[32]⟩ FM (bz t).size (bz t) (Nat.le_refl _);have hlen:=Lib.splitB_all ⟨#[32]⟩ FM 0 _ (bz t) rfl;rw [Aja,Kr,List.length_map] at hlen;rw [Ka] at hcb;refine ⟨FJ,fun u hu=>?_⟩;have h:bz u∈(Ee 32 t).map bz:=List.mem_map.2 ⟨u,hu,rfl⟩;have e:=Aja 32 (bz t);rw [Kr] at e;rw [←e] at h;have:=Xm ⟨#[32]⟩ (bz t).size _ (bz t) (Nat.le_refl _) (bz u) h;rw [Ka,Ka] at this;exact this
def E8 (x:Az):List Int × Bool:=if Bx x then (x.Al.map (·.Ae),true) else ([],false)
theorem Adk (x:Az) (v:Value) (F:List Nat):Fn prog 218 [v] [.isv Bi v x F] [] (fun (_:OwR)=>True) (fun s=>.tuple #[.slice s.a (E8 x).1.length s.c,.bool (E8 x).2]) (fun s=>[.ow Bb 3 (.slice s.a (E8 x).1.length s.c) (E8 x).1 s.F]):=by
 refine enter func218 rfl ntmps218 fun w0=>?_;refine Es (v:=v) (x:=x) (F:=F) ?_;rintro a1 c1 F1 a2 c2 F2 rfl l1 l2;unfold maxLen at l1 l2;refine Dj Bb 3 ?_;refine go ?_;intros;refine Cb (Uz x _ F) fun _ _=>?_;cases g1:Bx x
 ·rw [show E8 x=([],false) by unfold E8;rw [g1];rfl];exact BD
 have g5:=Eb.1 g1;have hq8:=(Dg.1 g5.q).2.1;rw [show E8 x=(x.Al.map (·.Ae),true) by unfold E8;rw [g1];rfl];refine go ?_;refine Cj [2,3,11,12] (fun s:AwS=>[(13,.int .i64 (s.i:Nat)),(4,.slice s.a ((x.Al.take s.i).map (·.Ae)).length s.c)]) (fun s=>[.ow Bb 3 (.slice s.a ((x.Al.take s.i).map (·.Ae)).length s.c) ((x.Al.take s.i).map (·.Ae)) s.F]) (fun s=>s.i≤x.Al.length) (fun s=>x.Al.length - s.i) ⟨0,none,0,[]⟩ (Nat.zero_le _) fun s hs=>?_;obtain ⟨i,a3,c3,F3⟩:=s;dsimp only at hs ⊢;have hl3:((x.Al.take i).map (·.Ae)).length≤i:=FR
 refine go ?_;refine Ax rfl (fun h4=>?_) (fun h4=>?_)
 ·have hi:i < x.Al.length:=FJ
  have eo:(x.Al.take (i+1)).map (·.Ae)=(x.Al.take i).map (·.Ae)++[x.Al[i].Ae]:=KS
  exact BW
 have hi:i=x.Al.length:=FJ
 subst hi;rw [List.take_length];exact BD
def Bjf:Bs:=[110,111,110,101]
def jnW (sep:Bs) (l:List ByteArray):ByteArray:=if l=[] then bz Bjf else bz (Lib.join (l.map fun e=>e.data.toList) sep)
def Ym (E:List ByteArray):ByteArray:=jnW [44,32] E
def Wf (l:List Int):ByteArray:=if l=[] then bz Bjf else bz (jn l)
def Ajo:Bs:=[115,101,110,100]
def Amj:Bs:=[116,105,99,107]
def Aro:Bs:=[100,111,119,110]
def wUp:Bs:=[117,112]
def Arp:Bs:=[108,111,115,101]
def Bdd:Bs:=[99,117,116]
def Xr:Bs:=[100,114,97,105,110]
def Adg:Bs:=[108,101,97,100]
def Xs:Bs:=[113,117,101,117,101,100]
def Zh:Bs:=[115,101,116,116,108,101,100]
def Bf3:Bs:=[121,101,115]
def wNo:Bs:=[110,111]
def wOk:Bs:=[111,107]
def Ajn:Bs:=[97,119,97,105,116]
def Ajp:Bs:=[115,108,111,116,115]
def Od:Bs:=[102,97,99,101,115]
def Bh9:Bs:=[98,97,100]
def Bde:Bs:=[102,117,108,108]
def Bdf:Bs:=[108,111,110,103]
def Rb (w:Bs):Int:=if w=Aro then 2 else if w=wUp then 5 else if w=Arp then 3 else if w=Bdd then 6 else 0
def Jf (W:List Bs):Option Kq :=
 if atW W 0=Ajo∧W.length=1 then some ⟨1,0,⟨#[]⟩⟩
 else if atW W 0=Ajo∧W.length=2∧atW W 1≠[] then some ⟨1,0,bz (atW W 1)⟩
 else if atW W 0=Amj∧W.length=1 then some ⟨4,0,⟨#[]⟩⟩
 else if W.length≠2 then none
 else if Rb (atW W 0)≠0∧(C5 (bz (atW W 1))).2=true then some ⟨Rb (atW W 0),(C5 (bz (atW W 1))).1,⟨#[]⟩⟩ else none
abbrev NR:=Du × ByteArray
def Km (n:Du) (s:Kq):Option NR:=if Ex s then (Bo n s).map fun y=>(y.1,if s.Cp=2∨s.Cp=4 then Ym y.2 else bz wOk) else none
def Li (n:Du) (l:Bs):Option ByteArray :=
 if l=Adg then some (bz (Lib.itoa (Mi n.Ab.Aa)))
 else if l=Xs then some (bz (Lib.itoa ((qd n.down:Nat):Int))++⟨#[32]⟩++bz (Lib.itoa ((qd n.up:Nat):Int)))
 else if l=Zh then some (if Aad n then bz Bf3 else bz wNo)
 else none
def Uj (n:Du) (i:Int):Bool:=Eu n.An.Ad i
def Ke (n:Du) (w:Bs) (l:List Int):Option ByteArray :=
 if Gj 1 (l.getD 0 0) ((n.An.Ad.length:Int) - 1) then
  if w=Ajn∧l.length=1∧Uj n (l.getD 0 0)=true then some (Wf ((Q5 n (l.getD 0 0).toNat).Al.map (·.Ae)))
  else if w=Ajp∧l.length=1∧Uj n (l.getD 0 0)=true∧(Q5 n (l.getD 0 0).toNat).Be=true then some (Aap (Q5 n (l.getD 0 0).toNat).Aa)
  else if w=Od∧l.length=2∧Uj n (l.getD 0 0)=false then (if Cc (l.getD 1 0) then some (Wf (Lw (Qt n (l.getD 0 0).toNat) (l.getD 1 0))) else none)
  else none
 else none
def Q4 (n:Du) (r:Option ByteArray):Option NR:=r.map fun t=>(n,t)
def Gp (line:ByteArray):List Bs:=Ee 32 line.data.toList
def Pv (n:Du) (line:ByteArray):Option NR :=
 match Jf (Gp line) with
 | some s=>Km n s
 | none =>
  if line.data.toList=Xr then some ((Ri n).1,Ym (Ri n).2)
  else if (Gp line).length=1 then Q4 n (Li n line.data.toList)
  else if Sr (((Gp line).drop 1).map bz) then Q4 n (Ke n (atW (Gp line) 0) (Kk (((Gp line).drop 1).map bz)))
  else none
def Q6 (n:Du) (line:ByteArray):ByteArray:=match Pv n line with|some r=>r.2|none=>⟨#[63]⟩
def Ic (n:Du) (line:ByteArray):Du:=match Pv n line with|some r=>r.1|none=>n
def Tl (t:ByteArray):ByteArray:=if 200 < t.size then bz Bdf else t
def Vh (line:ByteArray):Bool:=Lg.Bx line ⟨#[]⟩
def Tc (l:Log) (line Hh:ByteArray):Log:=⟨l.C2,l.pending++bz (Le l.count.toNat line.data.toList Hh.data.toList),l.count+1⟩
def Vn (c:Cs) (line:ByteArray):Cs × ByteArray :=
 if Vh line then
  if c.Lq.count=60 then (c,bz Bde) else (⟨Ic c.Bl line,Tc c.Lq line (Tl (Q6 c.Bl line))⟩,Tl (Q6 c.Bl line))
 else (c,bz Bh9)
def Fg (c:Cs) (line:ByteArray):Cs × ByteArray:=if Ks c then Vn c line else (c,bz wNo)
/-! what a command replies can stand in a log; the console stays valid -/
theorem Yx {l:Bs} (h:Z9 l):Z9 (bz l).data.toList:=by rw [Kr];exact h
theorem Zt {l:Bs} (h:∀b∈l,97≤b.toNat∧b.toNat≤122):Z9 l:=fun b hb=>by
 have:=h b hb;exact CG
theorem Bar {sep:Bs} (hs:Z9 sep):∀{l:List Bs},(∀x∈l,Z9 x)→Z9 (Lib.join l sep)
 | [],_=>fun b hb=>by simp [Lib.join] at hb
 | x::r,h=>by
  rw [Lib.join_cons];refine (h x FK).app ?_;unfold Lib.joinTail;intro b hb;obtain ⟨y,hy,hb⟩:=List.mem_flatten.1 hb;obtain ⟨z,hz,rfl⟩:=List.mem_map.1 hy;exact hs.app (h z JR) b hb
theorem Bja {sep:Bs} (hs:Z9 sep) {l:List ByteArray} (h:∀x∈l,Z9 x.data.toList):Z9 (jnW sep l).data.toList:=by
 unfold jnW
 split
 ·exact Yx (Zt FM)
 ·exact Yx (Bar hs fun x hx=>by obtain ⟨y,hy,rfl⟩:=List.mem_map.1 hx;exact h y hy)
theorem Aur {E:List ByteArray} (h:∀e∈E,evN e):Z9 (Ym E).data.toList:=Bja (fun b hb=>by
 rcases List.mem_cons.1 hb with rfl|hb
 ·decide
 ·rw [List.mem_singleton.1 hb];decide) fun x hx=>(Zm (h x hx)).1
theorem Am7 {n:Int} (h:0≤n):Z9 (Lib.itoa n):=fun b hb=>by
 rw [Qw h] at hb;have:=Qd n.natAbs b hb;exact CG
theorem Bkf {l:List Int} (h:∀x∈l,0≤x):Z9 (jn l):=Bar (fun b hb=>by rw [List.mem_singleton.1 hb];decide) fun x hx=>by
 obtain ⟨y,hy,rfl⟩:=List.mem_map.1 hx;exact Am7 (h y hy)
theorem Au3 {l:List Int} (h:∀x∈l,0≤x):Z9 (Wf l).data.toList:=by
 unfold Wf
 split
 ·exact Yx (Zt FM)
 ·exact Yx (Bkf h)
theorem Atb {s:Gh} (h:H3 s=true):∀c∈s.Dk.data.toList,97≤c.toNat∧c.toNat≤122:=by
 unfold H3 R5 Abi at h;simp only [Bool.and_eq_true,Bool.or_eq_true,decide_eq_true_eq,List.all_eq_true] at h;intro c hc;have h2:=h.1.2 c hc;unfold low Gj at h2;simp only [Bool.and_eq_true,decide_eq_true_eq] at h2;omega
theorem Bfn {w:Aj} (h:Cu w=true):Z9 (Aap w).data.toList:=by
 have hok:∀s∈w.Am,H3 s=true:=by
  unfold Cu at h;simp only [Bool.and_eq_true] at h;exact List.all_eq_true.1 h.1.2
 have hw:=Iw h;have key:∀k,Z9 (slT w k).data.toList:=by
  intro k;unfold slT;have h0:Z9 (bz (Lib.decDigits w.next.toNat)++⟨#[58]⟩:ByteArray).data.toList:=by
   rw [Is,Kr];refine Z9.app (fun b hb=>?_) fun b hb=>by rw [List.mem_singleton.1 (show b∈[58] from hb)];decide
   have:=Qd w.next.toNat b hb
   exact CG
  have hm:∀s∈w.Am.take k,H3 s=true:=fun s hs=>hok s (List.mem_of_mem_take hs);clear hok h;revert hm;generalize w.Am.take k=L;intro hm;generalize (bz (Lib.decDigits w.next.toNat)++⟨#[58]⟩:ByteArray)=a at h0
  induction L generalizing a with
  | nil=>exact h0
  | cons s r ih =>
   refine ih (fun x hx=>hm x (List.mem_cons_of_mem _ hx)) (a++(⟨#[32]⟩++Ac7 s)) ?_;rw [Is,Is];refine h0.app (Z9.app (fun b hb=>by rw [List.mem_singleton.1 (show b∈[32] from hb)];decide) ?_);unfold Ac7
   split
   ·split
    ·exact fun b hb=>by rw [List.mem_singleton.1 (show b∈[46] from hb)];decide
    ·exact Zt (Atb (hm s FK))
   ·exact fun b hb=>by rw [List.mem_singleton.1 (show b∈[63] from hb)];decide
 exact key _
theorem Bez {n:Du} {s:Kq} {r:NR} (hg:At n=true) (h:Km n s=some r):At r.1=true∧Z9 r.2.data.toList:=by
 unfold Km at h
 split at h
 ·rename_i hs;cases e:Bo n s with
  | none=>rw [e] at h;cases h
  | some y =>
   rw [e] at h;cases h;refine ⟨N8 hg hs e,?_⟩;dsimp only
   split
   ·exact Aur (Atv hg hs e)
   ·exact Yx (Zt FM)
 ·cases h
theorem Be7 {n:Du} {l:Bs} {t:ByteArray} (h:Li n l=some t):Z9 t.data.toList:=by
 unfold Li at h
 split at h
 ·cases h;exact Yx (Am7 (Acp _).1)
 ·split at h
  ·cases h;rw [Is,Is,Kr,Kr];exact ((Am7 (Int.natCast_nonneg _)).app fun b hb=>by rw [List.mem_singleton.1 (show b∈[32] from hb)];decide).app (Am7 (Int.natCast_nonneg _))
  ·split at h
   ·cases h
    split <;> exact Yx (Zt FM)
   ·cases h
theorem Bhs {n:Du} (hg:At n=true) (i:Nat):Mv (Q5 n i):=by
 by_cases hi:i < n.Ac.length
 ·rw [Hv hi];exact Eb.1 ((Ii hg).2.1 _ (List.getElem_mem hi))
 ·unfold Q5;rw [List.getD_eq_getElem?_getD,List.getElem?_eq_none FJ];exact Eb.1 FM
theorem Bi5 {n:Du} (hg:At n=true) (i:Nat):Ba (Qt n i)=true:=by
 by_cases hi:i < n.Af.length
 ·rw [J3 hi];exact (Ii hg).1 _ (List.getElem_mem hi)
 ·unfold Qt;rw [List.getD_eq_getElem?_getD,List.getElem?_eq_none FJ];decide
theorem Bd2 {n:Du} {w:Bs} {l:List Int} {t:ByteArray} (hg:At n=true) (hf:∀i k,∀x∈Lw (Qt n i) k,0≤x) (h:Ke n w l=some t):Z9 t.data.toList:=by
 unfold Ke at h;have hr:=Bhs hg (l.getD 0 0).toNat
 split at h
 ·split at h
  ·cases h;refine Au3 fun x hx=>?_;obtain ⟨q,hq,rfl⟩:=List.mem_map.1 hx;exact (Bc.1 (Y7 hr hq).1).1
  ·split at h
   ·cases h;exact Bfn hr.w
   ·split at h
    ·split at h
     ·cases h;exact Au3 (hf _ _)
     ·cases h
    ·cases h
 ·cases h
theorem Ak7 {e:Bf} {k:Int} (hg:Ba e=true):∀x∈Lw e k,1≤x∧x≤7:=by
 intro x hx;unfold Lw at hx
 split at hx
 ·rename_i y hy;have h2:=(Hg.1 hg).2.2.1 y (List.mem_of_getElem? hy);unfold Lo at h2;simp only [Bool.and_eq_true] at h2;exact (Zx h2.2.2.1).2 x hx
 ·cases hx
theorem Awd {n:Du} (hg:At n=true) (i:Nat) (k:Int):∀x∈Lw (Qt n i) k,1≤x∧x≤7:=fun x hx=>Ak7 (Bi5 hg i) x hx
theorem Bb6 {n:Du} {line:ByteArray} {r:NR} (hg:At n=true) (h:Pv n line=some r):At r.1=true∧Z9 r.2.data.toList:=by
 unfold Pv at h
 split at h
 ·exact Bez hg h
 ·split at h
  ·cases h;exact ⟨(Az2 hg).1,Aur (Bg6 hg)⟩
  ·split at h
   ·unfold Q4 at h;cases e:Li n line.data.toList with
    | none=>rw [e] at h;cases h
    | some t=>rw [e] at h;cases h;exact ⟨hg,Be7 e⟩
   ·split at h
    ·unfold Q4 at h;cases e:Ke n (atW (Gp line) 0) (Kk (((Gp line).drop 1).map bz)) with
     | none=>rw [e] at h;cases h
     | some t=>rw [e] at h;cases h;exact ⟨hg,Bd2 hg (fun i k x hx=>by have:=Awd hg i k x hx;omega) e⟩
    ·cases h
theorem Al7 {n:Du} {line:ByteArray} (hg:At n=true):At (Ic n line)=true:=by
 unfold Ic;cases e:Pv n line with
 | none=>exact hg
 | some r=>exact (Bb6 hg e).1
theorem Atp {n:Du} {line:ByteArray} (hg:At n=true):Z9 (Q6 n line).data.toList:=by
 unfold Q6;cases e:Pv n line with
 | none=>exact fun b hb=>by rw [List.mem_singleton.1 (show b∈[63] from hb)];decide
 | some r=>exact (Bb6 hg e).2
theorem Ar8 {t:ByteArray} (h:Z9 t.data.toList):Z9 (Tl t).data.toList∧(Tl t).size≤200:=by
 unfold Tl
 split
 ·exact ⟨Yx (Zt FM),FM⟩
 ·exact ⟨h,FJ⟩
theorem Aa9 {line Hh:ByteArray} (h:Vh line=true) (h2:Z9 Hh.data.toList) (h3:Hh.size≤200):Lg.Bx line Hh=true:=by
 unfold Vh at h;unfold Lg.Bx at h ⊢;simp only [Bool.and_eq_true] at h ⊢;refine ⟨⟨⟨⟨h.1.1.1.1,decide_eq_true FJ⟩,h.1.1.2⟩,?_⟩,h.2⟩;unfold I7;rw [List.all_eq_true];exact fun b hb=>Afl.2 (h2 b hb)
theorem Ba8 {l:Log} {line Hh:ByteArray} (hv:Kv l.C2.data.toList l.pending.data.toList l.count=true) (hc:¬l.count=60) (hr:Lg.Bx line Hh=true) :
  Kv (Tc l line Hh).C2.data.toList (Tc l line Hh).pending.data.toList (Tc l line Hh).count=true ∧
  Bp ((Tc l line Hh).C2.data.toList++(Tc l line Hh).pending.data.toList)=Bp (l.C2.data.toList++l.pending.data.toList)++[Le l.count.toNat line.data.toList Hh.data.toList]:=by
 have hV:=Lg.Arn hv;have hk:=(Nu (l.C2.data.toList++l.pending.data.toList)).2;have hcn:=hV.Yj;have hx:okL (Bp (l.C2.data.toList++l.pending.data.toList)).length (Le l.count.toNat line.data.toList Hh.data.toList)=true:=U6.2 ⟨line.data.toList,Hh.data.toList,FJ,by rw [←Lg.O7];exact hr,by rw [hcn];rfl⟩;obtain ⟨h1,h2⟩:=hV.append hx;have e:(Tc l line Hh).pending.data.toList=l.pending.data.toList++Le l.count.toNat line.data.toList Hh.data.toList:=by unfold Tc;rw [Is,Kr]
 rw [e];exact ⟨h1.bool,h2⟩
theorem Ahr {c:Cs} {line:ByteArray} (h:Ks c=true):Ks (Vn c line).1=true:=by
 unfold Vn
 split
 ·rename_i hl
  split
  ·exact h
  ·rename_i hc;unfold Ks at h ⊢;rw [Bool.and_eq_true] at h ⊢;have ht:=Ar8 (Atp (line:=line) h.1);exact ⟨Al7 h.1,(Ba8 h.2 hc (Aa9 hl ht.1 ht.2)).1⟩
 ·exact h
end Go.Proofs.YtkblpelckhegbaaGreatDoor
