/- Part 7 of the proof: 48 texts, one behind the other. -/
import Derived.Test.YtcmighgaiacgoaaGreatDoorShelf
import Derived.Deep.RegionHeld3
import Derived.Lib.Strings
import Derived.Lib.LaidTab
import Derived.Lib.ItoaMem
import Derived.WideLaws
import Derived.RangeFuncCalls
import Derived.RangeFuncFrom
import Derived.RangeFuncLeaves
import Derived.TacticsInMore
import Derived.OrdersIn
import Derived.WalkKit
import Derived.LoopNIn
import Derived.LoopIn
import Derived.OwnWalkIn
import Derived.Test.YtcmighgaiacgoaaGreatDoorM6
open _root_.Go.Proofs.Tryz
set_option maxRecDepth 100000
set_option maxHeartbeats 8000000
set_option linter.all false
set_option linter.unusedVariables false
set_option linter.unusedSimpArgs false
namespace Go.Proofs.YtcmighgaiacgoaaGreatDoor
theorem BU{p:Prop}(h:p:=by refine Jd (xs:=x.Am) i ?_;rintro hi2 b o e;rw [e];refine go ?_;intros;apply wO;refine Ps (Tl _) C8 fun a7 c7 F7=>?_;refine go ?_;rw [←eo];refine Cg (⟨i+1,_,_,_⟩:AwS) (by show i+1≤x.Am.length;omega) (by show x.Am.length - (i+1) < x.Am.length - i;omega)):p:=h
theorem CE{p:Prop}(h:p:=by exact ⟨by omega,fun e=>by rw [e] at this;exact absurd this.1 (by decide)⟩):p:=h
theorem CZ{p:Prop}(h:p:=by refine go ?_;intros;rw [hop];refine ret (z.a,z.c,z.F) trivial rfl):p:=h
theorem DZ{p:Prop}(h:p:=by refine Cg (k+1) hk3 (by omega)):p:=h
theorem GH{p:Prop}(h:p:=by obtain ⟨v1,v2,v3,v4,v5,v6,v7,F1,F2,F3,F4,F5,F6,F7,rfl,s1,s2,h1,h2,h3,h4,h5,h6,h7,rfl⟩:=h;exact ⟨v1,v2,v3,v4,v5,v6,v7,F1,F2,F3,F4,F5,F6,F7,rfl,s1,s2,h1.frame fun b hb=>hF b (by simp [hb]),h2.frame fun b hb=>hF b (by simp [hb]),h3.frame fun b hb=>hF b (by simp [hb]),h4.frame fun b hb=>hF b (by simp [hb]),h5.frame fun b hb=>hF b (by simp [hb]),h6.frame fun b hb=>hF b (by simp [hb]),h7.frame fun b hb=>hF b (by simp [hb]),rfl⟩):p:=h
theorem GK{p:Prop}(h:p:=by exact fun _ _ _ h=>h):p:=h
theorem GL{p:Prop}(h:p:=by simp only [ByteArray.size_append,sz1];omega):p:=h
theorem IX{p:Prop}(h:p:=by rw [hj];exact Dt (Below.refl _ _) _):p:=h
theorem JN{p:Prop}(h:p:=by obtain ⟨v1,v2,v3,v4,v5,v6,v7,F1,F2,F3,F4,F5,F6,F7,rfl,s1,s2,h1,h2,h3,h4,h5,h6,h7,rfl⟩:=h;rfl):p:=h
theorem KE{p:Prop}(h:p:=by have:=run_endLoop (P:=P) hl (by rw [hrec];simp);rw [hrec] at this;exact this):p:=h
theorem KT{p:Prop}(h:p:=by rw [List.take_add_one,List.getElem?_eq_getElem hi,List.map_append];rfl):p:=h
theorem KY{p:Prop}(h:p:=by rw [ByteArray.size_extract];omega):p:=h
theorem LI{p:Prop}(h:p:=by rw [Jm];exact Ej 1 _ (by omega)):p:=h
end Go.Proofs.YtcmighgaiacgoaaGreatDoor
namespace Go.Proofs.YtcmighgaiacgoaaGreatDoor

open Go.RowKit
end Go.Proofs.YtcmighgaiacgoaaGreatDoor
namespace Go.Proofs.YtcmighgaiacgoaaGreatDoor
open Go.RowKit
def Bkc (e:ByteArray):Int:=((e.data.toList.getD 0 0).toNat:Int) - 48
def Bki (i:Nat) (E:List ByteArray):List ByteArray:=(E.filter fun e=>decide (Bkc e=((i:Nat):Int))).map fun e=>e.extract 2 e.size
def EvW (E:List ByteArray):Prop:=∀e∈E,∃i x,1≤i∧i≤7∧e=Nq i x
theorem Bcu {i:Nat} (h:i≤7) (x:ByteArray):Nq i x=bz (UInt8.ofNat (48+i)::32::x.data.toList):=by
 have e:bz (Lib.itoa ((i:Nat):Int))=bz [UInt8.ofNat (48+i)]:=by
  rw [Ql (Int.natCast_nonneg i),Int.natAbs_natCast,Lib.decDigits,dif_pos FH]
 unfold Nq;rw [e,←Ya (_++_),Im,Im];rfl
theorem EvW.app {a b:List ByteArray} (h:EvW a) (h2:EvW b):EvW (a++b):=fun e he=>by
 rcases List.mem_append.1 he with he|he
 ·exact h e he
 ·exact h2 e he
theorem EvW.Vc {i:Nat} (h1:1≤i) (h7:i≤7) (es:List ByteArray):EvW (Vc i es):=fun e he=>by
 obtain ⟨x, -,rfl⟩:=List.mem_map.1 he;exact ⟨i,x,h1,h7,rfl⟩
theorem EvW.nil:EvW []:=fun e he=>by cases he
structure SrI (S:List ByteArray) (f:Int) (w:Aw):Prop where
 h:∃i,i+w.An.length=S.length∧w.Ap=Cf f ((i:Nat):Int)∧w.An=S.drop i
structure NtJ (S:List ByteArray) (f:Int) (n:Dv) (E:List ByteArray):Prop where
 s:SrI S f n.Ab.Aa
 d:∀q∈n.down,∀p∈q,PkI S f p
 r:∀i (h:i < n.Ac.length),RcI S f n.Ac[i] (Bki i E)
 e:EvW E
section
variable {S:List ByteArray} {f:Int} {n:Dv} {E:List ByteArray}
theorem SrI.Fg {w:Aw} (h:SrI S f w):L8 w=Cf f ((S.length:Nat):Int):=by
 obtain ⟨i,h1,h2, -⟩:=h.h;unfold L8;rw [h2,Agf,h1]
theorem SrI.Ap {w:Aw} (h:SrI S f w):∃i,i≤S.length∧w.Ap=Cf f ((i:Nat):Int):=by
 obtain ⟨i,h1,h2, -⟩:=h.h;exact ⟨i,FH,h2⟩
theorem SrI.Dk {w:Aw} (h:SrI S f w) (hs:1≤w.size):SrI S f (Dk w):=by
 obtain ⟨i,h1,h2,h3⟩:=h.h;unfold Go.Proofs.YtcmighgaiacgoaaGreatDoor.Dk
 split
 ·rename_i e;refine ⟨i+1,?_,?_,?_⟩
  ·show i+1+(w.An.drop 1).length=_;rw [List.length_drop];omega
  ·show Cf w.Ap 1=_;rw [h2,show Cf (Cf f (i:Nat)) 1=Cf (Cf f (i:Nat)) ((1:Nat):Int) from rfl,Agf]
  ·show w.An.drop 1=_;rw [h3,List.drop_drop]
 ·exact h
theorem SrI.push {w:Aw} (h:SrI S f w) (hs:1≤w.size) (t:ByteArray):SrI (S++[t]) f (Df w t):=by
 obtain ⟨i,h1,h2,h3⟩:=(h.Dk hs).h;refine ⟨i,?_,h2,?_⟩
 ·show i+((Go.Proofs.YtcmighgaiacgoaaGreatDoor.Dk w).An++[t]).length=_;rw [List.length_append,List.length_append,List.length_singleton];omega
 ·show (Go.Proofs.YtcmighgaiacgoaaGreatDoor.Dk w).An++[t]=_;rw [h3,List.drop_append_of_le_length FH]
theorem NtJ.mono {S2:List ByteArray} (h:NtJ S f n E) (hs:SrI (S++S2) f n.Ab.Aa):NtJ (S++S2) f n E:=⟨hs,fun q hq p hp=>(h.d q hq p hp).mono,fun i hi=>(h.r i hi).mono,h.e⟩
theorem Az1 {P:NE→Prop} (hP:∀(x y:NE) (s:Kh),P x→At x.1=true→Es s=true→s.Cp≠1→Bo x.1 s=some y→P (y.1,x.2++y.2)) {x:NE} (hg:At x.1=true) (h:P x):P (drE x):=by
 have ht:∀(x:NE) (s:Kh),P x→At x.1=true→Es s=true→s.Cp≠1→P (Nl x s):=fun x s hx hg hs hk=>by
  cases e:Bo x.1 s with
  | none=>rw [J3 e];exact hx
  | some y=>rw [Zt e];exact hP x y s hx hg hs hk e
 have hr:∀(x:NE),P x→At x.1=true→∀k,k+1≤x.1.Ao.Ad.length→P (Ia x k):=fun x hx hg k=>by
  have hn8:=(H8 (Az.1 hg).t).n1
  induction k with
  | zero=>intro _;exact hx
  | succ k ih =>
   intro hk;have f1:=(Px hg k FH).1;have hk1:k+1 < (Ia x k).1.Ao.Ad.length:=by rw [f1.t];omega
   have f2:=(Aro f1.g FH hk1).1;have p2:=ht _ (Ja (k+1)) (ih FH) f1.g (Be5 FH FH) (by show (2:Int)≠1;decide);exact ht _ (Mr (k+1)) p2 f2.g (Bbm FH FH) (by show (5:Int)≠1;decide)
 unfold drE;generalize wN x.1=m
 induction m generalizing x with
 | zero=>exact h
 | succ m ih =>
  unfold T8
  split
  ·exact h
  ·have h2:=(H8 (Az.1 hg).t).n0;exact ih (M9 hg).1.g (hr x h hg _ FH)
end
def lgB (b:UInt8):Prop:=(32≤b.toNat∧b.toNat≤126)∧b≠35
instance (b:UInt8):Decidable (lgB b):=by unfold lgB;infer_instance
def Zz (l:Bs):Prop:=∀b∈l,lgB b
theorem Zz.app {a b:Bs} (h:Zz a) (k:Zz b):Zz (a++b):=fun x hx=>by
 rcases List.mem_append.1 hx with h1|h1
 ·exact h x h1
 ·exact k x h1
theorem Awv {s:ByteArray} (h:Rs s=true):∀c∈s.data.toList,97≤c.toNat∧c.toNat≤122:=by
 unfold Rs Abb low Ga at h;simp only [Bool.and_eq_true,List.all_eq_true,decide_eq_true_eq] at h;exact fun c hc=>by have:=h.2 c hc;omega
def evK (e:ByteArray):Prop:=e=Aqc∨e=Yk∨∃t,Rs t=true∧e=Aij t
def slK (l:List Gb):Prop:=∀s∈l,s.Vr=true→Rs s.Dg=true
theorem slK.drop {l:List Gb} (h:slK l) (k:Nat):slK (l.drop k):=fun s hs=>h s (List.mem_of_mem_drop hs)
theorem Ai2 {w:Aj} (h:Cu w=true):slK w.Al:=fun s hs _=>by
 unfold Cu at h;simp only [Bool.and_eq_true] at h;have:=List.all_eq_true.1 h.1.2 s hs;unfold Hn at this;simp only [Bool.and_eq_true] at this;exact this.1
theorem Bbt:∀(l:List Gb) (n:Int),slK l→∀e∈(rel n l).2.2,evK e
 | [],_,_,e,he=>by cases he
 | s::r,n,h,e,he=>by
  unfold rel at he
  split at he
  ·rename_i hs;rcases List.mem_cons.1 he with rfl|he
   ·exact .inr (.inr ⟨_,h s FI hs,rfl⟩)
   ·exact Bbt r _ (fun x hx=>h x JC) e he
  ·cases he
theorem Bai:∀(m:Nat) (w:Aj),slK w.Al→∀e∈O7 m w,evK e
 | 0,_,_,e,he=>by cases he
 | m+1,w,h,e,he=>by
  unfold O7 at he;rcases List.mem_cons.1 he with rfl|he
  ·cases hw:w.Al with
   | nil=>exact .inl rfl
   | cons s r =>
    by_cases hs:s.Vr=true
    ·exact .inr (.inr ⟨s.Dg,h s (by rw [hw];simp) hs,by simp [Gn,hs]⟩)
    ·exact .inl (by simp [Gn,hs])
  ·exact Bai m (Z7 w) (by rw [show (Z7 w).Al=w.Al.drop 1 by simp [Z7]];exact h.drop 1) e he
theorem Au1 {w:Aj} {t:Int} (h:slK w.Al):∀e∈Jg w t,evK e:=fun e he=>by
 unfold Jg at he;rcases List.mem_append.1 he with he|he
 ·exact Bai _ _ h e he
 ·exact Bbt _ _ (by rw [Ua];exact h.drop _) e he
theorem Bji {w:Aj} {n:Int} {t:ByteArray} (h:slK w.Al) (ht:Rs t=true):slK (Z5 w n t).Al:=fun s hs hv=>by
 unfold Z5 Mt at hs;rcases List.mem_or_eq_of_mem_set hs with hs|rfl
 ·unfold Mz at hs;rcases List.mem_append.1 hs with hs|hs
  ·exact h s hs hv
  ·rw [(List.mem_replicate.1 hs).2] at hv;cases hv
 ·exact ht
theorem Bhg {r:Ay} {p:Ar} (hg:Mn r) (hp:Bt p=true):∀e∈Io r p,evK e:=fun e he=>by
 unfold Io at he
 split at he
 ·unfold M7 at he;have hs:=Ai2 (Rm hg hp).1;have hd:Rs p.data=true:=by have h:=hp;unfold Bt at h;simp only [Bool.and_eq_true] at h;exact h.1.1.2
  rcases List.mem_append.1 he with he|he
  ·unfold Lf Mf at he
   split at he
   ·cases he
   ·split at he
    ·cases he
    ·exact Bbt _ _ (Bji hs hd) e he
  ·unfold Po at he
   split at he
   ·split at he
    ·exact Au1 (Ai2 (Un hg hp).1) e he
    ·rw [List.mem_singleton] at he;exact .inr (.inl he)
   ·cases he
 ·cases he
theorem Bh7 {r:Ay} (hg:Mn r):∀e∈Hw r,evK e:=fun e he=>by
 unfold Hw at he
 split at he
 ·cases he
 ·exact Au1 (Ai2 hg.w) e he
def evN (e:ByteArray):Prop:=∃i x,i≤7∧evK x∧e=Nq i x
theorem Bcv {i:Nat} (h:i≤7) {es:List ByteArray} (he:∀e∈es,evK e):∀e∈Vc i es,evN e:=fun e hm=>by
 obtain ⟨x,hx,rfl⟩:=List.mem_map.1 hm;exact ⟨i,x,h,he x hx,rfl⟩
theorem Bcy {n:Dv} (hg:At n=true) (hc:n.Ab.Ai < 9999):∀k,k+1≤n.Ao.Ad.length→∀e∈(Be n k).2,evN e
 | 0,_,e,he=>by cases he
 | k+1,hk,e,he=>by
  obtain ⟨hG,ht, -⟩:=Qc hg hc k FH;have hn8:=(H8 hG.t).n1;have hi:k+1 < (Be n k).1.Ao.Ad.length:=by rw [ht];omega
  obtain ⟨g1,g2,g3,g4,r⟩:=hG.rn hi;rcases List.mem_append.1 (show e∈(Be n k).2++(N9 (Be n k).1 (k+1)).2 from he) with he|he
  ·exact Bcy hg hc k FH e he
  ·unfold N9 at he;cases hl:Eo (Be n k).1.Ao.Ad ((k+1:Nat):Int)
   ·rw [hl,if_neg FK] at he;cases he
   ·rw [hl,if_pos rfl,Hh g2] at he;exact Bcv FH (Bh7 (Ek.1 (r.hf FH hl).2.1)) e he
theorem Att {n:Dv} {s:Kh} {y:NE} (hg:At n=true) (hs:Es s=true) (e:Bo n s=some y):∀z∈y.2,evN z:=by
 have hG:=Az.1 hg;unfold Bo at e
 split at e
 ·cases e;exact fun z hz=>by cases hz
 ·rename_i h1
  split at e
  ·split at e
   ·cases e
   ·cases e;have:=Y2 hG.s;exact Bcy hg FH _ (by have:=(H8 hG.t).n0;omega)
  ·rename_i h4;unfold Es at hs;rw [if_neg h1,if_neg h4] at hs;simp only [Bool.and_eq_true] at hs;have hf:=O0.1 hs.1.2;have hpg:=Mb (s:=s) hg;have hq:=M0 (s:=s) hg;have htl:(Hb n s).Ao=n.Ao:=KP
   unfold C2 at e
   split at e
   ·cases e
   ·rename_i hb
    split at e
    ·cases e
    ·rename_i h2;have hpk:=Nu hq.1 (Pl (q:=Va n s) FH)
     split at e
     ·cases e;have hi:s.node.toNat < (Hb n s).Ao.Ad.length:=by rw [htl];omega
      obtain ⟨i1,i2,i3,i4,hrn⟩:=(Az.1 hpg).rn hi;unfold C4;cases hl:Eo (Hb n s).Ao.Ad ((s.node.toNat:Nat):Int)
      ·rw [if_neg FK];exact fun z hz=>by cases hz
      ·rw [if_pos rfl,Hh i2];exact Bcv FH (Bhg (Ek.1 (hrn.hf FH hl).2.1) hpk)
     ·split at e
      ·cases e;exact fun z hz=>by cases hz
      ·cases e;exact fun z hz=>by cases hz
theorem Bg6 {n:Dv} (hg:At n=true):∀z∈(Q9 n).2,evN z :=
 Az1 (P:=fun x=>∀z∈x.2,evN z) (fun x y s hx hgx hs _ e z hz=>by
  rcases List.mem_append.1 hz with hz|hz
  ·exact hx z hz
  ·exact Att hgx hs e z hz) (x:=(n,[])) hg fun z hz=>by cases hz
theorem Awb {e:ByteArray} (h:evK e):Zz e.data.toList∧e.size≤9:=by
 rcases h with rfl|rfl|⟨t,ht,rfl⟩
 ·exact ⟨fun b hb=>by rw [List.mem_singleton.1 (show b∈[45] from hb)];decide,FK⟩
 ·exact ⟨fun b hb=>by rw [List.mem_singleton.1 (show b∈[33] from hb)];decide,FK⟩
 ·have h8:=Vv ht;refine ⟨?_,by unfold Aij;rw [ByteArray.size_append];show 1+_≤9;omega⟩;unfold Aij;rw [Im];refine Zz.app (fun b hb=>by rw [List.mem_singleton.1 (show b∈[43] from hb)];decide) fun b hb=>?_;have:=Awv ht b hb;exact CE
theorem Zc {e:ByteArray} (h:evN e):Zz e.data.toList∧e.size≤11:=by
 obtain ⟨i,x,hi,hx,rfl⟩:=h;obtain ⟨h1,h2⟩:=Awb hx;rw [Bcu hi,Jo,Iu];refine ⟨fun b hb=>?_,by simp only [List.length_cons,Ct];omega⟩;rcases List.mem_cons.1 hb with rfl|hb
 ·have e:(UInt8.ofNat (48+i)).toNat=48+i:=by rw [UInt8.toNat_ofNat'];omega
  exact ⟨FH,fun h=>by have:=congrArg UInt8.toNat h;rw [e] at this;have:(35:UInt8).toNat=35:=rfl;omega⟩
 ·rcases List.mem_cons.1 hb with rfl|hb
  ·decide
  ·exact h1 b hb
structure Log where
 Cs:ByteArray
 pending:ByteArray
 count:Int
def Aok:Bn Log where
 sz:=3
 Kn _ cs x F:=cs=[.string x.Cs,.string x.pending,.int .i64 x.count]∧x.Cs.size≤maxLen∧x.pending.size≤maxLen∧F=[]
 len h:=by obtain ⟨rfl,s1,s2,rfl⟩:=h;rfl
 lt h:=by obtain ⟨rfl,s1,s2,rfl⟩:=h;simp
 frame h _:=h
def Afx (x:Log):Nat:=x.Cs.size+x.pending.size
theorem Bfo (v:Value) (x:Log) (F:List Nat) (n:Int) (w:World) (h:Jz Aok w v x F) (h0:0≤n) (h1:n≤1048576) :
  Calls prog 14 #[v,.int .i64 n] w (RB (.int .i64 (Y4 n (Afx x))) w):=by
 obtain ⟨_,rfl,rfl,s1,s2,rfl⟩:=h;have hB0:∀A:Obj,Below w.heap.size w (w.alloc A):=fun A=>(Below.refl _ _).alloc (Nat.le_refl _) _;unfold maxLen at s1 s2;unfold Afx
 go_enter func14,ntmps14
 go_wp2
 all_goals go_ret
 all_goals exact ⟨Hv HW,hB0 _⟩
theorem Bfv (v:Value) (x:Log) (F:List Nat) (w:World) (h:Jz Aok w v x F) (hl:Afx x≤1048576) :
  Calls prog 19 #[v] w (Wm Aok x w):=by
 obtain ⟨_,rfl,rfl,s1,s2,rfl⟩:=h;have hB0:∀A B C:Obj,Below w.heap.size w (((w.alloc A).alloc B).alloc C):=fun A B C=>(((Below.refl _ _).alloc (Nat.le_refl _) _).alloc FI _).alloc GD _
 go_enter func19,ntmps19
 go_wp2_with fail;refine bodyPost_ret (v:=.agg #[.string x.Cs,.string x.pending,.int .i64 x.count]) ?_ rfl ?_
 ·simp [results,results19,go_sem]
 ·exact ⟨_,[],rfl,⟨_,rfl,rfl,s1,s2,rfl⟩,FI,FI,FZ⟩
theorem Bea (va vb:Value) (x:Log) (Fa Fb:List Nat) (w:World) (ha:Jz Aok w va x Fa) (hb:Jz Aok w vb x Fb) :
  Calls prog 25 #[va,vb] w (RB (.bool true) w):=by
 obtain ⟨_,rfl,rfl,s1,s2,rfl⟩:=ha;obtain ⟨_,rfl,rfl,t1,t2,rfl⟩:=hb;have hB0:∀A B:Obj,Below w.heap.size w ((w.alloc A).alloc B):=fun A B=>((Below.refl _ _).alloc (Nat.le_refl _) _).alloc FI _;have hE:∀z:Int,(z != z)=false:=fun z=>by simp
 go_enter func25,ntmps25
 go_wp2_with fail
 go_ret
 exact ⟨rfl,hB0 _ _⟩
structure Cc where
 Bh:Dv
 J0:Log
def Dd:Bn Cc where
 sz:=14
 Kn w cs x F:=∃v1 v2 v3 v4 v5 v6 v7 F1 F2 F3 F4 F5 F6 F7,cs=[v1,.int .i64 x.Bh.Ab.Aa.Ap,.int .i64 x.Bh.Ab.Aa.size,v2,.int .i64 x.Bh.Ab.Ai,.int .i64 x.Bh.Ab.quiet,v3,v4,v5,v6,v7,.string x.J0.Cs,.string x.J0.pending,.int .i64 x.J0.count]∧x.J0.Cs.size≤maxLen∧x.J0.pending.size≤maxLen∧Sl Bb w v1 x.Bh.Ao.Ad F1∧Sl A8 w v2 x.Bh.Ab.Aa.An F2∧Sl Bm w v3 x.Bh.Ab.holds F3∧Sl Bk w v4 x.Bh.Af F4∧Sl Bi w v5 x.Bh.Ac F5∧Sl (Ml Ak FK) w v6 x.Bh.down F6∧Sl (Ml Ak FK) w v7 x.Bh.up F7∧F=F1++F2++F3++F4++F5++F6++F7
 len h:=JN
 lt h:=by
  obtain ⟨v1,v2,v3,v4,v5,v6,v7,F1,F2,F3,F4,F5,F6,F7,rfl,s1,s2,h1,h2,h3,h4,h5,h6,h7,rfl⟩:=h;intro b hb;simp only [List.mem_append] at hb;rcases hb with (((((hb|hb)|hb)|hb)|hb)|hb)|hb
  ·exact h1.lt FK b hb
  ·exact h2.lt FK b hb
  ·exact h3.lt FK b hb
  ·exact h4.lt FK b hb
  ·exact h5.lt FK b hb
  ·exact h6.lt FK b hb
  ·exact h7.lt FK b hb
 frame h hF:=GH
theorem Anj:X6 Dd:=fun h u hu=>by
 obtain ⟨v1,v2,v3,v4,v5,v6,v7,F1,F2,F3,F4,F5,F6,F7,rfl,s1,s2,h1,h2,h3,h4,h5,h6,h7,rfl⟩:=h;simp only [List.mem_cons,List.not_mem_nil,or_false] at hu;rcases hu with rfl|rfl|rfl|rfl|rfl|rfl|rfl|rfl|rfl|rfl|rfl|rfl|rfl|rfl
 ·exact h1.one
 ·rfl
 ·rfl
 ·exact h2.one
 ·rfl
 ·rfl
 ·exact h3.one
 ·exact h4.one
 ·exact h5.one
 ·exact h6.one
 ·exact h7.one
 ·rfl
 ·rfl
 ·rfl
def Oe:Bn Cc where
 sz:=14
 Kn w cs x F:=∃v1 v2 v3 v4 v5 v6 v7 F1 F2 F3 F4 F5 F6 F7,cs=[v1,.int .i64 x.Bh.Ab.Aa.Ap,.int .i64 x.Bh.Ab.Aa.size,v2,.int .i64 x.Bh.Ab.Ai,.int .i64 x.Bh.Ab.quiet,v3,v4,v5,v6,v7,.string x.J0.Cs,.string x.J0.pending,.int .i64 x.J0.count]∧x.J0.Cs.size≤maxLen∧x.J0.pending.size≤maxLen∧Ow Bb 3 w v1 x.Bh.Ao.Ad F1∧Ow A8 9 w v2 x.Bh.Ab.Aa.An F2∧Ow Bm 203 w v3 x.Bh.Ab.holds F3∧Ow B4 149 w v4 x.Bh.Af F4∧Ow Bx 156 w v5 x.Bh.Ac F5∧Ow (Ko Ak 233) 158 w v6 x.Bh.down F6∧Ow (Ko Ak 233) 158 w v7 x.Bh.up F7∧F=F1++F2++F3++F4++F5++F6++F7
 len h:=JN
 lt h:=by
  obtain ⟨v1,v2,v3,v4,v5,v6,v7,F1,F2,F3,F4,F5,F6,F7,rfl,s1,s2,h1,h2,h3,h4,h5,h6,h7,rfl⟩:=h;intro b hb;simp only [List.mem_append] at hb;rcases hb with (((((hb|hb)|hb)|hb)|hb)|hb)|hb
  ·exact h1.lt b hb
  ·exact h2.lt b hb
  ·exact h3.lt b hb
  ·exact h4.lt b hb
  ·exact h5.lt b hb
  ·exact h6.lt b hb
  ·exact h7.lt b hb
 frame h hF:=GH
theorem Ank:X6 Oe:=fun h u hu=>by
 obtain ⟨v1,v2,v3,v4,v5,v6,v7,F1,F2,F3,F4,F5,F6,F7,rfl,s1,s2,h1,h2,h3,h4,h5,h6,h7,rfl⟩:=h;simp only [List.mem_cons,List.not_mem_nil,or_false] at hu;rcases hu with rfl|rfl|rfl|rfl|rfl|rfl|rfl|rfl|rfl|rfl|rfl|rfl|rfl|rfl
 ·exact h1.one
 ·rfl
 ·rfl
 ·exact h2.one
 ·rfl
 ·rfl
 ·exact h3.one
 ·exact h4.one
 ·exact h5.one
 ·exact h6.one
 ·exact h7.one
 ·rfl
 ·rfl
 ·rfl
theorem Qs:Kq Oe Dd:=⟨rfl,fun h=>by
 obtain ⟨v1,v2,v3,v4,v5,v6,v7,F1,F2,F3,F4,F5,F6,F7,rfl,s1,s2,h1,h2,h3,h4,h5,h6,h7,rfl⟩:=h;obtain ⟨G1,g1,k1⟩:=h1.sl (Kq.refl _);obtain ⟨G2,g2,k2⟩:=h2.sl (Kq.refl _);obtain ⟨G3,g3,k3⟩:=h3.sl (Kq.refl _);obtain ⟨G4,g4,k4⟩:=h4.sl Mh;obtain ⟨G5,g5,k5⟩:=h5.sl R5;obtain ⟨G6,g6,k6⟩:=h6.sl (Qt (Kq.refl _) FK _);obtain ⟨G7,g7,k7⟩:=h7.sl (Qt (Kq.refl _) FK _);refine ⟨G1++G2++G3++G4++G5++G6++G7,?_,v1,v2,v3,v4,v5,v6,v7,G1,G2,G3,G4,G5,G6,G7,rfl,s1,s2,k1,k2,k3,k4,k5,k6,k7,rfl⟩;intro b hb;simp only [List.mem_append] at hb ⊢;rcases hb with (((((hb|hb)|hb)|hb)|hb)|hb)|hb
 ·simp [g1 b hb]
 ·simp [g2 b hb]
 ·simp [g3 b hb]
 ·simp [g4 b hb]
 ·simp [g5 b hb]
 ·simp [g6 b hb]
 ·simp [g7 b hb]⟩
def Nw (x:Cc):Nat:=Y9 x.Bh+Afx x.J0
def Tt (x:Cc):Nat:=Ae1 x.Bh
def O2 (k:Int) (x:Cc):Cc:=⟨Yq (k) x.Bh,x.J0⟩
theorem Amw (x:Cc) (h:Nw x≤1048576):Tt x≤4294967296:=by
 have h0:=N7 Hz (fun _=>0) 1 (fun x=>by simp [Hz]) x.Bh.Ao.Ad;have h1:=N7 Nh ByteArray.size 1 (fun x=>by simp [Nh]) x.Bh.Ab.Aa.An;have h2:=N7 N6 (fun _=>0) 2 Ar8 x.Bh.Ab.holds;have h3:=N7 Ey E5 2 Ajv x.Bh.Af;have h4:=N7 Ev Fv 4 Aha x.Bh.Ac;have h5:=N7 (Dj Cm) (Ke Eg) 5 (fun x=>by have:=N7 Cm Eg 5 Abw x;omega) x.Bh.down;have h6:=N7 (Dj Cm) (Ke Eg) 5 (fun x=>by have:=N7 Cm Eg 5 Abw x;omega) x.Bh.up;simp only [Nw,N4,Jr,Kg,Y9,Afx,Tt,N0,Ki,Kt,Ae1] at h ⊢;omega
-- markConsole: a nested struct with several slices is not written here
def Acx (s:Gb):ByteArray:=if s.Vr then (if s.Dg=⟨#[]⟩ then ⟨#[46]⟩ else s.Dg) else ⟨#[63]⟩
def slT (x:Aj) (k:Nat):ByteArray:=(x.Al.take k).foldl (fun a s=>a++(⟨#[32]⟩++Acx s)) (bz (Lib.decDigits x.next.toNat)++⟨#[58]⟩)
def Aak (x:Aj):ByteArray:=slT x x.Al.length
theorem Acu {x:Aj} {k:Nat} (hk:k < x.Al.length):slT x (k+1)=slT x k++(⟨#[32]⟩++Acx x.Al[k]):=by
 unfold slT;rw [←List.take_append_getElem hk,List.foldl_append];rfl
theorem Bgn {x:Aj} {k:Nat} (hk:k < x.Al.length) (h:x.Al[k].Vr=false):slT x k++⟨#[32,63]⟩=slT x (k+1):=by
 rw [Acu hk,Acx,h];rfl
theorem Bgm {x:Aj} {k:Nat} (hk:k < x.Al.length) (h:x.Al[k].Vr=true) (h2:x.Al[k].Dg=⟨#[]⟩):slT x k++⟨#[32,46]⟩=slT x (k+1):=by
 rw [Acu hk,Acx,h,if_pos rfl,if_pos h2];rfl
theorem Bgo {x:Aj} {k:Nat} (hk:k < x.Al.length) (h:x.Al[k].Vr=true) (h2:¬x.Al[k].Dg=⟨#[]⟩):slT x k++(⟨#[32]⟩++x.Al[k].Dg)=slT x (k+1):=by
 rw [Acu hk,Acx,h,if_pos rfl,if_neg h2]
theorem Atu {s:Gb} (h:s.Dg.size≤8):(Acx s).size≤8:=by
 unfold Acx;split
 ·split
  ·decide
  ·exact h
 ·decide
theorem Acs {x:Aj} (hg:Cu x=true):∀k,(slT x k).size≤6+9 * k
 | 0=>by
  obtain ⟨n0,n1,hl,hit⟩:=Tg hg;unfold slT;rw [List.take_zero,List.foldl_nil,ByteArray.size_append,Iu];have:=Ej 4 x.next.toNat FH
  have:(⟨#[58]⟩:ByteArray).size=1:=rfl;omega
 | k+1=>by
  have ih:=Acs hg k;obtain ⟨n0,n1,hl,hit⟩:=Tg hg;by_cases hk:k < x.Al.length
  ·rw [Acu hk,ByteArray.size_append,ByteArray.size_append];have:=Atu (hit _ (List.getElem_mem hk));have:(⟨#[32]⟩:ByteArray).size=1:=rfl;omega
  ·have e:slT x (k+1)=slT x k:=by unfold slT;rw [List.take_of_length_le FH,List.take_of_length_le FH]
   rw [e];omega
theorem Aq2 (x:Aj) (v:Value) (F FT:List Nat) (hg:Cu x=true):FV 204 [v] [.isv Bg v x F,Gs FT] (.string (Aak x)):=by
 obtain ⟨n0,n1,hl,hit⟩:=Tg hg;have hzd:(bz (Lib.decDigits x.next.toNat)).size≤5:=by rw [Iu];exact Ej 4 _ FH
 have z58:(⟨#[58]⟩:ByteArray).size=1:=rfl;refine enter func204 rfl ntmps204 fun w0=>?_;refine B9 ?_;rintro a1 c1 F1 rfl l1;unfold maxLen at l1;refine go ?_;intros;refine cb (fun w st=>Aa5 x.next FH FH FT w (st.get (p:=Gs FT) FI)) ?_;rw [show Lib.itoa x.next=Lib.decDigits x.next.toNat by unfold Lib.itoa;rw [if_neg FH]];refine go ?_;refine Eh [2,11,12] (fun k:Nat=>[(3,.string (slT x k)),(13,.int .i64 k)]) (fun k=>k≤x.Al.length) (fun k=>x.Al.length - k) 0 (Nat.zero_le _) fun k hk=>?_;have hz:=Acs hg k;have z2:(⟨#[32,63]⟩:ByteArray).size=2:=rfl
 have z3:(⟨#[32,46]⟩:ByteArray).size=2:=rfl;have z1:(⟨#[32]⟩:ByteArray).size=1:=rfl;refine go ?_;refine A1 rfl (fun h=>?_) (fun h=>?_)
 ·have hk3:k < x.Al.length:=FH
  have hs8:=hit _ (List.getElem_mem hk3);refine Qf (xs:=x.Al) k ?_;rintro hi b o e s1;rw [e];refine go ?_;intros;cases g2:x.Al[k].Vr
  ·refine go ?_;rw [Bgn hk3 g2];exact DZ
  ·
   refine go ?_;by_cases g3:x.Al[k].Dg=⟨#[]⟩
   ·rw [decide_eq_true g3];refine go ?_;rw [Bgm hk3 g2 g3];exact DZ
   ·rw [decide_eq_false g3];have z9:=ByteArray.size_append (a:=⟨#[32]⟩) (b:=x.Al[k].Dg);refine go ?_;rw [Bgo hk3 g2 g3];exact DZ
 ·obtain rfl:k=x.Al.length:=FH
  refine go ?_;refine ret () trivial ?_;unfold Aak;rfl
theorem Aw1 (x:Aj) (v:Value) (F FT:List Nat) (hg:Cu x=true):FV 230 [v] [.isv Bg v x F,Gs FT] (.string (Aak x)):=by
 obtain ⟨n0,n1,hl,hit⟩:=Tg hg;have hzd:(bz (Lib.decDigits x.next.toNat)).size≤5:=by rw [Iu];exact Ej 4 _ FH
 have z58:(⟨#[58]⟩:ByteArray).size=1:=rfl;refine enter func230 rfl ntmps230 fun w0=>?_;refine B9 ?_;rintro a1 c1 F1 rfl l1;unfold maxLen at l1;refine go ?_;intros;refine cb (fun w st=>(by rw [show x.next=((x.next.toNat:Nat):Int) by omega];exact Bgi _ FH w)) ?_;refine go ?_;refine Eh [1,2] (fun k:Nat=>[(3,.string (slT x k)),(4,.int .i64 k)]) (fun k=>k≤x.Al.length) (fun k=>x.Al.length - k) 0 (Nat.zero_le _) fun k hk=>?_;have hz:=Acs hg k;have z2:(⟨#[32,63]⟩:ByteArray).size=2:=rfl;have z3:(⟨#[32,46]⟩:ByteArray).size=2:=rfl;have z1:(⟨#[32]⟩:ByteArray).size=1:=rfl;refine go ?_
 refine A1 rfl (fun h=>?_) (fun h=>?_)
 ·have hk3:k < x.Al.length:=FH
  have hs8:=hit _ (List.getElem_mem hk3);refine Qf (xs:=x.Al) k ?_;rintro hi b o e s1;rw [e];refine go ?_;cases g2:x.Al[k].Vr
  ·refine go ?_;rw [Bgn hk3 g2];exact DZ
  ·
   refine go ?_;by_cases g3:x.Al[k].Dg=⟨#[]⟩
   ·rw [decide_eq_true g3];refine go ?_;rw [Bgm hk3 g2 g3];exact DZ
   ·rw [decide_eq_false g3];have z9:=ByteArray.size_append (a:=slT x k) (b:=⟨#[32]⟩);refine go ?_;rw [ByteArray.append_assoc,Bgo hk3 g2 g3];exact DZ
 ·obtain rfl:k=x.Al.length:=FH
  refine go ?_;refine ret () trivial ?_;unfold Aak;rfl
theorem Aww (xs:List Bs) (x sep:Bs) (h:0 < xs.length):Lib.join (xs++[x]) sep=Lib.join xs sep++(sep++x):=by
 cases xs with
 | nil=>cases h
 | cons a r =>
  rw [List.cons_append,Lib.join_cons,Lib.join_cons];unfold Lib.joinTail;simp
theorem Acd {sep:Bs} {m:Nat}:∀{xs:List Bs},(∀x∈xs,x.length≤m)→(Lib.joinTail sep xs).length≤(sep.length+m) * xs.length
 | [],_=>by unfold Lib.joinTail;simp
 | x::r,h=>by
  have ih:=Acd (sep:=sep) (m:=m) (xs:=r) fun y hy=>h y LL;have hx:=h x FI;unfold Lib.joinTail at ih ⊢;simp only [List.map_cons,List.flatten_cons,List.length_append,List.length_cons] at ih ⊢;rw [Nat.mul_add];omega
theorem Apv {sep:Bs} {m:Nat} {xs:List Bs} (h:∀x∈xs,x.length≤m):(Lib.join xs sep).length≤(sep.length+m) * xs.length:=by
 cases xs with
 | nil=>simp [Lib.join]
 | cons a r =>
  have hr:=Acd (sep:=sep) (m:=m) (xs:=r) fun y hy=>h y LL;have ha:=h a FI;rw [Lib.join_cons,List.length_append,List.length_cons,Nat.mul_add];omega
def jn (l:List Int):Bs:=Lib.join (l.map Lib.itoa) [32]
theorem Bhk {l:List Int} {k:Nat} (h:∀x∈l,0≤x∧x.natAbs < 10 ^ (k+1)):(jn l).length≤(k+2) * l.length:=by
 have:=Apv (sep:=[32]) (m:=k+1) (xs:=l.map Lib.itoa) fun y hy=>by
  obtain ⟨x,hx,rfl⟩:=List.mem_map.1 hy;rw [Ql (h x hx).1];exact Ej k _ (h x hx).2
 unfold jn;rw [List.length_map] at this;simp only [List.length_cons,List.length_nil] at this;rw [show (k+2)=(0+1+(k+1)) by omega];exact this
def slB (r:Ay):ByteArray:=if r.Bd then Aak r.Aa else ⟨#[45]⟩
def Bgh (r:Ay) (f:Int):ByteArray:=bz (Lib.itoa f)++⟨#[32]⟩++slB r++⟨#[10]⟩
theorem Be2 {n:Dv} (hg:At n=true) {i:Nat} (hi:i < n.Ac.length):Bv n.Ac[i]=true:=by
 obtain ⟨-, -,hl,ha⟩:=Uw.1 hg;obtain ⟨q1,q2,q3,q4⟩:=Bl.1 hl;have h:=ha i FH;rw [Vm FH hi FH FH,←Aej] at h;unfold Aiw at h;simp only [Bool.and_eq_true] at h;exact h.1.1.1.2
theorem Bht {r:Ay} (hg:Bv r=true) (hs:r.Bd=true):Cu r.Aa=true:=by
 unfold Bv at hg;rw [hs] at hg;simp only [Bool.and_eq_true,if_true] at hg;exact hg.2.1.1
theorem Bcf {r:Ay} (hg:Bv r=true):(slB r).size≤100:=by
 unfold slB
 split
 ·rename_i hs;have h:=Bht hg hs;obtain ⟨-, -,hl, -⟩:=Tg h;have:=Acs h r.Aa.Al.length;unfold Aak;omega
 ·decide
theorem Bek {n:Int} {k:Nat} (h0:0≤n) (h1:n.natAbs < 10 ^ (k+1)):(bz (Lib.itoa n)).size≤k+1:=by rw [Iu,Ql h0];exact Ej k _ h1
theorem Alp {c:Cc} (hn:At c.Bh=true) {i:Nat} (hi:i < c.Bh.Ac.length) (h8:i < 8):(Bgh c.Bh.Ac[i] ((i:Nat):Int)).size≤103:=by
 have e1:(bz (Lib.itoa ((i:Nat):Int))).size≤1:=Bek (k:=0) FH (by show _ < 10;omega);have e2:=Bcf (Be2 hn hi);have e3:(⟨#[32]⟩:ByteArray).size=1:=rfl;have e4:(⟨#[10]⟩:ByteArray).size=1:=rfl;unfold Bgh;simp only [ByteArray.size_append];omega
section
variable {c:Cx} {fr:Fr} {H:List Pc} {Φ:Gl}
theorem Abu (x:Log) (s1:x.Cs.size≤maxLen) (s2:x.pending.size≤maxLen) (h:T c fr (.isv Aok (.agg #[.string x.Cs,.string x.pending,.int .i64 x.count]) x ([])::H) Φ)  : T c fr H Φ:=.mk fun a w s g=>by
 refine h.h a w (s.add (N:=[_]) (Below.refl _ _) (by intro q hq;obtain rfl:=List.mem_singleton.1 hq;exact ⟨_,rfl,rfl,s1,s2,rfl⟩) ⟨FI,trivial⟩ fun q hq b hb=>?_) g;obtain rfl:=List.mem_singleton.1 hq;simp [Pc.F] at hb
end
end Go.Proofs.YtcmighgaiacgoaaGreatDoor
namespace Go.Proofs.YtcmighgaiacgoaaGreatDoor.Lg
open Go.RowKit
theorem Adt (c:UInt8):∀l:List UInt8,decide (0≤Lib.indexByte l c)=Ka c l:=by
 intro l;have h1:∀l:List UInt8, -1≤Lib.indexByte l c:=by
  intro l
  induction l with
  | nil=>simp [Lib.indexByte]
  | cons b l ih=>simp only [Lib.indexByte];split <;> (try split) <;> omega
 have h2:∀l:List UInt8,(0≤Lib.indexByte l c)↔Ka c l=true:=by
  intro l
  induction l with
  | nil=>simp [Lib.indexByte,Ka]
  | cons b l ih =>
   have h2:=h1 l;rw [show Ka c (b::l)=(b == c || Ka c l) from rfl,Bool.or_eq_true,←ih];simp only [Lib.indexByte];by_cases hb:(b == c)=true
   ·simp [hb]
   ·rw [if_neg hb];simp only [hb]
    split
    ·rename_i h3;simp at h3;simp [h3]
    ·rename_i h3;simp at h3;omega
 rw [Bool.eq_iff_iff,decide_eq_true_iff];exact h2 l
theorem Ahb (s:ByteArray) (c:UInt8) (w:World):Calls prog 101 #[.string s,.string ⟨#[c]⟩] w fun e w'=>e=.returned (.bool (Ka c s.data.toList))∧w=w' :=
 (Tryz.strings_Contains_one s c w).mono fun _ _ ⟨he,hw⟩=>⟨by rw [he,Adt],hw.symm⟩
def Bv (c r:ByteArray):Bool:=Ga 1 c.size 160 && decide ((r.size:Int)≤200) && I0 c.data.toList && I0 r.data.toList && !Ka 64 c.data.toList
theorem Xs (c r:ByteArray) (w:World) (hc:c.size≤maxLen) (hr:r.size≤maxLen) :
  Calls prog 48 #[.agg #[.string c,.string r]] w (RB (.bool (Bv c r)) w):=by
 go_enter func48,ntmps48
 go_wp2_with (first
  | (go_at_call 99;refine (Id _ _ _ _).mono ?_;rintro e w' ⟨rfl,rfl⟩)
  | (go_at_call 100;refine (Aps _ _ GI).mono ?_;rintro e w' ⟨rfl,rfl⟩)
  | (go_at_call 101;refine (Ahb _ _ _).mono ?_;rintro e w' ⟨rfl,rfl⟩))
 all_goals go_ret
 all_goals refine ⟨Ci ?_,(Below.refl _ _).alloc (Nat.le_refl _) _⟩
 all_goals simp [Bv, *]
 all_goals omega
theorem Asp (c r:ByteArray):Bv c r=(!c.data.toList.isEmpty && (I0 c.data.toList && decide ((c.size:Int)≤160)) && !Ka 64 c.data.toList && (I0 r.data.toList && decide ((r.size:Int)≤200))):=by
 have h0:(!c.data.toList.isEmpty)=decide ((1:Int)≤c.size):=by
  have e:c.data.toList.length=c.size:=FI
  cases h:c.data.toList with
  | nil=>rw [h] at e;simp at e;simp [←e]
  | cons b l=>rw [h] at e;simp at e;simp;omega
 rw [h0,Bv,Ga];cases decide ((1:Int)≤c.size) <;> cases decide ((c.size:Int)≤160) <;> cases decide ((r.size:Int)≤200) <;> cases I0 c.data.toList <;> cases I0 r.data.toList <;> simp
theorem Zi (c r:ByteArray) (w:World) (hc:c.size≤maxLen) (hr:r.size≤maxLen) :
  Calls prog 36 #[.agg #[.string c,.string r]] w (RB (.bool (Bv c r)) w):=by
 go_enter func36,ntmps36
 go_wp2_with (first
  | (go_at_call 72;refine (As1 _ _ _ GI).mono ?_;rintro e w' ⟨rfl,rfl⟩)
  | (go_at_call 73;refine (As0 _ 64 _ GI).mono ?_;rintro e w' ⟨rfl,rfl⟩))
 all_goals go_ret
 all_goals refine ⟨Ci ?_,(Below.refl _ _).alloc (Nat.le_refl _) _⟩
 all_goals simp only [ByteArray.toList_eq] at *
 all_goals rw [Asp]
 ·have h:c.data.toList=[]:=GI
  simp [h]
 ·have h:Ka 64 c.data.toList=true:=GI
  simp [h]
 ·have h1:¬c.data.toList=[]:=GI
  have h2:I0 c.data.toList=true∧(c.size:Int)≤160:=GI
  have h3:¬Ka 64 c.data.toList=true:=GI
  simp [h2,h3, -List.isEmpty_iff,List.isEmpty_eq_false_iff.2 h1]
 ·have h2:¬(I0 c.data.toList=true∧(c.size:Int)≤160):=GI
  have h3:(I0 c.data.toList && decide ((c.size:Int)≤160))=false:=by
   rw [Bool.eq_false_iff];intro h;simp only [Bool.and_eq_true,decide_eq_true_iff] at h;exact h2 h
  rw [h3];simp
def bs (l:Bs):ByteArray:=⟨l.toArray⟩
theorem Jl (l:Bs):(bs l).data.toList=l:=by simp [bs]
theorem Ae0 (s:ByteArray):bs s.data.toList=s:=by simp [bs]
theorem Jm (l:Bs):(bs l).size=l.length:=by simp [bs,ByteArray.size]
theorem Ct (s:ByteArray):s.data.toList.length=s.size:=by simp
theorem Im (s t:ByteArray):(s++t).data.toList=s.data.toList++t.data.toList:=by simp [ByteArray.data_append]
theorem Adj (s t:ByteArray):s++t=bs (s.data.toList++t.data.toList):=by rw [←Im,Ae0]
theorem Zo {a b:ByteArray} (h:a=b):Ending.returned (.string a)=.returned (.string b):=by rw [h]
def Ade:Bn Unit where
 sz:=0
 Kn w cs _ F:=cs=[]∧Lib.TabIs prog w "internal/strconv.uint64pow10" .u64 Lib.pow10Tab∧F=[3]∧3 < w.heap.size
 len h:=LC
 lt h:=by intro b hb;rw [h.2.2.1] at hb;simp at hb;rw [hb];exact h.2.2.2
 frame h hF:=by
  obtain ⟨h1,h2,rfl,h4⟩:=h;have e:=hF 3 FI;refine ⟨h1,?_,rfl,?_⟩
  ·unfold Lib.TabIs World.var? at h2 ⊢;rw [show prog.globalNamed "internal/strconv.uint64pow10" = some 3 by kernel_rfl] at h2 ⊢;simp only [Option.bind_some] at h2 ⊢;rw [e];exact h2
  ·rw [Array.getElem?_eq_getElem h4] at e;exact (Array.getElem?_eq_some_iff.1 e).1
theorem Ade.tab {w:World} {F:List Nat} (h:Jz Ade w (.agg #[]) () F):Lib.TabIs prog w "internal/strconv.uint64pow10" .u64 Lib.pow10Tab:=by
 obtain ⟨cs,_,h⟩:=h;exact h.2.1
theorem Aat (w:World) (k:Nat) (os:Array Obj):Below w.heap.size w (Go.Sort.grow (w.drewN k) os):=by
 refine ⟨rfl,rfl,rfl,?_,fun i hi=>?_⟩
 ·simp [Go.Sort.grow,World.drewN]
 ·simp [Go.Sort.grow,World.drewN,Array.getElem?_append_left hi]
theorem Aze (n:Nat) (hn:n≤9223372036854775807) (F:List Nat) (w:World) (hT:Jz Ade w (.agg #[]) () F) :
  Calls prog 111 #[.int .i64 (n:Int)] w (RB (.string (bs (Lib.decDigits n))) w):=by
 refine (Tryz.strconv_Itoa (n:Int) FH FH w (Ade.tab hT)).mono ?_;rintro e w' ⟨rfl,k,os,rfl⟩;refine ⟨Zo ?_,Aat w k os⟩;unfold bs;rw [show Lib.itoa (n:Int)=Lib.decDigits n from by unfold Lib.itoa;rw [if_neg FH];simp]
theorem Amc (l:Bs) (c:UInt8):((Tp (l++[c]):Nat):Int)=(41 * (Tp l:Int)+(c.toNat:Int)+1) % 999979:=by
 rw [Aym];unfold Acw;omega
theorem Ar7 (s:ByteArray) (w:World) (hs:s.size≤maxLen) :
  Calls prog 206 #[.string s] w fun e w'=>e=.returned (.int .i64 (Tp s.data.toList))∧w=w':=by
 unfold maxLen at hs
 go_enter func206,ntmps206
 go_wp2
 go_loop [3,7] (fun h i=>∃k:Nat,k≤s.size∧i=.int .i64 k∧h=.int .i64 (Tp (s.data.toList.take k))) (fun _ i=>s.size - (intOf i).toNat)
 case atStart=>exact ⟨0,Nat.zero_le _,rfl,rfl⟩
 case round =>
  obtain ⟨k,hk,rfl,rfl⟩:=hrel;by_cases hlt:k < s.size
  ·have hb:(s[k].toNat:Int)≤255:=JA
   have hS:=Lib.hid (Amc (s.data.toList.take k) s[k]);rw [←Ame s k hlt] at hS;have hl:=Acv (s.data.toList.take k);generalize Tp (s.data.toList.take k)=n at *
   go_wp2
   go_round
   case rel=>exact ⟨k+1,FH,HL,by rw [hS.out]⟩
   case measure=>simp [intOf];omega
  ·go_wp2
   go_ret
   exact ⟨Hv (by rw [Are s k hlt]),rfl⟩
theorem Bev (s:ByteArray) (w:World) (hs:s.size≤maxLen) :
  Calls prog 232 #[.string s] w fun e w'=>e=.returned (.int .i64 (Tp s.data.toList))∧w=w':=by
 unfold maxLen at hs
 go_enter func232,ntmps232
 go_wp2
 go_loop [3,4] (fun h i=>∃k:Nat,k≤s.size∧i=.int .i64 k∧h=.int .i64 (Tp (s.data.toList.take k))) (fun _ i=>s.size - (intOf i).toNat)
 case atStart=>exact ⟨0,Nat.zero_le _,rfl,rfl⟩
 case round =>
  obtain ⟨k,hk,rfl,rfl⟩:=hrel;by_cases hlt:k < s.size
  ·have hb:(s[k].toNat:Int)≤255:=JA
   have hS:=Lib.hid (Amc (s.data.toList.take k) s[k]);rw [←Ame s k hlt] at hS;have hl:=Acv (s.data.toList.take k);generalize Tp (s.data.toList.take k)=n at *
   go_wp2
   go_round
   case rel=>exact ⟨k+1,FH,HL,by rw [hS.out]⟩
   case measure=>simp [intOf];omega
  ·go_wp2
   go_ret
   exact ⟨Hv (by rw [Are s k hlt]),rfl⟩
theorem W4:∀(k n:Nat) (w:World),n < 10 ^ (k+1)→n≤999999999999999999 →
  Calls prog 146 #[.int .i64 (n:Int)] w fun e w'=>e=.returned (.string (bs (Lib.decDigits n)))∧∃j,w'=w.drewN j:=_root_.Go.Proofs.YtcmighgaiacgoaaGreatDoor.W4
theorem Baz (s:ByteArray) (w:World) (hs0:s.size≤4294967296) :
  Calls prog 156 #[.string s] w fun e w'=>e=.returned (.string (bs (O9 s.data.toList)))∧∃j,w'=w.drewN j:=by
 have hl:=Acv s.data.toList;have hn:=fun w=>W4 5 (Tp s.data.toList) w FH FH;have hS:Hid (s++⟨#[35]⟩++bs (Lib.decDigits (Tp s.data.toList))=bs (O9 s.data.toList)):=by
  refine Lib.hid ?_;rw [Adj,Im,Jl];congr 1;simp [O9]
 have hD:(bs (Lib.decDigits (Tp s.data.toList))).size≤6:=by rw [Jm];exact Ej 5 _ FH
 generalize bs (Lib.decDigits (Tp s.data.toList))=D at *;have hs:s.size≤maxLen:=GC
 go_enter func156,ntmps156
 go_wp2_with (first
  | (go_at_call 232;refine (Bev _ _ GI).mono ?_;rintro e w' ⟨rfl,rfl⟩)
  | (go_at_call 146;refine (hn _).mono ?_;rintro e w' ⟨rfl,j,rfl⟩))
 go_ret
 exact ⟨Zo hS.out,_,rfl⟩
theorem Qk (c:UInt8):∀l:Bs,(c∈l→Lib.indexByte l c=(Ee c l).length)∧(c ∉ l→Lib.indexByte l c=-1)
 | []=>by simp [Lib.indexByte]
 | b::l=>by
  obtain ⟨h1,h2⟩:=Qk c l;unfold Lib.indexByte Ee;by_cases hb:b=c
  ·subst hb;simp
  ·have hb':(b == c)=false:=JV
   rw [hb'];have hm:c∈b::l↔c∈l:=by
    rw [List.mem_cons];exact ⟨fun h=>h.resolve_left (fun e=>hb e.symm),.inr⟩
   rw [hm];refine ⟨fun h=>?_,fun h=>?_⟩
   ·rw [h1 h];have:((Ee c l).length:Int)≠-1:=FH
    simp [Ee,hb] at this ⊢
   ·rw [h2 h];simp
theorem Ac5 (c:UInt8) (l:Bs):(Ee c l).length≤l.length:=by
 unfold Ee;exact (List.takeWhile_sublist _).length_le
theorem Avm {c:UInt8} {l:Bs} (h:c∈l):(Ee c l).length < l.length:=by
 rcases Pp c l with ⟨_,h2⟩|⟨h2,_⟩
 ·have:=congrArg List.length h2;simp at this;omega
 ·exact absurd h h2
def Q8 (c:UInt8) (s:ByteArray):ByteArray:=bs (Ee c s.data.toList)
def Sr (c:UInt8) (s:ByteArray):ByteArray:=bs (My c s.data.toList)
theorem Aun {c:UInt8} {s:ByteArray} (h:c∈s.data.toList):s.extract 0 (Ee c s.data.toList).length=Q8 c s∧s.extract ((Ee c s.data.toList).length+1) s.size=Sr c s:=by
 rcases Pp c s.data.toList with ⟨_,h2⟩|⟨h2,_⟩
 ·constructor
  ·rw [Lib.extract_eq];unfold Q8 bs;congr 2;rw [List.drop_zero,Nat.sub_zero];exact (congrArg (List.take _) h2).trans List.take_left
  ·rw [Lib.extract_eq];unfold Sr bs;congr 2;rw [List.take_of_length_le FI];refine (congrArg (List.drop _) h2).trans ?_;rw [←List.drop_drop,List.drop_left];rfl
 ·exact absurd h h2
theorem Axn (s:ByteArray) (c:UInt8) (w:World) (hs:s.size≤maxLen) :
  Calls prog 256 #[.string s,.string ⟨#[c]⟩] w fun e w'=>e=.returned (.tuple #[.string (Q8 c s),.string (Sr c s),.bool (Ka c s.data.toList)])∧∃j,w'=w.drewN j:=by
 unfold maxLen at hs;have hi:=fun w=>Tryz.stringslite_Index_one s c w;by_cases h:c∈s.data.toList
 ·have hc:=Aun h;have hl:=Avm h;rw [Ct] at hl;have hst:Ka c s.data.toList=true:=by unfold Ka;rw [List.any_eq_true];exact ⟨c,h,FI⟩
  have hst:=Lib.hid hst;rw [(Qk c _).1 h] at hi;generalize (Ee c s.data.toList).length=n at *;have hc1:=Lib.hid hc.1;have hc2:=Lib.hid hc.2;clear hc
  go_enter func256,ntmps256
  go_wp2_with (go_at_call 166;refine (hi _).mono ?_;rintro e w' ⟨rfl,rfl⟩)
  go_quiet (fail)
  go_wp2_with fail;refine bodyPost_ret (v:=.tuple #[.string (Q8 c s),.string (Sr c s),.bool true]) ?_ rfl ?_
  ·simp [results,results256,go_sem,hc1.out,hc2.out]
  ·exact ⟨by rw [hst.out],_,rfl⟩
 ·have hst:Ka c s.data.toList=false:=by unfold Ka;rw [List.any_eq_false];intro x hx;simp;rintro rfl;exact h hx
  have h1:Q8 c s=s:=by unfold Q8;rw [Avn (fun x hx e=>h (by rw [←e];exact hx)),Ae0]
  have h2:Sr c s=⟨#[]⟩:=by unfold Sr;rw [Akr (fun x hx e=>h (by rw [←e];exact hx))];rfl
  rw [(Qk c _).2 h] at hi;replace hst:=Lib.hid hst;replace h1:=Lib.hid h1;replace h2:=Lib.hid h2
  go_enter func256,ntmps256
  go_wp2_with (go_at_call 166;refine (hi _).mono ?_;rintro e w' ⟨rfl,rfl⟩);refine bodyPost_ret (v:=.tuple #[.string s,.string ⟨#[]⟩,.bool false]) ?_ rfl ?_
  ·simp [results,results256,go_sem]
  ·exact ⟨by rw [hst.out,h1.out,h2.out],0,rfl⟩
end Go.Proofs.YtcmighgaiacgoaaGreatDoor.Lg
namespace Go.Proofs.YtcmighgaiacgoaaGreatDoor
open Go.RowKit
structure Ov where
 I8:ByteArray
 Gw:ByteArray
def Nb:Bn Ov where
 sz:=2
 Kn _ cs x F:=cs=[.string x.I8,.string x.Gw]∧x.I8.size≤maxLen∧x.Gw.size≤maxLen∧F=[]
 len h:=by obtain ⟨rfl,s1,s2,rfl⟩:=h;rfl
 lt h:=by obtain ⟨rfl,s1,s2,rfl⟩:=h;simp
 frame h _:=h
theorem Yr:X6 Nb:=fun h u hu=>by
 obtain ⟨rfl,s1,s2,rfl⟩:=h;simp only [List.mem_cons,List.not_mem_nil,or_false] at hu;rcases hu with rfl|rfl
 ·rfl
 ·rfl
theorem Ahu:(prog.info? 87).map (fun i=>(i.zero,i.size,i.bytes))=some (some (.agg #[.string ⟨#[]⟩,.string ⟨#[]⟩]),2,32):=by kernel_rfl
end Go.Proofs.YtcmighgaiacgoaaGreatDoor
namespace Go.Proofs.YtcmighgaiacgoaaGreatDoor.Lg
open Go.RowKit
theorem Oy (c r:ByteArray):Bv c r=Ae5 c.data.toList r.data.toList:=by
 unfold Bv Ae5;rw [Ct,Ct]
theorem Bb0 {a b:ByteArray} {x y:Bool} (h:a=b) (h2:x=y):Ending.returned (.tuple #[.string a,.bool x])=.returned (.tuple #[.string b,.bool y]):=by rw [h,h2]
theorem Ay6 (s:ByteArray) (c:UInt8) (w:World) (hs:s.size≤maxLen) :
  Calls prog 181 #[.string s,.string ⟨#[c]⟩] w fun e w'=>e=.returned (.tuple #[.string (Q8 c s),.string (Sr c s),.bool (Ka c s.data.toList)])∧∃j,w'=w.drewN j:=by
 go_enter func181,ntmps181
 go_wp2_with (go_at_call 256;refine (Axn _ _ _ hs).mono ?_;rintro e w' ⟨rfl,j,rfl⟩);refine bodyPost_ret (v:=.tuple #[.string (Q8 c s),.string (Sr c s),.bool (Ka c s.data.toList)]) ?_ rfl ⟨rfl,_,rfl⟩;simp [results,results181,go_sem]
theorem Tn {s:ByteArray} {n:Nat} (h:s.data.toList.length≤n):s.size≤n:=by rwa [Ct] at h
theorem Abn (s:ByteArray) (F:List Nat) (w:World) (hs0:s.size≤3000) (h35:∀b∈s.data.toList,b≠35) (hT:Jz Ade w (.agg #[]) () F) :
  Calls prog 110 #[.string s] w (RB (.tuple #[.string (bs (O9 s.data.toList)),.bool true]) w):=by
 have hl:=Acv s.data.toList;have hD:(bs (Lib.decDigits (Tp s.data.toList))).size≤6:=by rw [Jm];exact Ej 5 _ FH
 have hS:Hid (s++⟨#[35]⟩++bs (Lib.decDigits (Tp s.data.toList))=bs (O9 s.data.toList)):=by
  refine Lib.hid ?_;rw [Adj,Im,Jl];congr 1;simp [O9]
 have hI:=fun w F hT=>Aze (Tp s.data.toList) FH F w hT;have hs:s.size≤maxLen:=GC
 have hst:Ka 35 s.data.toList=false:=by unfold Ka;rw [List.any_eq_false];intro x hx;simp;exact h35 x hx
 have hct:=fun w=>Ahb s 35 w;rw [hst] at hct;generalize bs (Lib.decDigits (Tp s.data.toList))=D at *;clear hst h35
 go_enter func110,ntmps110
 go_wp2_with (first
  | (go_at_call 101;refine (hct _).mono ?_;rintro e w' ⟨rfl,rfl⟩)
  | (go_at_call 206;refine (Ar7 _ _ GI).mono ?_;rintro e w' ⟨rfl,rfl⟩)
  | (go_at_call 111;refine (hI _ _ hT).mono ?_;rintro e w' ⟨rfl,hb⟩))
 refine bodyPost_ret (v:=.tuple #[.string (s++⟨#[35]⟩++D),.bool true]) ?_ rfl ⟨Bb0 hS.out rfl,hb⟩;simp [results,results110,go_sem]
end Go.Proofs.YtcmighgaiacgoaaGreatDoor.Lg
namespace Go.Proofs.YtcmighgaiacgoaaGreatDoor
open Go.RowKit
structure Bix where
 Bjj:Int
 got:Int
 Bjk:Int
 Bkr:Int
theorem Ban (b:UInt8) (r:Bs):∀x:Bs,(∀c∈x,c≠b)→Lib.index (x++b::r) [b]=x.length
 | [],_=>by simp [Lib.index]
 | c::x,h=>by
  have ih:=Ban b r x (fun d hd=>h d (by simp [hd]));have hc:¬b=c:=fun e=>h c FI e.symm;rw [List.cons_append,Lib.index,if_neg JY,ih,if_neg GD];simp
theorem Ao3 (l:Bs) (b:UInt8) (d:Nat) (hb:Lib.digitVal b=some d):∀acc n,Lib.decFrom acc l=some n→Lib.decFrom acc (l++[b])=some (n * 10+d):=by
 induction l with
 | nil=>intro acc n h;simp [Lib.decFrom] at h ⊢;subst h;rw [hb]
 | cons a l ih =>
  intro acc n h;simp only [List.cons_append,Lib.decFrom] at h ⊢;cases ha:Lib.digitVal a with
  | none=>rw [ha] at h;cases h
  | some x =>
   have h2:Lib.decFrom (acc * 10+x) l=some n:=by simpa [ha] using h
   exact ih _ _ h2
theorem Amx:∀d:Nat,d < 10→Lib.digitVal (UInt8.ofNat (48+d))=some d:=by decide
theorem Ahd:∀(k u:Nat),u < 10 ^ (k+1)→Lib.decFrom 0 (Lib.decDigits u)=some u
 | 0,u,h=>by
  have h3:u < 10:=GA
  rw [Lib.decDigits,dif_pos h3,Lib.decFrom,Amx u h3];simp [Lib.decFrom]
 | k+1,u,h=>by
  by_cases h3:u < 10
  ·rw [Lib.decDigits,dif_pos h3,Lib.decFrom,Amx u h3];simp [Lib.decFrom]
  ·have ih:=Ahd k (u / 10) LH;rw [Lib.decDigits,dif_neg h3,Ao3 _ _ _ (Amx (u % 10) FH) _ _ ih]
   congr 1;omega
theorem Av1 (u:Nat) (h:u < 10000000):Lib.atoiAll (Lib.decDigits u)=.ok (u:Int):=by
 have hl:=Ej 6 u FH;have hp:=Zb u;rw [Lib.atoiAll_short _ FH];have:Lib.atoi (Lib.decDigits u)=some (u:Int):=by
  have hb:=Ahd 6 u FH;cases hd:Lib.decDigits u with
  | nil=>rw [hd] at hp;simp at hp
  | cons b r =>
   have hm:=P3 u b (by rw [hd];simp);have h45:(45:UInt8).toNat=45:=rfl;have h43:(43:UInt8).toNat=43:=rfl;rw [Lib.atoi,if_neg (by simp;intro e;subst e;omega),if_neg (by simp;intro e;subst e;omega)];unfold Lib.decNat;rw [if_neg FI,←hd,hb];rfl
 rw [this];rfl
def Dm (b:UInt8):Bs→List Bs
 | []=>[[]]
 | c::r=>if c == b then []::Dm b r else match Dm b r with
  | []=>[[c]]
  | x::xs=>(c::x)::xs
theorem Zq {b:UInt8}:∀{x:Bs} (r:Bs),(∀c∈x,c≠b)→Dm b (x++b::r)=x::Dm b r
 | [],r,_=>by simp [Dm]
 | c::x,r,h=>by
  have ih:=Zq (b:=b) (x:=x) r fun d hd=>h d (by simp [hd]);have hb:(c == b)=false:=by simpa using h c FI
  simp only [List.cons_append,Dm,hb,ih];simp
theorem Wg {b:UInt8}:∀{x:Bs},(∀c∈x,c≠b)→Dm b x=[x]
 | [],_=>rfl
 | c::x,h=>by
  have ih:=Wg (b:=b) (x:=x) fun d hd=>h d (by simp [hd]);have hb:(c == b)=false:=by simpa using h c FI
  simp only [Dm,hb,ih];simp
theorem Sp (b:UInt8) (l:Bs):∃r,Dm b l=Ee b l::r∧(r=[]↔b ∉ l):=by
 rcases Pp b l with ⟨h,h2⟩|⟨h,h2,_⟩
 ·refine ⟨Dm b (My b l),?_,?_⟩
  ·conv=>lhs;rw [h2]
   exact Zq _ Ac6
  ·refine ⟨fun e=>?_,fun e=>absurd h e⟩;have:∀l:Bs,Dm b l≠[]:=by
    intro l;cases l with
    | nil=>simp [Dm]
    | cons c r =>
     unfold Dm
     split
     ·simp
     ·split <;> simp
   exact absurd e (this _)
 ·exact ⟨[],by rw [Wg fun c hc e=>h (by rw [←e];exact hc),h2],JS⟩
theorem Ase {l:Bs} {f k:Nat} (hf:f≤k) (hk:k < l.length):l.drop f=(l.drop f).take (k - f)++l[k]::l.drop (k+1):=by
 have h1:(l.drop f).drop (k - f)=l.drop k:=by rw [List.drop_drop];congr 1;omega
 conv=>lhs;rw [←List.take_append_drop (k - f) (l.drop f),h1,List.drop_eq_getElem_cons hk]
theorem Ayr {l:Bs} {f k:Nat} (hf:f≤k) (hk:k < l.length):(l.drop f).take (k+1 - f)=(l.drop f).take (k - f)++[l[k]]:=by
 rw [show k+1 - f=(k - f)+1 by omega,List.take_succ_eq_append_getElem HV]
 congr 2
 rw [List.getElem_drop];congr 1;omega
theorem Azu (s:ByteArray) (k:Nat) (h:k < s.size):s.data.toList[k]'GA=s[k]:=rfl
theorem Bi6 (s:ByteArray) (f k:Nat):s.extract f k=bz ((s.data.toList.drop f).take (k - f)):=Lib.extract_eq s f k
theorem Ze (s:ByteArray) (f:Nat):s.extract f s.size=bz (s.data.toList.drop f):=by
 rw [Lib.extract_eq];unfold bz;rw [List.take_of_length_le FI]
theorem Bch (b:UInt8):∀(l:Bs),Lib.splitB ⟨#[b]⟩ 0 (l.count b) (bz l)=(Dm b l).map bz:=by
 intro l
 induction hn:l.length using Nat.strongRecOn generalizing l with
 | ind n ih =>
  subst hn;rcases Pp b l with ⟨h,h2⟩|⟨h, -, -⟩
  ·obtain ⟨u,r,hm,e⟩:∃u r:Bs,(∀c∈u,c≠b)∧l=u++b::r:=⟨_,_,Ac6,h2⟩;subst e;clear h h2;have hc0:u.count b=0:=List.count_eq_zero.2 fun hc=>hm b hc rfl;have hcnt:(u++b::r).count b=r.count b+1:=by rw [List.count_append,List.count_cons_self,hc0];omega
   have hi:Lib.indexB (bz (u++b::r)) ⟨#[b]⟩=(u.length:Int):=by
    unfold Lib.indexB;rw [Jo];exact Ban b r u hm
   have e1:(bz (u++b::r)).extract 0 (u.length+0)=bz u:=by
    rw [←Ya (ByteArray.extract _ _ _),Lib.extract_from_zero,Jo,Nat.add_zero,List.take_left]
   have e2:(bz (u++b::r)).extract (u.length+(⟨#[b]⟩:ByteArray).size) (bz (u++b::r)).size=bz r:=by
    rw [←Ya (ByteArray.extract _ _ _)]
    congr 1
    rw [Lib.extract_data,Jo,Iu,show (⟨#[b]⟩:ByteArray).size=1 from rfl,show u++b::r=(u++[b])++r by simp,List.drop_left' FI];exact List.take_of_length_le FO
   rw [hcnt,Lib.splitB_hit _ _ _ _ _ hi,e1,e2,ih _ FO _ rfl,Zq _ hm];rfl
  ·have hc0:l.count b=0:=List.count_eq_zero.2 h;rw [hc0,Lib.splitB_zero,Wg fun c hc e=>h (by subst e;exact hc)];rfl
theorem Wh (b:UInt8) (s:ByteArray):Lib.splitB ⟨#[b]⟩ 0 (Lib.countB s ⟨#[b]⟩) s=(Dm b s.data.toList).map bz:=by
 have h:=Bch b s.data.toList;rw [Ya] at h;rw [←h]
 congr 1
 have:=Lib.count_one b s.data.toList;unfold Lib.countB;exact this
section
variable {P:Program} {n:Nat} {fr:Fr} {H:List Pc} {ty:TypeId} {x:Operand} {t t2:TypeId}
theorem Bin (hx:ev fr x=some .nilIface) (hu:P.underlying t=some (.interface (P.methodsAt t))):Yd P n fr H (.binOp .neq t x (.const .nilIface) t2) ty (.bool false):=.mk fun c w d pos Cf gd hA _=>by
 have e:binOp .neq t .nilIface .nilIface=(do pure (.bool (!(←Op.equal t .nilIface .nilIface)))):=rfl;have eg:eqGuard .neq t x (.const .nilIface) .nilIface .nilIface=pure ():=by unfold eqGuard;simp
 have ec:c.eval (.const .nilIface)=.nilIface:=rfl;simp only [execOp,hA.ev hx,ec,eg,e,Sem.run_bind,Sem.run_pure,Result.andThen_ok,run_equal_nil_nil w t hu];rfl
theorem Bdk {u:TypeId} {p:Value} (hx:ev fr x=some (.iface u p)) (hu:P.underlying t=some (.interface (P.methodsAt t))):Yd P n fr H (.binOp .neq t x (.const .nilIface) t2) ty (.bool true):=.mk fun c w d pos Cf gd hA _=>by
 have e:binOp .neq t (.iface u p) .nilIface=(do pure (.bool (!(←Op.equal t (.iface u p) .nilIface)))):=rfl;have eg:eqGuard .neq t x (.const .nilIface) (.iface u p) .nilIface=pure ():=by unfold eqGuard;simp
 have ec:c.eval (.const .nilIface)=.nilIface:=rfl;simp only [execOp,hA.ev hx,ec,eg,e,Sem.run_bind,Sem.run_pure,Result.andThen_ok,run_equal_held_nil w t u p hu];rfl
end
section
variable {c:Cx} {fr:Fr} {H:List Pc} {d:Nat} {Φ:Gl}
theorem cx {f:Nat} {vs:List Value} (V:Value→Prop) (hc:∀w,St c.G c.D c.w0 H w→Calls c.P f vs.toArray w fun e w'=>∃v,V v∧e=.returned v∧Below w.heap.size w w') (h:∀v,V v→T c ((d,v)::fr) H Φ):Cl c fr H d f vs Φ :=
 Aaa hc fun w e w' s ⟨v,hv,he,hB⟩=>⟨v,he,fun a g=>(h v hv).h a w' (s.below hB) g⟩
end
def C1 (s:ByteArray):Int × Bool:=match Lib.atoiAll s.data.toList with
 | .ok v=>if Ga (-999999) v 999999 && decide (bz (Lib.itoa v)=s) then (v,true) else (0,false)
 | _=>(0,false)
theorem Agy (s:ByteArray) (FT:List Nat) (hs:s.size≤1000000000):FV 190 [.string s] [Gs FT] (.tuple #[.int .i64 (C1 s).1,.bool (C1 s).2]):=by
 have hu:prog.underlying 303=some (.interface (prog.methodsAt 303)):=FJ
 refine enter func190 rfl ntmps190 fun w0=>?_;refine go ?_;have bad:(∀v,Lib.atoiAll s.data.toList≠.ok v)→C1 s=(0,false):=fun h=>by
  unfold C1;cases h2:Lib.atoiAll s.data.toList with
  | ok v=>exact absurd h2 (h v)
  | _=>rfl
 match h:Lib.atoiAll s.data.toList with
 | Lib.NumEnd.ok v =>
  obtain ⟨b0,b1⟩:=Lib.atoiAll_bounds h;refine cb (fun w st=>(Tryz.strconv_Atoi_ok s FH v h w).mono fun e w' hh=>⟨hh.1,?_⟩) ?_
  ·rcases hh.2 with rfl|⟨t,rfl⟩
   ·exact Below.refl _ _
   ·exact Lib.bytesWorld_below _ _ _
  refine go ?_;apply wO;apply oc;rfl;exact Bin rfl hu;refine go ?_;refine ce (fun w s=>Id _ _ _ _) ?_;cases g1:Ga (-999999) v 999999
  ·refine go ?_;rw [show C1 s=(0,false) by unfold C1;rw [h];simp [g1]];exact BD
  refine go ?_;refine cb (fun w st=>Aa5 v FH FH FT w (st.get (p:=Gs FT) FI)) ?_;refine go ?_;by_cases g2:bz (Lib.itoa v)=s
  ·rw [decide_eq_false (by simpa using g2)];refine go ?_;rw [show C1 s=(v,true) by unfold C1;rw [h];simp [g1,g2]];exact BD
  ·rw [decide_eq_true g2];refine go ?_;rw [show C1 s=(0,false) by unfold C1;rw [h];simp [g2]];exact BD
 | Lib.NumEnd.syntax =>
  rw [bad JS];refine cx (fun v=>∃n u p,v=.tuple #[.int .i64 n,.iface u p]) (fun w st=>?_) ?_
  ·obtain ⟨tp,p,hv⟩:=(Gs.env (st.get (p:=Gs FT) FI)).2.2.1;refine (Tryz.strconv_Atoi_syntax_var s FH h tp p w hv).mono ?_;rintro e w' ⟨N,rfl, -, -,hB⟩;exact ⟨_,⟨_,_,_,rfl⟩,rfl,hB⟩
  rintro _ ⟨n,u,p,rfl⟩;refine go ?_;apply wO;apply oc;rfl;exact Bdk rfl hu;exact AA
 | Lib.NumEnd.range =>
  rw [bad JS];refine cx (fun v=>∃n u p,v=.tuple #[.int .i64 n,.iface u p]) (fun w st=>?_) ?_
  ·obtain ⟨tp,p,hv⟩:=(Gs.env (st.get (p:=Gs FT) FI)).2.2.2;refine (Tryz.strconv_Atoi_range_var s FH h tp p w hv).mono ?_;rintro e w' ⟨N,rfl, -, -,hB⟩;exact ⟨_,⟨_,_,_,rfl⟩,rfl,hB⟩
  rintro _ ⟨n,u,p,rfl⟩;refine go ?_;apply wO;apply oc;rfl;exact Bdk rfl hu;exact AA
theorem Atk (u:Nat) (h:u≤999999):C1 (bz (Lib.decDigits u))=((u:Int),true):=by
 unfold C1;rw [Jo,Av1 u FH];have e:Lib.itoa (u:Int)=Lib.decDigits u:=by unfold Lib.itoa;rw [if_neg FH];simp
 simp only [e];rw [show Ga (-999999) (u:Int) 999999=true by unfold Ga;rw [decide_eq_true FH,decide_eq_true FH];rfl];simp
def Asb (n:Int):Bs:=Lib.decDigits n.toNat
def atW (ws:List Bs) (i:Nat):Bs:=ws.getD i []
theorem Bd8 {n:Int} (h:n≤1000000):(Asb n).length≤7:=Ej 6 _ FH
section
variable {c:Cx} {fr:Fr} {H:List Pc} {Φ:Gl}
end
theorem Baq {n:Int} (h:0≤n):Lib.itoa n=Asb n:=by unfold Lib.itoa Asb;rw [if_neg FH]
theorem Bbe (n:Int) (h0:0≤n) (h1:n≤1000000) (w:World):Calls prog 146 #[.int .i64 n] w (RB (.string (bz (Asb n))) w):=by
 obtain ⟨k,rfl⟩:∃k:Nat,n=k:=⟨n.toNat,FH⟩;refine (W4 6 k w FH FH).mono ?_;rintro e w2 ⟨rfl,j,rfl⟩;exact ⟨rfl,Dt (Below.refl _ _) j⟩
structure Bi2 where
 o:List Bs
 f:Nat
 k:Nat
 a:Option Addr
 c:Nat
 F:List Nat
structure Bi1 (b:UInt8) (s:ByteArray) (z:Bi2):Prop where
 k:z.k≤s.size
 f:z.f≤z.k
 l:z.o.length≤z.f
 e:Dm b s.data.toList=z.o++Dm b (s.data.toList.drop z.f)
 n:∀x∈(s.data.toList.drop z.f).take (z.k - z.f),x≠b
theorem Ad2 (s:ByteArray) (b:UInt8) (hs:s.size≤16777216):Fn prog 15 [.string s,.int .u8 (b.toNat:Int)] [] [] (fun (_:Option Addr × Nat × List Nat)=>True) (fun z=>.slice z.1 ((Dm b s.data.toList).map bz).length z.2.1) (fun z=>[.ow A8 9 (.slice z.1 ((Dm b s.data.toList).map bz).length z.2.1) ((Dm b s.data.toList).map bz) z.2.2]):=by
 refine enter func15 rfl ntmps15 fun w0=>?_;refine go ?_;intros;refine C7 A8 ?_;refine go ?_;refine Cd [0,1,4] (fun z:Bi2=>[(5,.slice z.a (z.o.map bz).length z.c),(6,.int .i64 (z.f:Nat)),(7,.int .i64 (z.k:Nat))]) (fun z=>[.ow A8 9 (.slice z.a (z.o.map bz).length z.c) (z.o.map bz) z.F]) (Bi1 b s) (fun z=>s.size - z.k) ⟨[],0,0,_,_,_⟩ ⟨Nat.zero_le _,Nat.le_refl _,Nat.le_refl _,rfl,FI⟩ fun z hz=>?_;obtain ⟨z1,z2,z3,z4,z5⟩:=hz;have hml:(z.o.map bz).length=z.o.length:=List.length_map ..;refine go ?_;refine A1 rfl (fun h1=>?_) (fun h1=>?_)
 ·have hk:z.k < s.size:=FH
  have hkl:z.k < s.data.toList.length:=by rw [Ct];exact hk
  refine go ?_;refine A1 rfl (fun h2=>?_) (fun h2=>?_)
  ·have hb:s[z.k]=b:=UInt8.toNat_inj.1 (by have:((s[z.k]).toNat:Int)=(b.toNat:Int):=h2;omega);have h3:=Ase (l:=s.data.toList) z2 hkl;rw [Azu s z.k hk,hb] at h3;have h4:Dm b (s.data.toList.drop z.f)=(s.data.toList.drop z.f).take (z.k - z.f)::Dm b (s.data.toList.drop (z.k+1)):=by rw [h3,Zq _ z5,←h3]
   have hx:(s.extract z.f z.k).size≤maxLen:=by unfold maxLen;simp;omega
   refine Og ?_;intros;apply wO;apply oc;rfl;exact Bit rfl rfl rfl FH FH FH;refine Og ?_;intros;rw [show s.extract ((z.f:Nat):Int).toNat ((z.k:Nat):Int).toNat=s.extract z.f z.k from rfl];apply wO;refine Ps (Air hx) Dx fun a9 c9 F9=>?_;refine go ?_;have e9:z.o.map bz++[s.extract z.f z.k]=(z.o++[(s.data.toList.drop z.f).take (z.k - z.f)]).map bz:=by rw [List.map_append,Bi6 s z.f z.k];rfl
   rw [e9];refine Cg ⟨z.o++[(s.data.toList.drop z.f).take (z.k - z.f)],z.k+1,z.k+1,a9,c9,F9⟩ ⟨by show z.k+1≤s.size;omega,Nat.le_refl _,by show (z.o++[_]).length≤z.k+1;simp;omega,by show _=(z.o++[_])++Dm b (s.data.toList.drop (z.k+1));rw [z4,h4];simp,by show ∀x∈(s.data.toList.drop (z.k+1)).take (z.k+1 - (z.k+1)),x≠b;simp⟩ (by show s.size - (z.k+1) < s.size - z.k;omega)
  ·refine go ?_;refine Cg ⟨z.o,z.f,z.k+1,z.a,z.c,z.F⟩ ⟨by show z.k+1≤s.size;omega,by show z.f≤z.k+1;omega,z3,z4,by
    show ∀x∈(s.data.toList.drop z.f).take (z.k+1 - z.f),x≠b;rw [Ayr z2 hkl,Azu s z.k hk];intro x hx;rcases List.mem_append.1 hx with hx|hx
    ·exact z5 x hx
    ·rw [List.mem_singleton] at hx;subst hx;intro e;exact h2 (by show ((s[z.k]).toNat:Int)=(b.toNat:Int);rw [e])⟩ (by show s.size - (z.k+1) < s.size - z.k;omega)
 ·have hke:z.k=s.size:=FH
  have h4:Dm b s.data.toList=z.o++[s.data.toList.drop z.f]:=by
   rw [z4,Wg];rw [List.take_of_length_le FO] at z5;exact z5
  have hx:(s.extract z.f s.size).size≤maxLen:=by unfold maxLen;simp;omega
  refine Og ?_;intros;apply wO;apply oc;rfl;exact Ajo rfl rfl FH FH;refine Og ?_;intros;rw [show s.extract ((z.f:Nat):Int).toNat s.size=s.extract z.f s.size from rfl];apply wO;refine Ps (Air hx) Dx fun a9 c9 F9=>?_;refine go ?_;have e9:z.o.map bz++[s.extract z.f s.size]=(Dm b s.data.toList).map bz:=by rw [h4,List.map_append,Ze s z.f];rfl
  rw [e9];refine ret (a9,c9,F9) trivial rfl
end Go.Proofs.YtcmighgaiacgoaaGreatDoor
namespace Go.Proofs.YtcmighgaiacgoaaGreatDoor.Lg
open Go.RowKit
theorem Bhc (s:ByteArray) (f k:Nat):s.extract f k=bs ((s.data.toList.drop f).take (k - f)):=Lib.extract_eq s f k
theorem Ze (s:ByteArray) (f:Nat):s.extract f s.size=bs (s.data.toList.drop f):=by
 rw [Lib.extract_eq];unfold bs;rw [List.take_of_length_le FI]
theorem Ad1 (s:ByteArray) (c:UInt8) (w:World) (hs:s.size≤16777216) :
  Calls prog 15 #[.string s,.int .u8 (c.toNat:Int)] w (Nd A8 9 ((Dm c s.data.toList).map bs) w) :=
 ((Ad2 s c hs).made w (fun _ h=>by cases h) (fun _=>rfl)).mono fun e w1 ⟨z,_,he,hH,hn,hF,hB⟩=>⟨_,z.2.2,he,(hH _ (List.mem_singleton.2 rfl)).2,by simpa [fp,Pc.F] using hn,by simpa [fp,Pc.F] using hF,hB⟩
end Go.Proofs.YtcmighgaiacgoaaGreatDoor.Lg
namespace Go.Proofs.YtcmighgaiacgoaaGreatDoor
open Go.RowKit
section
variable {c:Cx} {fr:Fr} {H:List Pc} {Φ:Gl}
theorem Aj0 (x:Ov) (s1:x.I8.size≤maxLen) (s2:x.Gw.size≤maxLen) (w:World):Cy Nb w [.string x.I8,.string x.Gw] [x] []:=⟨_,[],[],[],FI,FI,⟨rfl,s1,s2,rfl⟩,rfl,rfl⟩
end
end Go.Proofs.YtcmighgaiacgoaaGreatDoor
namespace Go.Proofs.YtcmighgaiacgoaaGreatDoor.Lg
open Go.RowKit
theorem Aow (k:Nat) (c r:ByteArray):bs (Lib.decDigits k)++⟨#[32]⟩++c++⟨#[64]⟩++r=bs (Lm k c.data.toList r.data.toList):=by
 rw [Adj (_++_) r,Im,Im,Im,Jl];congr 1;simp [Lm]
theorem Azs (l:Bs):bs l++⟨#[10]⟩=bs (l++[10]):=by rw [Adj,Jl]
theorem Ag5 {P:Program} {f:FuncId} {a:Array Value} {w:World} {v:Value} (h:Calls P f a w fun e w1=>e=.returned v∧∃j,w1=w.drewN j):Calls P f a w (RB v w):=h.mono fun e w1 ⟨he,j,hj⟩=>⟨he,IX⟩
theorem sz1 (x:UInt8):(⟨#[x]⟩:ByteArray).size=1:=rfl
theorem Ahi (k:Nat) (c r:ByteArray) (F:List Nat) (hk:k≤59) (hg:Zw c.data.toList r.data.toList):FV 50 [.int .i64 (k:Int),.agg #[.string c,.string r]] [.isv Ade (.agg #[]) () F] (.string (bs (Kz k c.data.toList r.data.toList))):=by
 have hb0:=Adk hk hg;have hm:=Ts (k:=k) hg;have hX:=Aow k c r;have hc1:c.size≤160:=Tn hg.c1;have hr1:r.size≤200:=Tn hg.r1;have hD:(bs (Lib.decDigits k)).size≤2:=LI
 have hE:(bs (O9 (Lm k c.data.toList r.data.toList))).size≤400:=by rw [Jm];have:=Aek (Lm k c.data.toList r.data.toList);omega
 have hN:=Azs (O9 (Lm k c.data.toList r.data.toList));have hI:=fun w hT=>Aze k FH F w hT;have hA:=fun w hT=>Abn (bs (Lm k c.data.toList r.data.toList)) F w (by rw [Jm];omega) (by rw [Jl];exact fun b hb=>(hm b hb).2) hT;rw [Jl,←hX] at hA;rw [show bs (Kz k c.data.toList r.data.toList)=bs (O9 (Lm k c.data.toList r.data.toList)++[10]) from rfl];generalize bs (Lib.decDigits k)=D at *;generalize bs (O9 (Lm k c.data.toList r.data.toList))=E at *;refine enter func50 rfl ntmps50 fun w0=>?_;refine go ?_;intros;refine As [0] [] ?_;refine Dq 0 3 4 7 ?_;refine dt 8 ?_;refine dN 1 ?_;refine oC ?_
 refine cb (fun w st=>hI w (st.get (p:=.isv Ade (.agg #[]) () F) FL)) ?_;refine dk ?_;refine dt 2 ?_ (hy:=N5 rfl rfl GL);refine dt 5 ?_ (hy:=N5 rfl rfl GL);refine dt 6 ?_ (hy:=N5 rfl rfl GL);refine dt 9 ?_ (hy:=N5 rfl rfl GL);refine dN 10 ?_;refine oC ?_;refine cb (fun w st=>hA w (st.get (p:=.isv Ade (.agg #[]) () F) FL)) ?_;refine dk ?_;refine Dq 11 12 13 14 ?_;refine dt 15 ?_;refine dd ?_
 refine go ?_;intros;apply wO;apply oc;rfl;exact N5 rfl rfl (by rw [sz1];omega);refine go ?_;intros;refine ret () trivial ?_;rw [←hN];rfl
theorem Ye (k:Nat) (c r:ByteArray) (F:List Nat) (w:World) (hk:k≤59) (hg:Zw c.data.toList r.data.toList) (hT:Jz Ade w (.agg #[]) () F) :
  Calls prog 50 #[.int .i64 (k:Int),.agg #[.string c,.string r]] w (RB (.string (bs (Kz k c.data.toList r.data.toList))) w):=(Ahi k c r F hk hg).val w (El hT)
theorem All (k:Nat) (c r:ByteArray) (hk:k≤59) (hg:Zw c.data.toList r.data.toList):FV 79 [.int .i64 (k:Int),.agg #[.string c,.string r]] [] (.string (bs (Kz k c.data.toList r.data.toList))):=by
 have hb0:=Adk hk hg;have hm:=Ts (k:=k) hg;have hX:=Aow k c r;have hc1:c.size≤160:=Tn hg.c1;have hr1:r.size≤200:=Tn hg.r1;have hD:(bs (Lib.decDigits k)).size≤2:=LI
 have hE:(bs (O9 (Lm k c.data.toList r.data.toList))).size≤400:=by rw [Jm];have:=Aek (Lm k c.data.toList r.data.toList);omega
 have hN:=Azs (O9 (Lm k c.data.toList r.data.toList));have hI:=fun w=>Ag5 (W4 1 k w FH FH);have hA:=fun w=>Ag5 (Baz (bs (Lm k c.data.toList r.data.toList)) w (by rw [Jm];omega));rw [Jl,←hX] at hA;rw [show bs (Kz k c.data.toList r.data.toList)=bs (O9 (Lm k c.data.toList r.data.toList)++[10]) from rfl];generalize bs (Lib.decDigits k)=D at *;generalize bs (O9 (Lm k c.data.toList r.data.toList))=E at *;refine enter func79 rfl ntmps79 fun w0=>?_;refine go ?_;intros;refine As [0] [] ?_;refine Dq 0 3 4 7 ?_;refine dt 8 ?_;refine dN 1 ?_;refine oC ?_;refine cb (fun w st=>hI w) ?_
 refine dk ?_;refine dt 2 ?_ (hy:=N5 rfl rfl GL);refine dt 5 ?_ (hy:=N5 rfl rfl GL);refine dt 6 ?_ (hy:=N5 rfl rfl GL);refine dt 9 ?_ (hy:=N5 rfl rfl GL);refine dN 10 ?_;refine oC ?_;refine cb (fun w st=>hA w) ?_;refine dk ?_;refine dt 11 ?_ (hy:=N5 rfl rfl GL);refine dt 12 ?_;refine dd ?_;refine go ?_;intros;refine ret () trivial ?_;rw [←hN];rfl
theorem Axf (k:Nat) (c r:ByteArray) (w:World) (hk:k≤59) (hg:Zw c.data.toList r.data.toList) :
  Calls prog 79 #[.int .i64 (k:Int),.agg #[.string c,.string r]] w (RB (.string (bs (Kz k c.data.toList r.data.toList))) w):=(All k c r hk hg).val w nofun
theorem Beh {a b:ByteArray} (h:Bv a b=true):Zw a.data.toList b.data.toList:=Je (by rw [←Oy];exact h)
theorem Avb {l:Bs} {k:Nat} (h:(Ee 35 l).length < (Hy k).length∨(Ee 35 l).take (Hy k).length≠Hy k):Uj l k=(([],[]),false):=by
 unfold Uj;rw [if_pos h]
theorem Bfd {l:Bs} {k:Nat} {rest:Bs} (h:¬((Ee 35 l).length < (Hy k).length∨(Ee 35 l).take (Hy k).length≠Hy k)) (hr:rest=(Ee 35 l).drop (Hy k).length) (h2:(Ee 64 rest).length=rest.length):Uj l k=(([],[]),false):=by
 subst hr;unfold Uj;rw [if_neg h];simp only [];rw [if_pos h2]
theorem Bfe {l:Bs} {k:Nat} {rest:Bs} (h:¬((Ee 35 l).length < (Hy k).length∨(Ee 35 l).take (Hy k).length≠Hy k)) (hr:rest=(Ee 35 l).drop (Hy k).length) (h2:¬(Ee 64 rest).length=rest.length) :
  Uj l k=((Ee 64 rest,rest.drop ((Ee 64 rest).length+1)),Ae5 (Ee 64 rest) (rest.drop ((Ee 64 rest).length+1)) && (Kz k (Ee 64 rest) (rest.drop ((Ee 64 rest).length+1)) == l++[10])):=by
 subst hr;unfold Uj;rw [if_neg h];simp only [];rw [if_neg h2]
theorem Bab (l:Bs) (n:Nat):(bs l).extract 0 n=bs (l.take n):=by rw [Bhc,Jl];simp
theorem Baa (l:Bs) (n:Nat):(bs l).extract n (bs l).size=bs (l.drop n):=by rw [Ze,Jl]
theorem Azv {a b:Bs}:bs a=bs b↔a=b:=⟨fun h=>by have:=congrArg (fun x=>x.data.toList) h;simpa [Jl] using this,fun h=>by rw [h]⟩
theorem Anu {c:UInt8} {l:Bs} (h:0 < ((Dm c l).map bs).length):((Dm c l).map bs)[0]=bs (Ee c l):=by
 obtain ⟨r,hr,_⟩:=Sp c l;simp [hr]
theorem Anv (c:UInt8) (l:Bs):0 < ((Dm c l).map bs).length:=by
 obtain ⟨r,hr,_⟩:=Sp c l;simp [hr]
theorem Axg (s:ByteArray) (k:Nat) (hk:k≤59) (hs:s.size≤16777216):FV 140 [.string s,.int .i64 (k:Int)] [] (.tuple #[.agg #[.string (bs (Uj s.data.toList k).1.1),.string (bs (Uj s.data.toList k).1.2)],.bool (Uj s.data.toList k).2]):=by
 have hI:=fun w=>Ag5 (W4 1 k w FH FH);have hah:bs (Lib.decDigits k)++⟨#[32]⟩=bs (Hy k):=by rw [Adj,Jl];rfl
 have hD:(bs (Lib.decDigits k)).size≤2:=LI
 have hT0:=Ac5 35 s.data.toList;rw [Ct] at hT0;have e0:=Jm (Hy k);have hA:(Hy k).length≤3:=by have:=Ej 1 k FH;simp [Hy];omega
 have e1:=Jm (Ee 35 s.data.toList);have e2:=Bab (Ee 35 s.data.toList) (Hy k).length;have e3:=Baa (Ee 35 s.data.toList) (Hy k).length;refine enter func140 rfl ntmps140 fun w0=>?_;refine go ?_;intros;refine cb (fun w st=>hI w) ?_;apply wO;apply oc;rfl;exact N5 rfl rfl (by rw [sz1];omega);rw [hah];refine go ?_;intros;refine cn (fun w st=>Ad1 s 35 w hs) fun a2 c2 F2=>?_;refine A4 (E:=A8) (xs:=(Dm 35 s.data.toList).map bs) fun F3=>?_;have hi7:=Anv 35 s.data.toList;refine Mx (xs:=(Dm 35 s.data.toList).map bs) 0 ?_;rintro hi0 b0 o0 rfl q0;rw [Anu];rw [←e0] at e2 e3
 have e4:(Ee 35 s.data.toList).take (bs (Hy k)).size=Hy k↔(bs (Ee 35 s.data.toList)).extract 0 (bs (Hy k)).size=bs (Hy k):=by rw [e2,Azv]
 rw [e0] at e4;have hr3:((bs (Ee 35 s.data.toList)).extract (bs (Hy k)).size (bs (Ee 35 s.data.toList)).size).data.toList=(Ee 35 s.data.toList).drop (Hy k).length:=by rw [e3,Jl,e0]
 generalize bs (Ee 35 s.data.toList)=tx at *;rw [←e0] at e4;generalize bs (Hy k)=ah at *;refine go ?_;intros;by_cases hlt:tx.size < ah.size
 ·rw [Avb (.inl FH),show decide ((tx.size:Int) < (ah.size:Int))=true from decide_eq_true FH];refine go ?_;intros;exact BD
 rw [show decide ((tx.size:Int) < (ah.size:Int))=false from decide_eq_false FH];refine go ?_;intros;apply wO;apply oc;rfl;exact Biu rfl rfl FH FH;refine go ?_;intros;refine A1 rfl (fun h4=>?_) (fun h4=>?_)
 ·rw [Avb (.inr (fun e=>h4 (e4.1 (by rw [e0];exact e))))];refine go ?_;intros;exact BD
 have h4:tx.extract 0 ah.size=ah:=Decidable.not_not.1 h4;have hyes:¬((Ee 35 s.data.toList).length < (Hy k).length∨(Ee 35 s.data.toList).take (Hy k).length≠Hy k):=by
  rintro (h|h)
  ·omega
  ·exact h (by rw [←e0];exact e4.2 h4)
 refine go ?_;intros;apply wO;apply oc;rfl;exact Ajo rfl rfl FH FH;rw [show tx.extract ((ah.size:Nat):Int).toNat tx.size=tx.extract ah.size tx.size from rfl];have hrz:(tx.extract ah.size tx.size).size≤16777216:=KY
 generalize tx.extract ah.size tx.size=rs at *;refine go ?_;intros;refine cn (fun w st=>Ad1 rs 64 w hrz) fun a4 c4 F4=>?_;refine A4 (E:=A8) (xs:=(Dm 64 rs.data.toList).map bs) fun F5=>?_;have hi8:=Anv 64 rs.data.toList;refine Mx (xs:=(Dm 64 rs.data.toList).map bs) 0 ?_;rintro hi1 b1 o1 rfl q1;rw [Anu];have e5:=Jm (Ee 64 rs.data.toList);have e6:=Ac5 64 rs.data.toList;have e7:=Ze rs ((Ee 64 rs.data.toList).length+1);have e8:=Ct rs;have e9:=Jl (Ee 64 rs.data.toList);have hnb:=fun h=>Bfd (l:=s.data.toList) (k:=k) hyes hr3 h;have hnc:=fun h=>Bfe (l:=s.data.toList) (k:=k) hyes hr3 h;rw [←e5] at e7
 generalize bs (Ee 64 rs.data.toList)=ak at *;refine go ?_;intros;refine A1 rfl (fun h5=>?_) (fun h5=>?_)
 ·rw [hnb FH];refine go ?_;intros;exact BD
 have hno:=hnc FH;refine go ?_;intros;apply wO;apply oc;rfl;exact Ajo rfl rfl FH FH;rw [show rs.extract ((ak.size:Int)+1).toNat rs.size=rs.extract (ak.size+1) rs.size from rfl];have hrp:(rs.extract (ak.size+1) rs.size).size≤16777216:=KY
 have p1:(rs.extract (ak.size+1) rs.size).data.toList=rs.data.toList.drop ((Ee 64 rs.data.toList).length+1):=by rw [e7,Jl,e5]
 generalize rs.extract (ak.size+1) rs.size=rp at *;rw [←p1,←e9,←Oy] at hno;refine go ?_;intros;rw [hno];cases hg:Bv ak rp
 ·skip
  refine As [0] [] ?_;refine Ec 0 1 ?_;refine dN 2 ?_;refine oC ?_;refine cb (fun w st=>Zi ak rp w GC GC) ?_;rw [hg];refine dk ?_;refine dt 3 ?_;refine ds 4 ?_;refine ds 5 ?_;refine ds 6 ?_;refine ds 7 ?_;refine ds 8 ?_;refine ds 9 ?_;refine dt 10 ?_;refine dN 11 ?_;refine oS ?_;refine dk ?_;refine dt 12 ?_;refine dd ?_;refine go ?_;intros;refine ret () trivial ?_;dsimp only;rw [Ae0,Ae0];rw [Bool.false_and];rfl
 ·skip
  refine As [0] [] ?_;refine Ec 0 1 ?_;refine dN 2 ?_;refine oC ?_;refine cb (fun w st=>Zi ak rp w GC GC) ?_;rw [hg];refine dk ?_;refine dt 3 ?_;refine Do 4 ?_;refine Do 5 ?_;refine Do 7 ?_;refine Do 8 ?_ (hy:=N5 rfl rfl (by rw [sz1];omega));refine d1g 6 ?_;apply On.h;refine oC ?_;refine Ca (All k ak rp hk (Beh hg)) fun _ _=>?_;refine dk ?_;refine Do 9 ?_;refine dt 10 ?_;refine dN 11 ?_;refine oS ?_;refine dk ?_;refine dt 12 ?_;refine dd ?_;refine go ?_;intros;refine ret () trivial ?_;dsimp only;rw [Ae0,Ae0]
  rw [Bool.true_and,show (decide (bs (Kz k ak.data.toList rp.data.toList)=s++⟨#[10]⟩))=(Kz k ak.data.toList rp.data.toList == s.data.toList++[10]) from by
   rw [Adj,Bool.eq_iff_iff];simp [Azv]]
  rfl
end Go.Proofs.YtcmighgaiacgoaaGreatDoor.Lg
namespace Go.Proofs.YtcmighgaiacgoaaGreatDoor
open Go.RowKit
theorem Ayd {n:Nat} {P:Program} {row:String} {args:Array Value} {w:World} {R:Value→World→Prop} (h:Rows P row args w R):RowsIn Fence.wide n P row args w R:=fun c cs _=>by
 obtain ⟨v,w',r,s⟩:=h c cs;exact ⟨v,w',r,stepsIn_wide.2 s⟩
theorem Aih {l n:Nat} {P:Program} {o:Oper} {a:Act} {w:World} {K:Act→World→Prop} {Q:Exit→Act→World→Prop} (hd:∀c,o.op≠.defer c) (h:o.wp P a w K Q) :
  o.wpIn (Fence.wide.inRound l) n P a w K Q:=by
 refine ⟨fun f _=>trivial,?_⟩;rw [Fence.inRound_round,Oper.semAt_some l _ _ hd];unfold Oper.wp at h;generalize (execOp a.eval o).run P w=r at *;cases r with
 | ok x w' =>
  cases x <;> simp only [Oper.upon,Oper.uponIn] at h ⊢ <;>
   first
    | exact h
    | exact ⟨(fun e=>by cases e),CallsIn.inRound l (callsIn_wide.2 h)⟩
    | exact ⟨(fun e=>by cases e),Ayd h⟩
 | halt x w'=>cases x <;> simp only [Oper.upon,Oper.uponIn] at h ⊢ <;> exact h
def Xb (o:Oper):Bool:=match o.op with
 | .defer _=>false
 | _=>true
theorem Aii {o:Oper} (h:Xb o=true):∀c,o.op≠.defer c:=fun c e=>by simp [Xb,e] at h
theorem Aba {l n:Nat} {P:Program} {ops:Array Oper} {Q:Exit→Act→World→Prop} (hQ:∀a w,¬Q .outgrown a w):∀{lst:List Oper} {a:Act} {w:World},
  (∀o∈lst,Xb o=true)→wpList P ops Q lst a w→wpListIn (Fence.wide.inRound l) n P ops Q lst a w
 | [],_,_,_,h=>h
 | o::rest,a,w,hp,h=>by
  unfold wpList at h;unfold wpListIn
  split
  ·rename_i hw;rw [if_pos hw] at h;rcases h with h|⟨_,a',w',h⟩
   ·refine Aih (Aii (hp o FI)) (Oper.wp_mono (fun a w h=>?_) h);exact Aba hQ (fun o ho=>hp o (by simp [ho])) h
   ·exact absurd h (hQ a' w')
  ·rename_i hw;rw [if_neg hw] at h;exact ⟨fun f _=>trivial,Aba hQ (fun o ho=>hp o (by simp [ho])) h⟩
theorem Ie {l n id:Nat} {P:Program} {ops:List Oper} {Q:Exit→Act→World→Prop} {a:Act} {w:World} (hQ:∀a w,¬Q .outgrown a w) (hp:(ops.all Xb)=true)
  (h:wpList P ops.toArray Q ops a w):(Code.region id ops.toArray false).wpIn (Fence.wide.inRound l) n P Q a w :=
 wpIn_region_lit (Aba hQ (fun o ho=>List.all_eq_true.1 hp o ho) h)
theorem Za {l n:Nat} {P:Program} {md:Region.Mode} {ops:Array Oper} {Q:Exit→Act→World→Prop} (hQ:∀a w,¬Q .outgrown a w) (hp:(ops.toList.all Xb)=true):∀(f:Nat) (listed:Array Bool) (a:Act) (w:World),
  wpAny P md ops Q f listed a w→wpAnyIn (Fence.wide.inRound l) n P md ops Q f listed a w
 | 0,_,_,_,h=>h
 | f+1,listed,a,w,h=>by
  refine ⟨h.1,fun i hi=>?_⟩;have h1:=h.2 i hi;unfold wpOp at h1;unfold wpOpIn;cases ho:ops[i]? with
  | none=>rw [ho] at h1;exact Za hQ hp f _ _ _ h1
  | some o =>
   rw [ho] at h1;have hpo:Xb o=true:=List.all_eq_true.1 hp o (by rw [←Array.getElem?_toList] at ho;exact List.mem_of_getElem? ho);dsimp only at h1 ⊢
   split
   ·rename_i hw;rw [if_pos hw] at h1;rcases h1 with h1|⟨_,a',w',h1⟩
    ·exact Aih (Aii hpo) (Oper.wp_mono (fun a w h=>Za hQ hp f _ a w h) h1)
    ·exact absurd h1 (hQ a' w')
   ·rename_i hw;rw [if_neg hw] at h1;exact ⟨fun f _=>trivial,Za hQ hp f _ _ _ h1⟩
def AbB {β:Type} (b:List Nat) (J:β→World→Prop):Prop:=∀s W W',J s W→Dr b W W'→J s W'
def Aor (ks:List Nat) (W W':World):Prop:=∀k∈ks,W'.heap[k]?=W.heap[k]?
def Azl (P:Program) (gf:Nat) (lb:Array Value) (b:Nat) (xs:List ByteArray) (W0:World):Prop :=
 ∀(n l:Nat) (J Jx:List ByteArray→World→Prop),AbB [b] J→AbB [b] Jx →
  (∀m pre x post W1,xs=pre++x::post→J pre W1→YieldAt Fence.wide m P l #[.string x] W1 fun e W' =>
   (e=.returned (.bool true)∧J (pre++[x]) W'∧W'.heap[b]?=W1.heap[b]?)∨(e=.returned (.bool false)∧Jx (pre++[x]) W')) →
  J [] W0→CallsIn Fence.wide n P gf (#[.func (.yield l) #[] #[]]++lb) W0 fun e W'=>(∃v,e=.returned v)∧(J xs W'∨∃pre x post,xs=pre++x::post∧Jx (pre++[x]) W')
def Bd3 (ks:List Nat) (I:List ByteArray→World→Prop) (Ix:Code→List ByteArray→World→Prop) (ys:List ByteArray) (W:World):Exit→Act→World→Prop
 | .normal,_,W'=>Aor ks W W'∧I ys W'
 | .ret,_,W'=>Aor ks W W'∧Ix .ret ys W'
 | .exit id,_,W'=>Aor ks W W'∧Ix (.exit id) ys W'
 | .goto t,_,W'=>Aor ks W W'∧Ix (.goto t) ys W'
 | .panic _,_,_=>False
 | .outgrown,_,_=>False
theorem Oj (W:World) (l:Nat) (o:Obj):Dr [l] W (W.putObj l o) :=
 ⟨rfl,rfl,rfl,FI,fun k _ hk=>World.putObj_heap_other (fun e=>hk (by simp [e]))⟩
theorem Aoc {P:Program} {g:Operand} {ps:Array Tmp} {assign body:Code} {Q:Exit→Act→World→Prop} {a:Act} {w:World} {n gf b:Nat} {lb:Array Value} {xs:List ByteArray}
  (hg:a.eval g=.func (.func gf) #[] lb) (eg:∀args w,(callFunc gf args).run P w=.ok (.enter gf args) w) (hps:ps.size=1) (hb:b < w.heap.size)
  (hseq:∀W0,W0.heap[b]?=w.heap[b]?→Azl P gf lb b xs W0)
  (I:List ByteArray→World→Prop) (Ix:Code→List ByteArray→World→Prop) (hI:AbB [b,w.heap.size+1] I) (hIx:∀c,AbB [b,w.heap.size+1] (Ix c)) (h0:I [] w) (a₁:ByteArray→Act)
  (hassign:∀(m:Nat) (x:ByteArray) (W:World) (K:Act→World→Prop),K (a₁ x) W →
   assign.wpIn (Fence.wide.inRound (w.heap.size+1)) m P (Exit.then K (fun _ _ _=>False)) { tmps:=(ps.zip #[.string x]).foldl (fun t (p,v)=>t.setIfInBounds p v) a.tmps,defers:=[] } W)
  (hbody:∀(m:Nat) (pre post:List ByteArray) (x:ByteArray) (W:World),xs=pre++x::post→w.heap.size+2≤W.heap.size→I pre W →
   body.wpIn (Fence.wide.inRound (w.heap.size+1)) m P (Bd3 [b,w.heap.size,w.heap.size+1] I Ix (pre++[x]) W) (a₁ x) W)
  (hdone:∀(W:World),I xs W→W.heap[w.heap.size]?=some (.deferred (some []))→Q .normal { a with defers:={ target:=.collected w.heap.size,args:=#[] }::a.defers } W)
  (hstop:∀(c:Code) (pre post:List ByteArray) (x:ByteArray) (W:World),xs=pre++x::post→Ix c (pre++[x]) W→W.heap[w.heap.size]?=some (.deferred (some [])) →
   c.wpIn Fence.wide n P Q { a with defers:={ target:=.collected w.heap.size,args:=#[] }::a.defers } W) :
  (Code.rangeFunc g ps assign body).wpIn Fence.wide n P Q a w:=by
 refine wpIn_rangeFunc ?_;intro fn hfn;rw [Fence.wide_round];obtain ⟨rec,hrec⟩:∃rec:LoopState→Option Code→Loop,rec=fun st pe=>{ state:=st,pending:=pe,fn,tmps:=a.tmps,params:=ps,assign,body,defers:=w.heap.size }:=⟨_,rfl⟩;obtain ⟨W1,hW1⟩:∃W1,(w.alloc (.deferred (some []))).alloc (.loop (rec .ready none))=W1:=⟨_,rfl⟩;have hL1:W1.heap[w.heap.size+1]?=some (.loop (rec .ready none)):=by
  rw [←hW1];have:=World.alloc_heap_new (w.alloc (.deferred (some []))) (.loop (rec .ready none));rwa [World.size_alloc] at this
 have hK1:W1.heap[w.heap.size]?=some (.deferred (some [])):=by
  rw [←hW1];exact (Below.heap_alloc _ _ _ FI).trans (World.alloc_heap_new w _)
 have hk1:Dr [b,w.heap.size+1] w W1:=by rw [←hW1];exact ((Dr.refl _ _).alloc _).alloc _
 have hb1:W1.heap[b]?=w.heap[b]?:=by
  rw [←hW1];exact (Below.heap_alloc _ _ _ FO).trans (Below.heap_alloc _ _ _ hb)
 refine ⟨w.heap.size+1,[{ target:=.collected w.heap.size,args:=#[] }],W1,{ target:=.fn (.func gf) lb,args:=#[.func (.yield (w.heap.size+1)) #[] #[]] },W1,gf,
  #[.func (.yield (w.heap.size+1)) #[] #[]]++lb,W1,?_,?_,?_,?_,(fun e=>by cases e),?_⟩
 ·rw [←hW1,hrec];exact run_enterLoop_outer _ _ _ _ _
 ·simp only [resolve,hg];simp [go_sem]
 ·intro f' hf';trivial
 ·simp [invoke,go_sem,eg]
 have far:∀{W W':World} {k:Nat} {o:Obj},Dr [b] W W'→b < w.heap.size→w.heap.size≤k→W.heap[k]?=some o→W'.heap[k]?=some o:=fun {W W' k o} hk h1 h2 h3 =>
  (hk.block k (Array.getElem?_eq_some_iff.1 h3).1 FO).trans h3
 have wider:∀{W W':World},Dr [b] W W'→Dr [b,w.heap.size+1] W W':=fun h=>h.mono fun x hx _=>by simp at hx ⊢;omega
 have wider2:∀{W W':World},Dr [w.heap.size+1] W W'→Dr [b,w.heap.size+1] W W':=fun h=>h.mono fun x hx _=>by simp at hx ⊢;omega
 refine (hseq W1 hb1 (n - 1) (w.heap.size+1)
  (fun pre W=>I pre W∧W.heap[w.heap.size+1]?=some (.loop (rec .ready none))∧W.heap[w.heap.size]?=some (.deferred (some [])))
  (fun pre W=>∃c,Ix c pre W∧W.heap[w.heap.size+1]?=some (.loop (rec .done (some c)))∧W.heap[w.heap.size]?=some (.deferred (some [])))
  (fun s A B hs hk=>⟨hI s A B hs.1 (wider hk),far hk hb FH hs.2.1,far hk hb FH hs.2.2⟩)
  (fun s A B hs hk=>by
   obtain ⟨c,hc,hl,hd⟩:=hs;exact ⟨c,hIx c s A B hc (wider hk),far hk hb FH hl,far hk hb FH hd⟩)
  ?_ ⟨hI _ _ _ h0 hk1,hL1,hK1⟩).mono ?_
 ·rintro m pre x post W hxs ⟨hi,hl,hk⟩;have hlt:w.heap.size+1 < W.heap.size:=(Array.getElem?_eq_some_iff.1 hl).1;have hy:=run_yield (P:=P) (args:=#[.string x]) hl (by rw [hrec];exact hps.symm);rw [hrec] at hy;refine ⟨fn,_,assign,body,hy,roundIn_of_wpIn hfn (hassign m x W _ ⟨_,run_beginRound hl (by rw [hrec]),?_⟩)⟩;obtain ⟨W2,hW2⟩:∃W2,W.putObj (w.heap.size+1) (.loop { rec .ready none with state:=.busy })=W2:=⟨_,rfl⟩;rw [hW2];have hl2:W2.heap[w.heap.size+1]?=some (.loop { rec .ready none with state:=.busy }):=by rw [←hW2];exact World.putObj_heap_same hlt
  have hk2:W2.heap[w.heap.size]?=some (.deferred (some [])):=by rw [←hW2];exact (World.putObj_heap_other FH).trans hk
  have hb2:W2.heap[b]?=W.heap[b]?:=by rw [←hW2];exact World.putObj_heap_other FH
  have hi2:I pre W2:=hI _ _ _ hi (by rw [←hW2];exact wider2 (Oj _ _ _));have hs2:w.heap.size+2≤W2.heap.size:=by rw [←hW2];simp;omega
  refine wpIn_mono (hbody m pre post x _ hxs hs2 hi2) ?_
  have fin:∀(Yk:Option Code) (W3:World),Aor [b,w.heap.size,w.heap.size+1] W2 W3 →
    (Instr.endRound (w.heap.size+1) Yk).run P W3=.ok (.bool Yk.isNone) (W3.putObj (w.heap.size+1) (.loop (rec (if Yk.isNone then .ready else .done) Yk))) ∧
    (W3.putObj (w.heap.size+1) (.loop (rec (if Yk.isNone then .ready else .done) Yk))).heap[w.heap.size+1]?=some (.loop (rec (if Yk.isNone then .ready else .done) Yk)) ∧
    (W3.putObj (w.heap.size+1) (.loop (rec (if Yk.isNone then .ready else .done) Yk))).heap[w.heap.size]?=some (.deferred (some [])) ∧
    (W3.putObj (w.heap.size+1) (.loop (rec (if Yk.isNone then .ready else .done) Yk))).heap[b]?=W.heap[b]?:=fun Yk W3 hk3=>by
   have hl3:=(hk3 (w.heap.size+1) FI).trans hl2;have h4:=run_endRound (P:=P) Yk hl3;rw [hrec] at h4 ⊢;exact ⟨h4,World.putObj_heap_same (Array.getElem?_eq_some_iff.1 hl3).1,(World.putObj_heap_other FH).trans ((hk3 w.heap.size FI).trans hk2),(World.putObj_heap_other FH).trans ((hk3 b FI).trans hb2)⟩
  rintro e a3 W3 hp;cases e with
  | normal =>
   obtain ⟨hk3,hi3⟩:=hp;obtain ⟨hr,hl4,hd4,hb4⟩:=fin none W3 hk3;exact ⟨_,_,hr,.inl ⟨rfl,⟨hI _ _ _ hi3 (wider2 (Oj _ _ _)),hl4,hd4⟩,hb4⟩⟩
  | ret =>
   obtain ⟨hk3,hi3⟩:=hp;obtain ⟨hr,hl4,hd4,hb4⟩:=fin (some .ret) W3 hk3;exact ⟨_,_,hr,.inr ⟨rfl,.ret,hIx _ _ _ _ hi3 (wider2 (Oj _ _ _)),hl4,hd4⟩⟩
  | exit id =>
   obtain ⟨hk3,hi3⟩:=hp;obtain ⟨hr,hl4,hd4,hb4⟩:=fin (some (.exit id)) W3 hk3;exact ⟨_,_,hr,.inr ⟨rfl,.exit id,hIx _ _ _ _ hi3 (wider2 (Oj _ _ _)),hl4,hd4⟩⟩
  | goto t =>
   obtain ⟨hk3,hi3⟩:=hp;obtain ⟨hr,hl4,hd4,hb4⟩:=fin (some (.goto t)) W3 hk3;exact ⟨_,_,hr,.inr ⟨rfl,.goto t,hIx _ _ _ _ hi3 (wider2 (Oj _ _ _)),hl4,hd4⟩⟩
  | panic ch=>exact hp.elim
  | outgrown=>exact hp.elim
 ·rintro e W2 ⟨⟨v,rfl⟩,(⟨hi,hl,hk⟩|⟨pre,x,post,hxs,c,hi,hl,hk⟩)⟩
  ·exact ⟨none,_,KE,hdone _ (hI _ _ _ hi (wider2 (Oj _ _ _))) ((World.putObj_heap_other FH).trans hk)⟩
  ·exact ⟨some c,_,KE,hstop c pre post x _ hxs (hIx _ _ _ _ hi (wider2 (Oj _ _ _))) ((World.putObj_heap_other FH).trans hk)⟩
end Go.Proofs.YtcmighgaiacgoaaGreatDoor
namespace Go.Proofs.YtcmighgaiacgoaaGreatDoor.Lg
open Go.RowKit
theorem Aom (s:ByteArray) (c:UInt8) (w:World):Calls prog 255 #[.string s,.int .u8 (c.toNat:Int)] w fun e w'=>e=.returned (.int .i64 (Lib.indexByte s.data.toList c))∧w=w':=by
 refine (Tryz.strings_IndexByte s c.toNat w).mono ?_;rintro e w' ⟨rfl,rfl⟩;exact ⟨FI,rfl⟩
def Jf (s:ByteArray):List ByteArray:=(D9 s.data.toList).map bs
theorem As4 {s:ByteArray} (h:¬0 < s.size):Jf s=[]:=by
 have:s.data.toList=[]:=List.eq_nil_of_length_eq_zero (by rw [Ct];omega);unfold Jf;rw [this];rfl
theorem As3 {s:ByteArray} (h:10∈s.data.toList):Jf s=bs (Ee 10 s.data.toList++[10])::Jf (bs (My 10 s.data.toList)) ∧
  s.extract 0 ((Ee 10 s.data.toList).length+1)=bs (Ee 10 s.data.toList++[10])∧s.extract ((Ee 10 s.data.toList).length+1) s.size=bs (My 10 s.data.toList):=by
 refine ⟨?_,?_,(Aun h).2⟩
 ·rcases Pp 10 s.data.toList with ⟨_,h2⟩|⟨h2,_⟩
  ·unfold Jf;rw [Jl]
   conv=>lhs;rw [h2]
   rw [Ug _ Ac6];rfl
  ·exact absurd h h2
 ·rcases Pp 10 s.data.toList with ⟨_,h2⟩|⟨h2,_⟩
  ·rw [Lib.extract_eq];unfold bs;congr 2;rw [List.drop_zero,Nat.sub_zero];refine (congrArg (List.take _) h2).trans ?_;rw [List.take_append,List.take_of_length_le FH];simp
  ·exact absurd h h2
theorem Ap8 {s:ByteArray} (h0:0 < s.size) (h:10 ∉ s.data.toList):Jf s=[s]:=by
 unfold Jf;rw [W5 (fun e=>by have:=Ct s;rw [e] at this;simp at this;omega) (fun c hc e=>h (by rw [←e];exact hc))];simp [Ae0]
theorem Av2 {s:ByteArray} (h:10∈s.data.toList):(bs (My 10 s.data.toList)).size < s.size:=by
 rcases Pp 10 s.data.toList with ⟨_,h2⟩|⟨h2,_⟩
 ·have:=congrArg List.length h2;rw [Jm];rw [Ct] at this;simp at this;omega
 ·exact absurd h h2
def Amt (b:Nat) (w:World):Nat:=match w.cell? ⟨b,0,none⟩ with
 | some (.string r)=>r.size
 | _=>0
theorem Aau {b:Nat} {t:TypeId} {w:World} {r:ByteArray} (h:Ii w b t [.string r]):Amt b w=r.size:=by
 unfold Amt;rw [h.cell];rfl
theorem Bdq (s:ByteArray) (w:World):Calls prog 180 #[.string s] w fun e w'=>e=.returned (.func (.func 254) #[] #[.pointer (some ⟨w.heap.size,0,none⟩)])∧w'=w.alloc (.cells #[.string s] 9):=by
 go_enter func180,ntmps180
 go_wp2_with fail;refine bodyPost_ret (v:=.func (.func 254) #[] #[.pointer (some ⟨w.heap.size,0,none⟩)]) ?_ rfl ⟨rfl,rfl⟩;simp [results,results180,go_sem]
theorem Axm (s:ByteArray) (b:Nat) (W0:World) (hs:s.size≤4294967296) (hr:Ii W0 b 9 [.string s]):Azl prog 254 #[.pointer (some ⟨b,0,none⟩)] b (Jf s) W0:=by
 intro n l J Jx hJ hJx hY h0;refine callsIn_of_wp func254 rfl trivial ?_ rfl;simp only [ntmps254,List.size_toArray,List.length_cons,List.length_nil,Nat.reduceAdd,Nat.reduceSub,Array.replicate_succ,Array.replicate_zero,List.push_toArray,List.append_toArray,List.cons_append,List.nil_append];have c0:=hr.cells
 gi_wp2
 gi_loopw [3] (fun _ wr=>∃(pre:List ByteArray) (r:ByteArray),Hid (Jf s=pre++Jf r)∧r.size≤4294967296∧Ii wr b 9 [.string r]∧J pre wr) (fun _ wr=>Amt b wr)
 case atStart=>exact ⟨[],s,rfl,hs,hr,h0⟩
 case round =>
  obtain ⟨pre,r,hx,hrs,hrow,hj⟩:=hrel;have hm:=Lib.hid (Aau hrow);have hi:=fun w=>Aom r 10 w;by_cases hz:0 < r.size
  ·by_cases hn:10∈r.data.toList
   ·obtain ⟨hl,hx1,hx2⟩:=As3 hn;have hbl:=Av2 hn;have hlt:=Avm hn;rw [Ct] at hlt;rw [(Qk 10 _).1 hn] at hi;generalize (Ee 10 r.data.toList).length=i at *;generalize bs (Ee 10 r.data.toList++[10])=x at *;generalize bs (My 10 r.data.toList)=rest at *;have hx3:Hid (Jf s=pre++x::Jf rest):=by have:=hx.out;rw [hl] at this;exact Lib.hid this
    replace hx1:=Lib.hid hx1;replace hx2:=Lib.hid hx2;replace hi:=Lib.hid hi;replace hY:=Lib.hid hY;have hw:=Lib.hid (show IntKind.i64.wrap ((i:Int)+1)=(i:Int)+1 from by rw [IntKind.wrap_i64];omega);have hn1:=Lib.hid (show ((i:Int)+1).toNat=i+1 from by omega);clear hx hl hn;have c1:=hrow.cells;have f1:=hrow.frozens
    gi_wp2_with (refine ⟨trivial,(fun e=>by cases e),?_⟩;refine (callsIn_wide.2 (hi.out _)).mono ?_;rintro e w' ⟨rfl,rfl⟩)
    refine wpIn_wide.2 ?_;clear c1 f1;refine E9.start (S:=(fun w'=>w'.cell? ⟨b,0,none⟩=some (.string r))) (X:=(fun i=>i == 9)) FJ ?_;have al:Below wr.heap.size wr wr.drew:=Dt (Below.refl _ _) 1;have hs_w1:=al.size;replace hrow:=hrow.below al;have hB:=al;generalize wr.drew=w1 at *;clear al;have hS:(fun w'=>w'.cell? ⟨b,0,none⟩=some (.string r)) w1:=hrow.cells 0;refine E9.take (i:=0) (oi:=_) (v:=?_) FQ FJ FJ FJ FJ FJ GK (Or.inl ⟨GE,?_⟩) hS ?_
    rotate_left
    ·(intro wS hSw;(try dsimp only at hSw);go_simp;try with_reducible rfl)
    try simp only [Act.put,List.setIfInBounds_toArray,List.set_cons_zero,List.set_cons_succ]
    refine E9.take (i:=1) (oi:=_) (v:=?_) FQ FJ FJ FJ FJ FJ GK (Or.inl ⟨GE,?_⟩) hS ?_
    rotate_left
    ·(intro wS hSw;(try dsimp only at hSw);go_simp;try with_reducible rfl)
    try simp only [Act.put,List.setIfInBounds_toArray,List.set_cons_zero,List.set_cons_succ]
    refine E9.take (i:=2) (oi:=_) (v:=?_) FQ FJ FJ FJ FJ FJ GK (Or.inl ⟨GE,?_⟩) hS ?_
    rotate_left
    ·(intro wS hSw;(try dsimp only at hSw);go_simp;rw [hw.out];try with_reducible rfl)
    try simp only [Act.put,List.setIfInBounds_toArray,List.set_cons_zero,List.set_cons_succ]
    refine E9.take (i:=3) (oi:=_) (v:=?_) FQ FJ FJ FJ FJ FJ GK (Or.inl ⟨GE,?_⟩) hS ?_
    rotate_left
    ·(intro wS hSw;(try dsimp only at hSw);go_simp;rw [if_pos FH,hx1.out];try with_reducible rfl)
    try simp only [Act.put,List.setIfInBounds_toArray,List.set_cons_zero,List.set_cons_succ]
    refine E9.take (i:=4) (oi:=_) (v:=?_) FQ FJ FJ FJ FJ FJ GK (Or.inl ⟨GE,?_⟩) hS ?_
    rotate_left
    ·(intro wS hSw;(try dsimp only at hSw);go_simp;try with_reducible rfl)
    try simp only [Act.put,List.setIfInBounds_toArray,List.set_cons_zero,List.set_cons_succ]
    refine E9.take (i:=5) (oi:=_) (v:=?_) FQ FJ FJ FJ FJ FJ GK (Or.inl ⟨GE,?_⟩) hS ?_
    rotate_left
    ·(intro wS hSw;(try dsimp only at hSw);go_simp;try with_reducible rfl)
    try simp only [Act.put,List.setIfInBounds_toArray,List.set_cons_zero,List.set_cons_succ]
    refine E9.take (i:=6) (oi:=_) (v:=?_) FQ FJ FJ FJ FJ FJ GK (Or.inl ⟨GE,?_⟩) hS ?_
    rotate_left
    ·(intro wS hSw;(try dsimp only at hSw);go_simp;rw [hw.out];try with_reducible rfl)
    try simp only [Act.put,List.setIfInBounds_toArray,List.set_cons_zero,List.set_cons_succ]
    refine E9.take (i:=7) (oi:=_) (v:=?_) FQ FJ FJ FJ FJ FJ GK (Or.inl ⟨GE,?_⟩) hS ?_
    rotate_left
    ·(intro wS hSw;(try dsimp only at hSw);go_simp;rw [if_pos FH,hx2.out];try with_reducible rfl)
    try simp only [Act.put,List.setIfInBounds_toArray,List.set_cons_zero,List.set_cons_succ]
    refine E9.only (i:=8) (o:=_) FJ FQ (fun K hK=>?_)
    try go_simp
    clear hS;have hS:(fun w'=>w'.cell? ⟨b,0,none⟩=some (.string r)) w1:=hrow.cells 0;refine hK.out _ _ (fun _=>hS) ?_;clear hK K
    try simp only [Act.put,List.setIfInBounds_toArray,List.set_cons_zero,List.set_cons_succ]
    refine E9.only (i:=9) (o:=_) FJ FQ (fun K hK=>?_);have c_hrow:=hrow.cells;have f_hrow:=hrow.frozens
    go_simp
    clear c_hrow f_hrow;refine hK.out _ _ (fun h=>by cases h) ?_;clear hK K
    try simp only [Act.put,List.setIfInBounds_toArray,List.set_cons_zero,List.set_cons_succ]
    refine E9.done FJ ?_ _
    (try clear hS)
    have hrow2:Ii (w1.setCell ⟨b,0,none⟩ (.string rest)) b 9 [.string rest]:=hrow.set 0 (.string rest);have hj2:J pre (w1.setCell ⟨b,0,none⟩ (.string rest)):=hJ _ _ _ hj ((Dr.ofBelow hB).setCell FI _);clear hrow hj hB;generalize (w1.setCell ⟨b,0,none⟩ (.string rest))=w9 at *;obtain ⟨fn,tmps,assign,body,hy,hR⟩:=hY.out (n - 1) pre x (Jf rest) w9 hx3.out hj2;replace hR:=Lib.hid hR
    gi_wp2
    refine ⟨(fun e=>by cases e),?_⟩;refine hR.out.mono ?_;rintro e W3 (⟨rfl,hJ3,hk3⟩|⟨rfl,hJx3⟩)
    ·have hrow3:=hrow2.I7 hk3;have hm3:=Aau hrow3
     gi_wp2
     go_roundw
     case rel=>exact ⟨pre++[x],rest,by refine Lib.hid ?_;rw [hx3.out];simp,FH,hrow3,hJ3⟩
     case measure=>have:=hm.out;omega
    ·gi_wp2
     refine bodyPost_ret (results_none rfl _ _ _) rfl ?_;exact ⟨⟨_,rfl⟩,.inr ⟨pre,x,Jf rest,hx3.out,hJx3⟩⟩
   ·have hl:=Ap8 hz hn;rw [(Qk 10 _).2 hn] at hi;have hx3:Hid (Jf s=pre++r::[]):=by have:=hx.out;rw [hl] at this;exact Lib.hid this
    replace hi:=Lib.hid hi;have c1:=hrow.cells;have f1:=hrow.frozens;have hrow2:Ii (wr.setCell ⟨b,0,none⟩ (.string ⟨#[]⟩)) b 9 [.string ⟨#[]⟩]:=hrow.set 0 (.string ⟨#[]⟩);have hj2:J pre (wr.setCell ⟨b,0,none⟩ (.string ⟨#[]⟩)):=hJ _ _ _ hj ((Dr.refl _ _).setCell FI _);obtain ⟨fn,tmps,assign,body,hy,hR⟩:=hY (n - 1) pre r [] _ hx3.out hj2;replace hR:=Lib.hid hR;replace hrow2:=Lib.hid hrow2;clear hx hl hn hY
    gi_wp2_with (refine ⟨trivial,(fun e=>by cases e),?_⟩;refine (callsIn_wide.2 (hi.out _)).mono ?_;rintro e w' ⟨rfl,rfl⟩)
    refine ⟨(fun e=>by cases e),?_⟩;refine hR.out.mono ?_;rintro e W3 (⟨rfl,hJ3,hk3⟩|⟨rfl,hJx3⟩)
    ·have hrow3:=hrow2.out.I7 hk3;have hm3:=Aau hrow3
     gi_wp2
     go_roundw
     case rel=>exact ⟨pre++[r],⟨#[]⟩,by refine Lib.hid ?_;rw [hx3.out];simp [Jf,D9],Nat.zero_le _,hrow3,hJ3⟩
     case measure=>have h7:=hm.out;have h8:(⟨#[]⟩:ByteArray).size=0:=rfl;omega
    ·gi_wp2
     refine bodyPost_ret (results_none rfl _ _ _) rfl ?_;exact ⟨⟨_,rfl⟩,.inr ⟨pre,r,[],hx3.out,hJx3⟩⟩
  ·have c1:=hrow.cells;have f1:=hrow.frozens
   gi_wp2
   go_end0
   refine ⟨⟨_,rfl⟩,.inl ?_⟩;have h1:=hx.out;rw [As4 hz,List.append_nil] at h1;rw [h1];exact hj
def J9 (k:Int) (x:Ov):ByteArray × Bool:=(bs ((Af3 k x.I8.data.toList x.Gw.data.toList).getD []),(Af3 k x.I8.data.toList x.Gw.data.toList).isSome)
def Af0:ByteArray × Bool→World→Ending→World→Prop:=fun (r0,r1) w e w'=>e=.returned (.tuple #[.string r0,.bool r1])∧Below w.heap.size w w'
theorem Al2 {k:Int} {x:Ov} (h:(Ga 0 k 59 && Bv x.I8 x.Gw)=false):J9 k x=(bs [],false):=by
 rw [Oy] at h;unfold J9 Af3;rw [if_neg (by rw [h];simp)];rfl
theorem Atj {k:Nat} {x:Ov} (hk:k≤59) (h:Bv x.I8 x.Gw=true):J9 (k:Int) x=(bs (Kz k x.I8.data.toList x.Gw.data.toList),true):=by
 rw [Oy] at h;unfold J9 Af3;rw [if_pos (by rw [h];simp [Ga];omega)];rfl
theorem Agv (x0:Int) (v1:Value) (x1:Ov) (F1:List Nat) (FT:List Nat) (w:World) (h1:Jz Nb w v1 x1 F1) (hT:Jz Ade w (.agg #[]) () FT) :
  Calls prog 182 #[.int .i64 x0,v1] w (Af0 (J9 x0 x1) w):=by
 obtain ⟨_,rfl,rfl,s1,s2,rfl⟩:=h1;have hin:=fun w=>Id x0 0 59 w;have hgd:=fun w=>Xs x1.I8 x1.Gw w s1 s2;have hB0:∀A:Obj,Below w.heap.size w (w.alloc A):=fun A=>(Below.refl _ _).alloc (Nat.le_refl _) _;cases hb:Ga 0 x0 59 with
 | false =>
  rw [Al2 (by rw [hb];rfl)];rw [hb] at hin;clear hb
  go_enter func182,ntmps182
  go_wp2_with (first|(go_at_call 99;refine (hin _).mono ?_;rintro e w' ⟨rfl,rfl⟩));refine bodyPost_ret (v:=.tuple #[.string ⟨#[]⟩,.bool false]) ?_ rfl ⟨rfl,hB0 _⟩;simp [results,results182,go_sem]
 | true =>
  have hk:0≤x0∧x0≤59:=by simpa [Ga] using hb
  cases hg:Bv x1.I8 x1.Gw with
  | false =>
   rw [Al2 (by rw [hg];simp)];rw [hb] at hin;rw [hg] at hgd;clear hb hg
   go_enter func182,ntmps182
   go_wp2_with (first|(go_at_call 99;refine (hin _).mono ?_;rintro e w' ⟨rfl,rfl⟩)|(go_at_call 48;refine (hgd _).mono ?_;rintro e w1 ⟨rfl,hb1⟩));refine bodyPost_ret (v:=.tuple #[.string ⟨#[]⟩,.bool false]) ?_ rfl ⟨rfl,(hB0 _).trans (hb1.mono FI)⟩;simp [results,results182,go_sem]
  | true =>
   obtain ⟨k,rfl⟩:=Int.eq_ofNat_of_zero_le hk.1;have hk9:k≤59:=FH
   rw [Atj hk9 hg];rw [hb] at hin;rw [hg] at hgd;have hl:=Lib.hid (fun w hT=>Ye k x1.I8 x1.Gw FT w hk9 (Je (by rw [←Oy];exact hg)) hT);clear hb hg hk;have R:=fun (w1:World) (hb1:Below (w.alloc (.cells #[.string x1.I8,.string x1.Gw] 87)).heap.size (w.alloc (.cells #[.string x1.I8,.string x1.Gw] 87)) w1)=>(Ii.made w 87 [.string x1.I8,.string x1.Gw]).below hb1;replace R:=Lib.hid R;have hT1:=hT.below (hB0 (.cells #[.string x1.I8,.string x1.Gw] 87))
   go_enter func182,ntmps182
   go_wp2_with (first|(go_at_call 99;refine (hin _).mono ?_;rintro e w' ⟨rfl,rfl⟩)|(go_at_call 48;refine (hgd _).mono ?_;rintro e w1 ⟨rfl,hb1⟩;have c_R:=(R.out _ hb1).cells)|(go_at_call 50;refine (hl.out _ (hT1.below hb1)).mono ?_;rintro e w2 ⟨rfl,hb2⟩));refine bodyPost_ret (v:=.tuple #[.string (bs (Kz k x1.I8.data.toList x1.Gw.data.toList)),.bool true]) ?_ rfl ⟨rfl,((hB0 _).trans (hb1.mono FI)).trans (hb2.mono (by have:=hb1.size;simp at this;omega))⟩;simp [results,results182,go_sem]
theorem Axz {k:Nat} {x:Bs} (h:Z3 k x=true):∃y,x=y++[10]∧∀b∈y,32≤b.toNat∧b.toNat≤126:=by
 obtain ⟨c,r,_,hg,rfl⟩:=Uz.1 h;have hG:=Je hg;refine ⟨O9 (Lm k c r),rfl,fun b hb=>?_⟩;unfold O9 at hb;simp only [List.mem_append,List.mem_cons] at hb;rcases hb with hb|rfl|hb
 ·exact (Ts hG b hb).1
 ·decide
 ·have:=P3 _ b hb;omega
theorem Bho {k:Nat} {z:Bs} (h:∀b∈z,b≠10):Z3 k z=false:=by
 cases hk:Z3 k z with
 | false=>rfl
 | true =>
  obtain ⟨y,rfl,_⟩:=Axz hk;exact absurd rfl (h 10 FI)
theorem Avx {k:Nat} {x:Bs} (h:Z3 k x=true) (r:Bs):acc k (D9 (x++r))=x::acc (k+1) (D9 r):=by
 obtain ⟨y,rfl,hy⟩:=Alu h;rw [List.append_assoc,List.singleton_append,Ug _ hy];simp [acc,h]
theorem Anm {d:Bs} (hd:(Bp d).flatten.length=d.length) (q:Bs):Bp (d++q)=Bp d++acc (Bp d).length (D9 q):=by
 have hf:=Yt hd;have h2:=Tj (xs:=Bp d) (by rw [hf];exact hf) q;rw [V9 hd] at h2;exact h2
structure Akm (d p:Bs) (n:Int):Prop where
 all:(Bp (d++p)).flatten=d++p
 dur:(Bp d).flatten=d
 Yb:n=(Bp (d++p)).length
theorem Arq {d p:Bs} {n:Int} (h:Kl d p n=true):Akm d p n:=by
 unfold Kl at h;simp only [Bool.and_eq_true,decide_eq_true_eq] at h;exact ⟨V9 (by simp [h.2.1.1]),V9 h.2.1.2,h.2.2.symm⟩
theorem Akm.bool {d p:Bs} {n:Int} (h:Akm d p n):Kl d p n=true:=by
 unfold Kl;have h1:=Ni (d++p);have h2:=congrArg List.length h.all;have h3:=congrArg List.length h.dur;rw [List.length_append] at h2;simp only [Bool.and_eq_true,decide_eq_true_eq];exact ⟨FH,⟨h2,h3⟩,h.Yb.symm⟩
theorem Akm.append {d p x:Bs} {n:Int} (h:Akm d p n) (hx:Z3 (Bp (d++p)).length x=true):Akm d (p++x) (n+1)∧Bp (d++(p++x))=Bp (d++p)++[x]:=by
 have h1:=Anm (d:=d++p) (by rw [h.all]) x;have h2:=Avx hx [];simp only [List.append_nil,D9,acc] at h2;rw [h2,List.append_assoc] at h1;refine ⟨⟨?_,h.dur,?_⟩,h1⟩
 ·rw [h1,List.flatten_append,h.all];simp
 ·rw [h1,List.length_append,h.Yb];simp
def Ri (l:Bs):Ov:=⟨bs (Af1 l),bs (Af9 l)⟩
def Afn (x:ByteArray):Ov:=Ri x.data.toList
theorem Ax9 (x:ByteArray):Afn x=⟨Q8 64 (Sr 32 (Q8 35 x)),Sr 64 (Sr 32 (Q8 35 x))⟩:=by
 simp only [Afn,Ri,Q8,Sr,Jl,Af1,Af9,Ajc]
def Ex (pre:List ByteArray):List Bs:=pre.map fun x=>x.data.toList
theorem W7 (pre:List ByteArray) (x:ByteArray):Ex (pre++[x])=Ex pre++[x.data.toList]:=by simp [Ex]
theorem Sh (pre:List ByteArray):(Ex pre).length=pre.length:=by simp [Ex]
theorem Rt (s:ByteArray):Ex (Jf s)=D9 s.data.toList:=by
 unfold Ex Jf;rw [List.map_map];have:(fun x:ByteArray=>x.data.toList) ∘ bs=id:=by funext l;simp [bs]
 rw [this,List.map_id]
def Xt (pre:List ByteArray):List Int:=(Ln 0 (Ex pre)).map Int.ofNat
theorem Vo (pre:List ByteArray):(Xt pre).length=pre.length+1:=by simp [Xt,Tu,Sh]
def Pq (pre:List ByteArray):Nat:=(Ex pre).flatten.length
theorem Ash (pre:List ByteArray) (x:ByteArray):Xt (pre++[x])=Xt pre++[(Pq pre:Int)+(x.size:Int)]:=by
 unfold Xt Pq;rw [W7,Ahj];simp
theorem Ahk (pre:List ByteArray):(Xt pre)[pre.length]?=some (Pq pre:Int):=by
 have h:=Aa0 (n:=0) (xs:=Ex pre);have hl:=Vo pre;rw [List.getLast?_eq_getElem?,Tu,Sh] at h;unfold Xt;rw [List.getElem?_map,show pre.length=pre.length+1 - 1 from rfl,h];simp [Pq]
theorem Arn {s:ByteArray} {pre post:List ByteArray} (h:Jf s=pre++post):Pq pre≤s.size:=by
 have h1:=congrArg (fun l=>(Ex l).flatten.length) h;simp only [Rt,Th] at h1;rw [Ct] at h1;have:Ex (pre++post)=Ex pre++Ex post:=by simp [Ex]
 rw [this,List.flatten_append,List.length_append] at h1;unfold Pq;omega
theorem Az0 {s:ByteArray} {pre post:List ByteArray} (h:Jf s=pre++post):pre.length≤s.size:=by
 have h1:=Arn h;have h2:∀xs:List Bs,(∀x∈xs,x≠[])→xs.length≤xs.flatten.length:=by
  intro xs
  induction xs with
  | nil=>simp
  | cons x xs ih =>
   intro hx;have h3:=ih fun y hy=>hx y LL;have h4:1≤x.length:=by
    have:=hx x FI;cases x with
    | nil=>exact absurd rfl this
    | cons=>simp
   simp only [List.length_cons,List.flatten_cons,List.length_append];omega
 have h5:=h2 (Ex pre) fun x hx=>by
  refine W6 (l:=s.data.toList) ?_;rw [←Rt,h];simp only [Ex,List.map_append,List.mem_append];exact .inl hx
 rw [Sh] at h5;unfold Pq at h1;omega
theorem Bex {s:ByteArray} {pre post:List ByteArray} {x:ByteArray} (h:Jf s=pre++x::post):Pq pre+x.size≤s.size:=by
 have h1:Jf s=(pre++[x])++post:=by rw [h];simp
 have h2:=Arn h1;unfold Pq at h2 ⊢;rw [W7] at h2;simp at h2 ⊢;omega
theorem E9.startIn {P:Program} {ops:Array Oper} {Q:Exit→Act→World→Prop} {S:World→Prop} {X:Nat→Bool} {l n id:Nat} {a:Act} {w:World} (hm:P.follows .mixedOrders=true) (hQ:∀a w,¬Q .outgrown a w) (hp:(ops.toList.all Xb)=true)
  (h:E9 P .any ops Q S X ops.size (Array.replicate ops.size false) a w.drew):(Code.region id ops true).wpIn (Fence.wide.inRound l) n P Q a w :=
 wpIn_region_any hm (Za hQ hp _ _ _ _ (E9.any _ _ _ _ h))
theorem Akx (c:UInt8) (s:ByteArray):(Q8 c s).size≤s.size:=by
 unfold Q8;rw [Jm];have:=Ac5 c s.data.toList;rw [Ct] at this;exact this
theorem Akw (c:UInt8) (s:ByteArray):(Sr c s).size≤s.size:=by
 unfold Sr;rw [Jm];rcases Pp c s.data.toList with ⟨_,h2⟩|⟨_,_,h2⟩
 ·have:=congrArg List.length h2;rw [Ct] at this;simp at this;omega
 ·rw [h2];simp
theorem Bb4 {w:World} {g:Nat} {t:TypeId} {cs:List Value} (h:Ii w g t cs):∀j u,cs[j]?=some u→w.cell? ((⟨g,0,none⟩:Addr).add j)=some u:=fun j u hu=>by
 rw [←hu,←h.cell j];by_cases hj:j=0
 ·subst hj;rfl
 ·simp [Addr.add,hj]
theorem Ak0 {w:World} {t:TypeId} {pre:List ByteArray} {gb off ec:Nat} {F:List Nat} (h:Ow Bb t w (.slice (some ⟨gb,off,none⟩) (pre.length+1) ec) (Xt pre) F):w.cell? ⟨gb,off+pre.length,none⟩=some (.int .i64 (Pq pre:Int)):=by
 obtain ⟨F',_,hs⟩:=h.read;have hl:=Vo pre;obtain ⟨b,o,e,hc⟩:=hs.int.2.2 pre.length FH;cases e;rw [hc];have:=Ahk pre;rw [List.getElem?_eq_getElem FH] at this;rw [Option.some.inj this]
theorem Av7 {w:World} {t:TypeId} {pre:List ByteArray} {eo:Option Addr} {ec:Nat} {F:List Nat} (h:Ow Bb t w (.slice eo (pre.length+1) ec) (Xt pre) F):∃gb off,eo=some ⟨gb,off,none⟩:=by
 obtain ⟨F',_,hs⟩:=h.read;have hl:=Vo pre;obtain ⟨b,o,e,hc⟩:=hs.int.2.2 pre.length FH;exact ⟨b,o,e⟩
def Aaq (k:Nat) (W0 W:World):Prop:=W.heap[k]?=W0.heap[k]?∧k < W.heap.size
theorem Aaq.below {k W0 W w'} (h:Aaq k W0 W) (hb:Below W.heap.size W w'):Aaq k W0 w':=⟨(hb.block k h.2).trans h.1,Nat.lt_of_lt_of_le h.2 hb.size⟩
theorem Aaq.keepK {k W0 W w' F} (h:Aaq k W0 W) (hk:Dr F W w') (hn:k ∉ F):Aaq k W0 w':=⟨(hk.block k h.2 hn).trans h.1,Nat.lt_of_lt_of_le h.2 hk.size⟩
theorem Aaq.alloc {k W0 W} (h:Aaq k W0 W) (o:Obj):Aaq k W0 (W.alloc o):=h.below ((Below.refl _ _).alloc (Nat.le_refl _) _)
theorem Aaq.I7 {k W0 W w'} (h:Aaq k W0 W) (e:w'.heap[k]?=W.heap[k]?):Aaq k W0 w':=by
 refine ⟨e.trans h.1,?_⟩;rw [Array.getElem?_eq_getElem h.2] at e;exact (Array.getElem?_eq_some_iff.1 e).1
def RdI (w w1:World) (FT:List Nat) (pre:List ByteArray) (W:World):Prop :=
 ∃lo lc F1 eo ec F2,Ii W w.heap.size 131 [.slice lo pre.length lc]∧Ii W (w.heap.size+1+1) 22 [.slice eo (pre.length+1) ec] ∧
  Ow Nb 87 W (.slice lo pre.length lc) (pre.map Afn) F1∧F1.Nodup∧Ow Bb 3 W (.slice eo (pre.length+1) ec) (Xt pre) F2∧F2.Nodup ∧
  (∀b∈F1,w1.heap.size+1 < b)∧(∀b∈F2,b=w.heap.size+1∨w1.heap.size+1 < b)∧(∀b∈F1,b ∉ F2)∧Jz Ade W (.agg #[]) () FT∧Below w.heap.size w W ∧
  Hid (acc 0 (Ex pre)=Ex pre)
theorem RdI.I7 {w w1:World} {FT:List Nat} {g4:Nat} (h4:w.heap.size+1+1 < g4) (h5:g4 < w1.heap.size) (hFT:∀b∈FT,b < w.heap.size):AbB [g4,w1.heap.size+1] (RdI w w1 FT):=by
 rintro pre W W' ⟨lo,lc,F1,eo,ec,F2,r1,r3,o1,n1,o2,n2,f1,f2,d,hT,hB,ha⟩ hk;refine ⟨lo,lc,F1,eo,ec,F2,r1.keepK hk FO,r3.keepK hk FO,o1.I7 hk (fun b hb hm=>?_),n1,o2.I7 hk (fun b hb hm=>?_),n2,f1,f2,d,hT.I7 hk (fun b hb hm=>?_),hB.trans (hk.below hB.size (fun b hb=>?_)),ha⟩
 ·have:=f1 b hb;simp at hm;omega
 ·have:=f2 b hb;simp at hm;omega
 ·have:=hFT b hb;simp at hm;omega
 ·simp at hb;omega
def RdX (w w1:World) (FT:List Nat) (c:Code) (ys:List ByteArray) (W:World):Prop :=
 c=.exit 0∧∃pre x,ys=pre++[x]∧RdI w w1 FT pre W∧Z3 pre.length x.data.toList=false
def Bgb (s:ByteArray) (w:World) (e:Ending) (w':World):Prop :=
 ∃u0 G0 u1 G1,e=.returned (.tuple #[u0,u1])∧Ow Nb 87 w' u0 ((Bp s.data.toList).map Ri) G0∧G0.Nodup∧Ow Bb 3 w' u1 ((Ln 0 (Bp s.data.toList)).map Int.ofNat) G1∧G1.Nodup ∧
  (∀b∈G0,w.heap.size≤b)∧(∀b∈G1,w.heap.size≤b)∧(∀b∈G0,b ∉ G1)∧Below w.heap.size w w'
theorem Aos {k:Nat} {xs:List Bs} {x:Bs} (h:acc k xs=xs) (hx:Z3 (k+xs.length) x=true):acc k (xs++[x])=xs++[x]:=by
 rw [Wn k xs _ h];simp [acc,hx]
theorem Azn {k:Nat} {xs:List Bs} {x:Bs} (post:List Bs) (h:acc k xs=xs) (hx:Z3 (k+xs.length) x=false):acc k (xs++x::post)=xs:=by
 rw [Wn k xs _ h];simp [acc,hx]
theorem Atc {s:ByteArray} (h:acc 0 (Ex (Jf s))=Ex (Jf s)):Ex (Jf s)=Bp s.data.toList:=by
 rw [Rt] at h ⊢;exact h.symm
theorem Aql {s:ByteArray} {pre post:List ByteArray} {x:ByteArray} (hs:Jf s=pre++x::post) (h:acc 0 (Ex pre)=Ex pre) (hx:Z3 pre.length x.data.toList=false):Ex pre=Bp s.data.toList:=by
 unfold Bp;rw [←Rt,hs];have:Ex (pre++x::post)=Ex pre++x.data.toList::Ex post:=by simp [Ex]
 rw [this,Azn _ h (by rw [Sh,Nat.zero_add];exact hx)]
theorem RdI.post {s:ByteArray} {w w1:World} {FT:List Nat} {pre:List ByteArray} {W:World} (h1:w.heap.size+1 < w1.heap.size) (ho:Ex pre=Bp s.data.toList)
  (h:RdI w w1 FT pre W):∃lo lc eo ec,Ii W w.heap.size 131 [.slice lo pre.length lc]∧Ii W (w.heap.size+1+1) 22 [.slice eo (pre.length+1) ec] ∧
   ∀W',Dr [w1.heap.size] W W'→Bgb s w (.returned (.tuple #[.slice lo pre.length lc,.slice eo (pre.length+1) ec])) W':=by
 obtain ⟨lo,lc,F1,eo,ec,F2,r1,r3,o1,n1,o2,n2,f1,f2,d,hT,hB,ha⟩:=h;refine ⟨lo,lc,eo,ec,r1,r3,fun W' hk=>⟨_,F1,_,F2,rfl,?_,n1,?_,n2,fun b hb=>by have:=f1 b hb;omega,fun b hb=>by have:=f2 b hb;omega,d,hB.trans (hk.below hB.size (fun b hb=>by simp at hb;omega))⟩⟩
 ·have e:(Bp s.data.toList).map Ri=pre.map Afn:=by rw [←ho];simp [Ex,Afn]
  rw [e];exact o1.I7 hk (fun b hb hm=>by have:=f1 b hb;simp at hm;omega)
 ·have e:(Ln 0 (Bp s.data.toList)).map Int.ofNat=Xt pre:=by rw [←ho];rfl
  rw [e];exact o2.I7 hk (fun b hb hm=>by have:=f2 b hb;simp at hm;omega)
theorem RdI.acc {w w1:World} {FT:List Nat} {pre:List ByteArray} {W:World} (h:RdI w w1 FT pre W):acc 0 (Ex pre)=Ex pre:=by
 obtain ⟨_,_,_,_,_,_,_,_,_,_,_,_,_,_,_,_,_,h⟩:=h;exact h.out
theorem Aj8 (s:ByteArray) (FT:List Nat) (w:World) (hs:s.size≤16777216) (hT:Jz Ade w (.agg #[]) () FT) :
  Calls prog 92 #[.string s] w (Bgb s w):=by
 have hFT:=hT.lt;refine (callsIn_wide (n:=9)).1 (callsIn_of_wp_marks func92 rfl trivial ?_ rfl);simp only [ntmps92,List.size_toArray,List.length_cons,List.length_nil,Nat.reduceAdd,Nat.reduceSub,Array.replicate_succ,Array.replicate_zero,List.push_toArray,List.append_toArray,List.cons_append,List.nil_append];refine wpIn_wide.2 ?_;go_wp2_with (go_at_call 180;refine (Bdq _ _).mono ?_;rintro e w' ⟨rfl,rfl⟩)
 have al:Below w.heap.size w ((((w.alloc (.cells #[.slice none 0 0] 131)).alloc (.cells #[.int .i64 0] 3)).alloc (.cells #[.slice (some ⟨w.heap.size+1,0,none⟩) 1 1] 22)).alloc (.cells #[.string s] 9)):=by
  repeat refine Below.alloc ?_ GD _
  exact Below.refl _ _
 have n_R1:Ii ((((w.alloc (.cells #[.slice none 0 0] 131)).alloc (.cells #[.int .i64 0] 3)).alloc (.cells #[.slice (some ⟨w.heap.size+1,0,none⟩) 1 1] 22)).alloc (.cells #[.string s] 9)) (w.heap.size) 131 [.slice none 0 0]:=HE
 have n_R2:Ii ((((w.alloc (.cells #[.slice none 0 0] 131)).alloc (.cells #[.int .i64 0] 3)).alloc (.cells #[.slice (some ⟨w.heap.size+1,0,none⟩) 1 1] 22)).alloc (.cells #[.string s] 9)) (w.heap.size+1) 3 [.int .i64 0]:=HE
 have n_R3:Ii ((((w.alloc (.cells #[.slice none 0 0] 131)).alloc (.cells #[.int .i64 0] 3)).alloc (.cells #[.slice (some ⟨w.heap.size+1,0,none⟩) 1 1] 22)).alloc (.cells #[.string s] 9)) (w.heap.size+1+1) 22 [.slice (some ⟨w.heap.size+1,0,none⟩) 1 1]:=HE
 have n_R4:Ii ((((w.alloc (.cells #[.slice none 0 0] 131)).alloc (.cells #[.int .i64 0] 3)).alloc (.cells #[.slice (some ⟨w.heap.size+1,0,none⟩) 1 1] 22)).alloc (.cells #[.string s] 9)) (w.heap.size+1+1+1) 9 [.string s]:=HE
 have hs_w1:w.heap.size+1+1+1 < ((((w.alloc (.cells #[.slice none 0 0] 131)).alloc (.cells #[.int .i64 0] 3)).alloc (.cells #[.slice (some ⟨w.heap.size+1,0,none⟩) 1 1] 22)).alloc (.cells #[.string s] 9)).heap.size:=GD
 replace hT:=hT.below al;have hB:=al;generalize ((((w.alloc (.cells #[.slice none 0 0] 131)).alloc (.cells #[.int .i64 0] 3)).alloc (.cells #[.slice (some ⟨w.heap.size+1,0,none⟩) 1 1] 22)).alloc (.cells #[.string s] 9))=w1 at *;have R1:=n_R1;clear n_R1;have R2:=n_R2;clear n_R2;have R3:=n_R3;clear n_R3;have R4:=n_R4;clear n_R4;clear al;have h0:RdI w w1 FT [] w1:=by
  refine ⟨none,0,[],some ⟨w.heap.size+1,0,none⟩,1,[w.heap.size+1],R1,R3,.inl ⟨rfl,rfl,rfl⟩,FI,?_,FI,FI,FI,FI,hT,hB,Lib.hid rfl⟩;exact .inr ⟨w.heap.size+1,1,[.int .i64 0],[],[],rfl,by simpa using R2,by rw [Vo];simp,GC,rfl,⟨[.int .i64 0],[],[],[],rfl,rfl,⟨rfl,rfl⟩,rfl,rfl⟩,rfl⟩
 refine (wpIn_wide (n:=9)).1 ?_
 apply Aoc (b:=w.heap.size+1+1+1) (xs:=Jf s) (gf:=254) (lb:=#[.pointer (some ⟨w.heap.size+1+1+1,0,none⟩)]) rfl (enters_of func254 FJ rfl) rfl FH
  (fun W0 hW0=>Axm s _ W0 FH (R4.I7 hW0)) (RdI w w1 FT) (RdX w w1 FT) (RdI.I7 FH FH hFT)
  (by
   rintro c ys W W' ⟨hc,pre,x,hy,hi,hk2⟩ hk;exact ⟨hc,pre,x,hy,RdI.I7 FH FH hFT _ _ _ hi hk,hk2⟩) h0
 case hassign =>
  intro m x W K hK;refine Ie (fun _ _ h=>h) FJ ?_;simp only [List.zip_toArray,List.foldl_toArray,List.zip_cons_cons,List.zip_nil_right,List.foldl_cons,List.foldl_nil,List.setIfInBounds_toArray,List.set_cons_zero,List.set_cons_succ];go_wp2_with fail;exact hK
 case hbody =>
  intro m pre post x W hxs hsz hI;clear R1 R2 R3 R4 hT hB h0;have hxl:=Bex hxs;have hcl:=Az0 hxs;have hends:=Ahk pre;have hel:=Vo pre;have hT0:=hFT;obtain ⟨lo,lc,F1,eo,ec,F2,G1,G3,o1,n1,o2,n2,f1,f2,dd,hT,hB,ha⟩:=hI;have S4:Aaq (w.heap.size+1+1+1) W W:=⟨rfl,FH⟩;have S5:Aaq w1.heap.size W W:=⟨rfl,FH⟩;have S6:Aaq (w1.heap.size+1) W W:=⟨rfl,FH⟩;have z1:=Akx 35 x;have z2:=Akw 32 (Q8 35 x);have z3:=Akx 64 (Sr 32 (Q8 35 x));have z4:=Akw 64 (Sr 32 (Q8 35 x));have hk1:=Lib.hid (fun w=>Ay6 x 35 w GC)
  have hk2:=Lib.hid (fun w=>Ay6 (Q8 35 x) 32 w GC);have hk3:=Lib.hid (fun w=>Ay6 (Sr 32 (Q8 35 x)) 64 w GC);have hrec:=Ax9 x;have hcm:(Q8 64 (Sr 32 (Q8 35 x))).data.toList=Af1 x.data.toList:=by simp only [Q8,Sr,Jl,Af1,Ajc]
  have hrp:(Sr 64 (Sr 32 (Q8 35 x))).data.toList=Af9 x.data.toList:=by simp only [Q8,Sr,Jl,Af9,Ajc]
  generalize Q8 35 x=y1 at *;generalize Sr 32 y1=y2 at *;generalize Q8 64 y2=cc at *;generalize Sr 64 y2=rr at *;generalize hy1f:Sr 35 x=y3 at *;generalize hy2f:Q8 32 y1=y4 at *;clear hy1f hy2f;have sc:cc.size≤maxLen:=GC
  have sr:rr.size≤maxLen:=GC
  have hE:=Lib.hid (fun w v hv hT=>Agv (pre.length:Int) v ⟨cc,rr⟩ [] FT w hv hT);have hres:J9 (pre.length:Int) ⟨cc,rr⟩=(bs ((Af3 (pre.length:Int) (Af1 x.data.toList) (Af9 x.data.toList)).getD []),(Af3 (pre.length:Int) (Af1 x.data.toList) (Af9 x.data.toList)).isSome):=by unfold J9;rw [hcm,hrp]
  replace hres:=Lib.hid hres;replace hrec:=Lib.hid hrec;replace hends:=Lib.hid hends;replace hel:=Lib.hid hel;replace hxs:=Lib.hid hxs;clear hcm hrp;refine wpIn_block ?_;refine wpIn_seq_k (fun _ _=>?_);refine Ie (fun _ _ h=>h) FJ ?_;go_wp2_with fail;refine (hk1.out _).mono ?_;rintro e w21 ⟨rfl,j,hj⟩;have hb:Below W.heap.size W w21:=IX
  clear hj;have hs_w21:=hb.size;replace G1:=G1.below hb;replace G3:=G3.below hb;replace o1:=o1.below hb;replace o2:=o2.below hb;replace hT:=hT.below hb;replace S4:=S4.below hb;replace S5:=S5.below hb;replace S6:=S6.below hb;replace hB:=tr hB hb (Nat.le_refl _);clear hb;go_wp2_with fail;refine wpIn_seq_k (fun _ _=>?_);refine Ie (fun _ _ h=>h) FJ ?_;go_wp2_with fail;refine (hk2.out _).mono ?_;rintro e w22 ⟨rfl,j,hj⟩;have hb:Below w21.heap.size w21 w22:=IX
  clear hj;have hs_w22:=hb.size;replace G1:=G1.below hb;replace G3:=G3.below hb;replace o1:=o1.below hb;replace o2:=o2.below hb;replace hT:=hT.below hb;replace S4:=S4.below hb;replace S5:=S5.below hb;replace S6:=S6.below hb;replace hB:=tr hB hb (Nat.le_refl _);clear hb;go_wp2_with fail;refine wpIn_seq_k (fun _ _=>?_);refine Ie (fun _ _ h=>h) FJ ?_;go_wp2_with fail;refine (hk3.out _).mono ?_;rintro e w23 ⟨rfl,j,hj⟩;have hb:Below w22.heap.size w22 w23:=IX
  clear hj;have hs_w23:=hb.size;replace G1:=G1.below hb;replace G3:=G3.below hb;replace o1:=o1.below hb;replace o2:=o2.below hb;replace hT:=hT.below hb;replace S4:=S4.below hb;replace S5:=S5.below hb;replace S6:=S6.below hb;replace hB:=tr hB hb (Nat.le_refl _);clear hb;go_wp2_with fail;clear hk1 hk2 hk3;refine wpIn_seq_k (fun _ _=>?_);refine Ie (fun _ _ h=>h) FJ ?_;go_wp2_with fail;have al:Below w23.heap.size w23 (w23.alloc (.cells #[.string cc,.string rr] 87)):=by
   repeat refine Below.alloc ?_ GD _
   exact Below.refl _ _
  have n_R8:=Ii.made w23 87 [.string cc,.string rr];have hs_w24:w23.heap.size < (w23.alloc (.cells #[.string cc,.string rr] 87)).heap.size:=FI
  replace G1:=G1.below al;replace G3:=G3.below al;replace o1:=o1.below al;replace o2:=o2.below al;replace hT:=hT.below al;replace S4:=S4.below al;replace S5:=S5.below al;replace S6:=S6.below al;replace hB:=tr hB al (Nat.le_refl _);generalize (w23.alloc (.cells #[.string cc,.string rr] 87))=w24 at *;have R8:=n_R8;clear n_R8;clear al;cases henc:Af3 (pre.length:Int) (Af1 x.data.toList) (Af9 x.data.toList) with
  | none =>
   have hno:Z3 pre.length x.data.toList=false:=by unfold Z3;rw [henc];rfl
   have hE2:=hE.out;rw [hres.out,henc] at hE2;replace hE2:=Lib.hid hE2;refine wpIn_seq_k (fun _ _=>?_);refine wpIn_seq_k (fun _ _=>?_);refine Ie (fun _ _ h=>h) FJ ?_;have c_G1:=G1.cells;have f_G1:=G1.frozens;have c_R8:=R8.cells;have f_R8:=R8.frozens;go_wp2_with fail;clear c_G1 f_G1 c_R8 f_R8;refine (hE2.out _ _ ⟨_,rfl,rfl,sc,sr,rfl⟩ hT).mono ?_;rintro e w25 ⟨rfl,hb⟩;have hs_w25:=hb.size;clear hE hE2;replace G1:=G1.below hb;replace G3:=G3.below hb;replace R8:=R8.below hb;replace o1:=o1.below hb;replace o2:=o2.below hb;replace hT:=hT.below hb;replace S4:=S4.below hb
   replace S5:=S5.below hb;replace S6:=S6.below hb;replace hB:=tr hB hb (Nat.le_refl _);clear hb;go_wp2_with fail;refine wpIn_seq_k (fun _ _=>?_);refine Ie (fun _ _ h=>h) FJ ?_;go_wp2_with fail;refine wpIn_cond_true rfl ?_;refine wpIn_exit ?_;refine ⟨fun k hk=>?_,rfl,pre,x,rfl,⟨lo,lc,F1,eo,ec,F2,G1,G3,o1,n1,o2,n2,f1,f2,dd,hT,hB,ha⟩,hno⟩;simp only [List.mem_cons,List.not_mem_nil,or_false] at hk;rcases hk with rfl|rfl|rfl
   ·exact S4.1
   ·exact S5.1
   ·exact S6.1
  | some y =>
   by_cases hyx:y=x.data.toList
   ·have hok:Z3 pre.length x.data.toList=true:=by unfold Z3;rw [henc,hyx];simp
    rw [hyx] at henc;have hE2:=hE.out;rw [hres.out,henc] at hE2;simp only [Option.getD_some,Ae0,Option.isSome_some] at hE2;replace hE2:=Lib.hid hE2;refine wpIn_seq_k (fun _ _=>?_);refine wpIn_seq_k (fun _ _=>?_);refine Ie (fun _ _ h=>h) FJ ?_;have c_G1:=G1.cells;have f_G1:=G1.frozens;have c_R8:=R8.cells;have f_R8:=R8.frozens;go_wp2_with fail;clear c_G1 f_G1 c_R8 f_R8;refine (hE2.out _ _ ⟨_,rfl,rfl,sc,sr,rfl⟩ hT).mono ?_;rintro e w26 ⟨rfl,hb⟩;have hs_w26:=hb.size;clear hE hE2;replace G1:=G1.below hb;replace G3:=G3.below hb;replace R8:=R8.below hb;replace o1:=o1.below hb
    replace o2:=o2.below hb;replace hT:=hT.below hb;replace S4:=S4.below hb;replace S5:=S5.below hb;replace S6:=S6.below hb;replace hB:=tr hB hb (Nat.le_refl _);clear hb;go_wp2_with fail;refine wpIn_seq_k (fun _ _=>?_);refine Ie (fun _ _ h=>h) FJ ?_;go_wp2_with fail;refine wpIn_cond_false rfl ?_;refine wpIn_skip ?_;go_wp2_with fail;have lF1:=o1.lt;have lF2:=o2.lt;have hnd:∀b∈FT,b < w.heap.size:=hT0;clear henc hres;refine wpIn_seq_k (fun _ _=>?_);refine Ie (fun _ _ h=>h) FJ ?_
    have c_G1:=G1.cells;have f_G1:=G1.frozens;have d_G1:=fun o=>(G1.alloc o).cells;have e_G1:=fun o=>(G1.alloc o).frozens;have c_R8:=R8.cells;have f_R8:=R8.frozens;have d_R8:=fun o=>(R8.alloc o).cells;have e_R8:=fun o=>(R8.alloc o).frozens
    go_wp2_with (at_builtin;refine Py Yr FK GE _ _ _ GE 87 (.agg #[.string ⟨#[]⟩,.string ⟨#[]⟩]) 32 underlying131 Ahu rfl (.slice lo pre.length lc) (pre.map Afn) F1 GE (o1.below ((Below.refl _ _).alloc (Nat.le_refl _) _)) (Hd.of n1) (some ⟨w26.heap.size,0,none⟩) [⟨cc,rr⟩] 1 GE [.string cc,.string rr] [] (Cy.one ⟨rfl,sc,sr,rfl⟩) (.inr ⟨_,rfl,World.news_of_block (heap_alloc_new w26 _)⟩) FI (by simp;unfold maxLen;omega) FO ?_);clear c_G1 f_G1 d_G1 e_G1 c_R8 f_R8 d_R8 e_R8;intro v6 w27 F6 hA
    have o6:=hA.ow;have n6:=hA.Bbd n1 FI FI;have m6:=hA.mem;have K6:=hA.I7;obtain ⟨a6,c6,hv6⟩:=hA.val;clear hA;have hv7:v6=.slice a6 (pre.length+1) c6:=by simpa using hv6
    subst hv7;clear hv6;have al:=(Below.refl w26.heap.size w26).alloc (Nat.le_refl _) (.cells #[.string cc,.string rr] 87);have hs_w27:w26.heap.size+1≤w27.heap.size:=by have:=K6.size;simpa using this
    have f6:∀b∈F6,w1.heap.size+1 < b:=fun b hb=>by
     rcases m6 b hb with h7|h7|h7
     ·exact f1 b h7
     ·simp at h7
     ·simp at h7;omega
    have d6:∀b∈F6,b ∉ F2:=fun b hb hm=>by
     rcases m6 b hb with h7|h7|h7
     ·exact dd b h7 hm
     ·simp at h7
     ·have:=lF2 b hm;simp at h7;omega
    replace G1:=(G1.below al).keepK K6 (fun hm=>by have:=f1 _ hm;omega);replace G3:=(G3.below al).keepK K6 (fun hm=>by have:=f1 _ hm;omega);replace o2:=(o2.below al).I7 K6 (fun b hb hm=>dd b hm hb);replace hT:=(hT.below al).I7 K6 (fun b hb hm=>by have:=f1 b hm;have:=hnd b hb;omega);replace S4:=(S4.below al).keepK K6 (fun hm=>by have:=f1 _ hm;omega);replace S5:=(S5.below al).keepK K6 (fun hm=>by have:=f1 _ hm;omega);replace S6:=(S6.below al).keepK K6 (fun hm=>by have:=f1 _ hm;omega)
    replace hB:=(tr hB al (Nat.le_refl _)).trans (K6.below (B:=w.heap.size) (by have:=hB.size;simp;omega) (fun b hb=>by have:=f1 b hb;omega));clear K6 m6 al o1 n1 dd lF1 lF2 R8;have c_G1:=G1.cells;have f_G1:=G1.frozens;go_wp2_with fail;clear c_G1 f_G1;have K7:Dr [w.heap.size] w27 (w27.setCell ⟨w.heap.size,0,none⟩ (.slice a6 (pre.length+1) c6)):=(Dr.refl _ _).setCell FI _;have G1b:Ii (w27.setCell ⟨w.heap.size,0,none⟩ (.slice a6 (pre.length+1) c6)) w.heap.size 131 [(.slice a6 (pre.length+1) c6)]:=G1.set 0 (.slice a6 (pre.length+1) c6);replace G3:=G3.keepK K7 FO
    replace o2:=o2.I7 K7 (fun b hb hm=>by have:=f2 b hb;simp at hm;omega);replace o6:=o6.I7 K7 (fun b hb hm=>by have:=f6 b hb;simp at hm;omega);replace hT:=hT.I7 K7 (fun b hb hm=>by have:=hnd b hb;simp at hm;omega);replace S4:=S4.keepK K7 FO;replace S5:=S5.keepK K7 FO;replace S6:=S6.keepK K7 FO;replace hB:=hB.trans (K7.below (B:=w.heap.size) (by have:=hB.size;omega) (fun b hb=>by simp at hb;omega));have hs_w28:w27.heap.size≤(w27.setCell ⟨w.heap.size,0,none⟩ (.slice a6 (pre.length+1) c6)).heap.size:=K7.size;clear K7 G1
    generalize (w27.setCell ⟨w.heap.size,0,none⟩ (.slice a6 (pre.length+1) c6))=w28 at *;have G1:=G1b;clear G1b;obtain ⟨gb,off,rfl⟩:=Av7 o2;have hw4:=Lib.hid (show IntKind.i64.wrap (pre.length:Int)=(pre.length:Int) from by rw [IntKind.wrap_i64];omega);have hw9:=Lib.hid (show IntKind.i64.wrap ((Pq pre:Int)+(x.size:Int))=(Pq pre:Int)+(x.size:Int) from by rw [IntKind.wrap_i64];omega)
    refine E9.startIn (S:=(fun w'=>w'.cell? ⟨w.heap.size+1+1,0,none⟩=some (.slice (some ⟨gb,off,none⟩) (pre.length+1) ec)∧w'.cell? ⟨gb,off+pre.length,none⟩=some (.int .i64 (Pq pre:Int)))) (X:=(fun i=>i == 11 || i == 12)) FJ (fun _ _ h=>h) FJ ?_;have al:Below w28.heap.size w28 w28.drew:=Dt (Below.refl _ _) 1;have hs_w29:=al.size;replace G1:=G1.below al;replace G3:=G3.below al;replace o2:=o2.below al;replace hT:=hT.below al;replace S4:=S4.below al;replace S5:=S5.below al;replace S6:=S6.below al;replace o6:=o6.below al;replace hB:=tr hB al (Nat.le_refl _)
    generalize w28.drew=w29 at *;clear al;have hS:(fun w'=>w'.cell? ⟨w.heap.size+1+1,0,none⟩=some (.slice (some ⟨gb,off,none⟩) (pre.length+1) ec)∧w'.cell? ⟨gb,off+pre.length,none⟩=some (.int .i64 (Pq pre:Int))) w29:=⟨G3.cells 0,Ak0 o2⟩;refine E9.take (i:=0) (oi:=_) (v:=?_) FQ FJ FJ FJ FJ FJ GK (Or.inl ⟨GE,?_⟩) hS ?_
    rotate_left
    ·(intro wS hSw;(try dsimp only at hSw);go_simp;try with_reducible rfl)
    try simp only [Act.put,List.setIfInBounds_toArray,List.set_cons_zero,List.set_cons_succ]
    refine E9.take (i:=1) (oi:=_) (v:=?_) FQ FJ FJ FJ FJ FJ GK (Or.inl ⟨GE,?_⟩) hS ?_
    rotate_left
    ·(intro wS hSw;(try dsimp only at hSw);go_simp;try with_reducible rfl)
    try simp only [Act.put,List.setIfInBounds_toArray,List.set_cons_zero,List.set_cons_succ]
    refine E9.take (i:=2) (oi:=_) (v:=?_) FQ FJ FJ FJ FJ FJ GK (Or.inl ⟨GE,?_⟩) hS ?_
    rotate_left
    ·(intro wS hSw;(try dsimp only at hSw);go_simp;try with_reducible rfl)
    try simp only [Act.put,List.setIfInBounds_toArray,List.set_cons_zero,List.set_cons_succ]
    refine E9.take (i:=3) (oi:=_) (v:=?_) FQ FJ FJ FJ FJ FJ GK (Or.inl ⟨GE,?_⟩) hS ?_
    rotate_left
    ·(intro wS hSw;(try dsimp only at hSw);go_simp;try with_reducible rfl)
    try simp only [Act.put,List.setIfInBounds_toArray,List.set_cons_zero,List.set_cons_succ]
    refine E9.take (i:=4) (oi:=_) (v:=?_) FQ FJ FJ FJ FJ FJ GK (Or.inl ⟨GE,?_⟩) hS ?_
    rotate_left
    ·(intro wS hSw;(try dsimp only at hSw);go_simp;rw [hw4.out];try with_reducible rfl)
    try simp only [Act.put,List.setIfInBounds_toArray,List.set_cons_zero,List.set_cons_succ]
    refine E9.take (i:=5) (oi:=_) (v:=?_) FQ FJ FJ FJ FJ FJ GK (Or.inl ⟨GE,?_⟩) hS ?_
    rotate_left
    ·(intro wS hSw;(try dsimp only at hSw);go_simp;rw [if_pos FH];try with_reducible rfl)
    try simp only [Act.put,List.setIfInBounds_toArray,List.set_cons_zero,List.set_cons_succ]
    refine E9.take (i:=6) (oi:=_) (v:=?_) FQ FJ FJ FJ FJ FJ GK (Or.inl ⟨GE,?_⟩) hS ?_
    rotate_left
    ·(intro wS hSw;(try dsimp only at hSw);go_simp;try with_reducible rfl)
    try simp only [Act.put,List.setIfInBounds_toArray,List.set_cons_zero,List.set_cons_succ]
    refine E9.take (i:=7) (oi:=_) (v:=?_) FQ FJ FJ FJ FJ FJ GK (Or.inl ⟨GE,?_⟩) hS ?_
    rotate_left
    ·(intro wS hSw;(try dsimp only at hSw);go_simp;try with_reducible rfl)
    try simp only [Act.put,List.setIfInBounds_toArray,List.set_cons_zero,List.set_cons_succ]
    refine E9.take (i:=8) (oi:=_) (v:=?_) FQ FJ FJ FJ FJ FJ GK (Or.inl ⟨GE,?_⟩) hS ?_
    rotate_left
    ·(intro wS hSw;(try dsimp only at hSw);go_simp;try with_reducible rfl)
    try simp only [Act.put,List.setIfInBounds_toArray,List.set_cons_zero,List.set_cons_succ]
    refine E9.take (i:=9) (oi:=_) (v:=?_) FQ FJ FJ FJ FJ FJ GK (Or.inl ⟨GE,?_⟩) hS ?_
    rotate_left
    ·(intro wS hSw;(try dsimp only at hSw);go_simp;rw [hw9.out];try with_reducible rfl)
    try simp only [Act.put,List.setIfInBounds_toArray,List.set_cons_zero,List.set_cons_succ]
    refine E9.only (i:=10) (o:=_) FJ FQ (fun K hK=>?_)
    go_simp
    have al:Below w29.heap.size w29 (w29.alloc (.cells #[.int .i64 ((Pq pre:Int)+(x.size:Int))] 3)):=by
     repeat refine Below.alloc ?_ GD _
     exact Below.refl _ _
    have n_R9:=Ii.made w29 3 [.int .i64 ((Pq pre:Int)+(x.size:Int))];have hs_w30:w29.heap.size < (w29.alloc (.cells #[.int .i64 ((Pq pre:Int)+(x.size:Int))] 3)).heap.size:=FI
    replace G1:=G1.below al;replace G3:=G3.below al;replace o2:=o2.below al;replace hT:=hT.below al;replace S4:=S4.below al;replace S5:=S5.below al;replace S6:=S6.below al;replace o6:=o6.below al;replace hB:=tr hB al (Nat.le_refl _);generalize (w29.alloc (.cells #[.int .i64 ((Pq pre:Int)+(x.size:Int))] 3))=w30 at *;have R9:=n_R9;clear n_R9;clear al;clear hS;have hS:(fun w'=>w'.cell? ⟨w.heap.size+1+1,0,none⟩=some (.slice (some ⟨gb,off,none⟩) (pre.length+1) ec)∧w'.cell? ⟨gb,off+pre.length,none⟩=some (.int .i64 (Pq pre:Int))) w30:=⟨G3.cells 0,Ak0 o2⟩;refine hK.out _ _ (fun _=>hS) ?_;clear hK K
    try simp only [Act.put,List.setIfInBounds_toArray,List.set_cons_zero,List.set_cons_succ]
    refine E9.only (i:=11) (o:=_) FJ FQ (fun K hK=>?_);have lF2:=o2.lt;have lF6:=o6.lt;refine Aq6 C8 FK GE _ _ _ GE 3 (.int .i64 0) 8 underlying22 Ahv rfl (.slice (some ⟨gb,off,none⟩) (pre.length+1) ec) (Xt pre) F2 GE o2 (Hd.of n2) (some ⟨w29.heap.size,0,none⟩) [(Pq pre:Int)+(x.size:Int)] 1 GE [.int .i64 ((Pq pre:Int)+(x.size:Int))] [] (Cy.one ⟨rfl,rfl⟩) (.inr ⟨_,rfl,(Bb4 R9)⟩) FI (by have:=hel.out;simp;unfold maxLen;omega) (by have:=hel.out;simp;omega) ?_;intro v8 w31 F8 hA
    have o8:=hA.ow;have n8:=hA.Bbd n2 FI FI;have m8:=hA.mem;have K8:=hA.I7;obtain ⟨a8,c8,hv8⟩:=hA.val;clear hA;have hv9:v8=.slice a8 (pre.length+1+1) c8:=by rw [hv8,hel.out];rfl
    subst hv9;clear hv8;have hs_w31:=K8.size;have f8:∀b∈F8,b=w.heap.size+1∨w1.heap.size+1 < b:=fun b hb=>by
     rcases m8 b hb with h7|h7|h7
     ·exact f2 b h7
     ·simp at h7
     ·omega
    have d8:∀b∈F6,b ∉ F8:=fun b hb hm=>by
     rcases m8 b hm with h7|h7|h7
     ·exact d6 b hb h7
     ·simp at h7
     ·have:=lF6 b hb;omega
    replace G1:=G1.keepK K8 (fun hm=>by have:=f2 _ hm;omega);replace G3:=G3.keepK K8 (fun hm=>by have:=f2 _ hm;omega);replace o6:=o6.I7 K8 (fun b hb hm=>d6 b hb hm);replace hT:=hT.I7 K8 (fun b hb hm=>by have:=f2 b hm;have:=hnd b hb;omega);replace S4:=S4.keepK K8 (fun hm=>by have:=f2 _ hm;omega);replace S5:=S5.keepK K8 (fun hm=>by have:=f2 _ hm;omega);replace S6:=S6.keepK K8 (fun hm=>by have:=f2 _ hm;omega);replace hB:=hB.trans (K8.below (B:=w.heap.size) (by have:=hB.size;omega) (fun b hb=>by have:=f2 b hb;omega));clear K8 m8 lF2 lF6 R9 o2;refine hK.out _ _ (fun h=>by cases h) ?_;clear hK K
    try simp only [Act.put,List.setIfInBounds_toArray,List.set_cons_zero,List.set_cons_succ]
    refine E9.only (i:=12) (o:=_) FJ FQ (fun K hK=>?_);have c_G3:=G3.cells;have f_G3:=G3.frozens
    go_simp
    clear c_G3 f_G3;refine hK.out _ _ (fun h=>by cases h) ?_;clear hK K
    try simp only [Act.put,List.setIfInBounds_toArray,List.set_cons_zero,List.set_cons_succ]
    refine E9.done FJ ?_ _
    (try clear hS)
    have K9:Dr [w.heap.size+1+1] w31 (w31.setCell ⟨w.heap.size+1+1,0,none⟩ (.slice a8 (pre.length+1+1) c8)):=(Dr.refl _ _).setCell FI _;have G3b:Ii (w31.setCell ⟨w.heap.size+1+1,0,none⟩ (.slice a8 (pre.length+1+1) c8)) (w.heap.size+1+1) 22 [(.slice a8 (pre.length+1+1) c8)]:=G3.set 0 (.slice a8 (pre.length+1+1) c8);replace G1:=G1.keepK K9 GD;replace o6:=o6.I7 K9 (fun b hb hm=>by have:=f6 b hb;simp at hm;omega);replace o8:=o8.I7 K9 (fun b hb hm=>by have:=f8 b hb;simp at hm;omega);replace hT:=hT.I7 K9 (fun b hb hm=>by have:=hnd b hb;simp at hm;omega)
    replace S4:=S4.keepK K9 GD;replace S5:=S5.keepK K9 GD;replace S6:=S6.keepK K9 GD;replace hB:=hB.trans (K9.below (B:=w.heap.size) (by have:=hB.size;omega) (fun b hb=>by simp at hb;omega));have hlen:(pre++[x]).length=pre.length+1:=FI
    have hmap:(pre++[x]).map Afn=pre.map Afn++[⟨cc,rr⟩]:=by rw [List.map_append,←hrec.out];rfl
    refine ⟨fun k hk=>?_,?_⟩
    ·simp only [List.mem_cons,List.not_mem_nil,or_false] at hk;rcases hk with rfl|rfl|rfl
     ·exact S4.1
     ·exact S5.1
     ·exact S6.1
    ·unfold RdI;rw [hlen,hmap,Ash,W7];exact ⟨a6,c6,F6,a8,c8,F8,G1,G3b,o6,n6,o8,n8,f6,f8,d8,hT,hB,Lib.hid (Aos ha.out (by rw [Sh,Nat.zero_add];exact hok))⟩
   ·have hno:Z3 pre.length x.data.toList=false:=by unfold Z3;rw [henc];simpa using hyx
    have hne:((bs y).toList == x.toList)=false:=by rw [ByteArray.toList_eq,ByteArray.toList_eq,Jl];simpa using hyx
    have hE2:=hE.out;rw [hres.out,henc] at hE2;replace hE2:=Lib.hid hE2;refine wpIn_seq_k (fun _ _=>?_);refine wpIn_seq_k (fun _ _=>?_);refine Ie (fun _ _ h=>h) FJ ?_;have c_G1:=G1.cells;have f_G1:=G1.frozens;have c_R8:=R8.cells;have f_R8:=R8.frozens;go_wp2_with fail;clear c_G1 f_G1 c_R8 f_R8;refine (hE2.out _ _ ⟨_,rfl,rfl,sc,sr,rfl⟩ hT).mono ?_;rintro e w32 ⟨rfl,hb⟩;have hs_w32:=hb.size;clear hE hE2;replace G1:=G1.below hb;replace G3:=G3.below hb;replace R8:=R8.below hb;replace o1:=o1.below hb;replace o2:=o2.below hb;replace hT:=hT.below hb;replace S4:=S4.below hb
    replace S5:=S5.below hb;replace S6:=S6.below hb;replace hB:=tr hB hb (Nat.le_refl _);clear hb;go_wp2_with fail;refine wpIn_seq_k (fun _ _=>?_);refine Ie (fun _ _ h=>h) FJ ?_;go_wp2_with fail;refine wpIn_cond_true rfl ?_;refine wpIn_exit ?_;refine ⟨fun k hk=>?_,rfl,pre,x,rfl,⟨lo,lc,F1,eo,ec,F2,G1,G3,o1,n1,o2,n2,f1,f2,dd,hT,hB,ha⟩,hno⟩;simp only [List.mem_cons,List.not_mem_nil,or_false] at hk;rcases hk with rfl|rfl|rfl
    ·exact S4.1
    ·exact S5.1
    ·exact S6.1
 case hdone =>
  intro W hi hD;obtain ⟨lo,lc,eo,ec,r1,r3,hp⟩:=RdI.post (s:=s) FH (Atc hi.acc) hi;replace hp:=Lib.hid hp;clear R1 R2 R3 R4 hT hB h0 hi;have c1:=r1.cells;have c3:=r3.cells;go_wp2_with fail
  go_quiet (fail)
  go_wp2_with fail;refine ⟨FI,.inl ⟨_,_,rfl,run_takeDeferred (show (World.drewN W nq).heap[w1.heap.size]?=_ from hD),?_⟩⟩;refine ⟨_,?_,hp.out _ ⟨rfl,rfl,rfl,by simp [World.drewN],fun k hk hm=>World.putObj_heap_other KU⟩⟩;simp [results,results92,go_sem]
 case hstop =>
  intro c pre post x W hxs hix hD;obtain ⟨rfl,pre',x',hy,hi,hok⟩:=hix;obtain ⟨rfl,hxx⟩:=List.append_inj' hy rfl;simp only [List.cons.injEq,and_true] at hxx;subst hxx;obtain ⟨lo,lc,eo,ec,r1,r3,hp⟩:=RdI.post (s:=s) FH (Aql hxs hi.acc hok) hi;replace hp:=Lib.hid hp;clear R1 R2 R3 R4 hT hB h0 hi hxs hy;refine wpIn_exit ?_;have c1:=r1.cells;have c3:=r3.cells;go_wp2_with fail
  go_quiet (fail)
  go_wp2_with fail;refine ⟨FI,.inl ⟨_,_,rfl,run_takeDeferred (show (World.drewN W nq).heap[w1.heap.size]?=_ from hD),?_⟩⟩;refine ⟨_,?_,hp.out _ ⟨rfl,rfl,rfl,by simp [World.drewN],fun k hk hm=>World.putObj_heap_other KU⟩⟩;simp [results,results92,go_sem]
theorem Avw (xs:List Bs):acc 60 xs=[]:=by
 cases xs with
 | nil=>rfl
 | cons x r =>
  have:Z3 60 x=false:=by
   cases h:Z3 60 x with
   | false=>rfl
   | true=>obtain ⟨c,r,hk,_⟩:=Uz.1 h;omega
  simp [acc,this]
theorem Alv {l rest:Bs} {pre:List Bs} (hl:l=pre.flatten++rest) (h:acc 0 pre=pre):Bp l=pre++acc pre.length (D9 rest):=by rw [hl];exact Tj h rest
theorem Asn {rest:Bs} (h:rest≠[]):∃x post,D9 rest=x::post∧(10∈rest→x=Ee 10 rest++[10]∧post=D9 (My 10 rest))∧(10 ∉ rest→x=rest):=by
 rcases Pp 10 rest with ⟨h1,h2⟩|⟨h1,h2,_⟩
 ·refine ⟨Ee 10 rest++[10],D9 (My 10 rest),?_,fun _=>⟨rfl,rfl⟩,fun e=>absurd h1 e⟩
  conv=>lhs;rw [h2]
  exact Ug _ Ac6
 ·exact ⟨rest,[],W5 h fun c hc e=>h1 (by rw [←e];exact hc),fun e=>absurd e h1,fun _=>rfl⟩
theorem Afk {l rest:Bs} {pre:List Bs} (hl:l=pre.flatten++rest) (h:acc 0 pre=pre) (hr:rest=[]∨pre.length=60):Bp l=pre:=by
 rw [Alv hl h];rcases hr with rfl|hr
 ·simp [D9,acc]
 ·rw [hr,Avw];simp
theorem Aig {l rest:Bs} {pre:List Bs} (hl:l=pre.flatten++rest) (h:acc 0 pre=pre) (hr:rest≠[]) (hb:10 ∉ rest∨Z3 pre.length (Ee 10 rest++[10])=false):Bp l=pre:=by
 rw [Alv hl h];obtain ⟨x,post,hx,h1,h2⟩:=Asn hr;have:Z3 pre.length x=false:=by
  by_cases hm:10∈rest
  ·rw [(h1 hm).1];exact hb.resolve_left (fun e=>e hm)
  ·rw [h2 hm];exact Bho fun b hb e=>hm (by rw [←e];exact hb)
 rw [hx];simp [acc,this]
theorem Aqk {l rest:Bs} {pre:List Bs} (hl:l=pre.flatten++rest) (h:acc 0 pre=pre) (hm:10∈rest) (hok:Z3 pre.length (Ee 10 rest++[10])=true) :
  acc 0 (pre++[Ee 10 rest++[10]])=pre++[Ee 10 rest++[10]]∧l=(pre++[Ee 10 rest++[10]]).flatten++My 10 rest:=by
 refine ⟨Aos h (by rw [Nat.zero_add];exact hok),?_⟩;rcases Pp 10 rest with ⟨_,h2⟩|⟨h2,_⟩
 ·rw [hl];conv=>lhs;rw [h2]
  simp
 ·exact absurd hm h2
theorem Ayj (c:UInt8) (l:Bs):(Dm c l).length < 2↔c ∉ l:=by
 obtain ⟨r,hr,he⟩:=Sp c l;rw [hr,←he];cases r <;> simp
theorem Bhu {k:Nat} {x:Bs} (h:Z3 k x=true):(Ri x).I8.size≤maxLen∧(Ri x).Gw.size≤maxLen:=by
 obtain ⟨c,r,_,hg,e⟩:=Uz.1 h;have hG:=Je hg;rw [e];unfold Ri;rw [Ag8 hG,Aiq hG];have:=hG.c1;have:=hG.r1;show (bs c).size≤_∧(bs r).size≤_;rw [Jm,Jm];unfold maxLen;omega
structure OpS where
 pre:List Bs
 rest:Bs
 a:Option Addr
 c:Nat
 F:List Nat
structure Bj7 (l:Bs) (z:OpS):Prop where
 l:l=z.pre.flatten++z.rest
 a:acc 0 z.pre=z.pre
 p:z.pre.length≤60
theorem Alm (s:ByteArray) (hs:s.size≤16777216):Fn prog 70 [.string s] [] [] (fun (_:Option Addr × Nat × List Nat)=>True) (fun z=>.tuple #[.slice z.1 ((Bp s.data.toList).map Ri).length z.2.1,.int .i64 ((Bp s.data.toList).flatten.length:Nat)]) (fun z=>[.ow Nb 87 (.slice z.1 ((Bp s.data.toList).map Ri).length z.2.1) ((Bp s.data.toList).map Ri) z.2.2]):=by
 refine enter func70 rfl ntmps70 fun w0=>?_;refine go ?_;intros;refine C7 Nb ?_;refine go ?_;intros;refine Cd [0,2,3] (fun z:OpS=>[(4,.slice z.a (z.pre.map Ri).length z.c),(5,.int .i64 (z.pre.flatten.length:Nat))]) (fun z=>[.ow Nb 87 (.slice z.a (z.pre.map Ri).length z.c) (z.pre.map Ri) z.F]) (Bj7 s.data.toList) (fun z=>z.rest.length) ⟨[],s.data.toList,_,_,_⟩ ⟨rfl,rfl,Nat.zero_le _⟩ fun z hz=>?_;have hsz:=congrArg List.length hz.l;rw [Ct,List.length_append] at hsz;have hp:=hz.p;have hml:(z.pre.map Ri).length=z.pre.length:=List.length_map ..
 have hend:Bp s.data.toList=z.pre→z.pre=Bp s.data.toList:=Eq.symm;refine go ?_;intros;by_cases hr:z.rest=[]
 ·have hop:=Afk hz.l hz.a (.inl hr);rw [show decide (((z.pre.flatten.length:Nat):Int) < (s.size:Int))=false from decide_eq_false (by rw [hr,List.length_nil] at hsz;omega)];exact CZ
 have hr1:0 < z.rest.length:=List.length_pos_iff.2 hr;rw [show decide (((z.pre.flatten.length:Nat):Int) < (s.size:Int))=true from decide_eq_true FH];refine go ?_;intros;refine A1 rfl (fun h6=>?_) (fun h6=>?_)
 rotate_left
 ·have hop:=Afk hz.l hz.a (.inr FH);exact CZ
 have hp9:z.pre.length≤59:=FH
 refine go ?_;intros;apply wO;apply oc;rfl;exact Ajo rfl rfl FH FH;rw [show s.extract ((z.pre.flatten.length:Nat):Int).toNat s.size=bs z.rest by rw [show ((z.pre.flatten.length:Nat):Int).toNat=z.pre.flatten.length from rfl,Ze,hz.l,List.drop_left]];have hrz:(bs z.rest).size≤16777216:=by rw [Jm];omega
 refine go ?_;intros;refine cn (fun w st=>Ad1 (bs z.rest) 10 w hrz) fun a2 c2 F2=>?_;rw [Jl];refine A4 (E:=A8) (xs:=(Dm 10 z.rest).map bs) fun F3=>?_;have hi8:=Anv 10 z.rest;refine Mx (xs:=(Dm 10 z.rest).map bs) 0 ?_;rintro hi0 b0 o0 rfl q0;rw [Anu];have hus:=Ac5 10 z.rest;have hus2:=Jm (Ee 10 z.rest);have hls:=Ayj 10 z.rest
 obtain ⟨cc,rr,hRf,hrec⟩:∃cc rr,FV 140 [.string (bs (Ee 10 z.rest)),.int .i64 ((z.pre.map Ri).length:Int)] [] (.tuple #[.agg #[.string cc,.string rr],.bool (Z3 z.pre.length (Ee 10 z.rest++[10]))])∧(Z3 z.pre.length (Ee 10 z.rest++[10])=true→(⟨cc,rr⟩:Ov)=Ri (Ee 10 z.rest++[10])):=by
  have hRf:=Axg (bs (Ee 10 z.rest)) z.pre.length hp9 FH;rw [Jl,Aqu hp9] at hRf;rw [hml];refine ⟨_,_,hRf,fun h=>?_⟩;rw [Ax6 (by rw [Aqu hp9];exact h)];rfl
 have hsl:((Dm 10 z.rest).map bs).length=(Dm 10 z.rest).length:=List.length_map ..;refine go ?_;intros;refine Ca hRf fun _ _=>?_;refine go ?_;intros;by_cases hm:10∈z.rest
 ·rw [show decide ((((Dm 10 z.rest).map bs).length:Int) < 2)=false from decide_eq_false (by have:=mt hls.1 (fun h=>h hm);omega)];cases hok:Z3 z.pre.length (Ee 10 z.rest++[10])
  ·have hop:=Aig hz.l hz.a hr (.inr hok);exact CZ
  obtain ⟨hg1,hg2⟩:=Aqk hz.l hz.a hm hok;have hq:=Bhu hok;have hbl:=congrArg List.length hg2;rw [Ct,List.length_append] at hbl;have e9:∀x,x=Ri (Ee 10 z.rest++[10])→z.pre.map Ri++[x]=(z.pre++[Ee 10 z.rest++[10]]).map Ri:=fun x h=>by rw [h,List.map_append];rfl
  have e9:=e9 ⟨cc,rr⟩ (hrec hok);rw [←hrec hok] at hq;refine Og ?_;intros;apply wO;refine Ps (Aj0 ⟨cc,rr⟩ hq.1 hq.2) Yr fun a9 c9 F9=>?_;rw [e9];have hfl:(z.pre++[Ee 10 z.rest++[10]]).flatten.length=z.pre.flatten.length+(Ee 10 z.rest).length+1:=FO
  refine go ?_;intros;rw [show ((z.pre.flatten.length:Nat):Int)+((bs (Ee 10 z.rest)).size:Int)+1=(((z.pre++[Ee 10 z.rest++[10]]).flatten.length:Nat):Int) by rw [hfl];omega];refine Cg ⟨z.pre++[Ee 10 z.rest++[10]],My 10 z.rest,a9,c9,F9⟩ ⟨hg2,hg1,by show (z.pre++[_]).length≤60;simp;omega⟩ (by show (My 10 z.rest).length < z.rest.length;omega)
 ·have hop:=Aig hz.l hz.a hr (.inl hm);rw [show decide ((((Dm 10 z.rest).map bs).length:Int) < 2)=true from decide_eq_true (by have:=hls.2 hm;omega)];exact CZ
theorem Afw {d p:Bs} {n:Int} (h:Kl d p n=true):0≤n∧n≤60:=by
 have h1:=(Arq h).Yb;have h2:=(Ni (d++p)).2;omega
theorem Alp {k:Nat} {c r:ByteArray} (hk:k≤59) (h:Bv c r=true):(bs (Kz k c.data.toList r.data.toList)).size≤372:=by
 rw [Jm];exact Ad6 hk (Je (by rw [←Oy];exact h))
theorem Avs (v:Value) (xs:List Int) (F:List Nat) (z:Int) (w:World) (h:Sl Bb w v xs F) :
  Calls prog 183 #[v,.int .i64 z] w fun e w'=>e=.returned (.int .i64 (Ss (fun x=>z == x) xs))∧w=w':=by
 obtain ⟨a,cap,rfl⟩:=h.slice;obtain ⟨-,hl,hc⟩:=h.int;unfold maxLen at hl
 go_enter func183,ntmps183
 go_wp2
 go_loop [5,8] (fun _ i=>∃k:Nat,k≤xs.length∧i=.int .i64 k∧Hid (∀j,j < k→∀hj:j < xs.length,(z == xs[j])=false)) (fun _ i=>xs.length - (intOf i).toNat)
 case atStart=>exact ⟨0,Nat.zero_le _,rfl,fun j hj=>by omega⟩
 case round =>
  obtain ⟨k,hk,rfl,hz⟩:=hrel;by_cases hlt:k < xs.length
  ·obtain ⟨b,off,rfl,c0⟩:=hc k hlt;clear hc;cases hp:(z == xs[k])
   ·have hp2:=Lib.hid hp
    go_wp2
    exact ⟨⟨k+1,FH,HL,Lib.hid fun j hj hl=>by rcases Nat.lt_or_eq_of_le (Nat.le_of_lt_succ hj) with h|h;exact hz.out j h hl;subst h;exact hp2.out⟩,GO⟩
   ·have hp2:=Lib.hid hp
    go_wp2
    go_ret
    exact ⟨Hv (Ph hlt hz.out hp2.out).symm,rfl⟩
  ·go_wp2
   go_ret
   exact ⟨Hv (Nt (fun j hj=>hz.out j FH hj)).symm,rfl⟩
theorem Abq (v:Value) (xs:List Int) (F:List Nat) (z:Int) (w:World) (h:Sl Bb w v xs F) :
  Calls prog 93 #[v,.int .i64 z] w fun e w'=>e=.returned (.bool (xs.any fun x=>z == x))∧w=w':=by
 go_enter func93,ntmps93
 go_wp2_with fail;refine (Avs v xs F z _ h).mono ?_;rintro e w1 ⟨rfl,rfl⟩;go_wp2_with fail
 go_ret
 exact ⟨Ci (T9 _ xs),rfl⟩
theorem Azp (A:List Bs) (n:Nat):(((Ln 0 A).map Int.ofNat).any fun x=>(n:Int) == x)=(Ln 0 A).contains n:=by
 generalize Ln 0 A=l
 induction l with
 | nil=>rfl
 | cons a l ih =>
  rw [List.map_cons,List.any_cons,ih,List.contains_cons]
  congr 1
  rw [Bool.eq_iff_iff];simp;constructor <;> intro h <;> omega
end Go.Proofs.YtcmighgaiacgoaaGreatDoor.Lg
namespace Go.Proofs.YtcmighgaiacgoaaGreatDoor
open Go.RowKit
theorem Avl {FT:List Nat} {w:World} (h:(Gs FT).P w):Jz Lg.Ade w (.agg #[]) () [3]:=by
 have ht:=(Gs.env h).1;have hc:=Lib.TabIs.cell ht (g:=3) FJ 0 (by rw [Lib.pow10Tab_length];omega);exact ⟨[],rfl,rfl,ht,rfl,World.block_lt_of_cell? w ⟨3,0,none⟩ hc⟩
theorem Bkj {p q:Pc} (h:Aew p q):S9 [p,q]:=⟨JS,FI,trivial⟩
theorem Aj9 (s:ByteArray) (hs:s.size≤16777216) (FT:List Nat):Fn prog 92 [.string s] [Gs FT] [] (fun (_:(Option Addr × Nat × List Nat) × (Option Addr × Nat × List Nat))=>True) (fun z=>.tuple #[.slice z.1.1 ((Bp s.data.toList).map Lg.Ri).length z.1.2.1,.slice z.2.1 ((Ln 0 (Bp s.data.toList)).map Int.ofNat).length z.2.2.1]) (fun z=>[.ow Nb 87 (.slice z.1.1 ((Bp s.data.toList).map Lg.Ri).length z.1.2.1) ((Bp s.data.toList).map Lg.Ri) z.1.2.2,.ow Bb 3 (.slice z.2.1 ((Ln 0 (Bp s.data.toList)).map Int.ofNat).length z.2.2.1) ((Ln 0 (Bp s.data.toList)).map Int.ofNat) z.2.2.2]):=fun w hA _=>by
 refine (Lg.Aj8 s _ w hs (Avl (hA (Gs FT) FI))).mono ?_;rintro e w' ⟨u0,G0,u1,G1,rfl,o0,n0,o1,n1,b0,b1,dj,hB⟩;obtain ⟨a,c,rfl⟩:=o0.slice;obtain ⟨b,k,rfl⟩:=o1.slice;refine ⟨((a,c,G0),(b,k,G1)),trivial,rfl,Nn ⟨n0,o0⟩ ⟨n1,o1⟩,Bkj ?_,Dr.ofBelow hB,fun p hp q hq=>?_⟩
 ·exact fun _ q hq hp=>dj q hq hp
 ·simp only [List.mem_cons,List.not_mem_nil,or_false] at hp;rcases hp with rfl|rfl
  ·exact .inl (b0 q hq)
  ·exact .inl (b1 q hq)
theorem Amn (d p:ByteArray) (n:Int) (FT:List Nat) (hz:d.size+p.size≤1048576):FV 46 [.agg #[.string d,.string p,.int .i64 n]] [Gs FT] (.bool (Kl d.data.toList p.data.toList n)):=by
 have hsm:=Ni (d.data.toList++p.data.toList);have hvp:Kl d.data.toList p.data.toList n=(decide ((Bp (d.data.toList++p.data.toList)).flatten.length=d.size+p.size) && (Ln 0 (Bp (d.data.toList++p.data.toList))).contains d.size && decide (n=((Bp (d.data.toList++p.data.toList)).length:Int))):=by rw [←Bda];unfold At7;rw [Ct,Ct]
 have hR:=Aj9 (d++p) (by rw [ByteArray.size_append];omega) FT;rw [Lg.Im] at hR;have hL:=Aa0 (n:=0) (xs:=Bp (d.data.toList++p.data.toList));have hc:=Lg.Azp (Bp (d.data.toList++p.data.toList)) d.size;have hE:((Ln 0 (Bp (d.data.toList++p.data.toList))).map Int.ofNat).length=(Bp (d.data.toList++p.data.toList)).length+1:=by simp [Tu]
 rw [←hc] at hvp;have hL:∀h:(Bp (d.data.toList++p.data.toList)).length < ((Ln 0 (Bp (d.data.toList++p.data.toList))).map Int.ofNat).length,((Ln 0 (Bp (d.data.toList++p.data.toList))).map Int.ofNat)[(Bp (d.data.toList++p.data.toList)).length]=((Bp (d.data.toList++p.data.toList)).flatten.length:Int):=fun h=>by
  rw [List.getLast?_eq_getElem?,Tu,Nat.add_sub_cancel,List.getElem?_eq_getElem (by rw [Tu];omega)] at hL;have:=Option.some.inj hL;simp only [List.getElem_map,this];simp
 have hRl:((Bp (d.data.toList++p.data.toList)).map Lg.Ri).length=(Bp (d.data.toList++p.data.toList)).length:=FI
 generalize (Bp (d.data.toList++p.data.toList)).map Lg.Ri=R at *;generalize (Ln 0 (Bp (d.data.toList++p.data.toList))).map Int.ofNat=E at *;generalize (Bp (d.data.toList++p.data.toList)).flatten.length=T at *;generalize (Bp (d.data.toList++p.data.toList)).length=K at *;replace hL:=hL FH;refine enter func46 rfl ntmps46 fun w0=>?_;refine go ?_;intros;refine Ca hR fun z _=>?_;obtain ⟨⟨a,c,G⟩,⟨b,e,J⟩⟩:=z;dsimp only;refine A4 (E:=Bb) (xs:=E) fun F8=>?_;refine I6 (xs:=E) K ?_;rintro hi0 b0 o0 rfl
 repeat (first|apply Qx|(apply wO;apply oc;rfl;exact ydE)|apply Xy|apply Abd|(apply Aru;rfl;rfl)|(apply Art;rfl;rfl;rfl;rfl)|(apply Arv;rfl;rfl;rfl)|(apply c_t;rfl)|(apply c_f;rfl)|apply Wr|apply Tc|apply Afh)
 by_cases h1:T=d.size+p.size
 ·cases h2:E.any fun x=>(d.size:Int) == x
  ·have hQ:Kl d.data.toList p.data.toList n=false:=by rw [hvp,h2];simp
   refine As [0,3] [] ?_;refine Dq 0 1 2 3 ?_;rw [show ((E.length:Nat):Int) - 1=((K:Nat):Int) by omega];refine Dq 4 5 6 7 ?_;refine Dq 8 9 10 11 ?_;refine Ec 12 13 ?_;rw [hL,show decide ((T:Int)=(d.size:Int)+(p.size:Int))=true from decide_eq_true FH];refine dt 14 ?_;refine Do 15 ?_;refine Do 16 ?_;refine Do 17 ?_;refine Do 18 ?_;refine d1g 19 ?_;apply On.h;refine oC ?_;refine ce (fun w st=>Lg.Abq _ _ _ _ w (st.get (p:=.sl _ _ _ _) FL).2) ?_;rw [h2];refine dk ?_;refine Ec 20 21 ?_;refine ds 22 ?_;refine ds 23 ?_;refine ds 24 ?_;refine ds 25 ?_;refine ds 26 ?_
   refine Ec 27 28 ?_;refine dd ?_;refine go ?_;refine ret () trivial ?_;rw [hQ]
   first|rfl|(rw [hRl];rfl)
  ·have hQ:Kl d.data.toList p.data.toList n=decide (n=(K:Int)):=by rw [hvp,h2,decide_eq_true h1];simp
   refine As [0,3] [] ?_;refine Dq 0 1 2 3 ?_;rw [show ((E.length:Nat):Int) - 1=((K:Nat):Int) by omega];refine Dq 4 5 6 7 ?_;refine Dq 8 9 10 11 ?_;refine Ec 12 13 ?_;rw [hL,show decide ((T:Int)=(d.size:Int)+(p.size:Int))=true from decide_eq_true FH];refine dt 14 ?_;refine Do 15 ?_;refine Do 16 ?_;refine Do 17 ?_;refine Do 18 ?_;refine d1g 19 ?_;apply On.h;refine oC ?_;refine ce (fun w st=>Lg.Abq _ _ _ _ w (st.get (p:=.sl _ _ _ _) FL).2) ?_;rw [h2];refine dk ?_;refine Ec 20 21 ?_;refine Do 22 ?_;refine Do 23 ?_;refine Do 24 ?_;refine Do 25 ?_;refine Do 26 ?_
   refine Ec 27 28 ?_;refine dd ?_;refine go ?_;refine ret () trivial ?_;rw [hQ]
   first|rfl|(rw [hRl];rfl)
 ·have hQ:Kl d.data.toList p.data.toList n=false:=by rw [hvp,decide_eq_false h1];simp
  refine As [0,3] [] ?_;refine Dq 0 1 2 3 ?_;rw [show ((E.length:Nat):Int) - 1=((K:Nat):Int) by omega];refine Dq 4 5 6 7 ?_;refine Dq 8 9 10 11 ?_;refine Ec 12 13 ?_;rw [hL,show decide ((T:Int)=(d.size:Int)+(p.size:Int))=false from decide_eq_false FH];refine dt 14 ?_;refine ds 15 ?_;refine ds 16 ?_;refine ds 17 ?_;refine ds 18 ?_;refine ds 19 ?_;refine Ec 20 21 ?_;refine ds 22 ?_;refine ds 23 ?_;refine ds 24 ?_;refine ds 25 ?_;refine ds 26 ?_;refine Ec 27 28 ?_;refine dd ?_;refine go ?_;refine ret () trivial ?_;rw [hQ]
  first|rfl|(rw [hRl];rfl)
theorem Ap1 (d p:ByteArray) (n:Int) (hz:d.size+p.size≤1048576):FV 34 [.agg #[.string d,.string p,.int .i64 n]] [] (.bool (Kl d.data.toList p.data.toList n)):=by
 have hsm:=Ni (d.data.toList++p.data.toList);have hsm2:=Ni d.data.toList;have hvp:Kl d.data.toList p.data.toList n=(decide (d.size+p.size≤30000) && (decide ((Bp (d.data.toList++p.data.toList)).flatten.length=d.size+p.size) && decide ((Bp d.data.toList).flatten.length=d.size) && decide (((Bp (d.data.toList++p.data.toList)).length:Int)=n))):=by
  unfold Kl;simp only [Ct]
 have h1:=Lg.Alm (d++p) (by rw [ByteArray.size_append];omega);rw [Lg.Im] at h1;have h2:=Lg.Alm d FH;have hRl:((Bp (d.data.toList++p.data.toList)).map Lg.Ri).length=(Bp (d.data.toList++p.data.toList)).length:=FI
 generalize (Bp (d.data.toList++p.data.toList)).map Lg.Ri=R at *;generalize (Bp (d.data.toList++p.data.toList)).flatten.length=T at *;generalize (Bp (d.data.toList++p.data.toList)).length=K at *;generalize (Bp d.data.toList).map Lg.Ri=R2 at *;generalize (Bp d.data.toList).flatten.length=T2 at *;rw [hvp];refine enter func34 rfl ntmps34 fun w0=>?_;refine go ?_;intros;refine A1 rfl (fun h3=>?_) (fun h3=>?_)
 ·refine go ?_;refine ret () trivial ?_;rw [decide_eq_false FH];rfl
 rw [decide_eq_true (show d.size+p.size≤30000 by omega)];refine go ?_;refine Ca h1 fun z _=>?_;refine go ?_;refine Ca h2 fun y _=>?_;by_cases h4:T=d.size+p.size
 ·have e4:decide ((T:Int)=(d.size:Int)+(p.size:Int))=true:=decide_eq_true FH;rw [decide_eq_true h4];refine go ?_;rw [e4];by_cases h5:T2=d.size
  ·have e5:decide ((T2:Int)=(d.size:Int))=true:=decide_eq_true FH;rw [decide_eq_true h5];refine go ?_;rw [e5];refine go ?_;refine ret () trivial ?_;rw [hRl];rfl
  ·have e5:decide ((T2:Int)=(d.size:Int))=false:=decide_eq_false FH;rw [decide_eq_false h5];refine go ?_;rw [e5];exact AA
 ·have e4:decide ((T:Int)=(d.size:Int)+(p.size:Int))=false:=decide_eq_false FH;rw [decide_eq_false h4];refine go ?_;rw [e4];exact AA
theorem Ayi (d p c r:ByteArray) (k:Nat) (hv:Kl d.data.toList p.data.toList k=true) (hk:k≤59) (hr:Lg.Bv c r=true) (hz:d.size+p.size≤30000) (hc1:c.size≤160) (hr1:r.size≤200):FV 38 [.agg #[.string d,.string p,.int .i64 (k:Int)],.agg #[.string c,.string r]] [] (.tuple #[.agg #[.string d,.string (p++Lg.bs (Kz k c.data.toList r.data.toList)),.int .i64 ((k:Int)+1)],.int .i64 0]):=by
 have hln:=Lg.Alp hk hr;have hG:Zw c.data.toList r.data.toList:=Je (by rw [←Lg.Oy];exact hr);have hL:=fun w=>Lg.Axf k c r w hk hG;generalize Lg.bs (Kz k c.data.toList r.data.toList)=ln at *;refine enter func38 rfl ntmps38 fun w0=>?_;refine go ?_;intros;refine Ca (Ap1 d p k FH) fun _ _=>?_;rw [hv];refine go ?_;refine cb (fun w st=>Lg.Zi c r w GC GC) ?_;rw [hr];refine go ?_;refine A1 rfl (fun h3=>?_) (fun h3=>?_)
 ·exact absurd h3 FH
 repeat (first|apply Qx|(apply wO;apply oc;rfl;exact ydE)|apply Xy|apply Abd|(apply Aru;rfl;rfl)|(apply Art;rfl;rfl;rfl;rfl)|(apply Arv;rfl;rfl;rfl)|(apply c_t;rfl)|(apply c_f;rfl)|apply Wr|apply Tc|apply Afh)
 refine As [1,2] [8] ?_;refine Dq 0 1 2 3 ?_;refine dt 4 ?_;refine dN 5 ?_;refine oC ?_;refine cb (fun w st=>hL w) ?_;refine dk ?_;refine Ec 6 7 ?_;refine dN 8 ?_;refine oS ?_;refine Tf ?_;exact CP
section
variable {c:Cx} {fr:Fr} {H:List Pc} {Φ:Gl}
theorem Co {v:Value} {x:Cc} {F:List Nat} (h:∀(a1:Option Addr) (c1:Nat) (F1:List Nat) (a2:Option Addr) (c2:Nat) (F2:List Nat) (a3:Option Addr) (c3:Nat) (F3:List Nat) (a4:Option Addr) (c4:Nat) (F4:List Nat) (a5:Option Addr) (c5:Nat) (F5:List Nat) (a6:Option Addr) (c6:Nat) (F6:List Nat) (a7:Option Addr) (c7:Nat) (F7:List Nat),v=.agg #[.slice a1 x.Bh.Ao.Ad.length c1,.int .i64 x.Bh.Ab.Aa.Ap,.int .i64 x.Bh.Ab.Aa.size,.slice a2 x.Bh.Ab.Aa.An.length c2,.int .i64 x.Bh.Ab.Ai,.int .i64 x.Bh.Ab.quiet,.slice a3 x.Bh.Ab.holds.length c3,.slice a4 x.Bh.Af.length c4,.slice a5 x.Bh.Ac.length c5,.slice a6 x.Bh.down.length c6,.slice a7 x.Bh.up.length c7,.string x.J0.Cs,.string x.J0.pending,.int .i64 x.J0.count]→x.J0.Cs.size≤maxLen→x.J0.pending.size≤maxLen→x.Bh.Ao.Ad.length≤maxLen→x.Bh.Ab.Aa.An.length≤maxLen→x.Bh.Ab.holds.length≤maxLen→x.Bh.Af.length≤maxLen→x.Bh.Ac.length≤maxLen→x.Bh.down.length≤maxLen→x.Bh.up.length≤maxLen→T c fr (.sl Bb (.slice a1 x.Bh.Ao.Ad.length c1) x.Bh.Ao.Ad F1::.sl A8 (.slice a2 x.Bh.Ab.Aa.An.length c2) x.Bh.Ab.Aa.An F2::.sl Bm (.slice a3 x.Bh.Ab.holds.length c3) x.Bh.Ab.holds F3::.sl Bk (.slice a4 x.Bh.Af.length c4) x.Bh.Af F4::.sl Bi (.slice a5 x.Bh.Ac.length c5) x.Bh.Ac F5::.sl (Ml Ak FK) (.slice a6 x.Bh.down.length c6) x.Bh.down F6::.sl (Ml Ak FK) (.slice a7 x.Bh.up.length c7) x.Bh.up F7::H) Φ) (hm:.isv Dd v x F∈H:=by exact A9):T c fr H Φ:=.mk fun a w s g=>by
 obtain ⟨cs,rfl,v1,v2,v3,v4,v5,v6,v7,G1,G2,G3,G4,G5,G6,G7,rfl,s1,s2,h1,h2,h3,h4,h5,h6,h7,rfl⟩:=s.get hm;obtain ⟨a1,c1,rfl⟩:=h1.slice;have l1:=h1.len;obtain ⟨a2,c2,rfl⟩:=h2.slice;have l2:=h2.len;obtain ⟨a3,c3,rfl⟩:=h3.slice;have l3:=h3.len;obtain ⟨a4,c4,rfl⟩:=h4.slice;have l4:=h4.len;obtain ⟨a5,c5,rfl⟩:=h5.slice;have l5:=h5.len;obtain ⟨a6,c6,rfl⟩:=h6.slice;have l6:=h6.len;obtain ⟨a7,c7,rfl⟩:=h7.slice;have l7:=h7.len;have t7:=s.ro (p:=.sl _ _ _ _) hm rfl rfl ⟨FK,h7⟩ FX
 have t6:=t7.ro (p:=.sl _ _ _ _) (List.mem_cons_of_mem _ hm) rfl rfl ⟨FK,h6⟩ FX;have t5:=t6.ro (p:=.sl _ _ _ _) (List.mem_cons_of_mem _ (List.mem_cons_of_mem _ hm)) rfl rfl ⟨FK,h5⟩ FX;have t4:=t5.ro (p:=.sl _ _ _ _) (List.mem_cons_of_mem _ (List.mem_cons_of_mem _ (List.mem_cons_of_mem _ hm))) rfl rfl ⟨FK,h4⟩ FX
 have t3:=t4.ro (p:=.sl _ _ _ _) (List.mem_cons_of_mem _ (List.mem_cons_of_mem _ (List.mem_cons_of_mem _ (List.mem_cons_of_mem _ hm)))) rfl rfl ⟨FK,h3⟩ FX;have t2:=t3.ro (p:=.sl _ _ _ _) (List.mem_cons_of_mem _ (List.mem_cons_of_mem _ (List.mem_cons_of_mem _ (List.mem_cons_of_mem _ (List.mem_cons_of_mem _ hm))))) rfl rfl ⟨FK,h2⟩ FX
 have t1:=t2.ro (p:=.sl _ _ _ _) (List.mem_cons_of_mem _ (List.mem_cons_of_mem _ (List.mem_cons_of_mem _ (List.mem_cons_of_mem _ (List.mem_cons_of_mem _ (List.mem_cons_of_mem _ hm)))))) rfl rfl ⟨FK,h1⟩ FX;exact (h a1 c1 G1 a2 c2 G2 a3 c3 G3 a4 c4 G4 a5 c5 G5 a6 c6 G6 a7 c7 G7 rfl s1 s2 l1 l2 l3 l4 l5 l6 l7).h a w t1 g
theorem D7 (x:Cc) {a1:Option Addr} {c1:Nat} {F1:List Nat} {a2:Option Addr} {c2:Nat} {F2:List Nat} {a3:Option Addr} {c3:Nat} {F3:List Nat} {a4:Option Addr} {c4:Nat} {F4:List Nat} {a5:Option Addr} {c5:Nat} {F5:List Nat} {a6:Option Addr} {c6:Nat} {F6:List Nat} {a7:Option Addr} {c7:Nat} {F7:List Nat} (s1:x.J0.Cs.size≤maxLen) (s2:x.J0.pending.size≤maxLen) (h:T c fr (.isv Dd (.agg #[.slice a1 x.Bh.Ao.Ad.length c1,.int .i64 x.Bh.Ab.Aa.Ap,.int .i64 x.Bh.Ab.Aa.size,.slice a2 x.Bh.Ab.Aa.An.length c2,.int .i64 x.Bh.Ab.Ai,.int .i64 x.Bh.Ab.quiet,.slice a3 x.Bh.Ab.holds.length c3,.slice a4 x.Bh.Af.length c4,.slice a5 x.Bh.Ac.length c5,.slice a6 x.Bh.down.length c6,.slice a7 x.Bh.up.length c7,.string x.J0.Cs,.string x.J0.pending,.int .i64 x.J0.count]) x (F1++F2++F3++F4++F5++F6++F7)::H) Φ) (m1:.sl Bb (.slice a1 x.Bh.Ao.Ad.length c1) x.Bh.Ao.Ad F1∈H:=by exact A9) (m2:.sl A8 (.slice a2 x.Bh.Ab.Aa.An.length c2) x.Bh.Ab.Aa.An F2∈H:=by exact A9) (m3:.sl Bm (.slice a3 x.Bh.Ab.holds.length c3) x.Bh.Ab.holds F3∈H:=by exact A9) (m4:.sl Bk (.slice a4 x.Bh.Af.length c4) x.Bh.Af F4∈H:=by exact A9) (m5:.sl Bi (.slice a5 x.Bh.Ac.length c5) x.Bh.Ac F5∈H:=by exact A9) (m6:.sl (Ml Ak FK) (.slice a6 x.Bh.down.length c6) x.Bh.down F6∈H:=by exact A9) (m7:.sl (Ml Ak FK) (.slice a7 x.Bh.up.length c7) x.Bh.up F7∈H:=by exact A9):T c fr H Φ:=.mk fun a w s g=>by
 refine h.h a w (s.add (N:=[_]) (Below.refl _ _) (by intro q hq;obtain rfl:=List.mem_singleton.1 hq;exact ⟨_,rfl,_,_,_,_,_,_,_,_,_,_,_,_,_,_,rfl,s1,s2,(s.get m1).2,(s.get m2).2,(s.get m3).2,(s.get m4).2,(s.get m5).2,(s.get m6).2,(s.get m7).2,rfl⟩) ⟨FI,trivial⟩ fun q hq b hb=>?_) g;obtain rfl:=List.mem_singleton.1 hq;simp only [Pc.F,List.mem_append] at hb;rcases hb with (((((hb|hb)|hb)|hb)|hb)|hb)|hb
 ·exact .inr ⟨rfl,_,m1,rfl,hb⟩
 ·exact .inr ⟨rfl,_,m2,rfl,hb⟩
 ·exact .inr ⟨rfl,_,m3,rfl,hb⟩
 ·exact .inr ⟨rfl,_,m4,rfl,hb⟩
 ·exact .inr ⟨rfl,_,m5,rfl,hb⟩
 ·exact .inr ⟨rfl,_,m6,rfl,hb⟩
 ·exact .inr ⟨rfl,_,m7,rfl,hb⟩
theorem Anl {v:Value} {x:Cc} {F:List Nat} {S:List Pc} (h:∀(a1:Option Addr) (c1:Nat) (F1:List Nat) (a2:Option Addr) (c2:Nat) (F2:List Nat) (a3:Option Addr) (c3:Nat) (F3:List Nat) (a4:Option Addr) (c4:Nat) (F4:List Nat) (a5:Option Addr) (c5:Nat) (F5:List Nat) (a6:Option Addr) (c6:Nat) (F6:List Nat) (a7:Option Addr) (c7:Nat) (F7:List Nat),v=.agg #[.slice a1 x.Bh.Ao.Ad.length c1,.int .i64 x.Bh.Ab.Aa.Ap,.int .i64 x.Bh.Ab.Aa.size,.slice a2 x.Bh.Ab.Aa.An.length c2,.int .i64 x.Bh.Ab.Ai,.int .i64 x.Bh.Ab.quiet,.slice a3 x.Bh.Ab.holds.length c3,.slice a4 x.Bh.Af.length c4,.slice a5 x.Bh.Ac.length c5,.slice a6 x.Bh.down.length c6,.slice a7 x.Bh.up.length c7,.string x.J0.Cs,.string x.J0.pending,.int .i64 x.J0.count]→x.J0.Cs.size≤maxLen→x.J0.pending.size≤maxLen→x.Bh.Ao.Ad.length≤maxLen→x.Bh.Ab.Aa.An.length≤maxLen→x.Bh.Ab.holds.length≤maxLen→x.Bh.Af.length≤maxLen→x.Bh.Ac.length≤maxLen→x.Bh.down.length≤maxLen→x.Bh.up.length≤maxLen→T c fr (.ow Bb 3 (.slice a1 x.Bh.Ao.Ad.length c1) x.Bh.Ao.Ad F1::.ow A8 9 (.slice a2 x.Bh.Ab.Aa.An.length c2) x.Bh.Ab.Aa.An F2::.ow Bm 203 (.slice a3 x.Bh.Ab.holds.length c3) x.Bh.Ab.holds F3::.ow B4 149 (.slice a4 x.Bh.Af.length c4) x.Bh.Af F4::.ow Bx 156 (.slice a5 x.Bh.Ac.length c5) x.Bh.Ac F5::.ow (Ko Ak 233) 158 (.slice a6 x.Bh.down.length c6) x.Bh.down F6::.ow (Ko Ak 233) 158 (.slice a7 x.Bh.up.length c7) x.Bh.up F7::S) Φ) (hp:Cn H (.own Oe v x F) S:=by exact Da):T c fr H Φ:=.mk fun a w s g=>by
 obtain ⟨hn,cs,rfl,v1,v2,v3,v4,v5,v6,v7,G1,G2,G3,G4,G5,G6,G7,rfl,s1,s2,h1,h2,h3,h4,h5,h6,h7,rfl⟩:=(s.pick hp).on (.own Oe v x F) FI;obtain ⟨a1,c1,rfl⟩:=h1.slice;have l1:=h1.len;obtain ⟨a2,c2,rfl⟩:=h2.slice;have l2:=h2.len;obtain ⟨a3,c3,rfl⟩:=h3.slice;have l3:=h3.len;obtain ⟨a4,c4,rfl⟩:=h4.slice;have l4:=h4.len;obtain ⟨a5,c5,rfl⟩:=h5.slice;have l5:=h5.len;obtain ⟨a6,c6,rfl⟩:=h6.slice;have l6:=h6.len;obtain ⟨a7,c7,rfl⟩:=h7.slice;have l7:=h7.len
 exact (h a1 c1 G1 a2 c2 G2 a3 c3 G3 a4 c4 G4 a5 c5 G5 a6 c6 G6 a7 c7 G7 rfl s1 s2 l1 l2 l3 l4 l5 l6 l7).h a w (s.mer (M:=[.own Oe _ x _]) (N:=[.ow Bb _ _ _ G1,.ow A8 _ _ _ G2,.ow Bm _ _ _ G3,.ow B4 _ _ _ G4,.ow Bx _ _ _ G5,.ow (Ko Ak 233) _ _ _ G6,.ow (Ko Ak 233) _ _ _ G7]) (.cons hp .nil) (fun _ _=>⟨Qy ⟨(Ma (Ma (Ma (Ma (Ma (Ma hn)))))),h1⟩ (Qy ⟨Ach (Ma (Ma (Ma (Ma (Ma hn))))),h2⟩ (Qy ⟨Ach (Ma (Ma (Ma (Ma hn)))),h3⟩ (Qy ⟨Ach (Ma (Ma (Ma hn))),h4⟩ (Qy ⟨Ach (Ma (Ma hn)),h5⟩ (Qy ⟨Ach (Ma hn),h6⟩ (Qy ⟨Ach hn,h7⟩ (Auw))))))),GB⟩) GZ) g
theorem Aab (x:Cc) {a1:Option Addr} {c1:Nat} {F1:List Nat} {a2:Option Addr} {c2:Nat} {F2:List Nat} {a3:Option Addr} {c3:Nat} {F3:List Nat} {a4:Option Addr} {c4:Nat} {F4:List Nat} {a5:Option Addr} {c5:Nat} {F5:List Nat} {a6:Option Addr} {c6:Nat} {F6:List Nat} {a7:Option Addr} {c7:Nat} {F7:List Nat} {S1 S2 S3 S4 S5 S6 S7:List Pc} (s1:x.J0.Cs.size≤maxLen) (s2:x.J0.pending.size≤maxLen) (h:T c fr (.own Oe (.agg #[.slice a1 x.Bh.Ao.Ad.length c1,.int .i64 x.Bh.Ab.Aa.Ap,.int .i64 x.Bh.Ab.Aa.size,.slice a2 x.Bh.Ab.Aa.An.length c2,.int .i64 x.Bh.Ab.Ai,.int .i64 x.Bh.Ab.quiet,.slice a3 x.Bh.Ab.holds.length c3,.slice a4 x.Bh.Af.length c4,.slice a5 x.Bh.Ac.length c5,.slice a6 x.Bh.down.length c6,.slice a7 x.Bh.up.length c7,.string x.J0.Cs,.string x.J0.pending,.int .i64 x.J0.count]) x (F1++F2++F3++F4++F5++F6++F7)::S7) Φ) (m1:Cn H (.ow Bb 3 (.slice a1 x.Bh.Ao.Ad.length c1) x.Bh.Ao.Ad F1) S1:=by exact Da) (m2:Cn S1 (.ow A8 9 (.slice a2 x.Bh.Ab.Aa.An.length c2) x.Bh.Ab.Aa.An F2) S2:=by exact Da) (m3:Cn S2 (.ow Bm 203 (.slice a3 x.Bh.Ab.holds.length c3) x.Bh.Ab.holds F3) S3:=by exact Da) (m4:Cn S3 (.ow B4 149 (.slice a4 x.Bh.Af.length c4) x.Bh.Af F4) S4:=by exact Da) (m5:Cn S4 (.ow Bx 156 (.slice a5 x.Bh.Ac.length c5) x.Bh.Ac F5) S5:=by exact Da) (m6:Cn S5 (.ow (Ko Ak 233) 158 (.slice a6 x.Bh.down.length c6) x.Bh.down F6) S6:=by exact Da) (m7:Cn S6 (.ow (Ko Ak 233) 158 (.slice a7 x.Bh.up.length c7) x.Bh.up F7) S7:=by exact Da)  : T c fr H Φ:=.mk fun a w s g =>
 h.h a w (s.mer (M:=[.ow Bb _ _ _ F1,.ow A8 _ _ _ F2,.ow Bm _ _ _ F3,.ow B4 _ _ _ F4,.ow Bx _ _ _ F5,.ow (Ko Ak 233) _ _ _ F6,.ow (Ko Ak 233) _ _ _ F7]) (N:=[.own Oe _ x (F1++F2++F3++F4++F5++F6++F7)]) (.cons m1 (.cons m2 (.cons m3 (.cons m4 (.cons m5 (.cons m6 (.cons m7 (.nil)))))))) (fun hk hn=>⟨El ⟨GB,_,rfl,_,_,_,_,_,_,_,_,_,_,_,_,_,_,rfl,s1,s2,(Qz hk).2,(Qz (H9 hk)).2,(Qz (H9 (H9 hk))).2,(Qz (H9 (H9 (H9 hk)))).2,(Qz (H9 (H9 (H9 (H9 hk))))).2,(Qz (H9 (H9 (H9 (H9 (H9 hk)))))).2,(Qz (H9 (H9 (H9 (H9 (H9 (H9 hk))))))).2,rfl⟩,GB⟩) GZ) g
end
def Ha (x:Cc):Bool:=At x.Bh && Kl x.J0.Cs.data.toList x.J0.pending.data.toList x.J0.count
theorem Adg (x:Cc) (v:Value) (F FT:List Nat) (hz:x.J0.Cs.size+x.J0.pending.size≤1048576):FV 21 [v] [.isv Dd v x F,Gs FT] (.bool (Ha x)):=by
 refine enter func21 rfl ntmps21 fun w0=>?_;refine Co ?_;rintro a1 c1 F1 a2 c2 F2 a3 c3 F3 a4 c4 F4 a5 c5 F5 a6 c6 F6 a7 c7 F7 rfl s1 s2 l1 l2 l3 l4 l5 l6 l7;refine Gk x.Bh ?_;generalize hFN:F1++F2++F3++F4++F5++F6++F7=FN;refine go ?_;intros;refine Ca (Abr x.Bh _ FN) fun _ _=>?_;unfold Ha;cases g1:At x.Bh
 ·exact AA
 refine go ?_;refine Ca (Amn x.J0.Cs x.J0.pending x.J0.count FT hz) fun _ _=>?_;exact AA
theorem Aln (x:Cc) (v:Value) (F:List Nat) (hz:x.J0.Cs.size+x.J0.pending.size≤1048576):FV 16 [v] [.isv Dd v x F] (.bool (Ha x)):=by
 refine enter func16 rfl ntmps16 fun w0=>?_;refine Co ?_;rintro a1 c1 F1 a2 c2 F2 a3 c3 F3 a4 c4 F4 a5 c5 F5 a6 c6 F6 a7 c7 F7 rfl s1 s2 l1 l2 l3 l4 l5 l6 l7;refine Gk x.Bh ?_;generalize hFN:F1++F2++F3++F4++F5++F6++F7=FN;refine go ?_;intros;refine Ca (Ad0 x.Bh _ FN) fun _ _=>?_;unfold Ha;cases g1:At x.Bh
 ·exact AA
 refine go ?_;refine Ca (Ap1 x.J0.Cs x.J0.pending x.J0.count hz) fun _ _=>?_;exact AA
theorem Asc {u:Nat} (h:u < 10000000):Lib.decNat (Lib.decDigits u)=some u:=by
 have hb:=Ahd 6 u FH;have hp:=Zb u;unfold Lib.decNat;rw [if_neg (by intro e;rw [List.isEmpty_iff] at e;rw [e] at hp;simp at hp),hb]
theorem Ahx {v:Int} (h:v < 0):Lib.itoa v=45::Lib.decDigits v.natAbs:=by unfold Lib.itoa;rw [if_pos h]
theorem Apt {v:Int} (h:0≤v):Lib.itoa v=Lib.decDigits v.natAbs:=by unfold Lib.itoa;rw [if_neg FH,show v.toNat=v.natAbs by omega]
theorem Aiv {v:Int} (h0:-999999≤v) (h1:v≤999999):C1 (bz (Lib.itoa v))=(v,true):=by
 by_cases hn:v < 0
 ·have hl:=Ej 5 v.natAbs FH;have ha:Lib.atoiAll (Lib.itoa v)=.ok v:=by
   rw [Ahx hn,Lib.atoiAll_short _ FO];have:Lib.atoi (45::Lib.decDigits v.natAbs)=some v:=by
    rw [Lib.atoi,if_pos GE,Asc FH];show some (-((v.natAbs:Nat):Int))=some v
    congr 1;omega
   rw [this];rfl
  unfold C1;rw [Jo,ha];show (if Ga (-999999) v 999999 && decide (bz (Lib.itoa v)=bz (Lib.itoa v)) then (v,true) else (0,false))=(v,true);rw [decide_eq_true rfl,show Ga (-999999) v 999999=true by unfold Ga;rw [decide_eq_true h0,decide_eq_true h1];rfl];rfl
 ·rw [Apt FH,Atk v.natAbs FH]
  congr 1;omega
theorem Aqx (s:ByteArray):C1 s=(0,false)∨∃v:Int, -999999≤v∧v≤999999∧s=bz (Lib.itoa v):=by
 unfold C1
 split
 ·rename_i v _;cases h:(Ga (-999999) v 999999 && decide (bz (Lib.itoa v)=s))
  ·exact .inl rfl
  ·unfold Ga at h;simp only [Bool.and_eq_true,decide_eq_true_eq] at h;exact .inr ⟨v,h.1.1,h.1.2,h.2.symm⟩
 ·exact .inl rfl
def unS (l:Bs):Bs:=if 1 < l.length∧l.head?=some 45 then l.drop 1 else l
def Ahg (l:Bs):Nat:=l.foldl (fun a c=>10 * a+(c.toNat - 48)) 0
theorem Ahh (l:Bs) (c:UInt8):Ahg (l++[c])=10 * Ahg l+(c.toNat - 48):=by unfold Ahg;rw [List.foldl_append];rfl
theorem Aup:∀(n:Nat) (l:Bs),l.length=n→(∀c∈l,48≤c.toNat∧c.toNat≤57)→Ahg l < 10 ^ n
 | 0,l,h,_=>by rw [List.length_eq_zero_iff.1 h];decide
 | n+1,l,h,hd=>by
  have hne:l≠[]:=by intro e;rw [e] at h;simp at h
  have e:=List.dropLast_concat_getLast hne;have ih:=Aup n l.dropLast FO fun c hc=>hd c (List.dropLast_subset _ hc);have hc:=hd _ (List.getLast_mem hne);rw [←e,Ahh,Nat.pow_succ];omega
theorem Bg5:∀d:Nat,d < 10→(UInt8.ofNat (48+d)).toNat=48+d:=by decide
theorem Ao5:∀(k u:Nat),u < 10 ^ (k+1)→Ahg (Lib.decDigits u)=u
 | 0,u,h=>by
  have h3:u < 10:=GA
  rw [Lib.decDigits,dif_pos h3];unfold Ahg;simp only [List.foldl_cons,List.foldl_nil];rw [Bg5 u h3];omega
 | k+1,u,h=>by
  by_cases h3:u < 10
  ·rw [Lib.decDigits,dif_pos h3];unfold Ahg;simp only [List.foldl_cons,List.foldl_nil];rw [Bg5 u h3];omega
  ·rw [Lib.decDigits,dif_neg h3,Ahh,Ao5 k (u / 10) LH,Bg5 _ FH];omega
theorem Bc7 {v:Int} (h0:-999999≤v) (h1:v≤999999):unS (Lib.itoa v)=Lib.decDigits v.natAbs∧((unS (Lib.itoa v)).length < (Lib.itoa v).length↔v < 0):=by
 have hp:=Zb v.natAbs;by_cases hn:v < 0
 ·rw [Ahx hn];unfold unS;rw [if_pos ⟨FO,rfl⟩];exact ⟨rfl,by simp [hn]⟩
 ·rw [Apt FH];have:¬(1 < (Lib.decDigits v.natAbs).length∧(Lib.decDigits v.natAbs).head?=some 45):=by
   rintro ⟨-,h⟩;have:=P3 _ 45 (List.mem_of_mem_head? h);revert this;decide
  unfold unS;rw [if_neg this];exact ⟨rfl,FO⟩
theorem We {s:ByteArray} (h:C1 s≠(0,false)):∃v:Int, -999999≤v∧v≤999999∧s=bz (Lib.itoa v)∧1≤(unS s.data.toList).length∧(unS s.data.toList).length≤6∧(∀c∈unS s.data.toList,48≤c.toNat∧c.toNat≤57)∧Ahg (unS s.data.toList)=v.natAbs∧((unS s.data.toList).length < s.size↔v < 0):=by
 rcases Aqx s with h2|⟨v,h0,h1,rfl⟩
 ·exact absurd h2 h
 ·obtain ⟨e,e2⟩:=Bc7 h0 h1;have hl:=Ej 5 v.natAbs FH;rw [Jo,Iu];refine ⟨v,h0,h1,rfl,?_,?_,?_,?_,e2⟩
  ·rw [e];exact Zb _
  ·rw [e];exact hl
  ·rw [e];exact P3 _
  ·rw [e];exact Ao5 5 _ FH
structure Bkp (c:Int) (x:Gj):Prop where
 n0:0≤x.Ae
 n1:x.Ae≤65535
 f:∀f∈x.Bj,1≤f∧f≤7
 p:0 < x.Bj.length
 l:x.Bj.length≤7
 u0:c+1≤x.Ce
 u1:x.Ce≤c+6
structure Bkq (e:Bf) (k:Nat) (y:Bf):Prop where
 g:Ba y=true
 c:y.Ai=e.Ai+(k:Int)
 u:∀x∈y.Ah,x.Ce≤e.Ai+6
theorem Bbf (n:Int) (h0:-999999≤n) (hn:n < 0):FV 146 [.int .i64 n] [] (.string (bz (Lib.itoa n))):=by
 have hz:(bz (Asb (-n))).size≤7:=by rw [Iu];exact Bd8 FH
 have zl:(⟨#[45]⟩:ByteArray).size=1:=rfl;refine enter func146 rfl ntmps146 fun w0=>?_;refine go ?_;refine A1 rfl (fun e0=>?_) (fun e0=>?_)
 rotate_left
 ·exact absurd hn e0
 refine go ?_;refine cb (fun w st=>Bbe (-n) FH FH w) ?_;refine go ?_;rw [show (⟨#[45]⟩:ByteArray)++bz (Asb (-n))=bz (Lib.itoa n) by
  rw [Ahx hn];unfold Asb;rw [show (-n).toNat=n.natAbs by omega];apply ByteArray.ext;simp [bz,ByteArray.data_append]]
 exact BD
theorem Aed (n:Int) (h0:-999999≤n) (h1:n≤999999) (w:World):Calls prog 146 #[.int .i64 n] w (RB (.string (bz (Lib.itoa n))) w):=by
 by_cases hn:n < 0
 ·exact (Bbf n h0 hn).val w (fun p hp=>by cases hp)
 ·rw [Baq FH];exact Bbe n FH FH w
theorem Bc6 {s:ByteArray} (h:1 < s.size):unS s.data.toList=if s[0]=45 then (s.extract 1 s.size).data.toList else s.data.toList:=by
 have e:s.data.toList.head?=some s[0]:=by
  rw [List.head?_eq_getElem?,List.getElem?_eq_getElem (by rw [Ct];omega)];rfl
 unfold unS;rw [Ct,e,Ze,Jo];by_cases h2:s[0]=45
 ·rw [if_pos ⟨h,by rw [h2]⟩,if_pos h2]
 ·rw [if_neg (fun hh=>h2 (Option.some.inj hh.2)),if_neg h2]
theorem Ayx {s:ByteArray} (h:¬1 < s.size):unS s.data.toList=s.data.toList:=by
 unfold unS;rw [Ct,if_neg (fun hh=>h hh.1)]
theorem Bdm {P:Program} {n:Nat} {fr:Fr} {H:List Pc} {ty:TypeId} {x y:Operand} {a b:Int} {t t':TypeId} (hx:ev fr x=some (.int .u8 a)) (hy:ev fr y=some (.int .u8 b)) (h0:0≤a - b) (h1:a - b≤255):Yd P n fr H (.binOp .sub t x y t') ty (.int .u8 (a - b)):=.mk fun c w d pos Cf gd hA _=>by
 simp [execOp,hA.ev hx,hA.ev hy,eqGuard_sub,binOp_sub,Op.intArith,IntWalk.u8_in _ ⟨h0,h1⟩]
structure Bj9 (t:ByteArray) (z:Nat × Nat):Prop where
 k:z.2≤t.size
 v:z.1=Ahg (t.data.toList.take z.2)
 d:∀c∈t.data.toList.take z.2,48≤c.toNat∧c.toNat≤57
theorem Bay (s:ByteArray) (hs:s.size≤1000000000):FV 152 [.string s] [] (.tuple #[.int .i64 (C1 s).1,.bool (C1 s).2]):=by
 refine enter func152 rfl ntmps152 fun w0=>?_;apply Qx;apply Aks
 repeat (apply wO;apply oc;rfl;exact ydE)
 apply Xy;apply Abd;apply Qx;apply Aks
 repeat (apply wO;apply oc;rfl;exact ydE)
 apply Xy;apply Abd;apply Qx;refine Ew [0,2,3] [] (fun t:ByteArray=>[(4,.string t)]) (fun _=>[]) (fun t=>t.data.toList=unS s.data.toList∧t.size≤s.size) ?_ fun t hz=>?_
 ·refine go ?_;refine Dy rfl rfl (fun h1=>?_) (fun h1=>?_)
  ·have h1:1 < s.size:=FH
   refine go ?_;refine A1 rfl (fun h2=>?_) (fun h2=>?_)
   ·have ht:(s.extract 1 s.size).data.toList=unS s.data.toList:=by rw [Bc6 h1,if_pos (UInt8.toNat_inj.1 (by have:((s[0]).toNat:Int)=45:=h2;show (s[0]).toNat=45;omega))]
    refine Og ?_;intros;apply wO;apply oc;rfl;exact Ajo rfl rfl FH FH;rw [show s.extract (1:Int).toNat s.size=s.extract 1 s.size from rfl];refine go ?_;refine Br (s.extract 1 s.size) ⟨ht,KY⟩
   ·have ht:s.data.toList=unS s.data.toList:=by rw [Bc6 h1,if_neg (fun e=>h2 (by show ((s[0]).toNat:Int)=45;rw [e];rfl))]
    refine go ?_;refine Br s ⟨ht,Nat.le_refl _⟩
  ·refine go ?_;refine Br s ⟨(Ayx FH).symm,Nat.le_refl _⟩
 obtain ⟨ht,hts⟩:=hz;refine go ?_;refine ce (fun w s=>Kk _ _ _ _) ?_;cases g1:Ga 1 ((t.size:Nat):Int) 6
 ·have hr:C1 s=(0,false):=by
   rcases Classical.em (C1 s=(0,false)) with h|h
   ·exact h
   ·exfalso;obtain ⟨v,h0,h1',hsv,q1,q2,q3,q4,q5⟩:=We h;rw [←ht,Ct] at q1 q2;have:Ga 1 ((t.size:Nat):Int) 6=true:=by unfold Ga;rw [decide_eq_true FH,decide_eq_true FH];rfl
    rw [this] at g1;cases g1
  rw [hr];exact AA
 obtain ⟨t1,t6⟩:1≤t.size∧t.size≤6:=by unfold Ga at g1;simp only [Bool.and_eq_true,decide_eq_true_eq] at g1;omega
 refine go ?_;refine Eh [0,2,3,4] (fun z:Nat × Nat=>[(5,.int .i64 (z.1:Nat)),(6,.int .i64 (z.2:Nat))]) (Bj9 t) (fun z=>t.size - z.2) (0,0) ⟨Nat.zero_le _,rfl,FI⟩ fun z hz=>?_;obtain ⟨vv,k⟩:=z;obtain ⟨z1,z2,z3⟩:=hz;dsimp only at z1 z2 z3 ⊢;have hv6:vv≤999999:=by
  have:=Aup (t.data.toList.take k).length _ rfl z3;have hl:(t.data.toList.take k).length≤6:=by rw [List.length_take,Ct];omega
  have:=Nat.pow_le_pow_right (show 0 < 10 by omega) hl;omega
 refine go ?_;refine A1 rfl (fun h1=>?_) (fun h1=>?_)
 ·have hk:k < t.size:=FH
  have hkl:k < t.data.toList.length:=by rw [Ct];exact hk
  have hm:t[k]∈unS s.data.toList:=by rw [←ht];exact List.getElem_mem hkl
  refine go ?_;refine Dy rfl rfl (fun h3=>?_) (fun h3=>?_)
  ·have h3:((t[k]).toNat:Int) < 48:=h3;have hr:C1 s=(0,false):=by
    rcases Classical.em (C1 s=(0,false)) with h|h
    ·exact h
    ·exfalso;obtain ⟨v,h0,h1',hsv,q1,q2,q3,q4,q5⟩:=We h;have:=q3 _ hm;omega
   rw [hr];exact AA
  have h3k:¬((t[k]).toNat:Int) < 48:=h3;refine go ?_;refine A1 rfl (fun h4=>?_) (fun h4=>?_)
  ·have h4:57 < ((t[k]).toNat:Int):=h4;have hr:C1 s=(0,false):=by
    rcases Classical.em (C1 s=(0,false)) with h|h
    ·exact h
    ·exfalso;obtain ⟨v,h0,h1',hsv,q1,q2,q3,q4,q5⟩:=We h;have:=q3 _ hm;omega
   rw [hr];exact AA
  have h4k:¬57 < ((t[k]).toNat:Int):=h4;refine go ?_;apply wO;apply oc;rfl;exact Bdm rfl rfl FH FH;apply wO;apply oc;rfl;exact Ary rfl FH FH;refine Og ?_;intros;have e48:∀x:Nat,48≤x→10 * ((vv:Nat):Int)+(((x:Nat):Int) - 48)=((10 * vv+(x - 48):Nat):Int):=fun x hx=>by omega
  rw [e48]
  rotate_left
  ·show 48≤(t[k]).toNat;omega
  refine go ?_;have etk:t.data.toList.take (k+1)=t.data.toList.take k++[t[k]]:=by rw [List.take_succ_eq_append_getElem hkl];rfl
  refine Cg (10 * vv+((t[k]).toNat - 48),k+1) ⟨by show k+1≤t.size;omega,by show _=Ahg (t.data.toList.take (k+1));rw [etk,Ahh,←z2],by
   show ∀c∈t.data.toList.take (k+1),48≤c.toNat∧c.toNat≤57;rw [etk];intro c hc;rcases List.mem_append.1 hc with hc|hc
   ·exact z3 c hc
   ·rw [List.mem_singleton] at hc;subst hc;omega⟩ (by show t.size - (k+1) < t.size - k;omega)
 ·have hks:k=t.size:=FH
  have z2:vv=Ahg (unS s.data.toList):=by rw [←ht,z2,List.take_of_length_le (by rw [Ct];omega)]
  have htz:(unS s.data.toList).length=t.size:=by rw [←ht,Ct]
  refine go ?_;refine A1 rfl (fun h5=>?_) (fun h5=>?_)
  ·refine go ?_;refine cb (fun w st=>Aed (-((vv:Nat):Int)) FH FH w) ?_;refine go ?_;by_cases h6:bz (Lib.itoa (-((vv:Nat):Int)))=s
   ·have hr:C1 s=(-((vv:Nat):Int),true):=by rw [←h6];exact Aiv FH FH
    rw [decide_eq_false (by simpa using h6),hr];exact AA
   ·rw [decide_eq_true h6];have hr:C1 s=(0,false):=by
     rcases Classical.em (C1 s=(0,false)) with h|h
     ·exact h
     ·exfalso;obtain ⟨v,h0,h1',hsv,q1,q2,q3,q4,q5⟩:=We h;rw [htz] at q5;have hv:v=-((vv:Nat):Int):=FH
      exact h6 (by rw [←hv];exact hsv.symm)
    rw [hr];exact AA
  ·refine go ?_;refine cb (fun w st=>Aed (((vv:Nat):Int)) FH FH w) ?_;refine go ?_;by_cases h6:bz (Lib.itoa (((vv:Nat):Int)))=s
   ·have hr:C1 s=(((vv:Nat):Int),true):=by rw [←h6];exact Aiv FH FH
    rw [decide_eq_false (by simpa using h6),hr];exact AA
   ·rw [decide_eq_true h6];have hr:C1 s=(0,false):=by
     rcases Classical.em (C1 s=(0,false)) with h|h
     ·exact h
     ·exfalso;obtain ⟨v,h0,h1',hsv,q1,q2,q3,q4,q5⟩:=We h;rw [htz] at q5;have hv:v=((vv:Nat):Int):=FH
      exact h6 (by rw [←hv];exact hsv.symm)
    rw [hr];exact AA
end Go.Proofs.YtcmighgaiacgoaaGreatDoor
namespace Go.Proofs.YtcmighgaiacgoaaGreatDoor

open Go.RowKit
open Go.RowKit
end Go.Proofs.YtcmighgaiacgoaaGreatDoor
namespace Go.Proofs.YtcmighgaiacgoaaGreatDoor
open Go.RowKit
theorem Bcg {w:World} {a:Option Addr} {n cp:Nat} {xs:List ByteArray} {F:List Nat} (h:(Pc.sl A8 (.slice a n cp) xs F).P w) (h0:0 < xs.length):∃b o,a=some ⟨b,o,none⟩∧n=xs.length∧xs.length≤cp∧b < w.heap.size∧∀(j:Nat) x,xs[j]?=some x→w.cell? ⟨b,o+j,none⟩=some (.string x):=by
 have hlt:=h.2.lt;obtain ⟨hz,a',cap,hv,hl,h|⟨b,o,F',rfl,hne,rfl,hc⟩⟩:=h
 ·rw [h.1] at h0;simp at h0
 ·simp only [Value.slice.injEq] at hv;obtain ⟨rfl,rfl,rfl⟩:=hv;refine ⟨b,o,rfl,rfl,hl.1,hlt FK b FI,fun j x hj=>?_⟩;obtain ⟨hj1,rfl⟩:=List.getElem?_eq_some_iff.1 hj;obtain ⟨cs,F1,⟨rfl, -, -⟩,h2, -⟩:=hc.get j hj1;have:=h2 0 FK;simpa [A8] using this
theorem Bat (xs:List ByteArray) (sep:ByteArray) (a:Option Addr) (cp:Nat) (F:List Nat) (w:World) (h:(Pc.sl A8 (.slice a xs.length cp) xs F).P w) (h0:0 < xs.length) (hN:xs.length≤100000000000000) (hlen:(Lib.join (xs.map (·.data.toList)) sep.data.toList).length≤100000000000000) :
  Calls prog 198 #[.slice a xs.length cp,.string sep] w (RB (.string (bz (Lib.join (xs.map (·.data.toList)) sep.data.toList))) w):=by
 obtain ⟨b,o,rfl, -,hcap,hb,hc⟩:=Bcg h h0;exact Tryz.strings_Join b o cp xs sep w hc hb FH hcap FH
theorem Bhm (n:Nat):madeCells (Value.string ⟨#[]⟩).cells (n * 1)=(List.replicate n (Value.string ⟨#[]⟩)).toArray:=by
 rw [Nat.mul_one];apply Array.ext
 ·simp [madeCells]
 ·intro i h1 h2;simp [madeCells,Value.cells,Nat.mod_one]
theorem Apl (w:World):∀n:Nat,Cy A8 w (List.replicate n (Value.string ⟨#[]⟩)) (List.replicate n ⟨#[]⟩) []
 | 0=>⟨rfl,rfl⟩
 | n+1=>⟨[.string ⟨#[]⟩],List.replicate n (Value.string ⟨#[]⟩),[],[],by simp [List.replicate_succ],FI,⟨rfl,Nat.zero_le _,rfl⟩,Apl w n⟩
def itB (f:Int):ByteArray:=bz (Lib.itoa f)
def zsJ (l:List Int) (k:Nat):List ByteArray:=(l.take k).map itB++List.replicate (l.length - k) ⟨#[]⟩
theorem Bf8 {l:List Int} {k:Nat} (h:k≤l.length):(zsJ l k).length=l.length:=by unfold zsJ;simp;omega
theorem Bf9 {l:List Int} {k:Nat} (h:k < l.length):(zsJ l k).set k (itB l[k])=zsJ l (k+1):=by
 unfold zsJ;have e:List.replicate (l.length - k) (⟨#[]⟩:ByteArray)=⟨#[]⟩::List.replicate (l.length - (k+1)) ⟨#[]⟩:=HU
 have hl:((l.take k).map itB).length=k:=HZ
 rw [e,List.set_append_right _ _ FH,hl,Nat.sub_self,List.set_cons_zero,List.take_succ_eq_append_getElem h,List.map_append];simp only [List.map_cons,List.map_nil,List.append_assoc,List.cons_append,List.nil_append]
theorem Ahw (l:List Int):(l.map itB).map (·.data.toList)=l.map Lib.itoa:=by
 rw [List.map_map];exact List.map_congr_left fun x _=>by simp [itB,Jo]
theorem Bem (l:List Int) (g:Nat) (F:List Nat) (w:World) (hf:∀f∈l,0≤f∧f.natAbs < 10 ^ (4+1)) (h0:0 < l.length) (h7:l.length≤1000) (h:(Pc.sl A8 (.slice (some ⟨g,0,none⟩) l.length l.length) (l.map itB) F).P w) :
  Calls prog 198 #[.slice (some ⟨g,0,none⟩) l.length l.length,.string ⟨#[32]⟩] w (RB (.string (bz (jn l))) w):=by
 have hml:(l.map itB).length=l.length:=List.length_map ..;have hd:(⟨#[32]⟩:ByteArray).data.toList=[32]:=rfl;have hj:=Bhk (k:=4) hf;have:=Bat (l.map itB) ⟨#[32]⟩ (some ⟨g,0,none⟩) l.length F w (by rw [hml];exact h) FH FH (by rw [hd,Ahw];unfold jn at hj;omega);rw [hml,hd,Ahw] at this;exact this
theorem Ben (l:List Int) (a:Option Addr) (c:Nat) (F FT:List Nat) (hf:∀f∈l,0≤f∧f.natAbs < 10 ^ (4+1)) (h0:0 < l.length) (h7:l.length≤1000):FV 277 [.slice a l.length c,.string ⟨#[32]⟩] [.sl Bb (.slice a l.length c) l F,Gs FT] (.string (bz (jn l))):=by
 refine enter func277 rfl ntmps277 fun w0=>?_;refine go ?_;apply wO;refine Axx l.length (cs:=List.replicate l.length (.string ⟨#[]⟩)) rfl rfl rfl (Bhm _) FH FH fun g=>?_;refine Le (E:=A8) (xs:=List.replicate l.length ⟨#[]⟩) (fun w=>Apl w _) ?_ (by rw [List.length_replicate];omega);rw [List.length_replicate,show List.replicate l.length (⟨#[]⟩:ByteArray)=zsJ l 0 by unfold zsJ;simp];refine go ?_
 refine Cd [1,4,5,11,12] (fun k:Nat=>[(13,.int .i64 (k:Nat))]) (fun k=>[.ow A8 9 (.slice (some ⟨g,0,none⟩) l.length l.length) (zsJ l k) [g]]) (fun k=>k≤l.length) (fun k=>l.length - k) 0 (Nat.zero_le _) fun k hk=>?_;have hzl:=Bf8 hk;refine go ?_;refine A1 rfl (fun h1=>?_) (fun h1=>?_)
 ·have hk1:k < l.length:=FH
  have hfk:=hf _ (List.getElem_mem hk1);refine I6 (xs:=l) k ?_;rintro hi b o e1;rw [e1];refine go ?_;refine cb (fun w st=>Aa5 l[k] FH FH FT w (st.get (p:=Gs FT) FI)) ?_;refine Pv (m:=1) Gz k ?_ FM rfl FH;rintro _ g2 A cs B e2 - hr hH;cases e2;obtain ⟨rfl, -⟩:=hr w0;refine go ?_;refine O5 (itB l[k]) hH (fun w=>⟨rfl,by rw [itB,Iu,Ql hfk.1];have:=Ej 4 l[k].natAbs hfk.2;unfold maxLen;omega,rfl⟩) ?_;rw [Bf9 hk1];refine go ?_;refine Cg (k+1) hk1 FH
 ·have hk1:k=l.length:=FH
  subst hk1;rw [show zsJ l l.length=l.map itB by unfold zsJ;simp];have hml:(l.map itB).length=l.length:=List.length_map ..;refine A4 (E:=A8) (xs:=l.map itB) fun F8=>?_;refine go ?_;refine cb (fun w st=>Bem l g F8 w hf h0 h7 (st.get (p:=.sl _ _ _ _) FI)) ?_;exact AA
structure RtS where
 k:Nat
 a:Option Addr
 c:Nat
 F:List Nat
end Go.Proofs.YtcmighgaiacgoaaGreatDoor
namespace Go.Proofs.YtcmighgaiacgoaaGreatDoor

open Go.RowKit
end Go.Proofs.YtcmighgaiacgoaaGreatDoor
namespace Go.Proofs.YtcmighgaiacgoaaGreatDoor
open Go.RowKit
def Sj (ts:List ByteArray):Bool:=ts.all fun t=>(C1 t).2
def Kb (ts:List ByteArray):List Int:=ts.map fun t=>(C1 t).1
def Sv (ts:List ByteArray):List Int × Bool:=if Sj ts then (Kb ts,true) else ([],false)
theorem Bbk {ts:List ByteArray} {k:Nat} (h:k < ts.length) (hp:(C1 ts[k]).2=false):Sj ts=false:=by
 unfold Sj;rw [List.all_eq_false];exact ⟨ts[k],List.getElem_mem h,IC⟩
theorem As9 {ts:List ByteArray} {k:Nat} (h:k < ts.length) (hp:(C1 ts[k]).2=true) (ha:Sj (ts.take k)=true):Sj (ts.take (k+1))=true:=by
 unfold Sj at *;rw [List.take_succ_eq_append_getElem h,List.all_append,ha];simp [hp]
theorem Arp {ts:List ByteArray} {k:Nat} (h:k < ts.length):Kb (ts.take (k+1))=Kb (ts.take k)++[(C1 ts[k]).1]:=by
 unfold Kb;rw [List.take_succ_eq_append_getElem h,List.map_append];rfl
structure PeZ where
 k:Nat
 a:Option Addr
 c:Nat
 F:List Nat
theorem Aqn (ts:List ByteArray) (a:Option Addr) (c:Nat) (F FT:List Nat) (hs:∀t∈ts,t.size≤1000000000) (hl:ts.length≤1000):Fn prog 108 [.slice a ts.length c] [.sl A8 (.slice a ts.length c) ts F,Gs FT] [] (fun (_:PeZ)=>True) (fun z=>.tuple #[.slice z.a (Sv ts).1.length z.c,.bool (Sv ts).2]) (fun z=>[.ow Bb 3 (.slice z.a (Sv ts).1.length z.c) (Sv ts).1 z.F]):=by
 refine enter func108 rfl ntmps108 fun w0=>?_;refine go ?_;refine Db Bb 3 ?_;refine Cd [2,3,9,10] (fun z:PeZ=>[(4,.slice z.a (Kb (ts.take z.k)).length z.c),(11,.int .i64 (z.k:Nat))]) (fun z=>[.ow Bb 3 (.slice z.a (Kb (ts.take z.k)).length z.c) (Kb (ts.take z.k)) z.F]) (fun z=>z.k≤ts.length∧Sj (ts.take z.k)=true) (fun z=>ts.length - z.k) ⟨0,none,0,[]⟩ ⟨Nat.zero_le _,rfl⟩ fun z hz=>?_;obtain ⟨z2,z3⟩:=hz;have hvl:(Kb (ts.take z.k)).length=z.k:=by unfold Kb;rw [List.length_map,List.length_take];omega
 refine go ?_;refine A1 rfl (fun h1=>?_) (fun h1=>?_)
 ·have hk:z.k < ts.length:=FH
  have hx:=hs _ (List.getElem_mem hk);refine Mx (a:=a) (xs:=ts) z.k ?_;rintro hi b o e s1;rw [e];refine go ?_;refine cb (fun w st=>(Agy ts[z.k] FT hx).val w (El (st.get (p:=Gs FT) FI))) ?_;cases g:(C1 ts[z.k]).2
  ·rw [show Sv ts=([],false) by unfold Sv;rw [Bbk hk g];rfl];refine Db Bb 3 ?_;refine go ?_;refine ret ⟨0,none,0,[]⟩ trivial rfl
  refine Og ?_;intros;apply wO;refine Ps (Q3 (C1 ts[z.k]).1) C8 fun a9 c9 F9=>?_;refine go ?_;rw [←Arp hk];refine Cg ⟨z.k+1,a9,c9,F9⟩ ⟨by show z.k+1≤ts.length;omega,As9 hk g z3⟩ (by show ts.length - (z.k+1) < ts.length - z.k;omega)
 ·have hk:ts.take z.k=ts:=List.take_of_length_le FH;rw [hk] at z3 hvl ⊢;rw [show Sv ts=(Kb ts,true) by unfold Sv;rw [z3];rfl];exact CJ
theorem Ayz (t:Bs):(Dm 32 t).length≤t.length+1∧∀u∈Dm 32 t,u.length≤t.length:=by
 have hcb:=Lib.countB_le ⟨#[32]⟩ FK (bz t).size (bz t) (Nat.le_refl _);have hlen:=Lib.splitB_all ⟨#[32]⟩ FK 0 _ (bz t) rfl;rw [Wh,Jo,List.length_map] at hlen;rw [Iu] at hcb;refine ⟨FH,fun u hu=>?_⟩;have h:bz u∈(Dm 32 t).map bz:=List.mem_map.2 ⟨u,hu,rfl⟩;have e:=Wh 32 (bz t);rw [Jo] at e;rw [←e] at h;have:=To ⟨#[32]⟩ (bz t).size _ (bz t) (Nat.le_refl _) (bz u) h;rw [Iu,Iu] at this;exact this
def E4 (x:Ay):List Int × Bool:=if Bv x then (x.Am.map (·.Ae),true) else ([],false)
theorem Adb (x:Ay) (v:Value) (F:List Nat):Fn prog 202 [v] [.isv Bi v x F] [] (fun (_:OwR)=>True) (fun s=>.tuple #[.slice s.a (E4 x).1.length s.c,.bool (E4 x).2]) (fun s=>[.ow Bb 3 (.slice s.a (E4 x).1.length s.c) (E4 x).1 s.F]):=by
 refine enter func202 rfl ntmps202 fun w0=>?_;refine En (v:=v) (x:=x) (F:=F) ?_;rintro a1 c1 F1 a2 c2 F2 rfl l1 l2;unfold maxLen at l1 l2;refine Db Bb 3 ?_;refine go ?_;intros;refine Ca (Uu x _ F) fun _ _=>?_;cases g1:Bv x
 ·rw [show E4 x=([],false) by unfold E4;rw [g1];rfl];exact ED
 have g5:=Ek.1 g1;have hq8:=(De.1 g5.q).2.1;rw [show E4 x=(x.Am.map (·.Ae),true) by unfold E4;rw [g1];rfl];refine go ?_;refine Cd [2,3,11,12] (fun s:AwS=>[(13,.int .i64 (s.i:Nat)),(4,.slice s.a ((x.Am.take s.i).map (·.Ae)).length s.c)]) (fun s=>[.ow Bb 3 (.slice s.a ((x.Am.take s.i).map (·.Ae)).length s.c) ((x.Am.take s.i).map (·.Ae)) s.F]) (fun s=>s.i≤x.Am.length) (fun s=>x.Am.length - s.i) ⟨0,none,0,[]⟩ (Nat.zero_le _) fun s hs=>?_;obtain ⟨i,a3,c3,F3⟩:=s;dsimp only at hs ⊢;have hl3:((x.Am.take i).map (·.Ae)).length≤i:=FO
 refine go ?_;refine A1 rfl (fun h4=>?_) (fun h4=>?_)
 ·have hi:i < x.Am.length:=FH
  have eo:(x.Am.take (i+1)).map (·.Ae)=(x.Am.take i).map (·.Ae)++[x.Am[i].Ae]:=KT
  exact BU
 have hi:i=x.Am.length:=FH
 subst hi;rw [List.take_length];exact ED
def Bjf:Bs:=[110,111,110,101]
def jnW (sep:Bs) (l:List ByteArray):ByteArray:=if l=[] then bz Bjf else bz (Lib.join (l.map fun e=>e.data.toList) sep)
def Yf (E:List ByteArray):ByteArray:=jnW [44,32] E
def V3 (l:List Int):ByteArray:=if l=[] then bz Bjf else bz (jn l)
def Ajj:Bs:=[115,101,110,100]
def Amg:Bs:=[116,105,99,107]
def Arr:Bs:=[100,111,119,110]
def wUp:Bs:=[117,112]
def Ars:Bs:=[108,111,115,101]
def Bdd:Bs:=[99,117,116]
def Xj:Bs:=[100,114,97,105,110]
def Ac7:Bs:=[108,101,97,100]
def Xk:Bs:=[113,117,101,117,101,100]
def Y7:Bs:=[115,101,116,116,108,101,100]
def Bf2:Bs:=[121,101,115]
def wNo:Bs:=[110,111]
def wOk:Bs:=[111,107]
def Aji:Bs:=[97,119,97,105,116]
def Ajk:Bs:=[115,108,111,116,115]
def N3:Bs:=[102,97,99,101,115]
def Bf1:Bs:=[98,97,100]
def Avo:Bs:=[102,117,108,108]
def Bde:Bs:=[108,111,110,103]
def Q1 (w:Bs):Int:=if w=Arr then 2 else if w=wUp then 5 else if w=Ars then 3 else if w=Bdd then 6 else 0
def I9 (W:List Bs):Option Kh :=
 if atW W 0=Ajj∧W.length=1 then some ⟨1,0,⟨#[]⟩⟩
 else if atW W 0=Ajj∧W.length=2∧atW W 1≠[] then some ⟨1,0,bz (atW W 1)⟩
 else if atW W 0=Amg∧W.length=1 then some ⟨4,0,⟨#[]⟩⟩
 else if W.length≠2 then none
 else if Q1 (atW W 0)≠0∧(C1 (bz (atW W 1))).2=true then some ⟨Q1 (atW W 0),(C1 (bz (atW W 1))).1,⟨#[]⟩⟩ else none
abbrev NR:=Dv × ByteArray
def Kd (n:Dv) (s:Kh):Option NR:=if Es s then (Bo n s).map fun y=>(y.1,if s.Cp=2∨s.Cp=4 then Yf y.2 else bz wOk) else none
def Lb (n:Dv) (l:Bs):Option ByteArray :=
 if l=Ac7 then some (bz (Lib.itoa (L8 n.Ab.Aa)))
 else if l=Xk then some (bz (Lib.itoa ((qd n.down:Nat):Int))++⟨#[32]⟩++bz (Lib.itoa ((qd n.up:Nat):Int)))
 else if l=Y7 then some (if Z8 n then bz Bf2 else bz wNo)
 else none
def Uf (n:Dv) (i:Int):Bool:=Eo n.Ao.Ad i
def J8 (n:Dv) (w:Bs) (l:List Int):Option ByteArray :=
 if Ga 1 (l.getD 0 0) ((n.Ao.Ad.length:Int) - 1) then
  if w=Aji∧l.length=1∧Uf n (l.getD 0 0)=true then some (V3 ((Qv n (l.getD 0 0).toNat).Am.map (·.Ae)))
  else if w=Ajk∧l.length=1∧Uf n (l.getD 0 0)=true∧(Qv n (l.getD 0 0).toNat).Bd=true then some (Aak (Qv n (l.getD 0 0).toNat).Aa)
  else if w=N3∧l.length=2∧Uf n (l.getD 0 0)=false then (if B8 (l.getD 1 0) then some (V3 (Lq (Qi n (l.getD 0 0).toNat) (l.getD 1 0))) else none)
  else none
 else none
def Qu (n:Dv) (r:Option ByteArray):Option NR:=r.map fun t=>(n,t)
def Gg (line:ByteArray):List Bs:=Dm 32 line.data.toList
def Pn (n:Dv) (line:ByteArray):Option NR :=
 match I9 (Gg line) with
 | some s=>Kd n s
 | none =>
  if line.data.toList=Xj then some ((Q9 n).1,Yf (Q9 n).2)
  else if (Gg line).length=1 then Qu n (Lb n line.data.toList)
  else if Sj (((Gg line).drop 1).map bz) then Qu n (J8 n (atW (Gg line) 0) (Kb (((Gg line).drop 1).map bz)))
  else none
def Qw (n:Dv) (line:ByteArray):ByteArray:=match Pn n line with|some r=>r.2|none=>⟨#[63]⟩
def H4 (n:Dv) (line:ByteArray):Dv:=match Pn n line with|some r=>r.1|none=>n
def Te (t:ByteArray):ByteArray:=if 200 < t.size then bz Bde else t
def U9 (line:ByteArray):Bool:=Lg.Bv line ⟨#[]⟩
def Sy (l:Log) (line Gw:ByteArray):Log:=⟨l.Cs,l.pending++bz (Kz l.count.toNat line.data.toList Gw.data.toList),l.count+1⟩
def P5 (c:Cc) (line:ByteArray):Cc × ByteArray :=
 if U9 line then
  if c.J0.count=60 then (c,bz Avo) else (⟨H4 c.Bh line,Sy c.J0 line (Te (Qw c.Bh line))⟩,Te (Qw c.Bh line))
 else (c,bz Bf1)
def Md (c:Cc) (line:ByteArray):Cc × ByteArray:=if Ha c then P5 c line else (c,bz wNo)
/-! what a command replies can stand in a log; the console stays valid -/
theorem Yn {l:Bs} (h:Zz l):Zz (bz l).data.toList:=by rw [Jo];exact h
theorem Zk {l:Bs} (h:∀b∈l,97≤b.toNat∧b.toNat≤122):Zz l:=fun b hb=>by
 have:=h b hb;exact CE
theorem Bas {sep:Bs} (hs:Zz sep):∀{l:List Bs},(∀x∈l,Zz x)→Zz (Lib.join l sep)
 | [],_=>fun b hb=>by simp [Lib.join] at hb
 | x::r,h=>by
  rw [Lib.join_cons];refine (h x FI).app ?_;unfold Lib.joinTail;intro b hb;obtain ⟨y,hy,hb⟩:=List.mem_flatten.1 hb;obtain ⟨z,hz,rfl⟩:=List.mem_map.1 hy;exact hs.app (h z JR) b hb
theorem Bja {sep:Bs} (hs:Zz sep) {l:List ByteArray} (h:∀x∈l,Zz x.data.toList):Zz (jnW sep l).data.toList:=by
 unfold jnW
 split
 ·exact Yn (Zk FK)
 ·exact Yn (Bas hs fun x hx=>by obtain ⟨y,hy,rfl⟩:=List.mem_map.1 hx;exact h y hy)
theorem Auq {E:List ByteArray} (h:∀e∈E,evN e):Zz (Yf E).data.toList:=Bja (fun b hb=>by
 rcases List.mem_cons.1 hb with rfl|hb
 ·decide
 ·rw [List.mem_singleton.1 hb];decide) fun x hx=>(Zc (h x hx)).1
theorem Am4 {n:Int} (h:0≤n):Zz (Lib.itoa n):=fun b hb=>by
 rw [Ql h] at hb;have:=P3 n.natAbs b hb;exact CE
theorem Bkf {l:List Int} (h:∀x∈l,0≤x):Zz (jn l):=Bas (fun b hb=>by rw [List.mem_singleton.1 hb];decide) fun x hx=>by
 obtain ⟨y,hy,rfl⟩:=List.mem_map.1 hx;exact Am4 (h y hy)
theorem Au2 {l:List Int} (h:∀x∈l,0≤x):Zz (V3 l).data.toList:=by
 unfold V3
 split
 ·exact Yn (Zk FK)
 ·exact Yn (Bkf h)
theorem Ata {s:Gb} (h:Hn s=true):∀c∈s.Dg.data.toList,97≤c.toNat∧c.toNat≤122:=by
 unfold Hn Rs Abb at h;simp only [Bool.and_eq_true,Bool.or_eq_true,decide_eq_true_eq,List.all_eq_true] at h;intro c hc;have h2:=h.1.2 c hc;unfold low Ga at h2;simp only [Bool.and_eq_true,decide_eq_true_eq] at h2;omega
theorem Bfm {w:Aj} (h:Cu w=true):Zz (Aak w).data.toList:=by
 have hok:∀s∈w.Al,Hn s=true:=by
  unfold Cu at h;simp only [Bool.and_eq_true] at h;exact List.all_eq_true.1 h.1.2
 have hw:=Ip h;have key:∀k,Zz (slT w k).data.toList:=by
  intro k;unfold slT;have h0:Zz (bz (Lib.decDigits w.next.toNat)++⟨#[58]⟩:ByteArray).data.toList:=by
   rw [Im,Jo];refine Zz.app (fun b hb=>?_) fun b hb=>by rw [List.mem_singleton.1 (show b∈[58] from hb)];decide
   have:=P3 w.next.toNat b hb
   exact CE
  have hm:∀s∈w.Al.take k,Hn s=true:=fun s hs=>hok s (List.mem_of_mem_take hs);clear hok h;revert hm;generalize w.Al.take k=L;intro hm;generalize (bz (Lib.decDigits w.next.toNat)++⟨#[58]⟩:ByteArray)=a at h0
  induction L generalizing a with
  | nil=>exact h0
  | cons s r ih =>
   refine ih (fun x hx=>hm x (List.mem_cons_of_mem _ hx)) (a++(⟨#[32]⟩++Acx s)) ?_;rw [Im,Im];refine h0.app (Zz.app (fun b hb=>by rw [List.mem_singleton.1 (show b∈[32] from hb)];decide) ?_);unfold Acx
   split
   ·split
    ·exact fun b hb=>by rw [List.mem_singleton.1 (show b∈[46] from hb)];decide
    ·exact Zk (Ata (hm s FI))
   ·exact fun b hb=>by rw [List.mem_singleton.1 (show b∈[63] from hb)];decide
 exact key _
theorem Bey {n:Dv} {s:Kh} {r:NR} (hg:At n=true) (h:Kd n s=some r):At r.1=true∧Zz r.2.data.toList:=by
 unfold Kd at h
 split at h
 ·rename_i hs;cases e:Bo n s with
  | none=>rw [e] at h;cases h
  | some y =>
   rw [e] at h;cases h;refine ⟨Nv hg hs e,?_⟩;dsimp only
   split
   ·exact Auq (Att hg hs e)
   ·exact Yn (Zk FK)
 ·cases h
theorem Be6 {n:Dv} {l:Bs} {t:ByteArray} (h:Lb n l=some t):Zz t.data.toList:=by
 unfold Lb at h
 split at h
 ·cases h;exact Yn (Am4 (Acg _).1)
 ·split at h
  ·cases h;rw [Im,Im,Jo,Jo];exact ((Am4 (Int.natCast_nonneg _)).app fun b hb=>by rw [List.mem_singleton.1 (show b∈[32] from hb)];decide).app (Am4 (Int.natCast_nonneg _))
  ·split at h
   ·cases h
    split <;> exact Yn (Zk FK)
   ·cases h
theorem Bhs {n:Dv} (hg:At n=true) (i:Nat):Mn (Qv n i):=by
 by_cases hi:i < n.Ac.length
 ·rw [Hh hi];exact Ek.1 ((In hg).2.1 _ (List.getElem_mem hi))
 ·unfold Qv;rw [List.getD_eq_getElem?_getD,List.getElem?_eq_none FH];exact Ek.1 FK
theorem Bi5 {n:Dv} (hg:At n=true) (i:Nat):Ba (Qi n i)=true:=by
 by_cases hi:i < n.Af.length
 ·rw [Ju hi];exact (In hg).1 _ (List.getElem_mem hi)
 ·unfold Qi;rw [List.getD_eq_getElem?_getD,List.getElem?_eq_none FH];decide
theorem Bd1 {n:Dv} {w:Bs} {l:List Int} {t:ByteArray} (hg:At n=true) (hf:∀i k,∀x∈Lq (Qi n i) k,0≤x) (h:J8 n w l=some t):Zz t.data.toList:=by
 unfold J8 at h;have hr:=Bhs hg (l.getD 0 0).toNat
 split at h
 ·split at h
  ·cases h;refine Au2 fun x hx=>?_;obtain ⟨q,hq,rfl⟩:=List.mem_map.1 hx;exact (Bc.1 (Yy hr hq).1).1
  ·split at h
   ·cases h;exact Bfm hr.w
   ·split at h
    ·split at h
     ·cases h;exact Au2 (hf _ _)
     ·cases h
    ·cases h
 ·cases h
theorem Ak2 {e:Bf} {k:Int} (hg:Ba e=true):∀x∈Lq e k,1≤x∧x≤7:=by
 intro x hx;unfold Lq at hx
 split at hx
 ·rename_i y hy;have h2:=(Hm.1 hg).2.2.1 y (List.mem_of_getElem? hy);unfold Lj at h2;simp only [Bool.and_eq_true] at h2;exact (Zp h2.2.2.1).2 x hx
 ·cases hx
theorem Awf {n:Dv} (hg:At n=true) (i:Nat) (k:Int):∀x∈Lq (Qi n i) k,1≤x∧x≤7:=fun x hx=>Ak2 (Bi5 hg i) x hx
theorem Bb7 {n:Dv} {line:ByteArray} {r:NR} (hg:At n=true) (h:Pn n line=some r):At r.1=true∧Zz r.2.data.toList:=by
 unfold Pn at h
 split at h
 ·exact Bey hg h
 ·split at h
  ·cases h;exact ⟨(Az2 hg).1,Auq (Bg6 hg)⟩
  ·split at h
   ·unfold Qu at h;cases e:Lb n line.data.toList with
    | none=>rw [e] at h;cases h
    | some t=>rw [e] at h;cases h;exact ⟨hg,Be6 e⟩
   ·split at h
    ·unfold Qu at h;cases e:J8 n (atW (Gg line) 0) (Kb (((Gg line).drop 1).map bz)) with
     | none=>rw [e] at h;cases h
     | some t=>rw [e] at h;cases h;exact ⟨hg,Bd1 hg (fun i k x hx=>by have:=Awf hg i k x hx;omega) e⟩
    ·cases h
theorem Al4 {n:Dv} {line:ByteArray} (hg:At n=true):At (H4 n line)=true:=by
 unfold H4;cases e:Pn n line with
 | none=>exact hg
 | some r=>exact (Bb7 hg e).1
theorem Anr {n:Dv} {line:ByteArray} (hg:At n=true):Zz (Qw n line).data.toList:=by
 unfold Qw;cases e:Pn n line with
 | none=>exact fun b hb=>by rw [List.mem_singleton.1 (show b∈[63] from hb)];decide
 | some r=>exact (Bb7 hg e).2
theorem Amv {t:ByteArray} (h:Zz t.data.toList):Zz (Te t).data.toList∧(Te t).size≤200:=by
 unfold Te
 split
 ·exact ⟨Yn (Zk FK),FK⟩
 ·exact ⟨h,FH⟩
theorem Aa3 {line Gw:ByteArray} (h:U9 line=true) (h2:Zz Gw.data.toList) (h3:Gw.size≤200):Lg.Bv line Gw=true:=by
 unfold U9 at h;unfold Lg.Bv at h ⊢;simp only [Bool.and_eq_true] at h ⊢;refine ⟨⟨⟨⟨h.1.1.1.1,decide_eq_true FH⟩,h.1.1.2⟩,?_⟩,h.2⟩;unfold I0;rw [List.all_eq_true];exact fun b hb=>Afe.2 (h2 b hb)
theorem Ba9 {l:Log} {line Gw:ByteArray} (hv:Kl l.Cs.data.toList l.pending.data.toList l.count=true) (hc:¬l.count=60) (hr:Lg.Bv line Gw=true) :
  Kl (Sy l line Gw).Cs.data.toList (Sy l line Gw).pending.data.toList (Sy l line Gw).count=true ∧
  Bp ((Sy l line Gw).Cs.data.toList++(Sy l line Gw).pending.data.toList)=Bp (l.Cs.data.toList++l.pending.data.toList)++[Kz l.count.toNat line.data.toList Gw.data.toList]:=by
 have hV:=Lg.Arq hv;have hk:=(Ni (l.Cs.data.toList++l.pending.data.toList)).2;have hcn:=hV.Yb;have hx:Z3 (Bp (l.Cs.data.toList++l.pending.data.toList)).length (Kz l.count.toNat line.data.toList Gw.data.toList)=true:=Uz.2 ⟨line.data.toList,Gw.data.toList,FH,by rw [←Lg.Oy];exact hr,by rw [hcn];rfl⟩;obtain ⟨h1,h2⟩:=hV.append hx;have e:(Sy l line Gw).pending.data.toList=l.pending.data.toList++Kz l.count.toNat line.data.toList Gw.data.toList:=by unfold Sy;rw [Im,Jo]
 rw [e];exact ⟨h1.bool,h2⟩
theorem Apc {c:Cc} {line:ByteArray} (h:Ha c=true):Ha (P5 c line).1=true:=by
 unfold P5
 split
 ·rename_i hl
  split
  ·exact h
  ·rename_i hc;unfold Ha at h ⊢;rw [Bool.and_eq_true] at h ⊢;have ht:=Amv (Anr (line:=line) h.1);exact ⟨Al4 h.1,(Ba9 h.2 hc (Aa3 hl ht.1 ht.2)).1⟩
 ·exact h
end Go.Proofs.YtcmighgaiacgoaaGreatDoor
