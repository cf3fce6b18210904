/- Part 7 of the proof: 45 texts, one behind the other. -/
import Derived.Test.YtkagnmekdkchiaaGreatDoorShelf
import Derived.Deep.RegionHeld3
import Derived.Lib.Strings
import Derived.Lib.LaidTab
import Derived.Lib.ItoaMem
import Derived.RangeFuncCalls
import Derived.RangeFuncFrom
import Derived.RangeFuncLeaves
import Derived.TacticsInMore
import Derived.OrdersIn
import Derived.WalkKit
import Derived.LoopNIn
import Derived.LoopIn
import Derived.OwnWalkIn
import Derived.WideLaws
import Derived.Test.YtkagnmekdkchiaaGreatDoorM6
open _root_.Go.Proofs.Tryz
set_option maxRecDepth 100000
set_option maxHeartbeats 8000000
set_option linter.all false
set_option linter.unusedVariables false
set_option linter.unusedSimpArgs false
namespace Go.Proofs.YtkagnmekdkchiaaGreatDoor
theorem CE{p:Prop}(h:p:=by rw [decide_eq_false (by simpa using h6),hr];exact AB):p:=h
theorem CJ{p:Prop}(h:p:=by exact ⟨by omega,fun e=>by rw [e] at this;exact absurd this.1 (by decide)⟩):p:=h
theorem DJ{p:Prop}(h:p:=by refine go ?_;intros;rw [hop];refine ret (z.a,z.c,z.F) trivial rfl):p:=h
theorem DS{p:Prop}(h:p:=by exact h6 (by rw [←hv];exact hsv.symm)):p:=h
theorem EL{p:Prop}(h:p:=by refine Cu (k+1) hk3 (by omega)):p:=h
theorem GH{p:Prop}(h:p:=by rw [hr];exact AB):p:=h
theorem GX{p:Prop}(h:p:=by exact fun _ _ _ h=>h):p:=h
theorem GY{p:Prop}(h:p:=by simp only [ByteArray.size_append,sz1];omega):p:=h
theorem JR{p:Prop}(h:p:=by have:=run_endLoop (P:=P) hl (by rw [hrec];simp);rw [hrec] at this;exact this):p:=h
theorem KL{p:Prop}(h:p:=by rw [Cb];omega):p:=h
end Go.Proofs.YtkagnmekdkchiaaGreatDoor
namespace Go.Proofs.YtkagnmekdkchiaaGreatDoor
open Go.RowKit
theorem Al6 {t:Me} {f y:Int} (ht:Gg t=true) (hs:Ch ⟨⟨f,y,[]⟩,0,0,[]⟩=true):Aw (U2 t f y)=true:=by
 refine Ay.2 ⟨ht,hs,Bk.2 ⟨by simp [U2],by simp [U2],by simp [U2],by simp [U2]⟩,fun i h1 h2 h3 h4=>?_⟩;refine Nk.2 ?_;simp only [U2,List.getElem_replicate];exact ⟨rfl,rfl,rfl,fun _=>⟨rfl,rfl,rfl,rfl⟩,fun _ _=>⟨rfl,rfl,rfl⟩,fun _ _=>⟨rfl,rfl,rfl⟩⟩
def Be4 (e:ByteArray):Int:=((e.data.toList.getD 0 0).toNat:Int) - 48
def Be9 (i:Nat) (E:List ByteArray):List ByteArray:=(E.filter fun e=>decide (Be4 e=((i:Nat):Int))).map fun e=>e.extract 2 e.size
def EvW (E:List ByteArray):Prop:=∀e∈E,∃i x,1≤i∧i≤7∧e=Mq i x
theorem Axp {i:Nat} (h:i≤7) (x:ByteArray):Mq i x=bz (UInt8.ofNat (48+i)::32::x.data.toList):=by
 have e:bz (Lib.itoa ((i:Nat):Int))=bz [UInt8.ofNat (48+i)]:=by
  rw [Pd (Int.natCast_nonneg i),Int.natAbs_natCast,Lib.decDigits,dif_pos GJ]
 unfold Mq;rw [e,←V8 (_++_),Hb,Hb];rfl
theorem EvW.app {a b:List ByteArray} (h:EvW a) (h2:EvW b):EvW (a++b):=fun e he=>by
 rcases List.mem_append.1 he with he|he
 ·exact h e he
 ·exact h2 e he
theorem EvW.Tj {i:Nat} (h1:1≤i) (h7:i≤7) (es:List ByteArray):EvW (Tj i es):=fun e he=>by
 obtain ⟨x, -,rfl⟩:=List.mem_map.1 he;exact ⟨i,x,h1,h7,rfl⟩
theorem EvW.nil:EvW []:=fun e he=>by cases he
structure SrI (S:List ByteArray) (f:Int) (w:Az):Prop where
 h:∃i,i+w.Ak.length=S.length∧w.Ao=Ce f ((i:Nat):Int)∧w.Ak=S.drop i
structure NtJ (S:List ByteArray) (f:Int) (n:Dt) (E:List ByteArray):Prop where
 s:SrI S f n.Aa.Ab
 d:∀q∈n.down,∀p∈q,PkI S f p
 r:∀i (h:i < n.Ac.length),RcI S f n.Ac[i] (Be9 i E)
 e:EvW E
section
variable {S:List ByteArray} {f:Int} {n:Dt} {E:List ByteArray}
theorem SrI.Ff {w:Az} (h:SrI S f w):Lb w=Ce f ((S.length:Nat):Int):=by
 obtain ⟨i,h1,h2, -⟩:=h.h;unfold Lb;rw [h2,Adu,h1]
theorem SrI.Ao {w:Az} (h:SrI S f w):∃i,i≤S.length∧w.Ao=Ce f ((i:Nat):Int):=by
 obtain ⟨i,h1,h2, -⟩:=h.h;exact ⟨i,GJ,h2⟩
theorem SrI.Dd {w:Az} (h:SrI S f w) (hs:1≤w.size):SrI S f (Dd w):=by
 obtain ⟨i,h1,h2,h3⟩:=h.h;unfold Go.Proofs.YtkagnmekdkchiaaGreatDoor.Dd
 split
 ·rename_i e;refine ⟨i+1,?_,?_,?_⟩
  ·show i+1+(w.Ak.drop 1).length=_;rw [List.length_drop];omega
  ·show Ce w.Ao 1=_;rw [h2,show Ce (Ce f (i:Nat)) 1=Ce (Ce f (i:Nat)) ((1:Nat):Int) from rfl,Adu]
  ·show w.Ak.drop 1=_;rw [h3,List.drop_drop]
 ·exact h
theorem SrI.push {w:Az} (h:SrI S f w) (hs:1≤w.size) (t:ByteArray):SrI (S++[t]) f (Da w t):=by
 obtain ⟨i,h1,h2,h3⟩:=(h.Dd hs).h;refine ⟨i,?_,h2,?_⟩
 ·show i+((Go.Proofs.YtkagnmekdkchiaaGreatDoor.Dd w).Ak++[t]).length=_;rw [List.length_append,List.length_append,List.length_singleton];omega
 ·show (Go.Proofs.YtkagnmekdkchiaaGreatDoor.Dd w).Ak++[t]=_;rw [h3,List.drop_append_of_le_length GJ]
theorem NtJ.mono {S2:List ByteArray} (h:NtJ S f n E) (hs:SrI (S++S2) f n.Aa.Ab):NtJ (S++S2) f n E:=⟨hs,fun q hq p hp=>(h.d q hq p hp).mono,fun i hi=>(h.r i hi).mono,h.e⟩
theorem Auy {P:NE→Prop} (hP:∀(x y:NE) (s:Jp),P x→Aw x.1=true→Ek s=true→s.Ct≠1→Bo x.1 s=some y→P (y.1,x.2++y.2)) {x:NE} (hg:Aw x.1=true) (h:P x):P (drE x):=by
 have ht:∀(x:NE) (s:Jp),P x→Aw x.1=true→Ek s=true→s.Ct≠1→P (Mm x s):=fun x s hx hg hs hk=>by
  cases e:Bo x.1 s with
  | none=>rw [Jd e];exact hx
  | some y=>rw [Xt e];exact hP x y s hx hg hs hk e
 have hr:∀(x:NE),P x→Aw x.1=true→∀k,k+1≤x.1.Al.Ad.length→P (Hg x k):=fun x hx hg k=>by
  have hn8:=(Gn (Ay.1 hg).t).n1
  induction k with
  | zero=>intro _;exact hx
  | succ k ih =>
   intro hk;have f1:=(Oe hg k GJ).1;have hk1:k+1 < (Hg x k).1.Al.Ad.length:=by rw [f1.t];omega
   have f2:=(Am6 f1.g GJ hk1).1;have p2:=ht _ (Ij (k+1)) (ih GJ) f1.g (Azv GJ GJ) (by show (2:Int)≠1;decide);exact ht _ (Lt (k+1)) p2 f2.g (Awh GJ GJ) (by show (5:Int)≠1;decide)
 unfold drE;generalize wN x.1=m
 induction m generalizing x with
 | zero=>exact h
 | succ m ih =>
  unfold Ry
  split
  ·exact h
  ·have h2:=(Gn (Ay.1 hg).t).n0;exact ih (Mc hg).1.g (hr x h hg _ GJ)
end
def lgB (b:UInt8):Prop:=(32≤b.toNat∧b.toNat≤126)∧b≠35
instance (b:UInt8):Decidable (lgB b):=by unfold lgB;infer_instance
def Xy (l:Bs):Prop:=∀b∈l,lgB b
theorem Xy.app {a b:Bs} (h:Xy a) (k:Xy b):Xy (a++b):=fun x hx=>by
 rcases List.mem_append.1 hx with h1|h1
 ·exact h x h1
 ·exact k x h1
theorem Ar0 {s:ByteArray} (h:P9 s=true):∀c∈s.data.toList,97≤c.toNat∧c.toNat≤122:=by
 unfold P9 Y4 low Eu at h;simp only [Bool.and_eq_true,List.all_eq_true,decide_eq_true_eq] at h;exact fun c hc=>by have:=h.2 c hc;omega
def evK (e:ByteArray):Prop:=e=Al2∨e=Wi∨∃t,P9 t=true∧e=Aft t
def slK (l:List Hv):Prop:=∀s∈l,s.Vv=true→P9 s.De=true
theorem slK.drop {l:List Hv} (h:slK l) (k:Nat):slK (l.drop k):=fun s hs=>h s (List.mem_of_mem_drop hs)
theorem Af6 {w:An} (h:Cs w=true):slK w.Ap:=fun s hs _=>by
 unfold Cs at h;simp only [Bool.and_eq_true] at h;have:=List.all_eq_true.1 h.1.2 s hs;unfold Gs at this;simp only [Bool.and_eq_true] at this;exact this.1
theorem Awo:∀(l:List Hv) (n:Int),slK l→∀e∈(rel n l).2.2,evK e
 | [],_,_,e,he=>by cases he
 | s::r,n,h,e,he=>by
  unfold rel at he
  split at he
  ·rename_i hs;rcases List.mem_cons.1 he with rfl|he
   ·exact .inr (.inr ⟨_,h s GL hs,rfl⟩)
   ·exact Awo r _ (fun x hx=>h x IX) e he
  ·cases he
theorem Ave:∀(m:Nat) (w:An),slK w.Ap→∀e∈Nw m w,evK e
 | 0,_,_,e,he=>by cases he
 | m+1,w,h,e,he=>by
  unfold Nw at he;rcases List.mem_cons.1 he with rfl|he
  ·cases hw:w.Ap with
   | nil=>exact .inl rfl
   | cons s r =>
    by_cases hs:s.Vv=true
    ·exact .inr (.inr ⟨s.De,h s (by rw [hw];simp) hs,by simp [Fj,hs]⟩)
    ·exact .inl (by simp [Fj,hs])
  ·exact Ave m (X3 w) (by rw [show (X3 w).Ap=w.Ap.drop 1 by simp [X3]];exact h.drop 1) e he
theorem Aqa {w:An} {t:Int} (h:slK w.Ap):∀e∈Is w t,evK e:=fun e he=>by
 unfold Is at he;rcases List.mem_append.1 he with he|he
 ·exact Ave _ _ h e he
 ·exact Awo _ _ (by rw [R6];exact h.drop _) e he
theorem Bec {w:An} {n:Int} {t:ByteArray} (h:slK w.Ap) (ht:P9 t=true):slK (X2 w n t).Ap:=fun s hs hv=>by
 unfold X2 Lv at hs;rcases List.mem_or_eq_of_mem_set hs with hs|rfl
 ·unfold Ly at hs;rcases List.mem_append.1 hs with hs|hs
  ·exact h s hs hv
  ·rw [(List.mem_replicate.1 hs).2] at hv;cases hv
 ·exact ht
theorem Bb5 {r:A9} {p:Av} (hg:Lq r) (hp:By p=true):∀e∈Hx r p,evK e:=fun e he=>by
 unfold Hx at he
 split at he
 ·unfold Ma at he;have hs:=Af6 (P4 hg hp).1;have hd:P9 p.data=true:=by have h:=hp;unfold By at h;simp only [Bool.and_eq_true] at h;exact h.1.1.2
  rcases List.mem_append.1 he with he|he
  ·unfold Ka Li at he
   split at he
   ·cases he
   ·split at he
    ·cases he
    ·exact Awo _ _ (Bec hs hd) e he
  ·unfold Ob at he
   split at he
   ·split at he
    ·exact Aqa (Af6 (Sn hg hp).1) e he
    ·rw [List.mem_singleton] at he;exact .inr (.inl he)
   ·cases he
 ·cases he
theorem Bcz {r:A9} (hg:Lq r):∀e∈Gz r,evK e:=fun e he=>by
 unfold Gz at he
 split at he
 ·cases he
 ·exact Aqa (Af6 hg.w) e he
def evN (e:ByteArray):Prop:=∃i x,i≤7∧evK x∧e=Mq i x
theorem Axq {i:Nat} (h:i≤7) {es:List ByteArray} (he:∀e∈es,evK e):∀e∈Tj i es,evN e:=fun e hm=>by
 obtain ⟨x,hx,rfl⟩:=List.mem_map.1 hm;exact ⟨i,x,h,he x hx,rfl⟩
theorem Axt {n:Dt} (hg:Aw n=true) (hc:n.Aa.Ai < 9999):∀k,k+1≤n.Al.Ad.length→∀e∈(Bf n k).2,evN e
 | 0,_,e,he=>by cases he
 | k+1,hk,e,he=>by
  obtain ⟨hG,ht, -⟩:=Ox hg hc k GJ;have hn8:=(Gn hG.t).n1;have hi:k+1 < (Bf n k).1.Al.Ad.length:=by rw [ht];omega
  obtain ⟨g1,g2,g3,g4,r⟩:=hG.rn hi;rcases List.mem_append.1 (show e∈(Bf n k).2++(M3 (Bf n k).1 (k+1)).2 from he) with he|he
  ·exact Axt hg hc k GJ e he
  ·unfold M3 at he;cases hl:Ed (Bf n k).1.Al.Ad ((k+1:Nat):Int)
   ·rw [hl,if_neg GM] at he;cases he
   ·rw [hl,if_pos rfl,Gh g2] at he;exact Axq GJ (Bcz (D9.1 (r.hf GJ hl).2.1)) e he
theorem Ao6 {n:Dt} {s:Jp} {y:NE} (hg:Aw n=true) (hs:Ek s=true) (e:Bo n s=some y):∀z∈y.2,evN z:=by
 have hG:=Ay.1 hg;unfold Bo at e
 split at e
 ·cases e;exact fun z hz=>by cases hz
 ·rename_i h1
  split at e
  ·split at e
   ·cases e
   ·cases e;have:=Wy hG.s;exact Axt hg GJ _ (by have:=(Gn hG.t).n0;omega)
  ·rename_i h4;unfold Ek at hs;rw [if_neg h1,if_neg h4] at hs;simp only [Bool.and_eq_true] at hs;have hf:=Ns.1 hs.1.2;have hpg:=Ld (s:=s) hg;have hq:=Lz (s:=s) hg;have htl:(Ga n s).Al=n.Al:=by unfold Ga;split <;> rfl
   unfold C0 at e
   split at e
   ·cases e
   ·rename_i hb
    split at e
    ·cases e
    ·rename_i h2;have hpk:=Mu hq.1 (N8 (q:=Th n s) GJ)
     split at e
     ·cases e;have hi:s.node.toNat < (Ga n s).Al.Ad.length:=by rw [htl];omega
      obtain ⟨i1,i2,i3,i4,hrn⟩:=(Ay.1 hpg).rn hi;unfold Cq;cases hl:Ed (Ga n s).Al.Ad ((s.node.toNat:Nat):Int)
      ·rw [if_neg GM];exact fun z hz=>by cases hz
      ·rw [if_pos rfl,Gh i2];exact Axq GJ (Bb5 (D9.1 (hrn.hf GJ hl).2.1) hpk)
     ·split at e
      ·cases e;exact fun z hz=>by cases hz
      ·cases e;exact fun z hz=>by cases hz
theorem Bbx {n:Dt} (hg:Aw n=true):∀z∈(Pv n).2,evN z :=
 Auy (P:=fun x=>∀z∈x.2,evN z) (fun x y s hx hgx hs _ e z hz=>by
  rcases List.mem_append.1 hz with hz|hz
  ·exact hx z hz
  ·exact Ao6 hgx hs e z hz) (x:=(n,[])) hg fun z hz=>by cases hz
theorem Arg {e:ByteArray} (h:evK e):Xy e.data.toList∧e.size≤9:=by
 rcases h with rfl|rfl|⟨t,ht,rfl⟩
 ·exact ⟨fun b hb=>by rw [List.mem_singleton.1 (show b∈[45] from hb)];decide,GM⟩
 ·exact ⟨fun b hb=>by rw [List.mem_singleton.1 (show b∈[33] from hb)];decide,GM⟩
 ·have h8:=T4 ht;refine ⟨?_,by unfold Aft;rw [ByteArray.size_append];show 1+_≤9;omega⟩;unfold Aft;rw [Hb];refine Xy.app (fun b hb=>by rw [List.mem_singleton.1 (show b∈[43] from hb)];decide) fun b hb=>?_;have:=Ar0 ht b hb;exact CJ
theorem Xc {e:ByteArray} (h:evN e):Xy e.data.toList∧e.size≤11:=by
 obtain ⟨i,x,hi,hx,rfl⟩:=h;obtain ⟨h1,h2⟩:=Arg hx;rw [Axp hi,Jq,Jb];refine ⟨fun b hb=>?_,by simp only [List.length_cons,Cb];omega⟩;rcases List.mem_cons.1 hb with rfl|hb
 ·have e:(UInt8.ofNat (48+i)).toNat=48+i:=by rw [UInt8.toNat_ofNat'];omega
  exact ⟨GJ,fun h=>by have:=congrArg UInt8.toNat h;rw [e] at this;have:(35:UInt8).toNat=35:=rfl;omega⟩
 ·rcases List.mem_cons.1 hb with rfl|hb
  ·decide
  ·exact h1 b hb
structure Log where
 Bh:ByteArray
 pending:ByteArray
 count:Int
def Zl:Bx Log where
 sz:=3
 Lo _ cs x F:=cs=[.string x.Bh,.string x.pending,.int .i64 x.count]∧x.Bh.size≤maxLen∧x.pending.size≤maxLen∧F=[]
 len h:=by obtain ⟨rfl,s1,s2,rfl⟩:=h;rfl
 lt h:=by obtain ⟨rfl,s1,s2,rfl⟩:=h;simp
 frame h _:=h
def Td (x:Log):Nat:=x.Bh.size+x.pending.size
theorem Bah (v:Value) (x:Log) (F:List Nat) (n:Int) (w:World) (h:N0 Zl w v x F) (h0:0≤n) (h1:n≤1048576) :
  Calls prog 5 #[v,.int .i64 n] w fun e w'=>e=.returned (.int .i64 (szr n (Td x)))∧Below w.heap.size w w':=by
 obtain ⟨_,rfl,rfl,s1,s2,rfl⟩:=h;have hB0:∀A:Obj,Below w.heap.size w (w.alloc A):=fun A=>(Below.refl _ _).alloc (Nat.le_refl _) _;unfold maxLen at s1 s2;unfold Td
 go_enter func5,ntmps5
 go_wp2
 all_goals go_ret
 all_goals exact ⟨I2 (by unfold szr;split <;> omega),hB0 _⟩
theorem Aqt (v:Value) (x:Log) (F:List Nat) (w:World) (h:N0 Zl w v x F) (hl:Td x≤1048576) :
  Calls prog 8 #[v] w (Anm Zl x w):=by
 obtain ⟨_,rfl,rfl,s1,s2,rfl⟩:=h;have hB0:∀A B C:Obj,Below w.heap.size w (((w.alloc A).alloc B).alloc C):=fun A B C=>(((Below.refl _ _).alloc (Nat.le_refl _) _).alloc GL _).alloc HI _
 go_enter func8,ntmps8
 go_wp2_with fail;refine bodyPost_ret (v:=.agg #[.string x.Bh,.string x.pending,.int .i64 x.count]) ?_ rfl ?_
 ·simp [results,results8,go_sem]
 ·exact ⟨_,[],rfl,⟨_,rfl,rfl,s1,s2,rfl⟩,GL,GL,by repeat (first|exact Below.refl _ _|refine Below.setCell ?_ HI _|refine Below.alloc ?_ HI _)⟩
structure C7 where
 As:Dt
 Eb:Log
def Hj:Bx C7 where
 sz:=14
 Lo w cs x F:=∃v1 v2 v3 v4 v5 v6 v7 F1 F2 F3 F4 F5 F6 F7,cs=[v1,.int .i64 x.As.Aa.Ab.Ao,.int .i64 x.As.Aa.Ab.size,v2,.int .i64 x.As.Aa.Ai,.int .i64 x.As.Aa.quiet,v3,v4,v5,v6,v7,.string x.Eb.Bh,.string x.Eb.pending,.int .i64 x.Eb.count]∧x.Eb.Bh.size≤maxLen∧x.Eb.pending.size≤maxLen∧Sl Bc w v1 x.As.Al.Ad F1∧Sl A8 w v2 x.As.Aa.Ab.Ak F2∧Sl Bi w v3 x.As.Aa.holds F3∧Sl Bt w v4 x.As.Ae F4∧Sl B4 w v5 x.As.Ac F5∧Sl (Nn Aj GM) w v6 x.As.down F6∧Sl (Nn Aj GM) w v7 x.As.up F7∧F=F1++F2++F3++F4++F5++F6++F7
 len h:=by obtain ⟨v1,v2,v3,v4,v5,v6,v7,F1,F2,F3,F4,F5,F6,F7,rfl,s1,s2,h1,h2,h3,h4,h5,h6,h7,rfl⟩:=h;rfl
 lt h:=by
  obtain ⟨v1,v2,v3,v4,v5,v6,v7,F1,F2,F3,F4,F5,F6,F7,rfl,s1,s2,h1,h2,h3,h4,h5,h6,h7,rfl⟩:=h;intro b hb;simp only [List.mem_append] at hb;rcases hb with (((((hb|hb)|hb)|hb)|hb)|hb)|hb
  ·exact h1.lt GM b hb
  ·exact h2.lt GM b hb
  ·exact h3.lt GM b hb
  ·exact h4.lt GM b hb
  ·exact h5.lt GM b hb
  ·exact h6.lt GM b hb
  ·exact h7.lt GM b hb
 frame h hF:=by obtain ⟨v1,v2,v3,v4,v5,v6,v7,F1,F2,F3,F4,F5,F6,F7,rfl,s1,s2,h1,h2,h3,h4,h5,h6,h7,rfl⟩:=h;exact ⟨v1,v2,v3,v4,v5,v6,v7,F1,F2,F3,F4,F5,F6,F7,rfl,s1,s2,h1.frame fun b hb=>hF b GT,h2.frame fun b hb=>hF b GT,h3.frame fun b hb=>hF b GT,h4.frame fun b hb=>hF b GT,h5.frame fun b hb=>hF b GT,h6.frame fun b hb=>hF b GT,h7.frame fun b hb=>hF b GT,rfl⟩
def Qe:Bx C7 where
 sz:=14
 Lo w cs x F:=∃v1 v2 v3 v4 v5 v6 v7 F1 F2 F3 F4 F5 F6 F7,cs=[v1,.int .i64 x.As.Aa.Ab.Ao,.int .i64 x.As.Aa.Ab.size,v2,.int .i64 x.As.Aa.Ai,.int .i64 x.As.Aa.quiet,v3,v4,v5,v6,v7,.string x.Eb.Bh,.string x.Eb.pending,.int .i64 x.Eb.count]∧x.Eb.Bh.size≤maxLen∧x.Eb.pending.size≤maxLen∧Ow Bc 3 w v1 x.As.Al.Ad F1∧Ow A8 9 w v2 x.As.Aa.Ab.Ak F2∧Ow Bi 156 w v3 x.As.Aa.holds F3∧Ow Bj 110 w v4 x.As.Ae F4∧Ow Bg 117 w v5 x.As.Ac F5∧Ow (Fv Aj 159) 135 w v6 x.As.down F6∧Ow (Fv Aj 159) 135 w v7 x.As.up F7∧F=F1++F2++F3++F4++F5++F6++F7
 len h:=by obtain ⟨v1,v2,v3,v4,v5,v6,v7,F1,F2,F3,F4,F5,F6,F7,rfl,s1,s2,h1,h2,h3,h4,h5,h6,h7,rfl⟩:=h;rfl
 lt h:=by
  obtain ⟨v1,v2,v3,v4,v5,v6,v7,F1,F2,F3,F4,F5,F6,F7,rfl,s1,s2,h1,h2,h3,h4,h5,h6,h7,rfl⟩:=h;intro b hb;simp only [List.mem_append] at hb;rcases hb with (((((hb|hb)|hb)|hb)|hb)|hb)|hb
  ·exact h1.lt b hb
  ·exact h2.lt b hb
  ·exact h3.lt b hb
  ·exact h4.lt b hb
  ·exact h5.lt b hb
  ·exact h6.lt b hb
  ·exact h7.lt b hb
 frame h hF:=by obtain ⟨v1,v2,v3,v4,v5,v6,v7,F1,F2,F3,F4,F5,F6,F7,rfl,s1,s2,h1,h2,h3,h4,h5,h6,h7,rfl⟩:=h;exact ⟨v1,v2,v3,v4,v5,v6,v7,F1,F2,F3,F4,F5,F6,F7,rfl,s1,s2,h1.frame fun b hb=>hF b GT,h2.frame fun b hb=>hF b GT,h3.frame fun b hb=>hF b GT,h4.frame fun b hb=>hF b GT,h5.frame fun b hb=>hF b GT,h6.frame fun b hb=>hF b GT,h7.frame fun b hb=>hF b GT,rfl⟩
theorem Akj:Kv Qe Hj:=⟨rfl,fun h=>by
 obtain ⟨v1,v2,v3,v4,v5,v6,v7,F1,F2,F3,F4,F5,F6,F7,rfl,s1,s2,h1,h2,h3,h4,h5,h6,h7,rfl⟩:=h;obtain ⟨G1,g1,k1⟩:=h1.sl (Kv.refl _);obtain ⟨G2,g2,k2⟩:=h2.sl (Kv.refl _);obtain ⟨G3,g3,k3⟩:=h3.sl (Kv.refl _);obtain ⟨G4,g4,k4⟩:=h4.sl Lk;obtain ⟨G5,g5,k5⟩:=h5.sl Qd;obtain ⟨G6,g6,k6⟩:=h6.sl (Pj (Kv.refl _) GM _);obtain ⟨G7,g7,k7⟩:=h7.sl (Pj (Kv.refl _) GM _);refine ⟨G1++G2++G3++G4++G5++G6++G7,?_,v1,v2,v3,v4,v5,v6,v7,G1,G2,G3,G4,G5,G6,G7,rfl,s1,s2,k1,k2,k3,k4,k5,k6,k7,rfl⟩;intro b hb;simp only [List.mem_append] at hb ⊢;rcases hb with (((((hb|hb)|hb)|hb)|hb)|hb)|hb
 ·simp [g1 b hb]
 ·simp [g2 b hb]
 ·simp [g3 b hb]
 ·simp [g4 b hb]
 ·simp [g5 b hb]
 ·simp [g6 b hb]
 ·simp [g7 b hb]⟩
-- markConsole: a nested struct with several slices is not written here
def Aar (s:Hv):ByteArray:=if s.Vv then (if s.De=⟨#[]⟩ then ⟨#[46]⟩ else s.De) else ⟨#[63]⟩
def slT (x:An) (k:Nat):ByteArray:=(x.Ap.take k).foldl (fun a s=>a++(⟨#[32]⟩++Aar s)) (bz (Lib.decDigits x.next.toNat)++⟨#[58]⟩)
def Ye (x:An):ByteArray:=slT x x.Ap.length
theorem Aao {x:An} {k:Nat} (hk:k < x.Ap.length):slT x (k+1)=slT x k++(⟨#[32]⟩++Aar x.Ap[k]):=by
 unfold slT;rw [←List.take_append_getElem hk,List.foldl_append];rfl
theorem Bbe {x:An} {k:Nat} (hk:k < x.Ap.length) (h:x.Ap[k].Vv=false):slT x k++⟨#[32,63]⟩=slT x (k+1):=by
 rw [Aao hk,Aar,h];rfl
theorem Bbd {x:An} {k:Nat} (hk:k < x.Ap.length) (h:x.Ap[k].Vv=true) (h2:x.Ap[k].De=⟨#[]⟩):slT x k++⟨#[32,46]⟩=slT x (k+1):=by
 rw [Aao hk,Aar,h,if_pos rfl,if_pos h2];rfl
theorem Bbf {x:An} {k:Nat} (hk:k < x.Ap.length) (h:x.Ap[k].Vv=true) (h2:¬x.Ap[k].De=⟨#[]⟩):slT x k++(⟨#[32]⟩++x.Ap[k].De)=slT x (k+1):=by
 rw [Aao hk,Aar,h,if_pos rfl,if_neg h2]
theorem Ao7 {s:Hv} (h:s.De.size≤8):(Aar s).size≤8:=by
 unfold Aar;split
 ·split
  ·decide
  ·exact h
 ·decide
theorem Aan {x:An} (hg:Cs x=true):∀k,(slT x k).size≤6+9 * k
 | 0=>by
  obtain ⟨n0,n1,hl,hit⟩:=Q8 hg;unfold slT;rw [List.take_zero,List.foldl_nil,ByteArray.size_append,Jb];have:=Dx 4 x.next.toNat GJ;have:(⟨#[58]⟩:ByteArray).size=1:=rfl;omega
 | k+1=>by
  have ih:=Aan hg k;obtain ⟨n0,n1,hl,hit⟩:=Q8 hg;by_cases hk:k < x.Ap.length
  ·rw [Aao hk,ByteArray.size_append,ByteArray.size_append];have:=Ao7 (hit _ (List.getElem_mem hk));have:(⟨#[32]⟩:ByteArray).size=1:=rfl;omega
  ·have e:slT x (k+1)=slT x k:=by unfold slT;rw [List.take_of_length_le GJ,List.take_of_length_le GJ]
   rw [e];omega
theorem Amu (x:An) (v:Value) (F FT:List Nat) (hg:Cs x=true):Fn prog 122 [v] [.isv Bv v x F,Gc FT] [] (fun (_:Unit)=>True) (fun _=>.string (Ye x)) (fun _=>[]):=by
 obtain ⟨n0,n1,hl,hit⟩:=Q8 hg;have hzd:(bz (Lib.decDigits x.next.toNat)).size≤5:=by rw [Jb];exact Dx 4 _ GJ
 have z58:(⟨#[58]⟩:ByteArray).size=1:=rfl;refine enter func122 rfl ntmps122 fun w0=>?_;refine Cp ?_;rintro a1 c1 F1 rfl l1;unfold maxLen at l1;refine go ?_;intros;refine cb (fun w st=>Yz x.next GJ GJ FT w (st.get (p:=Gc FT) GL)) ?_;rw [show Lib.itoa x.next=Lib.decDigits x.next.toNat by unfold Lib.itoa;rw [if_neg GJ]];refine go ?_;intros;refine Ev [2,11,12] (fun k:Nat=>[(3,.string (slT x k)),(13,.int .i64 k)]) (fun k=>k≤x.Ap.length) (fun k=>x.Ap.length - k) 0 (Nat.zero_le _) fun k hk=>?_;have hz:=Aan hg k;have z2:(⟨#[32,63]⟩:ByteArray).size=2:=rfl
 have z3:(⟨#[32,46]⟩:ByteArray).size=2:=rfl;have z1:(⟨#[32]⟩:ByteArray).size=1:=rfl;refine go ?_;intros;refine Be rfl (fun h=>?_) (fun h=>?_)
 ·have hk3:k < x.Ap.length:=by omega
  have hs8:=hit _ (List.getElem_mem hk3);refine O5 (xs:=x.Ap) k ?_;rintro hi b o e s1;rw [e];refine go ?_;intros;cases g2:x.Ap[k].Vv
  ·refine go ?_;intros;rw [Bbe hk3 g2];exact EL
  ·
   refine go ?_;intros;by_cases g3:x.Ap[k].De=⟨#[]⟩
   ·rw [decide_eq_true g3];refine go ?_;intros;rw [Bbd hk3 g2 g3];exact EL
   ·rw [decide_eq_false g3];have z9:=ByteArray.size_append (a:=⟨#[32]⟩) (b:=x.Ap[k].De);refine go ?_;intros;rw [Bbf hk3 g2 g3];exact EL
 ·obtain rfl:k=x.Ap.length:=by omega
  refine go ?_;intros;refine ret () trivial ?_;unfold Ye;rfl
theorem Ar6 (x:An) (v:Value) (F FT:List Nat) (hg:Cs x=true):Fn prog 144 [v] [.isv Bv v x F,Gc FT] [] (fun (_:Unit)=>True) (fun _=>.string (Ye x)) (fun _=>[]):=by
 obtain ⟨n0,n1,hl,hit⟩:=Q8 hg;have hzd:(bz (Lib.decDigits x.next.toNat)).size≤5:=by rw [Jb];exact Dx 4 _ GJ
 have z58:(⟨#[58]⟩:ByteArray).size=1:=rfl;refine enter func144 rfl ntmps144 fun w0=>?_;refine Cp ?_;rintro a1 c1 F1 rfl l1;unfold maxLen at l1;refine go ?_;intros;refine cb (fun w st=>(by rw [show x.next=((x.next.toNat:Nat):Int) by omega];exact Ba9 _ GJ w)) ?_;refine go ?_;intros;refine Ev [1,2] (fun k:Nat=>[(3,.string (slT x k)),(4,.int .i64 k)]) (fun k=>k≤x.Ap.length) (fun k=>x.Ap.length - k) 0 (Nat.zero_le _) fun k hk=>?_;have hz:=Aan hg k;have z2:(⟨#[32,63]⟩:ByteArray).size=2:=rfl;have z3:(⟨#[32,46]⟩:ByteArray).size=2:=rfl;have z1:(⟨#[32]⟩:ByteArray).size=1:=rfl;refine go ?_;intros
 refine Be rfl (fun h=>?_) (fun h=>?_)
 ·have hk3:k < x.Ap.length:=by omega
  have hs8:=hit _ (List.getElem_mem hk3);refine O5 (xs:=x.Ap) k ?_;rintro hi b o e s1;rw [e];refine go ?_;intros;cases g2:x.Ap[k].Vv
  ·refine go ?_;intros;rw [Bbe hk3 g2];exact EL
  ·
   refine go ?_;intros;by_cases g3:x.Ap[k].De=⟨#[]⟩
   ·rw [decide_eq_true g3];refine go ?_;intros;rw [Bbd hk3 g2 g3];exact EL
   ·rw [decide_eq_false g3];have z9:=ByteArray.size_append (a:=slT x k) (b:=⟨#[32]⟩);refine go ?_;intros;rw [ByteArray.append_assoc,Bbf hk3 g2 g3];exact EL
 ·obtain rfl:k=x.Ap.length:=by omega
  refine go ?_;intros;refine ret () trivial ?_;unfold Ye;rfl
theorem Ar1 (xs:List Bs) (x sep:Bs) (h:0 < xs.length):Lib.join (xs++[x]) sep=Lib.join xs sep++(sep++x):=by
 cases xs with
 | nil=>cases h
 | cons a r =>
  rw [List.cons_append,Lib.join_cons,Lib.join_cons];unfold Lib.joinTail;simp
theorem Z6 {sep:Bs} {m:Nat}:∀{xs:List Bs},(∀x∈xs,x.length≤m)→(Lib.joinTail sep xs).length≤(sep.length+m) * xs.length
 | [],_=>by unfold Lib.joinTail;simp
 | x::r,h=>by
  have ih:=Z6 (sep:=sep) (m:=m) (xs:=r) fun y hy=>h y (by simp [hy]);have hx:=h x GL;unfold Lib.joinTail at ih ⊢;simp only [List.map_cons,List.flatten_cons,List.length_append,List.length_cons] at ih ⊢;rw [Nat.mul_add];omega
theorem Alp {sep:Bs} {m:Nat} {xs:List Bs} (h:∀x∈xs,x.length≤m):(Lib.join xs sep).length≤(sep.length+m) * xs.length:=by
 cases xs with
 | nil=>simp [Lib.join]
 | cons a r =>
  have hr:=Z6 (sep:=sep) (m:=m) (xs:=r) fun y hy=>h y (by simp [hy]);have ha:=h a GL;rw [Lib.join_cons,List.length_append,List.length_cons,Nat.mul_add];omega
def jn (l:List Int):Bs:=Lib.join (l.map Lib.itoa) [32]
theorem Bca {l:List Int} {k:Nat} (h:∀x∈l,0≤x∧x.natAbs < 10 ^ (k+1)):(jn l).length≤(k+2) * l.length:=by
 have:=Alp (sep:=[32]) (m:=k+1) (xs:=l.map Lib.itoa) fun y hy=>by
  obtain ⟨x,hx,rfl⟩:=List.mem_map.1 hy;rw [Pd (h x hx).1];exact Dx k _ (h x hx).2
 unfold jn;rw [List.length_map] at this;simp only [List.length_cons,List.length_nil] at this;rw [show (k+2)=(0+1+(k+1)) by omega];exact this
def slB (r:A9):ByteArray:=if r.Bd then Ye r.Ab else ⟨#[45]⟩
def Ba7 (r:A9) (f:Int):ByteArray:=bz (Lib.itoa f)++⟨#[32]⟩++slB r++⟨#[10]⟩
theorem Azs {n:Dt} (hg:Aw n=true) {i:Nat} (hi:i < n.Ac.length):Bz n.Ac[i]=true:=by
 obtain ⟨-, -,hl,ha⟩:=Sy.1 hg;obtain ⟨q1,q2,q3,q4⟩:=Bk.1 hl;have h:=ha i GJ;rw [Tt GJ hi GJ GJ,←Aby] at h;unfold Af1 at h;simp only [Bool.and_eq_true] at h;exact h.1.1.1.2
theorem Bcj {r:A9} (hg:Bz r=true) (hs:r.Bd=true):Cs r.Ab=true:=by
 unfold Bz at hg;rw [hs] at hg;simp only [Bool.and_eq_true,if_true] at hg;exact hg.2.1.1
theorem Axa {r:A9} (hg:Bz r=true):(slB r).size≤100:=by
 unfold slB
 split
 ·rename_i hs;have h:=Bcj hg hs;obtain ⟨-, -,hl, -⟩:=Q8 h;have:=Aan h r.Ab.Ap.length;unfold Ye;omega
 ·decide
theorem Aza {n:Int} {k:Nat} (h0:0≤n) (h1:n.natAbs < 10 ^ (k+1)):(bz (Lib.itoa n)).size≤k+1:=by rw [Jb,Pd h0];exact Dx k _ h1
theorem Aic {c:C7} (hn:Aw c.As=true) {i:Nat} (hi:i < c.As.Ac.length) (h8:i < 8):(Ba7 c.As.Ac[i] ((i:Nat):Int)).size≤103:=by
 have e1:(bz (Lib.itoa ((i:Nat):Int))).size≤1:=Aza (k:=0) GJ (by show _ < 10;omega);have e2:=Axa (Azs hn hi);have e3:(⟨#[32]⟩:ByteArray).size=1:=rfl;have e4:(⟨#[10]⟩:ByteArray).size=1:=rfl;unfold Ba7;simp only [ByteArray.size_append];omega
section
variable {c:Cx} {fr:Fr} {H:List Pc} {Φ:Gl}
theorem U4 {v:Value} {x:Log} {F:List Nat} (h:∀(_:Unit),v=.agg #[.string x.Bh,.string x.pending,.int .i64 x.count]→x.Bh.size≤maxLen→x.pending.size≤maxLen→T c fr (H) Φ) (hm:.isv Zl v x F∈H:=by exact Bp):T c fr H Φ:=.mk fun a w s g=>by
 obtain ⟨cs,rfl,rfl,s1,s2,rfl⟩:=s.get hm;exact (h () rfl s1 s2 ).h a w s g
end
end Go.Proofs.YtkagnmekdkchiaaGreatDoor
namespace Go.Proofs.YtkagnmekdkchiaaGreatDoor.Lg
open Go.RowKit
theorem Abe (c:UInt8):∀l:List UInt8,decide (0≤Lib.indexByte l c)=Jk c l:=by
 intro l;have h1:∀l:List UInt8, -1≤Lib.indexByte l c:=by
  intro l
  induction l with
  | nil=>simp [Lib.indexByte]
  | cons b l ih=>simp only [Lib.indexByte];split <;> (try split) <;> omega
 have h2:∀l:List UInt8,(0≤Lib.indexByte l c)↔Jk c l=true:=by
  intro l
  induction l with
  | nil=>simp [Lib.indexByte,Jk]
  | cons b l ih =>
   have h2:=h1 l;rw [show Jk c (b::l)=(b == c || Jk c l) from rfl,Bool.or_eq_true,←ih];simp only [Lib.indexByte];by_cases hb:(b == c)=true
   ·simp [hb]
   ·rw [if_neg hb];simp only [hb]
    split
    ·rename_i h3;simp at h3;simp [h3]
    ·rename_i h3;simp at h3;omega
 rw [Bool.eq_iff_iff,decide_eq_true_iff];exact h2 l
theorem Aer (s:ByteArray) (c:UInt8) (w:World):Calls prog 59 #[.string s,.string ⟨#[c]⟩] w fun e w'=>e=.returned (.bool (Jk c s.data.toList))∧w=w' :=
 (Tryz.strings_Contains_one s c w).mono fun _ _ ⟨he,hw⟩=>⟨by rw [he,Abe],hw.symm⟩
def Bz (c r:ByteArray):Bool:=Eu 1 c.size 160 && decide ((r.size:Int)≤200) && H9 c.data.toList && H9 r.data.toList && !Jk 64 c.data.toList
theorem Vl (c r:ByteArray) (w:World) (hc:c.size≤maxLen) (hr:r.size≤maxLen) :
  Calls prog 31 #[.agg #[.string c,.string r]] w fun e w'=>e=.returned (.bool (Bz c r))∧Below w.heap.size w w':=by
 go_enter func31,ntmps31
 go_wp2_with (first
  | (go_at_call 57;refine (Hk _ _ _ _).mono ?_;rintro e w' ⟨rfl,rfl⟩)
  | (go_at_call 58;refine (Alm _ _ IC).mono ?_;rintro e w' ⟨rfl,rfl⟩)
  | (go_at_call 59;refine (Aer _ _ _).mono ?_;rintro e w' ⟨rfl,rfl⟩))
 all_goals go_ret
 all_goals refine ⟨B8 ?_,(Below.refl _ _).alloc (Nat.le_refl _) _⟩
 all_goals simp [Bz, *]
 all_goals omega
theorem An5 (c r:ByteArray):Bz c r=(!c.data.toList.isEmpty && (H9 c.data.toList && decide ((c.size:Int)≤160)) && !Jk 64 c.data.toList && (H9 r.data.toList && decide ((r.size:Int)≤200))):=by
 have h0:(!c.data.toList.isEmpty)=decide ((1:Int)≤c.size):=by
  have e:c.data.toList.length=c.size:=by simp
  cases h:c.data.toList with
  | nil=>rw [h] at e;simp at e;simp [←e]
  | cons b l=>rw [h] at e;simp at e;simp;omega
 rw [h0,Bz,Eu];cases decide ((1:Int)≤c.size) <;> cases decide ((c.size:Int)≤160) <;> cases decide ((r.size:Int)≤200) <;> cases H9 c.data.toList <;> cases H9 r.data.toList <;> simp
theorem Xj (c r:ByteArray) (w:World) (hc:c.size≤maxLen) (hr:r.size≤maxLen) :
  Calls prog 25 #[.agg #[.string c,.string r]] w fun e w'=>e=.returned (.bool (Bz c r))∧Below w.heap.size w w':=by
 go_enter func25,ntmps25
 go_wp2_with (first
  | (go_at_call 42;refine (Aoh _ _ _ IC).mono ?_;rintro e w' ⟨rfl,rfl⟩)
  | (go_at_call 43;refine (Aog _ 64 _ IC).mono ?_;rintro e w' ⟨rfl,rfl⟩))
 all_goals go_ret
 all_goals refine ⟨B8 ?_,(Below.refl _ _).alloc (Nat.le_refl _) _⟩
 all_goals simp only [ByteArray.toList_eq] at *
 all_goals rw [An5]
 ·have h:c.data.toList=[]:=by assumption
  simp [h]
 ·have h:Jk 64 c.data.toList=true:=by assumption
  simp [h]
 ·have h1:¬c.data.toList=[]:=by assumption
  have h2:H9 c.data.toList=true∧(c.size:Int)≤160:=by assumption
  have h3:¬Jk 64 c.data.toList=true:=by assumption
  simp [h2,h3, -List.isEmpty_iff,List.isEmpty_eq_false_iff.2 h1]
 ·have h2:¬(H9 c.data.toList=true∧(c.size:Int)≤160):=by assumption
  have h3:(H9 c.data.toList && decide ((c.size:Int)≤160))=false:=by
   rw [Bool.eq_false_iff];intro h;simp only [Bool.and_eq_true,decide_eq_true_iff] at h;exact h2 h
  rw [h3];simp
def bs (l:Bs):ByteArray:=⟨l.toArray⟩
theorem Iy (l:Bs):(bs l).data.toList=l:=by simp [bs]
theorem Aci (s:ByteArray):bs s.data.toList=s:=by simp [bs]
theorem Ih (l:Bs):(bs l).size=l.length:=by simp [bs,ByteArray.size]
theorem Cb (s:ByteArray):s.data.toList.length=s.size:=by simp
theorem Bbr (a b:Bs):bs a++bs b=bs (a++b):=by apply ByteArray.ext;simp [bs,ByteArray.data_append]
theorem Hb (s t:ByteArray):(s++t).data.toList=s.data.toList++t.data.toList:=by simp [ByteArray.data_append]
theorem Aa5 (s t:ByteArray):s++t=bs (s.data.toList++t.data.toList):=by rw [←Hb,Aci]
theorem Rf {a b:ByteArray} (h:a=b):Ending.returned (.string a)=.returned (.string b):=by rw [h]
def Aa1:Bx Unit where
 sz:=0
 Lo w cs _ F:=cs=[]∧Lib.TabIs prog w "internal/strconv.uint64pow10" .u64 Lib.pow10Tab∧F=[1]∧1 < w.heap.size
 len h:=by simp [h.1]
 lt h:=by intro b hb;rw [h.2.2.1] at hb;simp at hb;rw [hb];exact h.2.2.2
 frame h hF:=by
  obtain ⟨h1,h2,rfl,h4⟩:=h;have e:=hF 1 GL;refine ⟨h1,?_,rfl,?_⟩
  ·unfold Lib.TabIs World.var? at h2 ⊢;rw [show prog.globalNamed "internal/strconv.uint64pow10" = some 1 by kernel_rfl] at h2 ⊢;simp only [Option.bind_some] at h2 ⊢;rw [e];exact h2
  ·rw [Array.getElem?_eq_getElem h4] at e;exact (Array.getElem?_eq_some_iff.1 e).1
theorem Aa1.tab {w:World} {F:List Nat} (h:N0 Aa1 w (.agg #[]) () F):Lib.TabIs prog w "internal/strconv.uint64pow10" .u64 Lib.pow10Tab:=by
 obtain ⟨cs,_,h⟩:=h;exact h.2.1
theorem Yn (w:World) (k:Nat) (os:Array Obj):Below w.heap.size w (Go.Sort.grow (w.drewN k) os):=by
 refine ⟨rfl,rfl,rfl,?_,fun i hi=>?_⟩
 ·simp [Go.Sort.grow,World.drewN]
 ·simp [Go.Sort.grow,World.drewN,Array.getElem?_append_left hi]
theorem At8 (n:Nat) (hn:n≤9223372036854775807) (F:List Nat) (w:World) (hT:N0 Aa1 w (.agg #[]) () F) :
  Calls prog 74 #[.int .i64 (n:Int)] w fun e w'=>e=.returned (.string (bs (Lib.decDigits n)))∧Below w.heap.size w w':=by
 refine (Tryz.strconv_Itoa (n:Int) GJ GJ w (Aa1.tab hT)).mono ?_;rintro e w' ⟨rfl,k,os,rfl⟩;refine ⟨Rf ?_,Yn w k os⟩;unfold bs;rw [show Lib.itoa (n:Int)=Lib.decDigits n from by unfold Lib.itoa;rw [if_neg GJ];simp]
theorem Ai0 (l:Bs) (c:UInt8):((Ri (l++[c]):Nat):Int)=(41 * (Ri l:Int)+(c.toNat:Int)+1) % 999979:=by
 rw [Atn];unfold Aaq;omega
theorem Anr (s:ByteArray) (w:World) (hs:s.size≤maxLen) :
  Calls prog 124 #[.string s] w fun e w'=>e=.returned (.int .i64 (Ri s.data.toList))∧w=w':=by
 unfold maxLen at hs
 go_enter func124,ntmps124
 go_wp2
 go_loop [3,7] (fun h i=>∃k:Nat,k≤s.size∧i=.int .i64 k∧h=.int .i64 (Ri (s.data.toList.take k))) (fun _ i=>s.size - (intOf i).toNat)
 case atStart=>exact ⟨0,Nat.zero_le _,rfl,rfl⟩
 case round =>
  obtain ⟨k,hk,rfl,rfl⟩:=hrel;by_cases hlt:k < s.size
  ·have hb:(s[k].toNat:Int)≤255:=by have:=s[k].toNat_lt;omega
   have hS:=Lib.hid (Ai0 (s.data.toList.take k) s[k]);rw [←Ai2 s k hlt] at hS;have hl:=Aap (s.data.toList.take k);generalize Ri (s.data.toList.take k)=n at *
   go_wp2
   go_round
   case rel=>exact ⟨k+1,GJ,HZ,by rw [hS.out]⟩
   case measure=>simp [intOf];omega
  ·go_wp2
   go_ret
   exact ⟨I2 (by rw [Am1 s k hlt]),rfl⟩
theorem Azl (s:ByteArray) (w:World) (hs:s.size≤maxLen) :
  Calls prog 146 #[.string s] w fun e w'=>e=.returned (.int .i64 (Ri s.data.toList))∧w=w':=by
 unfold maxLen at hs
 go_enter func146,ntmps146
 go_wp2
 go_loop [3,4] (fun h i=>∃k:Nat,k≤s.size∧i=.int .i64 k∧h=.int .i64 (Ri (s.data.toList.take k))) (fun _ i=>s.size - (intOf i).toNat)
 case atStart=>exact ⟨0,Nat.zero_le _,rfl,rfl⟩
 case round =>
  obtain ⟨k,hk,rfl,rfl⟩:=hrel;by_cases hlt:k < s.size
  ·have hb:(s[k].toNat:Int)≤255:=by have:=s[k].toNat_lt;omega
   have hS:=Lib.hid (Ai0 (s.data.toList.take k) s[k]);rw [←Ai2 s k hlt] at hS;have hl:=Aap (s.data.toList.take k);generalize Ri (s.data.toList.take k)=n at *
   go_wp2
   go_round
   case rel=>exact ⟨k+1,GJ,HZ,by rw [hS.out]⟩
   case measure=>simp [intOf];omega
  ·go_wp2
   go_ret
   exact ⟨I2 (by rw [Am1 s k hlt]),rfl⟩
theorem Pu:∀n:Nat,n < 10→(⟨#[48,49,50,51,52,53,54,55,56,57]⟩:ByteArray).extract n (n+1)=⟨#[UInt8.ofNat (48+n)]⟩:=by decide
theorem Xh:∀(k n:Nat) (w:World),n < 10 ^ (k+1)→n≤999999999999999999 →
  Calls prog 77 #[.int .i64 (n:Int)] w fun e w'=>e=.returned (.string (bs (Lib.decDigits n)))∧∃j,w'=w.drewN j:=by
 intro k
 induction k with
 | zero =>
  intro n w h1 h2;have h3:n < 10:=by simpa using h1
  have hd:=Lib.hid (Pu n h3);have hn:¬((n:Int) < 0):=by omega
  go_enter func77,ntmps77
  go_wp2_with fail
  go_ret
  exact DI
 | succ k ih =>
  intro n w h1 h2;by_cases h3:n < 10
  ·have hd:=Lib.hid (Pu n h3);have hn:¬((n:Int) < 0):=by omega
   go_enter func77,ntmps77
   go_wp2_with fail
   go_ret
   exact DI
  ·have h4:n / 10 < 10 ^ (k+1):=by rw [Nat.pow_succ] at h1;omega
   have hc:=fun w=>ih (n / 10) w h4 GJ;rw [show ((n / 10:Nat):Int)=(n:Int) / 10 from by omega] at hc;have hn:¬((n:Int) < 0):=by omega
   have h5:¬((n:Int) < 10):=by omega
   have hd:=Lib.hid (Pu (n % 10) GJ);have b0:(0:Int)≤(n:Int) % 10:=by omega
   have b1:(n:Int) % 10≤9:=by omega
   have e0:IntKind.i64.wrap ((n:Int) / 10)=(n:Int) / 10:=by rw [IntKind.wrap_i64];omega
   have e1:IntKind.i64.wrap ((n:Int) % 10)=(n:Int) % 10:=by rw [IntKind.wrap_i64];omega
   have e2:IntKind.i64.wrap ((n:Int) % 10+1)=(n:Int) % 10+1:=by rw [IntKind.wrap_i64];omega
   have e3:((n:Int) % 10).toNat=n % 10:=by omega
   have e4:((n:Int) % 10+1).toNat=n % 10+1:=by omega
   have e5:(n:Int).tmod 10=(n:Int) % 10:=Int.tmod_eq_emod_of_nonneg GJ;have e6:(n:Int).tdiv 10=(n:Int) / 10:=Int.tdiv_eq_ediv_of_nonneg GJ;have hsl:∀wx,(Instr.slice 9 (.string ⟨#[48,49,50,51,52,53,54,55,56,57]⟩) (some (.int .i64 ((n:Int) % 10))) (some (.int .i64 ((n:Int) % 10+1))) none).run prog wx=.ok (.string ⟨#[UInt8.ofNat (48+n % 10)]⟩) wx:=fun wx=>by
    exact CO
   have hD:(bs (Lib.decDigits (n / 10))).size≤18:=by rw [Ih];exact Dx 17 _ GJ
   have hd1:(⟨#[UInt8.ofNat (48+n % 10)]⟩:ByteArray).size≤1:=by simp [ByteArray.size]
   have hR:Hid (bs (Lib.decDigits (n / 10))++⟨#[UInt8.ofNat (48+n % 10)]⟩=bs (Lib.decDigits n)):=by
    refine Lib.hid ?_
    conv=>rhs;rw [Lib.decDigits,dif_neg GJ,←Bbr]
    rfl
   generalize bs (Lib.decDigits (n / 10))=D at *;generalize (⟨#[UInt8.ofNat (48+n % 10)]⟩:ByteArray)=d at *;clear ih h1 e3 e4
   go_enter func77,ntmps77
   go_wp2_with fail
   go_quiet ((go_at_call 77;exact Calls.quiet_of (v:=.string D) (hc (World.drewN _ _))))
   go_wp2_with fail
   go_ret
   refine ⟨Rf ?_,_,rfl⟩;exact hR.out
theorem Avv (s:ByteArray) (w:World) (hs0:s.size≤4294967296) :
  Calls prog 93 #[.string s] w fun e w'=>e=.returned (.string (bs (Ny s.data.toList)))∧∃j,w'=w.drewN j:=by
 have hl:=Aap s.data.toList;have hn:=fun w=>Xh 5 (Ri s.data.toList) w GJ GJ;have hS:Hid (s++⟨#[35]⟩++bs (Lib.decDigits (Ri s.data.toList))=bs (Ny s.data.toList)):=by
  refine Lib.hid ?_;rw [Aa5,Hb,Iy];congr 1;simp [Ny]
 have hD:(bs (Lib.decDigits (Ri s.data.toList))).size≤6:=by rw [Ih];exact Dx 5 _ GJ
 generalize bs (Lib.decDigits (Ri s.data.toList))=D at *;have hs:s.size≤maxLen:=by unfold maxLen;omega
 go_enter func93,ntmps93
 go_wp2_with (first
  | (go_at_call 146;refine (Azl _ _ IC).mono ?_;rintro e w' ⟨rfl,rfl⟩)
  | (go_at_call 77;refine (hn _).mono ?_;rintro e w' ⟨rfl,j,rfl⟩))
 go_ret
 exact ⟨Rf hS.out,_,rfl⟩
theorem Pb (c:UInt8):∀l:Bs,(c∈l→Lib.indexByte l c=(D5 c l).length)∧(c ∉ l→Lib.indexByte l c=-1)
 | []=>by simp [Lib.indexByte]
 | b::l=>by
  obtain ⟨h1,h2⟩:=Pb c l;unfold Lib.indexByte D5;by_cases hb:b=c
  ·subst hb;simp
  ·have hb':(b == c)=false:=by simpa using hb
   rw [hb'];have hm:c∈b::l↔c∈l:=by
    rw [List.mem_cons];exact ⟨fun h=>h.resolve_left (fun e=>hb e.symm),.inr⟩
   rw [hm];refine ⟨fun h=>?_,fun h=>?_⟩
   ·rw [h1 h];have:((D5 c l).length:Int)≠-1:=by omega
    simp [D5,hb] at this ⊢
   ·rw [h2 h];simp
theorem Aat (c:UInt8) (l:Bs):(D5 c l).length≤l.length:=by
 unfold D5;exact (List.takeWhile_sublist _).length_le
theorem Aqu {c:UInt8} {l:Bs} (h:c∈l):(D5 c l).length < l.length:=by
 rcases Nl c l with ⟨_,h2⟩|⟨h2,_⟩
 ·have:=congrArg List.length h2;simp at this;omega
 ·exact absurd h h2
def Ps (c:UInt8) (s:ByteArray):ByteArray:=bs (D5 c s.data.toList)
def Qx (c:UInt8) (s:ByteArray):ByteArray:=bs (Ll c s.data.toList)
theorem Apx {c:UInt8} {s:ByteArray} (h:c∈s.data.toList):s.extract 0 (D5 c s.data.toList).length=Ps c s∧s.extract ((D5 c s.data.toList).length+1) s.size=Qx c s:=by
 rcases Nl c s.data.toList with ⟨_,h2⟩|⟨h2,_⟩
 ·constructor
  ·rw [Lib.extract_eq];unfold Ps bs;congr 2;rw [List.drop_zero,Nat.sub_zero];exact (congrArg (List.take _) h2).trans List.take_left
  ·rw [Lib.extract_eq];unfold Qx bs;congr 2;rw [List.take_of_length_le GL];refine (congrArg (List.drop _) h2).trans ?_;rw [←List.drop_drop,List.drop_left];rfl
 ·exact absurd h h2
theorem Asr (s:ByteArray) (c:UInt8) (w:World) (hs:s.size≤maxLen) :
  Calls prog 98 #[.string s,.string ⟨#[c]⟩] w fun e w'=>e=.returned (.tuple #[.string (Ps c s),.string (Qx c s),.bool (Jk c s.data.toList)])∧∃j,w'=w.drewN j:=by
 unfold maxLen at hs;have hi:=fun w=>Tryz.stringslite_Index_one s c w;by_cases h:c∈s.data.toList
 ·have hc:=Apx h;have hl:=Aqu h;rw [Cb] at hl;have hst:Jk c s.data.toList=true:=by unfold Jk;rw [List.any_eq_true];exact ⟨c,h,GL⟩
  have hst:=Lib.hid hst;rw [(Pb c _).1 h] at hi;generalize (D5 c s.data.toList).length=n at *;have hc1:=Lib.hid hc.1;have hc2:=Lib.hid hc.2;clear hc
  go_enter func98,ntmps98
  go_wp2_with (go_at_call 153;refine (hi _).mono ?_;rintro e w' ⟨rfl,rfl⟩)
  go_quiet (fail)
  go_wp2_with fail;refine bodyPost_ret (v:=.tuple #[.string (Ps c s),.string (Qx c s),.bool true]) ?_ rfl ?_
  ·simp [results,results98,go_sem,hc1.out,hc2.out]
  ·exact ⟨by rw [hst.out],_,rfl⟩
 ·have hst:Jk c s.data.toList=false:=by unfold Jk;rw [List.any_eq_false];intro x hx;simp;rintro rfl;exact h hx
  have h1:Ps c s=s:=by unfold Ps;rw [Aqv (fun x hx e=>h (by rw [←e];exact hx)),Aci]
  have h2:Qx c s=⟨#[]⟩:=by unfold Qx;rw [Ahg (fun x hx e=>h (by rw [←e];exact hx))];rfl
  rw [(Pb c _).2 h] at hi;replace hst:=Lib.hid hst;replace h1:=Lib.hid h1;replace h2:=Lib.hid h2
  go_enter func98,ntmps98
  go_wp2_with (go_at_call 153;refine (hi _).mono ?_;rintro e w' ⟨rfl,rfl⟩);refine bodyPost_ret (v:=.tuple #[.string s,.string ⟨#[]⟩,.bool false]) ?_ rfl ?_
  ·simp [results,results98,go_sem]
  ·exact ⟨by rw [hst.out,h1.out,h2.out],0,rfl⟩
end Go.Proofs.YtkagnmekdkchiaaGreatDoor.Lg
namespace Go.Proofs.YtkagnmekdkchiaaGreatDoor
open Go.RowKit
structure Im where
 Eh:ByteArray
 E6:ByteArray
def Hp:Bx Im where
 sz:=2
 Lo _ cs x F:=cs=[.string x.Eh,.string x.E6]∧x.Eh.size≤maxLen∧x.E6.size≤maxLen∧F=[]
 len h:=by obtain ⟨rfl,s1,s2,rfl⟩:=h;rfl
 lt h:=by obtain ⟨rfl,s1,s2,rfl⟩:=h;simp
 frame h _:=h
theorem Wn:One Hp:=fun h u hu=>by
 obtain ⟨rfl,s1,s2,rfl⟩:=h;simp only [List.mem_cons,List.not_mem_nil,or_false] at hu;rcases hu with rfl|rfl
 ·rfl
 ·rfl
theorem Ae7:(prog.info? 60).map (fun i=>(i.zero,i.size,i.bytes))=some (some (.agg #[.string ⟨#[]⟩,.string ⟨#[]⟩]),2,32):=by kernel_rfl
end Go.Proofs.YtkagnmekdkchiaaGreatDoor
namespace Go.Proofs.YtkagnmekdkchiaaGreatDoor.Lg
open Go.RowKit
theorem Nq (c r:ByteArray):Bz c r=Acm c.data.toList r.data.toList:=by
 unfold Bz Acm;rw [Cb,Cb]
theorem Awv {a b:ByteArray} {x y:Bool} (h:a=b) (h2:x=y):Ending.returned (.tuple #[.string a,.bool x])=.returned (.tuple #[.string b,.bool y]):=by rw [h,h2]
theorem At0 (s:ByteArray) (c:UInt8) (w:World) (hs:s.size≤maxLen) :
  Calls prog 55 #[.string s,.string ⟨#[c]⟩] w fun e w'=>e=.returned (.tuple #[.string (Ps c s),.string (Qx c s),.bool (Jk c s.data.toList)])∧∃j,w'=w.drewN j:=by
 go_enter func55,ntmps55
 go_wp2_with (go_at_call 98;refine (Asr _ _ _ hs).mono ?_;rintro e w' ⟨rfl,j,rfl⟩);refine bodyPost_ret (v:=.tuple #[.string (Ps c s),.string (Qx c s),.bool (Jk c s.data.toList)]) ?_ rfl ⟨rfl,_,rfl⟩;simp [results,results55,go_sem]
theorem Rh {s:ByteArray} {n:Nat} (h:s.data.toList.length≤n):s.size≤n:=by rwa [Cb] at h
theorem Zh (s:ByteArray) (F:List Nat) (w:World) (hs0:s.size≤3000) (h35:∀b∈s.data.toList,b≠35) (hT:N0 Aa1 w (.agg #[]) () F) :
  Calls prog 73 #[.string s] w fun e w'=>e=.returned (.tuple #[.string (bs (Ny s.data.toList)),.bool true])∧Below w.heap.size w w':=by
 have hl:=Aap s.data.toList;have hD:(bs (Lib.decDigits (Ri s.data.toList))).size≤6:=by rw [Ih];exact Dx 5 _ GJ
 have hS:Hid (s++⟨#[35]⟩++bs (Lib.decDigits (Ri s.data.toList))=bs (Ny s.data.toList)):=by
  refine Lib.hid ?_;rw [Aa5,Hb,Iy];congr 1;simp [Ny]
 have hI:=fun w F hT=>At8 (Ri s.data.toList) GJ F w hT;have hs:s.size≤maxLen:=by unfold maxLen;omega
 have hst:Jk 35 s.data.toList=false:=by unfold Jk;rw [List.any_eq_false];intro x hx;simp;exact h35 x hx
 have hct:=fun w=>Aer s 35 w;rw [hst] at hct;generalize bs (Lib.decDigits (Ri s.data.toList))=D at *;clear hst h35
 go_enter func73,ntmps73
 go_wp2_with (first
  | (go_at_call 59;refine (hct _).mono ?_;rintro e w' ⟨rfl,rfl⟩)
  | (go_at_call 124;refine (Anr _ _ IC).mono ?_;rintro e w' ⟨rfl,rfl⟩)
  | (go_at_call 74;refine (hI _ _ hT).mono ?_;rintro e w' ⟨rfl,hb⟩))
 refine bodyPost_ret (v:=.tuple #[.string (s++⟨#[35]⟩++D),.bool true]) ?_ rfl ⟨Awv hS.out rfl,hb⟩;simp [results,results73,go_sem]
def Cv (b:UInt8):Bs→List Bs
 | []=>[[]]
 | c::r=>if c == b then []::Cv b r else match Cv b r with
  | []=>[[c]]
  | x::xs=>(c::x)::xs
theorem Ou {b:UInt8}:∀{x:Bs} (r:Bs),(∀c∈x,c≠b)→Cv b (x++b::r)=x::Cv b r
 | [],r,_=>by simp [Cv]
 | c::x,r,h=>by
  have ih:=Ou (b:=b) (x:=x) r fun d hd=>h d (by simp [hd]);have hb:(c == b)=false:=by simpa using h c GL
  simp only [List.cons_append,Cv,hb,ih];simp
theorem Nv {b:UInt8}:∀{x:Bs},(∀c∈x,c≠b)→Cv b x=[x]
 | [],_=>rfl
 | c::x,h=>by
  have ih:=Nv (b:=b) (x:=x) fun d hd=>h d (by simp [hd]);have hb:(c == b)=false:=by simpa using h c GL
  simp only [Cv,hb,ih];simp
theorem Ov (b:UInt8) (l:Bs):∃r,Cv b l=D5 b l::r∧(r=[]↔b ∉ l):=by
 rcases Nl b l with ⟨h,h2⟩|⟨h,h2,_⟩
 ·refine ⟨Cv b (Ll b l),?_,?_⟩
  ·conv=>lhs;rw [h2]
   exact Ou _ W6
  ·refine ⟨fun e=>?_,fun e=>absurd h e⟩;have:∀l:Bs,Cv b l≠[]:=by
    intro l;cases l with
    | nil=>simp [Cv]
    | cons c r =>
     unfold Cv
     split
     ·simp
     ·split <;> simp
   exact absurd e (this _)
 ·exact ⟨[],by rw [Nv fun c hc e=>h (by rw [←e];exact hc),h2],JB⟩
theorem Ys {l:Bs} {f k:Nat} (hf:f≤k) (hk:k < l.length):l.drop f=(l.drop f).take (k - f)++l[k]::l.drop (k+1):=by
 have h1:(l.drop f).drop (k - f)=l.drop k:=by rw [List.drop_drop];congr 1;omega
 conv=>lhs;rw [←List.take_append_drop (k - f) (l.drop f),h1,List.drop_eq_getElem_cons hk]
theorem Ab7 {l:Bs} {f k:Nat} (hf:f≤k) (hk:k < l.length):(l.drop f).take (k+1 - f)=(l.drop f).take (k - f)++[l[k]]:=by
 rw [show k+1 - f=(k - f)+1 by omega,List.take_succ_eq_append_getElem HX]
 congr 2
 rw [List.getElem_drop];congr 1;omega
theorem Aeo (s:ByteArray) (k:Nat) (h:k < s.size):s.data.toList[k]'GW=s[k]:=rfl
theorem Au6 (s:ByteArray) (f k:Nat):s.extract f k=bs ((s.data.toList.drop f).take (k - f)):=Lib.extract_eq s f k
theorem Ur (s:ByteArray) (f:Nat):s.extract f s.size=bs (s.data.toList.drop f):=by
 rw [Lib.extract_eq];unfold bs;rw [List.take_of_length_le GL]
theorem Abm (s:ByteArray) (c:UInt8) (w:World) (hs:s.size≤16777216) :
  Calls prog 38 #[.string s,.int .u8 (c.toNat:Int)] w (Ul A8 9 ((Cv c s.data.toList).map bs) w):=by
 go_enter func38,ntmps38
 go_wp2_with fail
 go_loopw [5,6,7] (fun o f i wr=>∃(outs:List Bs) (fr k:Nat) (F:List Nat) (oa:Option Addr) (oc:Nat),k≤s.size∧fr≤k∧i=.int .i64 k∧f=.int .i64 fr∧o=.slice oa outs.length oc∧Hid (Ow A8 9 wr (.slice oa outs.length oc) (outs.map bs) F)∧F.Nodup∧(∀b∈F,w.heap.size≤b) ∧
  Hid (Cv c s.data.toList=outs++Cv c (s.data.toList.drop fr))∧Hid (∀x∈(s.data.toList.drop fr).take (k - fr),x≠c)∧outs.length≤fr∧Below w.heap.size w wr) (fun _ _ i _=>s.size - (intOf i).toNat)
 case atStart=>exact ⟨[],0,0,[w.heap.size],some ⟨w.heap.size,0,none⟩,0,Nat.zero_le _,Nat.le_refl _,rfl,rfl,rfl,Lib.hid (Ow.empty (Ha.made _ _ _)),GL,GL,Lib.hid rfl,Lib.hid GL,Nat.le_refl _,(Below.refl _ _).alloc (Nat.le_refl _) _⟩
 case round =>
  obtain ⟨outs,fr,k,F,oa,oc,hk,hf,rfl,rfl,rfl,ho,hn,hF,hz,hno,hol,hB⟩:=hrel;by_cases hlt:k < s.size
  ·by_cases he:((s[k].toNat:Int) == (c.toNat:Int))=true
   ·have hz2:Hid (Cv c s.data.toList=(outs++[(s.data.toList.drop fr).take (k - fr)])++Cv c (s.data.toList.drop (k+1))):=by
     refine Lib.hid ?_;have h1:=Ys (l:=s.data.toList) hf (by simpa using hlt);rw [Aeo s k hlt] at h1;rw [Am7,beq_iff_eq] at he;rw [he] at h1;have h2:=hz.out;rw [h1,Ou _ hno.out] at h2;rw [h2];simp
    have hx:=Lib.hid (Au6 s fr k);have hxs:(s.extract fr k).size≤maxLen:=by unfold maxLen;simp;omega
    clear hz hno;go_wp2_with (at_builtin;refine Mn Dp GM GV _ _ _ GV 9 (.string ⟨#[]⟩) 16 underlying38 We rfl (.slice oa outs.length oc) (outs.map bs) F GV (ho.out.below ((Below.refl _ _).alloc (Nat.le_refl _) _)) (Hd.of hn) (some ⟨wr.heap.size,0,none⟩) [s.extract fr k] 1 GV [.string (s.extract fr k)] [] (Cw.one ⟨rfl,hxs,rfl⟩) (.inr ⟨_,rfl,World.news_of_block (heap_alloc_new wr _)⟩) GL (by simp;unfold maxLen;omega) GU ?_);intro v6 w6 F6 hA;have o6:=hA.ow;have n6:=hA.Al7 hn GL GL;have m6:=hA.mem;have K6:=hA.H8
    obtain ⟨a6,c6,hv6⟩:=hA.val;clear hA;have hv7:v6=.slice a6 (outs.length+1) c6:=by simpa using hv6
    subst hv7;clear hv6;have e6:(outs++[(s.data.toList.drop fr).take (k - fr)]).map bs=outs.map bs++[s.extract fr k]:=by rw [List.map_append,hx.out];rfl
    have f6:∀b∈F6,w.heap.size≤b:=fun b hb=>by
     rcases m6 b hb with h7|h7|h7
     ·exact hF b h7
     ·simp at h7
     ·have:=hB.size;simp at h7;omega
    have B6:Below w.heap.size w w6:=(hB.alloc hB.size _).trans (K6.below (by have:=hB.size;simp;omega) hF);replace o6:=Lib.hid o6;replace e6:=Lib.hid e6;clear K6 m6 ho hn hF hB;go_wp2_with fail;refine ⟨⟨outs++[(s.data.toList.drop fr).take (k - fr)],k+1,k+1,F6,a6,c6,GJ,Nat.le_refl _,HZ,HZ,GL,?_,n6,f6,hz2,Lib.hid GL,GU,B6⟩,HA⟩;refine Lib.hid ?_;rw [e6.out];simpa using o6.out
   ·have he2:=eq_false_of_ne_true he;have hno2:Hid (∀x∈(s.data.toList.drop fr).take (k+1 - fr),x≠c):=by
     refine Lib.hid ?_;rw [Ab7 hf (by simpa using hlt),Aeo s k hlt];intro x hx;rcases List.mem_append.1 hx with hx|hx
     ·exact hno.out x hx
     ·simp only [List.mem_singleton] at hx;subst hx;intro e;rw [Am7,beq_eq_false_iff_ne] at he2;exact he2 e
    clear hno he;go_wp2_with fail;exact ⟨⟨outs,fr,k+1,F,oa,oc,GJ,GJ,HZ,rfl,rfl,ho,hn,hF,hz,hno2,hol,hB⟩,HA⟩
  ·have hke:k=s.size:=by omega
   subst hke;have hz2:Hid (Cv c s.data.toList=outs++[s.data.toList.drop fr]):=by
    refine Lib.hid ?_;have h2:=hno.out;rw [List.take_of_length_le GL] at h2;rw [hz.out,Nv h2]
   have hx:=Lib.hid (Ur s fr);have hxs:(s.extract fr s.size).size≤maxLen:=by unfold maxLen;simp;omega
   clear hz hno;go_wp2_with (at_builtin;refine Mn Dp GM GV _ _ _ GV 9 (.string ⟨#[]⟩) 16 underlying38 We rfl (.slice oa outs.length oc) (outs.map bs) F GV (ho.out.below ((Below.refl _ _).alloc (Nat.le_refl _) _)) (Hd.of hn) (some ⟨wr.heap.size,0,none⟩) [s.extract fr s.size] 1 GV [.string (s.extract fr s.size)] [] (Cw.one ⟨rfl,hxs,rfl⟩) (.inr ⟨_,rfl,World.news_of_block (heap_alloc_new wr _)⟩) GL (by simp;unfold maxLen;omega) GU ?_);intro v6 w6 F6 hA;have o6:=hA.ow;have n6:=hA.Al7 hn GL GL;have m6:=hA.mem;have K6:=hA.H8;clear hA
   have e6:(outs++[s.data.toList.drop fr]).map bs=outs.map bs++[s.extract fr s.size]:=by rw [List.map_append,hx.out];rfl
   have f6:∀b∈F6,w.heap.size≤b:=fun b hb=>by
    rcases m6 b hb with h7|h7|h7
    ·exact hF b h7
    ·simp at h7
    ·have:=hB.size;simp at h7;omega
   have B6:Below w.heap.size w w6:=(hB.alloc hB.size _).trans (K6.below (by have:=hB.size;simp;omega) hF);replace o6:=Lib.hid o6;replace e6:=Lib.hid e6;clear K6 m6 ho hn hF hB;go_wp2_with fail
   go_ret
   refine ⟨v6,F6,rfl,?_,n6,f6,B6⟩;rw [hz2.out,e6.out];exact o6.out
end Go.Proofs.YtkagnmekdkchiaaGreatDoor.Lg
namespace Go.Proofs.YtkagnmekdkchiaaGreatDoor
open Go.RowKit
section
variable {c:Cx} {fr:Fr} {H:List Pc} {Φ:Gl}
theorem Ach {a:Option Addr} {n cp:Nat} {xs:List Im} {F:List Nat} (i:Nat) (h:∀(hi:i < xs.length) (b o:Nat),a=some ⟨b,o,none⟩→xs[i].Eh.size≤maxLen→xs[i].E6.size≤maxLen→T c fr (.cel b (o+i * 2) [.string xs[i].Eh,.string xs[i].E6]::H) Φ) (hm:.sl Hp (.slice a n cp) xs F∈H:=by exact Bp) (hi:i < xs.length:=by omega):T c fr H Φ:=.mk fun ac w s g=>by
 obtain ⟨b,o,cs,G,ha,hrep,hG,hb,hne,hr⟩:=Wv (s.get hm) i hi;obtain ⟨rfl,s1,s2,rfl⟩:=hrep;exact (h hi b o  ha s1 s2 ).h ac w (s.ro hm rfl rfl ⟨hne,hr⟩ HR) g
theorem Ag0 (x:Im) (s1:x.Eh.size≤maxLen) (s2:x.E6.size≤maxLen) (w:World):Cw Hp w [.string x.Eh,.string x.E6] [x] []:=⟨_,[],[],[],GL,GL,⟨rfl,s1,s2,rfl⟩,rfl,rfl⟩
end
end Go.Proofs.YtkagnmekdkchiaaGreatDoor
namespace Go.Proofs.YtkagnmekdkchiaaGreatDoor.Lg
open Go.RowKit
theorem Ak3 (k:Nat) (c r:ByteArray):bs (Lib.decDigits k)++⟨#[32]⟩++c++⟨#[64]⟩++r=bs (Kh k c.data.toList r.data.toList):=by
 rw [Aa5 (_++_) r,Hb,Hb,Hb,Iy];congr 1;simp [Kh]
theorem Auo (l:Bs):bs l++⟨#[10]⟩=bs (l++[10]):=by rw [Aa5,Iy]
theorem Aep {P:Program} {f:FuncId} {a:Array Value} {w:World} {v:Value} (h:Calls P f a w fun e w1=>e=.returned v∧∃j,w1=w.drewN j):Calls P f a w fun e w1=>e=.returned v∧Below w.heap.size w w1:=h.mono fun e w1 ⟨he,j,hj⟩=>⟨he,by rw [hj];exact Dl (Below.refl _ _) _⟩
theorem sz1 (x:UInt8):(⟨#[x]⟩:ByteArray).size=1:=rfl
theorem Aew (k:Nat) (c r:ByteArray) (F:List Nat) (hk:k≤59) (hg:Xx c.data.toList r.data.toList):Fn prog 34 [.int .i64 (k:Int),.agg #[.string c,.string r]] [.isv Aa1 (.agg #[]) () F] [] (fun (_:Unit)=>True) (fun _=>.string (bs (J4 k c.data.toList r.data.toList))) (fun _=>[]):=by
 have hb0:=Aa6 hk hg;have hm:=Rm (k:=k) hg;have hX:=Ak3 k c r;have hc1:c.size≤160:=Rh hg.c1;have hr1:r.size≤200:=Rh hg.r1;have hD:(bs (Lib.decDigits k)).size≤2:=by rw [Ih];exact Dx 1 _ GJ
 have hE:(bs (Ny (Kh k c.data.toList r.data.toList))).size≤400:=by rw [Ih];have:=Abz (Kh k c.data.toList r.data.toList);omega
 have hN:=Auo (Ny (Kh k c.data.toList r.data.toList));have hI:=fun w hT=>At8 k GJ F w hT;have hA:=fun w hT=>Zh (bs (Kh k c.data.toList r.data.toList)) F w (by rw [Ih];omega) (by rw [Iy];exact fun b hb=>(hm b hb).2) hT;rw [Iy,←hX] at hA;rw [show bs (J4 k c.data.toList r.data.toList)=bs (Ny (Kh k c.data.toList r.data.toList)++[10]) from rfl];generalize bs (Lib.decDigits k)=D at *;generalize bs (Ny (Kh k c.data.toList r.data.toList))=E at *;refine enter func34 rfl ntmps34 fun w0=>?_;refine go ?_;intros;refine At [0] [] ?_;refine Dk 0 3 4 7 ?_;refine dt 8 ?_;refine dN 1 ?_;refine oC ?_
 refine cb (fun w st=>hI w (st.get (p:=.isv Aa1 (.agg #[]) () F) GO)) ?_;refine dk ?_;refine dt 2 ?_ (hy:=M2 rfl rfl GY);refine dt 5 ?_ (hy:=M2 rfl rfl GY);refine dt 6 ?_ (hy:=M2 rfl rfl GY);refine dt 9 ?_ (hy:=M2 rfl rfl GY);refine dN 10 ?_;refine oC ?_;refine cb (fun w st=>hA w (st.get (p:=.isv Aa1 (.agg #[]) () F) GO)) ?_;refine dk ?_;refine Dk 11 12 13 14 ?_;refine dt 15 ?_;refine dd ?_
 refine go ?_;intros;apply wO;apply oc;rfl;exact M2 rfl rfl (by rw [sz1];omega);refine go ?_;intros;refine ret () trivial ?_;rw [←hN];rfl
theorem Wc (k:Nat) (c r:ByteArray) (F:List Nat) (w:World) (hk:k≤59) (hg:Xx c.data.toList r.data.toList) (hT:N0 Aa1 w (.agg #[]) () F) :
  Calls prog 34 #[.int .i64 (k:Int),.agg #[.string c,.string r]] w fun e w'=>e=.returned (.string (bs (J4 k c.data.toList r.data.toList)))∧Below w.heap.size w w':=(Aew k c r F hk hg).val w (I9 hT)
theorem Aia (k:Nat) (c r:ByteArray) (hk:k≤59) (hg:Xx c.data.toList r.data.toList):Fn prog 49 [.int .i64 (k:Int),.agg #[.string c,.string r]] [] [] (fun (_:Unit)=>True) (fun _=>.string (bs (J4 k c.data.toList r.data.toList))) (fun _=>[]):=by
 have hb0:=Aa6 hk hg;have hm:=Rm (k:=k) hg;have hX:=Ak3 k c r;have hc1:c.size≤160:=Rh hg.c1;have hr1:r.size≤200:=Rh hg.r1;have hD:(bs (Lib.decDigits k)).size≤2:=by rw [Ih];exact Dx 1 _ GJ
 have hE:(bs (Ny (Kh k c.data.toList r.data.toList))).size≤400:=by rw [Ih];have:=Abz (Kh k c.data.toList r.data.toList);omega
 have hN:=Auo (Ny (Kh k c.data.toList r.data.toList));have hI:=fun w=>Aep (Xh 1 k w GJ GJ);have hA:=fun w=>Aep (Avv (bs (Kh k c.data.toList r.data.toList)) w (by rw [Ih];omega));rw [Iy,←hX] at hA;rw [show bs (J4 k c.data.toList r.data.toList)=bs (Ny (Kh k c.data.toList r.data.toList)++[10]) from rfl];generalize bs (Lib.decDigits k)=D at *;generalize bs (Ny (Kh k c.data.toList r.data.toList))=E at *;refine enter func49 rfl ntmps49 fun w0=>?_;refine go ?_;intros;refine At [0] [] ?_;refine Dk 0 3 4 7 ?_;refine dt 8 ?_;refine dN 1 ?_;refine oC ?_;refine cb (fun w st=>hI w) ?_
 refine dk ?_;refine dt 2 ?_ (hy:=M2 rfl rfl GY);refine dt 5 ?_ (hy:=M2 rfl rfl GY);refine dt 6 ?_ (hy:=M2 rfl rfl GY);refine dt 9 ?_ (hy:=M2 rfl rfl GY);refine dN 10 ?_;refine oC ?_;refine cb (fun w st=>hA w) ?_;refine dk ?_;refine dt 11 ?_ (hy:=M2 rfl rfl GY);refine dt 12 ?_;refine dd ?_;refine go ?_;intros;refine ret () trivial ?_;rw [←hN];rfl
theorem Asj (k:Nat) (c r:ByteArray) (w:World) (hk:k≤59) (hg:Xx c.data.toList r.data.toList) :
  Calls prog 49 #[.int .i64 (k:Int),.agg #[.string c,.string r]] w fun e w'=>e=.returned (.string (bs (J4 k c.data.toList r.data.toList)))∧Below w.heap.size w w':=(Aia k c r hk hg).val w nofun
theorem Ay7 {a b:ByteArray} (h:Bz a b=true):Xx a.data.toList b.data.toList:=Ip (by rw [←Nq];exact h)
theorem Aqj {l:Bs} {k:Nat} (h:(D5 35 l).length < (Hc k).length∨(D5 35 l).take (Hc k).length≠Hc k):Si l k=(([],[]),false):=by
 unfold Si;rw [if_pos h]
theorem Az3 {l:Bs} {k:Nat} {rest:Bs} (h:¬((D5 35 l).length < (Hc k).length∨(D5 35 l).take (Hc k).length≠Hc k)) (hr:rest=(D5 35 l).drop (Hc k).length) (h2:(D5 64 rest).length=rest.length):Si l k=(([],[]),false):=by
 subst hr;unfold Si;rw [if_neg h];simp only [];rw [if_pos h2]
theorem Az4 {l:Bs} {k:Nat} {rest:Bs} (h:¬((D5 35 l).length < (Hc k).length∨(D5 35 l).take (Hc k).length≠Hc k)) (hr:rest=(D5 35 l).drop (Hc k).length) (h2:¬(D5 64 rest).length=rest.length) :
  Si l k=((D5 64 rest,rest.drop ((D5 64 rest).length+1)),Acm (D5 64 rest) (rest.drop ((D5 64 rest).length+1)) && (J4 k (D5 64 rest) (rest.drop ((D5 64 rest).length+1)) == l++[10])):=by
 subst hr;unfold Si;rw [if_neg h];simp only [];rw [if_neg h2]
theorem Au8 (l:Bs) (n:Nat):(bs l).extract 0 n=bs (l.take n):=by rw [Au6,Iy];simp
theorem Au7 (l:Bs) (n:Nat):(bs l).extract n (bs l).size=bs (l.drop n):=by rw [Ur,Iy]
theorem Auq {a b:Bs}:bs a=bs b↔a=b:=⟨fun h=>by have:=congrArg (fun x=>x.data.toList) h;simpa [Iy] using this,fun h=>by rw [h]⟩
theorem Aj9 {c:UInt8} {l:Bs} (h:0 < ((Cv c l).map bs).length):((Cv c l).map bs)[0]=bs (D5 c l):=by
 obtain ⟨r,hr,_⟩:=Ov c l;simp [hr]
theorem Aka (c:UInt8) (l:Bs):0 < ((Cv c l).map bs).length:=by
 obtain ⟨r,hr,_⟩:=Ov c l;simp [hr]
theorem Ask (s:ByteArray) (k:Nat) (hk:k≤59) (hs:s.size≤16777216):Fn prog 39 [.string s,.int .i64 (k:Int)] [] [] (fun (_:Unit)=>True) (fun _=>.tuple #[.agg #[.string (bs (Si s.data.toList k).1.1),.string (bs (Si s.data.toList k).1.2)],.bool (Si s.data.toList k).2]) (fun _=>[]):=by
 have hI:=fun w=>Aep (Xh 1 k w GJ GJ);have hah:bs (Lib.decDigits k)++⟨#[32]⟩=bs (Hc k):=by rw [Aa5,Iy];rfl
 have hD:(bs (Lib.decDigits k)).size≤2:=by rw [Ih];exact Dx 1 _ GJ
 have hT0:=Aat 35 s.data.toList;rw [Cb] at hT0;have e0:=Ih (Hc k);have hA:(Hc k).length≤3:=by have:=Dx 1 k GJ;simp [Hc];omega
 have e1:=Ih (D5 35 s.data.toList);have e2:=Au8 (D5 35 s.data.toList) (Hc k).length;have e3:=Au7 (D5 35 s.data.toList) (Hc k).length;refine enter func39 rfl ntmps39 fun w0=>?_;refine go ?_;intros;refine cb (fun w st=>hI w) ?_;apply wO;apply oc;rfl;exact M2 rfl rfl (by rw [sz1];omega);rw [hah];refine go ?_;intros;refine cn (fun w st=>Abm s 35 w hs) fun a2 c2 F2=>?_;refine A4 (E:=A8) (xs:=(Cv 35 s.data.toList).map bs) fun F3=>?_;have hi7:=Aka 35 s.data.toList;refine M9 (xs:=(Cv 35 s.data.toList).map bs) 0 ?_;rintro hi0 b0 o0 rfl q0;rw [Aj9];rw [←e0] at e2 e3
 have e4:(D5 35 s.data.toList).take (bs (Hc k)).size=Hc k↔(bs (D5 35 s.data.toList)).extract 0 (bs (Hc k)).size=bs (Hc k):=by rw [e2,Auq]
 rw [e0] at e4;have hr3:((bs (D5 35 s.data.toList)).extract (bs (Hc k)).size (bs (D5 35 s.data.toList)).size).data.toList=(D5 35 s.data.toList).drop (Hc k).length:=by rw [e3,Iy,e0]
 generalize bs (D5 35 s.data.toList)=tx at *;rw [←e0] at e4;generalize bs (Hc k)=ah at *;refine go ?_;intros;by_cases hlt:tx.size < ah.size
 ·rw [Aqj (.inl GJ),show decide ((tx.size:Int) < (ah.size:Int))=true from decide_eq_true GJ];exact AB
 rw [show decide ((tx.size:Int) < (ah.size:Int))=false from decide_eq_false GJ];refine go ?_;intros;apply wO;apply oc;rfl;exact Bdn rfl rfl GJ GJ;refine go ?_;intros;refine Be rfl (fun h4=>?_) (fun h4=>?_)
 ·rw [Aqj (.inr (fun e=>h4 (e4.1 (by rw [e0];exact e))))];exact AB
 have h4:tx.extract 0 ah.size=ah:=Decidable.not_not.1 h4;have hyes:¬((D5 35 s.data.toList).length < (Hc k).length∨(D5 35 s.data.toList).take (Hc k).length≠Hc k):=by
  rintro (h|h)
  ·omega
  ·exact h (by rw [←e0];exact e4.2 h4)
 refine go ?_;intros;apply wO;apply oc;rfl;exact Agr rfl rfl GJ GJ;rw [show tx.extract ((ah.size:Nat):Int).toNat tx.size=tx.extract ah.size tx.size from rfl];have hrz:(tx.extract ah.size tx.size).size≤16777216:=by rw [ByteArray.size_extract];omega
 generalize tx.extract ah.size tx.size=rs at *;refine go ?_;intros;refine cn (fun w st=>Abm rs 64 w hrz) fun a4 c4 F4=>?_;refine A4 (E:=A8) (xs:=(Cv 64 rs.data.toList).map bs) fun F5=>?_;have hi8:=Aka 64 rs.data.toList;refine M9 (xs:=(Cv 64 rs.data.toList).map bs) 0 ?_;rintro hi1 b1 o1 rfl q1;rw [Aj9];have e5:=Ih (D5 64 rs.data.toList);have e6:=Aat 64 rs.data.toList;have e7:=Ur rs ((D5 64 rs.data.toList).length+1);have e8:=Cb rs;have e9:=Iy (D5 64 rs.data.toList);have hnb:=fun h=>Az3 (l:=s.data.toList) (k:=k) hyes hr3 h;have hnc:=fun h=>Az4 (l:=s.data.toList) (k:=k) hyes hr3 h;rw [←e5] at e7
 generalize bs (D5 64 rs.data.toList)=ak at *;refine go ?_;intros;refine Be rfl (fun h5=>?_) (fun h5=>?_)
 ·rw [hnb GJ];exact AB
 have hno:=hnc GJ;refine go ?_;intros;apply wO;apply oc;rfl;exact Agr rfl rfl GJ GJ;rw [show rs.extract ((ak.size:Int)+1).toNat rs.size=rs.extract (ak.size+1) rs.size from rfl];have hrp:(rs.extract (ak.size+1) rs.size).size≤16777216:=by rw [ByteArray.size_extract];omega
 have p1:(rs.extract (ak.size+1) rs.size).data.toList=rs.data.toList.drop ((D5 64 rs.data.toList).length+1):=by rw [e7,Iy,e5]
 generalize rs.extract (ak.size+1) rs.size=rp at *;rw [←p1,←e9,←Nq] at hno;refine go ?_;intros;rw [hno];cases hg:Bz ak rp
 ·skip
  refine At [0] [] ?_;refine Dy 0 1 ?_;refine dN 2 ?_;refine oC ?_;refine cb (fun w st=>Xj ak rp w GZ GZ) ?_;rw [hg];refine dk ?_;refine dt 3 ?_;refine ds 4 ?_;refine ds 5 ?_;refine ds 6 ?_;refine ds 7 ?_;refine ds 8 ?_;refine ds 9 ?_;refine dt 10 ?_;refine dN 11 ?_;refine oS ?_;refine dk ?_;refine dt 12 ?_;refine dd ?_;refine go ?_;intros;refine ret () trivial ?_;dsimp only;rw [Aci,Aci];rw [Bool.false_and];rfl
 ·skip
  refine At [0] [] ?_;refine Dy 0 1 ?_;refine dN 2 ?_;refine oC ?_;refine cb (fun w st=>Xj ak rp w GZ GZ) ?_;rw [hg];refine dk ?_;refine dt 3 ?_;refine Di 4 ?_;refine Di 5 ?_;refine Di 7 ?_;refine Di 8 ?_ (hy:=M2 rfl rfl (by rw [sz1];omega));refine d1g 6 ?_;apply On.h;refine oC ?_;refine cf (Aia k ak rp hk (Ay7 hg)) fun _ _=>?_;refine Ar ?_;refine dk ?_;refine Di 9 ?_;refine dt 10 ?_;refine dN 11 ?_;refine oS ?_;refine dk ?_;refine dt 12 ?_;refine dd ?_;refine go ?_;intros;refine ret () trivial ?_;dsimp only;rw [Aci,Aci]
  rw [Bool.true_and,show (decide (bs (J4 k ak.data.toList rp.data.toList)=s++⟨#[10]⟩))=(J4 k ak.data.toList rp.data.toList == s.data.toList++[10]) from by
   rw [Aa5,Bool.eq_iff_iff];simp [Auq]]
  rfl
end Go.Proofs.YtkagnmekdkchiaaGreatDoor.Lg
namespace Go.Proofs.YtkagnmekdkchiaaGreatDoor
open Go.RowKit
theorem Ate {n:Nat} {P:Program} {row:String} {args:Array Value} {w:World} {R:Value→World→Prop} (h:Rows P row args w R):RowsIn Fence.wide n P row args w R:=fun c cs _=>by
 obtain ⟨v,w',r,s⟩:=h c cs;exact ⟨v,w',r,stepsIn_wide.2 s⟩
theorem Afq {l n:Nat} {P:Program} {o:Oper} {a:Act} {w:World} {K:Act→World→Prop} {Q:Exit→Act→World→Prop} (hd:∀c,o.op≠.defer c) (h:o.wp P a w K Q) :
  o.wpIn (Fence.wide.inRound l) n P a w K Q:=by
 refine ⟨fun f _=>trivial,?_⟩;rw [Fence.inRound_round,Oper.semAt_some l _ _ hd];unfold Oper.wp at h;generalize (execOp a.eval o).run P w=r at *;cases r with
 | ok x w' =>
  cases x <;> simp only [Oper.upon,Oper.uponIn] at h ⊢ <;>
   first
    | exact h
    | exact ⟨(fun e=>by cases e),CallsIn.inRound l (callsIn_wide.2 h)⟩
    | exact ⟨(fun e=>by cases e),Ate h⟩
 | halt x w'=>cases x <;> simp only [Oper.upon,Oper.uponIn] at h ⊢ <;> exact h
def U5 (o:Oper):Bool:=match o.op with
 | .defer _=>false
 | _=>true
theorem Afs {o:Oper} (h:U5 o=true):∀c,o.op≠.defer c:=fun c e=>by simp [U5,e] at h
theorem Y3 {l n:Nat} {P:Program} {ops:Array Oper} {Q:Exit→Act→World→Prop} (hQ:∀a w,¬Q .outgrown a w):∀{lst:List Oper} {a:Act} {w:World},
  (∀o∈lst,U5 o=true)→wpList P ops Q lst a w→wpListIn (Fence.wide.inRound l) n P ops Q lst a w
 | [],_,_,_,h=>h
 | o::rest,a,w,hp,h=>by
  unfold wpList at h;unfold wpListIn
  split
  ·rename_i hw;rw [if_pos hw] at h;rcases h with h|⟨_,a',w',h⟩
   ·refine Afq (Afs (hp o GL)) (Oper.wp_mono (fun a w h=>?_) h);exact Y3 hQ (fun o ho=>hp o (by simp [ho])) h
   ·exact absurd h (hQ a' w')
  ·rename_i hw;rw [if_neg hw] at h;exact ⟨fun f _=>trivial,Y3 hQ (fun o ho=>hp o (by simp [ho])) h⟩
theorem Hn {l n id:Nat} {P:Program} {ops:List Oper} {Q:Exit→Act→World→Prop} {a:Act} {w:World} (hQ:∀a w,¬Q .outgrown a w) (hp:(ops.all U5)=true)
  (h:wpList P ops.toArray Q ops a w):(Code.region id ops.toArray false).wpIn (Fence.wide.inRound l) n P Q a w :=
 wpIn_region_lit (Y3 hQ (fun o ho=>List.all_eq_true.1 hp o ho) h)
theorem Xa {l n:Nat} {P:Program} {md:Region.Mode} {ops:Array Oper} {Q:Exit→Act→World→Prop} (hQ:∀a w,¬Q .outgrown a w) (hp:(ops.toList.all U5)=true):∀(f:Nat) (listed:Array Bool) (a:Act) (w:World),
  wpAny P md ops Q f listed a w→wpAnyIn (Fence.wide.inRound l) n P md ops Q f listed a w
 | 0,_,_,_,h=>h
 | f+1,listed,a,w,h=>by
  refine ⟨h.1,fun i hi=>?_⟩;have h1:=h.2 i hi;unfold wpOp at h1;unfold wpOpIn;cases ho:ops[i]? with
  | none=>rw [ho] at h1;exact Xa hQ hp f _ _ _ h1
  | some o =>
   rw [ho] at h1;have hpo:U5 o=true:=List.all_eq_true.1 hp o (by rw [←Array.getElem?_toList] at ho;exact List.mem_of_getElem? ho);dsimp only at h1 ⊢
   split
   ·rename_i hw;rw [if_pos hw] at h1;rcases h1 with h1|⟨_,a',w',h1⟩
    ·exact Afq (Afs hpo) (Oper.wp_mono (fun a w h=>Xa hQ hp f _ a w h) h1)
    ·exact absurd h1 (hQ a' w')
   ·rename_i hw;rw [if_neg hw] at h1;exact ⟨fun f _=>trivial,Xa hQ hp f _ _ _ h1⟩
def AbB {β:Type} (b:List Nat) (J:β→World→Prop):Prop:=∀s W W',J s W→Dn b W W'→J s W'
def Aky (ks:List Nat) (W W':World):Prop:=∀k∈ks,W'.heap[k]?=W.heap[k]?
def Auh (P:Program) (gf:Nat) (lb:Array Value) (b:Nat) (xs:List ByteArray) (W0:World):Prop :=
 ∀(n l:Nat) (J Jx:List ByteArray→World→Prop),AbB [b] J→AbB [b] Jx →
  (∀m pre x post W1,xs=pre++x::post→J pre W1→YieldAt Fence.wide m P l #[.string x] W1 fun e W' =>
   (e=.returned (.bool true)∧J (pre++[x]) W'∧W'.heap[b]?=W1.heap[b]?)∨(e=.returned (.bool false)∧Jx (pre++[x]) W')) →
  J [] W0→CallsIn Fence.wide n P gf (#[.func (.yield l) #[] #[]]++lb) W0 fun e W'=>(∃v,e=.returned v)∧(J xs W'∨∃pre x post,xs=pre++x::post∧Jx (pre++[x]) W')
def Ayv (ks:List Nat) (I:List ByteArray→World→Prop) (Ix:Code→List ByteArray→World→Prop) (ys:List ByteArray) (W:World):Exit→Act→World→Prop
 | .normal,_,W'=>Aky ks W W'∧I ys W'
 | .ret,_,W'=>Aky ks W W'∧Ix .ret ys W'
 | .exit id,_,W'=>Aky ks W W'∧Ix (.exit id) ys W'
 | .goto t,_,W'=>Aky ks W W'∧Ix (.goto t) ys W'
 | .panic _,_,_=>False
 | .outgrown,_,_=>False
theorem Nd (W:World) (l:Nat) (o:Obj):Dn [l] W (W.putObj l o) :=
 ⟨rfl,rfl,rfl,GL,fun k _ hk=>World.putObj_heap_other (fun e=>hk (by simp [e]))⟩
theorem Akk {P:Program} {g:Operand} {ps:Array Tmp} {assign body:Code} {Q:Exit→Act→World→Prop} {a:Act} {w:World} {n gf b:Nat} {lb:Array Value} {xs:List ByteArray}
  (hg:a.eval g=.func (.func gf) #[] lb) (eg:∀args w,(callFunc gf args).run P w=.ok (.enter gf args) w) (hps:ps.size=1) (hb:b < w.heap.size)
  (hseq:∀W0,W0.heap[b]?=w.heap[b]?→Auh P gf lb b xs W0)
  (I:List ByteArray→World→Prop) (Ix:Code→List ByteArray→World→Prop) (hI:AbB [b,w.heap.size+1] I) (hIx:∀c,AbB [b,w.heap.size+1] (Ix c)) (h0:I [] w) (a₁:ByteArray→Act)
  (hassign:∀(m:Nat) (x:ByteArray) (W:World) (K:Act→World→Prop),K (a₁ x) W →
   assign.wpIn (Fence.wide.inRound (w.heap.size+1)) m P (Exit.then K (fun _ _ _=>False)) { tmps:=(ps.zip #[.string x]).foldl (fun t (p,v)=>t.setIfInBounds p v) a.tmps,defers:=[] } W)
  (hbody:∀(m:Nat) (pre post:List ByteArray) (x:ByteArray) (W:World),xs=pre++x::post→w.heap.size+2≤W.heap.size→I pre W →
   body.wpIn (Fence.wide.inRound (w.heap.size+1)) m P (Ayv [b,w.heap.size,w.heap.size+1] I Ix (pre++[x]) W) (a₁ x) W)
  (hdone:∀(W:World),I xs W→W.heap[w.heap.size]?=some (.deferred (some []))→Q .normal { a with defers:={ target:=.collected w.heap.size,args:=#[] }::a.defers } W)
  (hstop:∀(c:Code) (pre post:List ByteArray) (x:ByteArray) (W:World),xs=pre++x::post→Ix c (pre++[x]) W→W.heap[w.heap.size]?=some (.deferred (some [])) →
   c.wpIn Fence.wide n P Q { a with defers:={ target:=.collected w.heap.size,args:=#[] }::a.defers } W) :
  (Code.rangeFunc g ps assign body).wpIn Fence.wide n P Q a w:=by
 refine wpIn_rangeFunc ?_;intro fn hfn;rw [Fence.wide_round];obtain ⟨rec,hrec⟩:∃rec:LoopState→Option Code→Loop,rec=fun st pe=>{ state:=st,pending:=pe,fn,tmps:=a.tmps,params:=ps,assign,body,defers:=w.heap.size }:=⟨_,rfl⟩;obtain ⟨W1,hW1⟩:∃W1,(w.alloc (.deferred (some []))).alloc (.loop (rec .ready none))=W1:=⟨_,rfl⟩;have hL1:W1.heap[w.heap.size+1]?=some (.loop (rec .ready none)):=by
  rw [←hW1];have:=World.alloc_heap_new (w.alloc (.deferred (some []))) (.loop (rec .ready none));rwa [World.size_alloc] at this
 have hK1:W1.heap[w.heap.size]?=some (.deferred (some [])):=by
  rw [←hW1];exact (Below.heap_alloc _ _ _ GL).trans (World.alloc_heap_new w _)
 have hk1:Dn [b,w.heap.size+1] w W1:=by rw [←hW1];exact ((Dn.refl _ _).alloc _).alloc _
 have hb1:W1.heap[b]?=w.heap[b]?:=by
  rw [←hW1];exact (Below.heap_alloc _ _ _ GU).trans (Below.heap_alloc _ _ _ hb)
 refine ⟨w.heap.size+1,[{ target:=.collected w.heap.size,args:=#[] }],W1,{ target:=.fn (.func gf) lb,args:=#[.func (.yield (w.heap.size+1)) #[] #[]] },W1,gf,
  #[.func (.yield (w.heap.size+1)) #[] #[]]++lb,W1,?_,?_,?_,?_,(fun e=>by cases e),?_⟩
 ·rw [←hW1,hrec];exact run_enterLoop_outer _ _ _ _ _
 ·simp only [resolve,hg];simp [go_sem]
 ·intro f' hf';trivial
 ·simp [invoke,go_sem,eg]
 have far:∀{W W':World} {k:Nat} {o:Obj},Dn [b] W W'→b < w.heap.size→w.heap.size≤k→W.heap[k]?=some o→W'.heap[k]?=some o:=fun {W W' k o} hk h1 h2 h3 =>
  (hk.block k (Array.getElem?_eq_some_iff.1 h3).1 GU).trans h3
 have wider:∀{W W':World},Dn [b] W W'→Dn [b,w.heap.size+1] W W':=fun h=>h.mono fun x hx _=>by simp at hx ⊢;omega
 have wider2:∀{W W':World},Dn [w.heap.size+1] W W'→Dn [b,w.heap.size+1] W W':=fun h=>h.mono fun x hx _=>by simp at hx ⊢;omega
 refine (hseq W1 hb1 (n - 1) (w.heap.size+1)
  (fun pre W=>I pre W∧W.heap[w.heap.size+1]?=some (.loop (rec .ready none))∧W.heap[w.heap.size]?=some (.deferred (some [])))
  (fun pre W=>∃c,Ix c pre W∧W.heap[w.heap.size+1]?=some (.loop (rec .done (some c)))∧W.heap[w.heap.size]?=some (.deferred (some [])))
  (fun s A B hs hk=>⟨hI s A B hs.1 (wider hk),far hk hb GJ hs.2.1,far hk hb GJ hs.2.2⟩)
  (fun s A B hs hk=>by
   obtain ⟨c,hc,hl,hd⟩:=hs;exact ⟨c,hIx c s A B hc (wider hk),far hk hb GJ hl,far hk hb GJ hd⟩)
  ?_ ⟨hI _ _ _ h0 hk1,hL1,hK1⟩).mono ?_
 ·rintro m pre x post W hxs ⟨hi,hl,hk⟩;have hlt:w.heap.size+1 < W.heap.size:=(Array.getElem?_eq_some_iff.1 hl).1;have hy:=run_yield (P:=P) (args:=#[.string x]) hl (by rw [hrec];exact hps.symm);rw [hrec] at hy;refine ⟨fn,_,assign,body,hy,roundIn_of_wpIn hfn (hassign m x W _ ⟨_,run_beginRound hl (by rw [hrec]),?_⟩)⟩;obtain ⟨W2,hW2⟩:∃W2,W.putObj (w.heap.size+1) (.loop { rec .ready none with state:=.busy })=W2:=⟨_,rfl⟩;rw [hW2];have hl2:W2.heap[w.heap.size+1]?=some (.loop { rec .ready none with state:=.busy }):=by rw [←hW2];exact World.putObj_heap_same hlt
  have hk2:W2.heap[w.heap.size]?=some (.deferred (some [])):=by rw [←hW2];exact (World.putObj_heap_other GJ).trans hk
  have hb2:W2.heap[b]?=W.heap[b]?:=by rw [←hW2];exact World.putObj_heap_other GJ
  have hi2:I pre W2:=hI _ _ _ hi (by rw [←hW2];exact wider2 (Nd _ _ _));have hs2:w.heap.size+2≤W2.heap.size:=by rw [←hW2];simp;omega
  refine wpIn_mono (hbody m pre post x _ hxs hs2 hi2) ?_
  have fin:∀(Wi:Option Code) (W3:World),Aky [b,w.heap.size,w.heap.size+1] W2 W3 →
    (Instr.endRound (w.heap.size+1) Wi).run P W3=.ok (.bool Wi.isNone) (W3.putObj (w.heap.size+1) (.loop (rec (if Wi.isNone then .ready else .done) Wi))) ∧
    (W3.putObj (w.heap.size+1) (.loop (rec (if Wi.isNone then .ready else .done) Wi))).heap[w.heap.size+1]?=some (.loop (rec (if Wi.isNone then .ready else .done) Wi)) ∧
    (W3.putObj (w.heap.size+1) (.loop (rec (if Wi.isNone then .ready else .done) Wi))).heap[w.heap.size]?=some (.deferred (some [])) ∧
    (W3.putObj (w.heap.size+1) (.loop (rec (if Wi.isNone then .ready else .done) Wi))).heap[b]?=W.heap[b]?:=fun Wi W3 hk3=>by
   have hl3:=(hk3 (w.heap.size+1) GL).trans hl2;have h4:=run_endRound (P:=P) Wi hl3;rw [hrec] at h4 ⊢;exact ⟨h4,World.putObj_heap_same (Array.getElem?_eq_some_iff.1 hl3).1,(World.putObj_heap_other GJ).trans ((hk3 w.heap.size GL).trans hk2),(World.putObj_heap_other GJ).trans ((hk3 b GL).trans hb2)⟩
  rintro e a3 W3 hp;cases e with
  | normal =>
   obtain ⟨hk3,hi3⟩:=hp;obtain ⟨hr,hl4,hd4,hb4⟩:=fin none W3 hk3;exact ⟨_,_,hr,.inl ⟨rfl,⟨hI _ _ _ hi3 (wider2 (Nd _ _ _)),hl4,hd4⟩,hb4⟩⟩
  | ret =>
   obtain ⟨hk3,hi3⟩:=hp;obtain ⟨hr,hl4,hd4,hb4⟩:=fin (some .ret) W3 hk3;exact ⟨_,_,hr,.inr ⟨rfl,.ret,hIx _ _ _ _ hi3 (wider2 (Nd _ _ _)),hl4,hd4⟩⟩
  | exit id =>
   obtain ⟨hk3,hi3⟩:=hp;obtain ⟨hr,hl4,hd4,hb4⟩:=fin (some (.exit id)) W3 hk3;exact ⟨_,_,hr,.inr ⟨rfl,.exit id,hIx _ _ _ _ hi3 (wider2 (Nd _ _ _)),hl4,hd4⟩⟩
  | goto t =>
   obtain ⟨hk3,hi3⟩:=hp;obtain ⟨hr,hl4,hd4,hb4⟩:=fin (some (.goto t)) W3 hk3;exact ⟨_,_,hr,.inr ⟨rfl,.goto t,hIx _ _ _ _ hi3 (wider2 (Nd _ _ _)),hl4,hd4⟩⟩
  | panic ch=>exact hp.elim
  | outgrown=>exact hp.elim
 ·rintro e W2 ⟨⟨v,rfl⟩,(⟨hi,hl,hk⟩|⟨pre,x,post,hxs,c,hi,hl,hk⟩)⟩
  ·exact ⟨none,_,JR,hdone _ (hI _ _ _ hi (wider2 (Nd _ _ _))) ((World.putObj_heap_other GJ).trans hk)⟩
  ·exact ⟨some c,_,JR,hstop c pre post x _ hxs (hIx _ _ _ _ hi (wider2 (Nd _ _ _))) ((World.putObj_heap_other GJ).trans hk)⟩
end Go.Proofs.YtkagnmekdkchiaaGreatDoor
namespace Go.Proofs.YtkagnmekdkchiaaGreatDoor.Lg
open Go.RowKit
theorem Akt (s:ByteArray) (c:UInt8) (w:World):Calls prog 97 #[.string s,.int .u8 (c.toNat:Int)] w fun e w'=>e=.returned (.int .i64 (Lib.indexByte s.data.toList c))∧w=w':=by
 refine (Tryz.strings_IndexByte s c.toNat w).mono ?_;rintro e w' ⟨rfl,rfl⟩;exact ⟨GL,rfl⟩
def Ir (s:ByteArray):List ByteArray:=(Dw s.data.toList).map bs
theorem Aok {s:ByteArray} (h:¬0 < s.size):Ir s=[]:=by
 have:s.data.toList=[]:=List.eq_nil_of_length_eq_zero KL;unfold Ir;rw [this];rfl
theorem Aoj {s:ByteArray} (h:10∈s.data.toList):Ir s=bs (D5 10 s.data.toList++[10])::Ir (bs (Ll 10 s.data.toList)) ∧
  s.extract 0 ((D5 10 s.data.toList).length+1)=bs (D5 10 s.data.toList++[10])∧s.extract ((D5 10 s.data.toList).length+1) s.size=bs (Ll 10 s.data.toList):=by
 refine ⟨?_,?_,(Apx h).2⟩
 ·rcases Nl 10 s.data.toList with ⟨_,h2⟩|⟨h2,_⟩
  ·unfold Ir;rw [Iy]
   conv=>lhs;rw [h2]
   rw [Sf _ W6];rfl
  ·exact absurd h h2
 ·rcases Nl 10 s.data.toList with ⟨_,h2⟩|⟨h2,_⟩
  ·rw [Lib.extract_eq];unfold bs;congr 2;rw [List.drop_zero,Nat.sub_zero];refine (congrArg (List.take _) h2).trans ?_;rw [List.take_append,List.take_of_length_le GJ];simp
  ·exact absurd h h2
theorem Al1 {s:ByteArray} (h0:0 < s.size) (h:10 ∉ s.data.toList):Ir s=[s]:=by
 unfold Ir;rw [Uy (fun e=>by have:=Cb s;rw [e] at this;simp at this;omega) (fun c hc e=>h (by rw [←e];exact hc))];simp [Aci]
theorem Aq9 {s:ByteArray} (h:10∈s.data.toList):(bs (Ll 10 s.data.toList)).size < s.size:=by
 rcases Nl 10 s.data.toList with ⟨_,h2⟩|⟨h2,_⟩
 ·have:=congrArg List.length h2;rw [Ih];rw [Cb] at this;simp at this;omega
 ·exact absurd h h2
def Ajk (b:Nat) (w:World):Nat:=match w.cell? ⟨b,0,none⟩ with
 | some (.string r)=>r.size
 | _=>0
theorem Yo {b:Nat} {t:TypeId} {w:World} {r:ByteArray} (h:Ha w b t [.string r]):Ajk b w=r.size:=by
 unfold Ajk;rw [h.cell];rfl
theorem Ayi (s:ByteArray) (w:World):Calls prog 54 #[.string s] w fun e w'=>e=.returned (.func (.func 96) #[] #[.pointer (some ⟨w.heap.size,0,none⟩)])∧w'=w.alloc (.cells #[.string s] 9):=by
 go_enter func54,ntmps54
 go_wp2_with fail;refine bodyPost_ret (v:=.func (.func 96) #[] #[.pointer (some ⟨w.heap.size,0,none⟩)]) ?_ rfl ⟨rfl,rfl⟩;simp [results,results54,go_sem]
theorem Asq (s:ByteArray) (b:Nat) (W0:World) (hs:s.size≤4294967296) (hr:Ha W0 b 9 [.string s]):Auh prog 96 #[.pointer (some ⟨b,0,none⟩)] b (Ir s) W0:=by
 intro n l J Jx hJ hJx hY h0;refine callsIn_of_wp func96 rfl trivial ?_ rfl;simp only [ntmps96,List.size_toArray,List.length_cons,List.length_nil,Nat.reduceAdd,Nat.reduceSub,Array.replicate_succ,Array.replicate_zero,List.push_toArray,List.append_toArray,List.cons_append,List.nil_append];have c0:=hr.cells
 gi_wp2
 gi_loopw [3] (fun _ wr=>∃(pre:List ByteArray) (r:ByteArray),Hid (Ir s=pre++Ir r)∧r.size≤4294967296∧Ha wr b 9 [.string r]∧J pre wr) (fun _ wr=>Ajk b wr)
 case atStart=>exact ⟨[],s,rfl,hs,hr,h0⟩
 case round =>
  obtain ⟨pre,r,hx,hrs,hrow,hj⟩:=hrel;have hm:=Lib.hid (Yo hrow);have hi:=fun w=>Akt r 10 w;by_cases hz:0 < r.size
  ·by_cases hn:10∈r.data.toList
   ·obtain ⟨hl,hx1,hx2⟩:=Aoj hn;have hbl:=Aq9 hn;have hlt:=Aqu hn;rw [Cb] at hlt;rw [(Pb 10 _).1 hn] at hi;generalize (D5 10 r.data.toList).length=i at *;generalize bs (D5 10 r.data.toList++[10])=x at *;generalize bs (Ll 10 r.data.toList)=rest at *;have hx3:Hid (Ir s=pre++x::Ir rest):=by have:=hx.out;rw [hl] at this;exact Lib.hid this
    replace hx1:=Lib.hid hx1;replace hx2:=Lib.hid hx2;replace hi:=Lib.hid hi;replace hY:=Lib.hid hY;have hw:=Lib.hid (show IntKind.i64.wrap ((i:Int)+1)=(i:Int)+1 from by rw [IntKind.wrap_i64];omega);have hn1:=Lib.hid (show ((i:Int)+1).toNat=i+1 from by omega);clear hx hl hn;have c1:=hrow.cells;have f1:=hrow.frozens
    gi_wp2_with (refine ⟨trivial,(fun e=>by cases e),?_⟩;refine (callsIn_wide.2 (hi.out _)).mono ?_;rintro e w' ⟨rfl,rfl⟩)
    refine wpIn_wide.2 ?_;clear c1 f1;refine En.start (S:=(fun w'=>w'.cell? ⟨b,0,none⟩=some (.string r))) (X:=(fun i=>i == 9)) GK ?_;have al:Below wr.heap.size wr wr.drew:=Dl (Below.refl _ _) 1;have hs_w1:=al.size;replace hrow:=hrow.below al;have hB:=al;generalize wr.drew=w1 at *;clear al;have hS:(fun w'=>w'.cell? ⟨b,0,none⟩=some (.string r)) w1:=hrow.cells 0;refine En.take (i:=0) (oi:=_) (v:=?_) GQ GK GK GK GK GK GX (Or.inl ⟨GV,?_⟩) hS ?_
    rotate_left
    ·(intro wS hSw;(try dsimp only at hSw);go_simp;try with_reducible rfl)
    try simp only [Act.put,List.setIfInBounds_toArray,List.set_cons_zero,List.set_cons_succ]
    refine En.take (i:=1) (oi:=_) (v:=?_) GQ GK GK GK GK GK GX (Or.inl ⟨GV,?_⟩) hS ?_
    rotate_left
    ·(intro wS hSw;(try dsimp only at hSw);go_simp;try with_reducible rfl)
    try simp only [Act.put,List.setIfInBounds_toArray,List.set_cons_zero,List.set_cons_succ]
    refine En.take (i:=2) (oi:=_) (v:=?_) GQ GK GK GK GK GK GX (Or.inl ⟨GV,?_⟩) hS ?_
    rotate_left
    ·(intro wS hSw;(try dsimp only at hSw);go_simp;rw [hw.out];try with_reducible rfl)
    try simp only [Act.put,List.setIfInBounds_toArray,List.set_cons_zero,List.set_cons_succ]
    refine En.take (i:=3) (oi:=_) (v:=?_) GQ GK GK GK GK GK GX (Or.inl ⟨GV,?_⟩) hS ?_
    rotate_left
    ·(intro wS hSw;(try dsimp only at hSw);go_simp;rw [if_pos GJ,hx1.out];try with_reducible rfl)
    try simp only [Act.put,List.setIfInBounds_toArray,List.set_cons_zero,List.set_cons_succ]
    refine En.take (i:=4) (oi:=_) (v:=?_) GQ GK GK GK GK GK GX (Or.inl ⟨GV,?_⟩) hS ?_
    rotate_left
    ·(intro wS hSw;(try dsimp only at hSw);go_simp;try with_reducible rfl)
    try simp only [Act.put,List.setIfInBounds_toArray,List.set_cons_zero,List.set_cons_succ]
    refine En.take (i:=5) (oi:=_) (v:=?_) GQ GK GK GK GK GK GX (Or.inl ⟨GV,?_⟩) hS ?_
    rotate_left
    ·(intro wS hSw;(try dsimp only at hSw);go_simp;try with_reducible rfl)
    try simp only [Act.put,List.setIfInBounds_toArray,List.set_cons_zero,List.set_cons_succ]
    refine En.take (i:=6) (oi:=_) (v:=?_) GQ GK GK GK GK GK GX (Or.inl ⟨GV,?_⟩) hS ?_
    rotate_left
    ·(intro wS hSw;(try dsimp only at hSw);go_simp;rw [hw.out];try with_reducible rfl)
    try simp only [Act.put,List.setIfInBounds_toArray,List.set_cons_zero,List.set_cons_succ]
    refine En.take (i:=7) (oi:=_) (v:=?_) GQ GK GK GK GK GK GX (Or.inl ⟨GV,?_⟩) hS ?_
    rotate_left
    ·(intro wS hSw;(try dsimp only at hSw);go_simp;rw [if_pos GJ,hx2.out];try with_reducible rfl)
    try simp only [Act.put,List.setIfInBounds_toArray,List.set_cons_zero,List.set_cons_succ]
    refine En.only (i:=8) (o:=_) GK GQ (fun K hK=>?_)
    try go_simp
    clear hS;have hS:(fun w'=>w'.cell? ⟨b,0,none⟩=some (.string r)) w1:=hrow.cells 0;refine hK.out _ _ (fun _=>hS) ?_;clear hK K
    try simp only [Act.put,List.setIfInBounds_toArray,List.set_cons_zero,List.set_cons_succ]
    refine En.only (i:=9) (o:=_) GK GQ (fun K hK=>?_);have c_hrow:=hrow.cells;have f_hrow:=hrow.frozens
    go_simp
    clear c_hrow f_hrow;refine hK.out _ _ (fun h=>by cases h) ?_;clear hK K
    try simp only [Act.put,List.setIfInBounds_toArray,List.set_cons_zero,List.set_cons_succ]
    refine En.done GK ?_ _
    (try clear hS)
    have hrow2:Ha (w1.setCell ⟨b,0,none⟩ (.string rest)) b 9 [.string rest]:=hrow.set 0 (.string rest);have hj2:J pre (w1.setCell ⟨b,0,none⟩ (.string rest)):=hJ _ _ _ hj ((Dn.ofBelow hB).setCell GL _);clear hrow hj hB;generalize (w1.setCell ⟨b,0,none⟩ (.string rest))=w9 at *;obtain ⟨fn,tmps,assign,body,hy,hR⟩:=hY.out (n - 1) pre x (Ir rest) w9 hx3.out hj2;replace hR:=Lib.hid hR
    gi_wp2
    refine ⟨(fun e=>by cases e),?_⟩;refine hR.out.mono ?_;rintro e W3 (⟨rfl,hJ3,hk3⟩|⟨rfl,hJx3⟩)
    ·have hrow3:=hrow2.H8 hk3;have hm3:=Yo hrow3
     gi_wp2
     go_roundw
     case rel=>exact ⟨pre++[x],rest,by refine Lib.hid ?_;rw [hx3.out];simp,GJ,hrow3,hJ3⟩
     case measure=>have:=hm.out;omega
    ·gi_wp2
     refine bodyPost_ret (results_none rfl _ _ _) rfl ?_;exact ⟨⟨_,rfl⟩,.inr ⟨pre,x,Ir rest,hx3.out,hJx3⟩⟩
   ·have hl:=Al1 hz hn;rw [(Pb 10 _).2 hn] at hi;have hx3:Hid (Ir s=pre++r::[]):=by have:=hx.out;rw [hl] at this;exact Lib.hid this
    replace hi:=Lib.hid hi;have c1:=hrow.cells;have f1:=hrow.frozens;have hrow2:Ha (wr.setCell ⟨b,0,none⟩ (.string ⟨#[]⟩)) b 9 [.string ⟨#[]⟩]:=hrow.set 0 (.string ⟨#[]⟩);have hj2:J pre (wr.setCell ⟨b,0,none⟩ (.string ⟨#[]⟩)):=hJ _ _ _ hj ((Dn.refl _ _).setCell GL _);obtain ⟨fn,tmps,assign,body,hy,hR⟩:=hY (n - 1) pre r [] _ hx3.out hj2;replace hR:=Lib.hid hR;replace hrow2:=Lib.hid hrow2;clear hx hl hn hY
    gi_wp2_with (refine ⟨trivial,(fun e=>by cases e),?_⟩;refine (callsIn_wide.2 (hi.out _)).mono ?_;rintro e w' ⟨rfl,rfl⟩)
    refine ⟨(fun e=>by cases e),?_⟩;refine hR.out.mono ?_;rintro e W3 (⟨rfl,hJ3,hk3⟩|⟨rfl,hJx3⟩)
    ·have hrow3:=hrow2.out.H8 hk3;have hm3:=Yo hrow3
     gi_wp2
     go_roundw
     case rel=>exact ⟨pre++[r],⟨#[]⟩,by refine Lib.hid ?_;rw [hx3.out];simp [Ir,Dw],Nat.zero_le _,hrow3,hJ3⟩
     case measure=>have h7:=hm.out;have h8:(⟨#[]⟩:ByteArray).size=0:=rfl;omega
    ·gi_wp2
     refine bodyPost_ret (results_none rfl _ _ _) rfl ?_;exact ⟨⟨_,rfl⟩,.inr ⟨pre,r,[],hx3.out,hJx3⟩⟩
  ·have c1:=hrow.cells;have f1:=hrow.frozens
   gi_wp2
   go_end0
   refine ⟨⟨_,rfl⟩,.inl ?_⟩;have h1:=hx.out;rw [Aok hz,List.append_nil] at h1;rw [h1];exact hj
def Jj (k:Int) (x:Im):ByteArray × Bool:=(bs ((Adi k x.Eh.data.toList x.E6.data.toList).getD []),(Adi k x.Eh.data.toList x.E6.data.toList).isSome)
def Adf:ByteArray × Bool→World→Ending→World→Prop:=fun (r0,r1) w e w'=>e=.returned (.tuple #[.string r0,.bool r1])∧Below w.heap.size w w'
theorem Aiq {k:Int} {x:Im} (h:(Eu 0 k 59 && Bz x.Eh x.E6)=false):Jj k x=(bs [],false):=by
 rw [Nq] at h;unfold Jj Adi;rw [if_neg (by rw [h];simp)];rfl
theorem Aov {k:Nat} {x:Im} (hk:k≤59) (h:Bz x.Eh x.E6=true):Jj (k:Int) x=(bs (J4 k x.Eh.data.toList x.E6.data.toList),true):=by
 rw [Nq] at h;unfold Jj Adi;rw [if_pos (by rw [h];simp [Eu];omega)];rfl
theorem Aed (x0:Int) (v1:Value) (x1:Im) (F1:List Nat) (FT:List Nat) (w:World) (h1:N0 Hp w v1 x1 F1) (hT:N0 Aa1 w (.agg #[]) () FT) :
  Calls prog 56 #[.int .i64 x0,v1] w (Adf (Jj x0 x1) w):=by
 obtain ⟨_,rfl,rfl,s1,s2,rfl⟩:=h1;have hin:=fun w=>Hk x0 0 59 w;have hgd:=fun w=>Vl x1.Eh x1.E6 w s1 s2;have hB0:∀A:Obj,Below w.heap.size w (w.alloc A):=fun A=>(Below.refl _ _).alloc (Nat.le_refl _) _;cases hb:Eu 0 x0 59 with
 | false =>
  rw [Aiq (by rw [hb];rfl)];rw [hb] at hin;clear hb
  go_enter func56,ntmps56
  go_wp2_with (first|(go_at_call 57;refine (hin _).mono ?_;rintro e w' ⟨rfl,rfl⟩));refine bodyPost_ret (v:=.tuple #[.string ⟨#[]⟩,.bool false]) ?_ rfl ⟨rfl,hB0 _⟩;simp [results,results56,go_sem]
 | true =>
  have hk:0≤x0∧x0≤59:=by simpa [Eu] using hb
  cases hg:Bz x1.Eh x1.E6 with
  | false =>
   rw [Aiq (by rw [hg];simp)];rw [hb] at hin;rw [hg] at hgd;clear hb hg
   go_enter func56,ntmps56
   go_wp2_with (first|(go_at_call 57;refine (hin _).mono ?_;rintro e w' ⟨rfl,rfl⟩)|(go_at_call 31;refine (hgd _).mono ?_;rintro e w1 ⟨rfl,hb1⟩));refine bodyPost_ret (v:=.tuple #[.string ⟨#[]⟩,.bool false]) ?_ rfl ⟨rfl,(hB0 _).trans (hb1.mono GL)⟩;simp [results,results56,go_sem]
  | true =>
   obtain ⟨k,rfl⟩:=Int.eq_ofNat_of_zero_le hk.1;have hk9:k≤59:=by omega
   rw [Aov hk9 hg];rw [hb] at hin;rw [hg] at hgd;have hl:=Lib.hid (fun w hT=>Wc k x1.Eh x1.E6 FT w hk9 (Ip (by rw [←Nq];exact hg)) hT);clear hb hg hk;have R:=fun (w1:World) (hb1:Below (w.alloc (.cells #[.string x1.Eh,.string x1.E6] 60)).heap.size (w.alloc (.cells #[.string x1.Eh,.string x1.E6] 60)) w1)=>(Ha.made w 60 [.string x1.Eh,.string x1.E6]).below hb1;replace R:=Lib.hid R;have hT1:=hT.below (hB0 (.cells #[.string x1.Eh,.string x1.E6] 60))
   go_enter func56,ntmps56
   go_wp2_with (first|(go_at_call 57;refine (hin _).mono ?_;rintro e w' ⟨rfl,rfl⟩)|(go_at_call 31;refine (hgd _).mono ?_;rintro e w1 ⟨rfl,hb1⟩;have c_R:=(R.out _ hb1).cells)|(go_at_call 34;refine (hl.out _ (hT1.below hb1)).mono ?_;rintro e w2 ⟨rfl,hb2⟩));refine bodyPost_ret (v:=.tuple #[.string (bs (J4 k x1.Eh.data.toList x1.E6.data.toList)),.bool true]) ?_ rfl ⟨rfl,((hB0 _).trans (hb1.mono GL)).trans (hb2.mono (by have:=hb1.size;simp at this;omega))⟩;simp [results,results56,go_sem]
theorem Asz {k:Nat} {x:Bs} (h:Xz k x=true):∃y,x=y++[10]∧∀b∈y,32≤b.toNat∧b.toNat≤126:=by
 obtain ⟨c,r,_,hg,rfl⟩:=S8.1 h;have hG:=Ip hg;refine ⟨Ny (Kh k c r),rfl,fun b hb=>?_⟩;unfold Ny at hb;simp only [List.mem_append,List.mem_cons] at hb;rcases hb with hb|rfl|hb
 ·exact (Rm hG b hb).1
 ·decide
 ·have:=Oj _ b hb;omega
theorem Bce {k:Nat} {z:Bs} (h:∀b∈z,b≠10):Xz k z=false:=by
 cases hk:Xz k z with
 | false=>rfl
 | true =>
  obtain ⟨y,rfl,_⟩:=Asz hk;exact absurd rfl (h 10 GL)
theorem Aq4 {k:Nat} {x:Bs} (h:Xz k x=true) (r:Bs):acc k (Dw (x++r))=x::acc (k+1) (Dw r):=by
 obtain ⟨y,rfl,hy⟩:=Aig h;rw [List.append_assoc,List.singleton_append,Sf _ hy];simp [acc,h]
theorem Aj0 {d:Bs} (hd:(Bn d).flatten.length=d.length) (q:Bs):Bn (d++q)=Bn d++acc (Bn d).length (Dw q):=by
 have hf:=Wp hd;have h2:=Rb (xs:=Bn d) (by rw [hf];exact hf) q;rw [Ub hd] at h2;exact h2
structure Ahc (d p:Bs) (n:Int):Prop where
 all:(Bn (d++p)).flatten=d++p
 dur:(Bn d).flatten=d
 cnt:n=(Bn (d++p)).length
theorem Am9 {d p:Bs} {n:Int} (h:H2 d p n=true):Ahc d p n:=by
 unfold H2 at h;simp only [Bool.and_eq_true,decide_eq_true_eq] at h;exact ⟨Ub (by simp [h.2.1.1]),Ub h.2.1.2,h.2.2.symm⟩
theorem Ahc.bool {d p:Bs} {n:Int} (h:Ahc d p n):H2 d p n=true:=by
 unfold H2;have h1:=Js (d++p);have h2:=congrArg List.length h.all;have h3:=congrArg List.length h.dur;rw [List.length_append] at h2;simp only [Bool.and_eq_true,decide_eq_true_eq];exact ⟨GJ,⟨h2,h3⟩,h.cnt.symm⟩
theorem Ahc.append {d p x:Bs} {n:Int} (h:Ahc d p n) (hx:Xz (Bn (d++p)).length x=true):Ahc d (p++x) (n+1)∧Bn (d++(p++x))=Bn (d++p)++[x]:=by
 have h1:=Aj0 (d:=d++p) (by rw [h.all]) x;have h2:=Aq4 hx [];simp only [List.append_nil,Dw,acc] at h2;rw [h2,List.append_assoc] at h1;refine ⟨⟨?_,h.dur,?_⟩,h1⟩
 ·rw [h1,List.flatten_append,h.all];simp
 ·rw [h1,List.length_append,h.cnt];simp
def Oz (l:Bs):Im:=⟨bs (Adg l),bs (Ado l)⟩
def Ac4 (x:ByteArray):Im:=Oz x.data.toList
theorem Ata (x:ByteArray):Ac4 x=⟨Ps 64 (Qx 32 (Ps 35 x)),Qx 64 (Qx 32 (Ps 35 x))⟩:=by
 simp only [Ac4,Oz,Ps,Qx,Iy,Adg,Ado,Agf]
def Eo (pre:List ByteArray):List Bs:=pre.map fun x=>x.data.toList
theorem U0 (pre:List ByteArray) (x:ByteArray):Eo (pre++[x])=Eo pre++[x.data.toList]:=by simp [Eo]
theorem Qo (pre:List ByteArray):(Eo pre).length=pre.length:=by simp [Eo]
theorem Qa (s:ByteArray):Eo (Ir s)=Dw s.data.toList:=by
 unfold Eo Ir;rw [List.map_map];have:(fun x:ByteArray=>x.data.toList) ∘ bs=id:=by funext l;simp [bs]
 rw [this,List.map_id]
def Vn (pre:List ByteArray):List Int:=(Ki 0 (Eo pre)).map Int.ofNat
theorem Tv (pre:List ByteArray):(Vn pre).length=pre.length+1:=by simp [Vn,Ro,Qo]
def Oc (pre:List ByteArray):Nat:=(Eo pre).flatten.length
theorem An0 (pre:List ByteArray) (x:ByteArray):Vn (pre++[x])=Vn pre++[(Oc pre:Int)+(x.size:Int)]:=by
 unfold Vn Oc;rw [U0,Aex];simp
theorem Aey (pre:List ByteArray):(Vn pre)[pre.length]?=some (Oc pre:Int):=by
 have h:=Yv (n:=0) (xs:=Eo pre);have hl:=Tv pre;rw [List.getLast?_eq_getElem?,Ro,Qo] at h;unfold Vn;rw [List.getElem?_map,show pre.length=pre.length+1 - 1 from rfl,h];simp [Oc]
theorem Am5 {s:ByteArray} {pre post:List ByteArray} (h:Ir s=pre++post):Oc pre≤s.size:=by
 have h1:=congrArg (fun l=>(Eo l).flatten.length) h;simp only [Qa,Q9] at h1;rw [Cb] at h1;have:Eo (pre++post)=Eo pre++Eo post:=by simp [Eo]
 rw [this,List.flatten_append,List.length_append] at h1;unfold Oc;omega
theorem Auw {s:ByteArray} {pre post:List ByteArray} (h:Ir s=pre++post):pre.length≤s.size:=by
 have h1:=Am5 h;have h2:∀xs:List Bs,(∀x∈xs,x≠[])→xs.length≤xs.flatten.length:=by
  intro xs
  induction xs with
  | nil=>simp
  | cons x xs ih =>
   intro hx;have h3:=ih fun y hy=>hx y (by simp [hy]);have h4:1≤x.length:=by
    have:=hx x GL;cases x with
    | nil=>exact absurd rfl this
    | cons=>simp
   simp only [List.length_cons,List.flatten_cons,List.length_append];omega
 have h5:=h2 (Eo pre) fun x hx=>by
  refine Uz (l:=s.data.toList) ?_;rw [←Qa,h];simp only [Eo,List.map_append,List.mem_append];exact .inl hx
 rw [Qo] at h5;unfold Oc at h1;omega
theorem Azn {s:ByteArray} {pre post:List ByteArray} {x:ByteArray} (h:Ir s=pre++x::post):Oc pre+x.size≤s.size:=by
 have h1:Ir s=(pre++[x])++post:=by rw [h];simp
 have h2:=Am5 h1;unfold Oc at h2 ⊢;rw [U0] at h2;simp at h2 ⊢;omega
theorem En.startIn {P:Program} {ops:Array Oper} {Q:Exit→Act→World→Prop} {S:World→Prop} {X:Nat→Bool} {l n id:Nat} {a:Act} {w:World} (hm:P.follows .mixedOrders=true) (hQ:∀a w,¬Q .outgrown a w) (hp:(ops.toList.all U5)=true)
  (h:En P .any ops Q S X ops.size (Array.replicate ops.size false) a w.drew):(Code.region id ops true).wpIn (Fence.wide.inRound l) n P Q a w :=
 wpIn_region_any hm (Xa hQ hp _ _ _ _ (En.any _ _ _ _ h))
theorem Ahl (c:UInt8) (s:ByteArray):(Ps c s).size≤s.size:=by
 unfold Ps;rw [Ih];have:=Aat c s.data.toList;rw [Cb] at this;exact this
theorem Ahk (c:UInt8) (s:ByteArray):(Qx c s).size≤s.size:=by
 unfold Qx;rw [Ih];rcases Nl c s.data.toList with ⟨_,h2⟩|⟨_,_,h2⟩
 ·have:=congrArg List.length h2;rw [Cb] at this;simp at this;omega
 ·rw [h2];simp
theorem Awz {w:World} {g:Nat} {t:TypeId} {cs:List Value} (h:Ha w g t cs):∀j u,cs[j]?=some u→w.cell? ((⟨g,0,none⟩:Addr).add j)=some u:=fun j u hu=>by
 rw [←hu,←h.cell j];by_cases hj:j=0
 ·subst hj;rfl
 ·simp [Addr.add,hj]
theorem Aho {w:World} {t:TypeId} {pre:List ByteArray} {gb off ec:Nat} {F:List Nat} (h:Ow Bc t w (.slice (some ⟨gb,off,none⟩) (pre.length+1) ec) (Vn pre) F):w.cell? ⟨gb,off+pre.length,none⟩=some (.int .i64 (Oc pre:Int)):=by
 obtain ⟨F',_,hs⟩:=h.read;have hl:=Tv pre;obtain ⟨b,o,e,hc⟩:=hs.int.2.2 pre.length GJ;cases e;rw [hc];have:=Aey pre;rw [List.getElem?_eq_getElem GJ] at this;rw [Option.some.inj this]
theorem Arf {w:World} {t:TypeId} {pre:List ByteArray} {eo:Option Addr} {ec:Nat} {F:List Nat} (h:Ow Bc t w (.slice eo (pre.length+1) ec) (Vn pre) F):∃gb off,eo=some ⟨gb,off,none⟩:=by
 obtain ⟨F',_,hs⟩:=h.read;have hl:=Tv pre;obtain ⟨b,o,e,hc⟩:=hs.int.2.2 pre.length GJ;exact ⟨b,o,e⟩
def Yk (k:Nat) (W0 W:World):Prop:=W.heap[k]?=W0.heap[k]?∧k < W.heap.size
theorem Yk.below {k W0 W w'} (h:Yk k W0 W) (hb:Below W.heap.size W w'):Yk k W0 w':=⟨(hb.block k h.2).trans h.1,Nat.lt_of_lt_of_le h.2 hb.size⟩
theorem Yk.keepK {k W0 W w' F} (h:Yk k W0 W) (hk:Dn F W w') (hn:k ∉ F):Yk k W0 w':=⟨(hk.block k h.2 hn).trans h.1,Nat.lt_of_lt_of_le h.2 hk.size⟩
theorem Yk.alloc {k W0 W} (h:Yk k W0 W) (o:Obj):Yk k W0 (W.alloc o):=h.below ((Below.refl _ _).alloc (Nat.le_refl _) _)
theorem Yk.H8 {k W0 W w'} (h:Yk k W0 W) (e:w'.heap[k]?=W.heap[k]?):Yk k W0 w':=by
 refine ⟨e.trans h.1,?_⟩;rw [Array.getElem?_eq_getElem h.2] at e;exact (Array.getElem?_eq_some_iff.1 e).1
def RdI (w w1:World) (FT:List Nat) (pre:List ByteArray) (W:World):Prop :=
 ∃lo lc F1 eo ec F2,Ha W w.heap.size 54 [.slice lo pre.length lc]∧Ha W (w.heap.size+1+1) 22 [.slice eo (pre.length+1) ec] ∧
  Ow Hp 60 W (.slice lo pre.length lc) (pre.map Ac4) F1∧F1.Nodup∧Ow Bc 3 W (.slice eo (pre.length+1) ec) (Vn pre) F2∧F2.Nodup ∧
  (∀b∈F1,w1.heap.size+1 < b)∧(∀b∈F2,b=w.heap.size+1∨w1.heap.size+1 < b)∧(∀b∈F1,b ∉ F2)∧N0 Aa1 W (.agg #[]) () FT∧Below w.heap.size w W ∧
  Hid (acc 0 (Eo pre)=Eo pre)
theorem RdI.H8 {w w1:World} {FT:List Nat} {g4:Nat} (h4:w.heap.size+1+1 < g4) (h5:g4 < w1.heap.size) (hFT:∀b∈FT,b < w.heap.size):AbB [g4,w1.heap.size+1] (RdI w w1 FT):=by
 rintro pre W W' ⟨lo,lc,F1,eo,ec,F2,r1,r3,o1,n1,o2,n2,f1,f2,d,hT,hB,ha⟩ hk;refine ⟨lo,lc,F1,eo,ec,F2,r1.keepK hk GU,r3.keepK hk GU,o1.H8 hk (fun b hb hm=>?_),n1,o2.H8 hk (fun b hb hm=>?_),n2,f1,f2,d,hT.H8 hk (fun b hb hm=>?_),hB.trans (hk.below hB.size (fun b hb=>?_)),ha⟩
 ·have:=f1 b hb;simp at hm;omega
 ·have:=f2 b hb;simp at hm;omega
 ·have:=hFT b hb;simp at hm;omega
 ·simp at hb;omega
def RdX (w w1:World) (FT:List Nat) (c:Code) (ys:List ByteArray) (W:World):Prop :=
 c=.exit 0∧∃pre x,ys=pre++[x]∧RdI w w1 FT pre W∧Xz pre.length x.data.toList=false
def Ba1 (s:ByteArray) (w:World) (e:Ending) (w':World):Prop :=
 ∃u0 G0 u1 G1,e=.returned (.tuple #[u0,u1])∧Ow Hp 60 w' u0 ((Bn s.data.toList).map Oz) G0∧G0.Nodup∧Ow Bc 3 w' u1 ((Ki 0 (Bn s.data.toList)).map Int.ofNat) G1∧G1.Nodup ∧
  (∀b∈G0,w.heap.size≤b)∧(∀b∈G1,w.heap.size≤b)∧(∀b∈G0,b ∉ G1)∧Below w.heap.size w w'
theorem Akz {k:Nat} {xs:List Bs} {x:Bs} (h:acc k xs=xs) (hx:Xz (k+xs.length) x=true):acc k (xs++[x])=xs++[x]:=by
 rw [Um k xs _ h];simp [acc,hx]
theorem Auj {k:Nat} {xs:List Bs} {x:Bs} (post:List Bs) (h:acc k xs=xs) (hx:Xz (k+xs.length) x=false):acc k (xs++x::post)=xs:=by
 rw [Um k xs _ h];simp [acc,hx]
theorem Aoq {s:ByteArray} (h:acc 0 (Eo (Ir s))=Eo (Ir s)):Eo (Ir s)=Bn s.data.toList:=by
 rw [Qa] at h ⊢;exact h.symm
theorem Amc {s:ByteArray} {pre post:List ByteArray} {x:ByteArray} (hs:Ir s=pre++x::post) (h:acc 0 (Eo pre)=Eo pre) (hx:Xz pre.length x.data.toList=false):Eo pre=Bn s.data.toList:=by
 unfold Bn;rw [←Qa,hs];have:Eo (pre++x::post)=Eo pre++x.data.toList::Eo post:=by simp [Eo]
 rw [this,Auj _ h (by rw [Qo,Nat.zero_add];exact hx)]
theorem RdI.post {s:ByteArray} {w w1:World} {FT:List Nat} {pre:List ByteArray} {W:World} (h1:w.heap.size+1 < w1.heap.size) (ho:Eo pre=Bn s.data.toList)
  (h:RdI w w1 FT pre W):∃lo lc eo ec,Ha W w.heap.size 54 [.slice lo pre.length lc]∧Ha W (w.heap.size+1+1) 22 [.slice eo (pre.length+1) ec] ∧
   ∀W',Dn [w1.heap.size] W W'→Ba1 s w (.returned (.tuple #[.slice lo pre.length lc,.slice eo (pre.length+1) ec])) W':=by
 obtain ⟨lo,lc,F1,eo,ec,F2,r1,r3,o1,n1,o2,n2,f1,f2,d,hT,hB,ha⟩:=h;refine ⟨lo,lc,eo,ec,r1,r3,fun W' hk=>⟨_,F1,_,F2,rfl,?_,n1,?_,n2,fun b hb=>by have:=f1 b hb;omega,fun b hb=>by have:=f2 b hb;omega,d,hB.trans (hk.below hB.size (fun b hb=>by simp at hb;omega))⟩⟩
 ·have e:(Bn s.data.toList).map Oz=pre.map Ac4:=by rw [←ho];simp [Eo,Ac4]
  rw [e];exact o1.H8 hk (fun b hb hm=>by have:=f1 b hb;simp at hm;omega)
 ·have e:(Ki 0 (Bn s.data.toList)).map Int.ofNat=Vn pre:=by rw [←ho];rfl
  rw [e];exact o2.H8 hk (fun b hb hm=>by have:=f2 b hb;simp at hm;omega)
theorem RdI.acc {w w1:World} {FT:List Nat} {pre:List ByteArray} {W:World} (h:RdI w w1 FT pre W):acc 0 (Eo pre)=Eo pre:=by
 obtain ⟨_,_,_,_,_,_,_,_,_,_,_,_,_,_,_,_,_,h⟩:=h;exact h.out
theorem Ag5 (s:ByteArray) (FT:List Nat) (w:World) (hs:s.size≤16777216) (hT:N0 Aa1 w (.agg #[]) () FT) :
  Calls prog 30 #[.string s] w (Ba1 s w):=by
 have hFT:=hT.lt;refine (callsIn_wide (n:=9)).1 (callsIn_of_wp_marks func30 rfl trivial ?_ rfl);simp only [ntmps30,List.size_toArray,List.length_cons,List.length_nil,Nat.reduceAdd,Nat.reduceSub,Array.replicate_succ,Array.replicate_zero,List.push_toArray,List.append_toArray,List.cons_append,List.nil_append];refine wpIn_wide.2 ?_;go_wp2_with (go_at_call 54;refine (Ayi _ _).mono ?_;rintro e w' ⟨rfl,rfl⟩)
 have al:Below w.heap.size w ((((w.alloc (.cells #[.slice none 0 0] 54)).alloc (.cells #[.int .i64 0] 3)).alloc (.cells #[.slice (some ⟨w.heap.size+1,0,none⟩) 1 1] 22)).alloc (.cells #[.string s] 9)):=by
  repeat refine Below.alloc ?_ HI _
  exact Below.refl _ _
 have n_R1:Ha ((((w.alloc (.cells #[.slice none 0 0] 54)).alloc (.cells #[.int .i64 0] 3)).alloc (.cells #[.slice (some ⟨w.heap.size+1,0,none⟩) 1 1] 22)).alloc (.cells #[.string s] 9)) (w.heap.size) 54 [.slice none 0 0]:=by simp [Es] <;> omega
 have n_R2:Ha ((((w.alloc (.cells #[.slice none 0 0] 54)).alloc (.cells #[.int .i64 0] 3)).alloc (.cells #[.slice (some ⟨w.heap.size+1,0,none⟩) 1 1] 22)).alloc (.cells #[.string s] 9)) (w.heap.size+1) 3 [.int .i64 0]:=by simp [Es] <;> omega
 have n_R3:Ha ((((w.alloc (.cells #[.slice none 0 0] 54)).alloc (.cells #[.int .i64 0] 3)).alloc (.cells #[.slice (some ⟨w.heap.size+1,0,none⟩) 1 1] 22)).alloc (.cells #[.string s] 9)) (w.heap.size+1+1) 22 [.slice (some ⟨w.heap.size+1,0,none⟩) 1 1]:=by simp [Es] <;> omega
 have n_R4:Ha ((((w.alloc (.cells #[.slice none 0 0] 54)).alloc (.cells #[.int .i64 0] 3)).alloc (.cells #[.slice (some ⟨w.heap.size+1,0,none⟩) 1 1] 22)).alloc (.cells #[.string s] 9)) (w.heap.size+1+1+1) 9 [.string s]:=by simp [Es] <;> omega
 have hs_w1:w.heap.size+1+1+1 < ((((w.alloc (.cells #[.slice none 0 0] 54)).alloc (.cells #[.int .i64 0] 3)).alloc (.cells #[.slice (some ⟨w.heap.size+1,0,none⟩) 1 1] 22)).alloc (.cells #[.string s] 9)).heap.size:=by simp <;> omega
 replace hT:=hT.below al;have hB:=al;generalize ((((w.alloc (.cells #[.slice none 0 0] 54)).alloc (.cells #[.int .i64 0] 3)).alloc (.cells #[.slice (some ⟨w.heap.size+1,0,none⟩) 1 1] 22)).alloc (.cells #[.string s] 9))=w1 at *;have R1:=n_R1;clear n_R1;have R2:=n_R2;clear n_R2;have R3:=n_R3;clear n_R3;have R4:=n_R4;clear n_R4;clear al;have h0:RdI w w1 FT [] w1:=by
  refine ⟨none,0,[],some ⟨w.heap.size+1,0,none⟩,1,[w.heap.size+1],R1,R3,.inl ⟨rfl,rfl,rfl⟩,GL,?_,GL,GL,GL,GL,hT,hB,Lib.hid rfl⟩;exact .inr ⟨w.heap.size+1,1,[.int .i64 0],[],[],rfl,by simpa using R2,by rw [Tv];simp,GZ,rfl,⟨[.int .i64 0],[],[],[],rfl,rfl,⟨rfl,rfl⟩,rfl,rfl⟩,rfl⟩
 refine (wpIn_wide (n:=9)).1 ?_
 apply Akk (b:=w.heap.size+1+1+1) (xs:=Ir s) (gf:=96) (lb:=#[.pointer (some ⟨w.heap.size+1+1+1,0,none⟩)]) rfl (enters_of func96 GK rfl) rfl GJ
  (fun W0 hW0=>Asq s _ W0 GJ (R4.H8 hW0)) (RdI w w1 FT) (RdX w w1 FT) (RdI.H8 GJ GJ hFT)
  (by
   rintro c ys W W' ⟨hc,pre,x,hy,hi,hk2⟩ hk;exact ⟨hc,pre,x,hy,RdI.H8 GJ GJ hFT _ _ _ hi hk,hk2⟩) h0
 case hassign =>
  intro m x W K hK;refine Hn (fun _ _ h=>h) GK ?_;simp only [List.zip_toArray,List.foldl_toArray,List.zip_cons_cons,List.zip_nil_right,List.foldl_cons,List.foldl_nil,List.setIfInBounds_toArray,List.set_cons_zero,List.set_cons_succ];go_wp2_with fail;exact hK
 case hbody =>
  intro m pre post x W hxs hsz hI;clear R1 R2 R3 R4 hT hB h0;have hxl:=Azn hxs;have hcl:=Auw hxs;have hends:=Aey pre;have hel:=Tv pre;have hT0:=hFT;obtain ⟨lo,lc,F1,eo,ec,F2,G1,G3,o1,n1,o2,n2,f1,f2,dd,hT,hB,ha⟩:=hI;have S4:Yk (w.heap.size+1+1+1) W W:=⟨rfl,GJ⟩;have S5:Yk w1.heap.size W W:=⟨rfl,GJ⟩;have S6:Yk (w1.heap.size+1) W W:=⟨rfl,GJ⟩;have z1:=Ahl 35 x;have z2:=Ahk 32 (Ps 35 x);have z3:=Ahl 64 (Qx 32 (Ps 35 x));have z4:=Ahk 64 (Qx 32 (Ps 35 x));have hk1:=Lib.hid (fun w=>At0 x 35 w GZ)
  have hk2:=Lib.hid (fun w=>At0 (Ps 35 x) 32 w GZ);have hk3:=Lib.hid (fun w=>At0 (Qx 32 (Ps 35 x)) 64 w GZ);have hrec:=Ata x;have hcm:(Ps 64 (Qx 32 (Ps 35 x))).data.toList=Adg x.data.toList:=by simp only [Ps,Qx,Iy,Adg,Agf]
  have hrp:(Qx 64 (Qx 32 (Ps 35 x))).data.toList=Ado x.data.toList:=by simp only [Ps,Qx,Iy,Ado,Agf]
  generalize Ps 35 x=y1 at *;generalize Qx 32 y1=y2 at *;generalize Ps 64 y2=cc at *;generalize Qx 64 y2=rr at *;generalize hy1f:Qx 35 x=y3 at *;generalize hy2f:Ps 32 y1=y4 at *;clear hy1f hy2f;have sc:cc.size≤maxLen:=by unfold maxLen;omega
  have sr:rr.size≤maxLen:=by unfold maxLen;omega
  have hE:=Lib.hid (fun w v hv hT=>Aed (pre.length:Int) v ⟨cc,rr⟩ [] FT w hv hT);have hres:Jj (pre.length:Int) ⟨cc,rr⟩=(bs ((Adi (pre.length:Int) (Adg x.data.toList) (Ado x.data.toList)).getD []),(Adi (pre.length:Int) (Adg x.data.toList) (Ado x.data.toList)).isSome):=by unfold Jj;rw [hcm,hrp]
  replace hres:=Lib.hid hres;replace hrec:=Lib.hid hrec;replace hends:=Lib.hid hends;replace hel:=Lib.hid hel;replace hxs:=Lib.hid hxs;clear hcm hrp;refine wpIn_block ?_;refine wpIn_seq_k (fun _ _=>?_);refine Hn (fun _ _ h=>h) GK ?_;go_wp2_with fail;refine (hk1.out _).mono ?_;rintro e w21 ⟨rfl,j,hj⟩;have hb:Below W.heap.size W w21:=by rw [hj];exact Dl (Below.refl _ _) _
  clear hj;have hs_w21:=hb.size;replace G1:=G1.below hb;replace G3:=G3.below hb;replace o1:=o1.below hb;replace o2:=o2.below hb;replace hT:=hT.below hb;replace S4:=S4.below hb;replace S5:=S5.below hb;replace S6:=S6.below hb;replace hB:=tr hB hb (Nat.le_refl _);clear hb;go_wp2_with fail;refine wpIn_seq_k (fun _ _=>?_);refine Hn (fun _ _ h=>h) GK ?_;go_wp2_with fail;refine (hk2.out _).mono ?_;rintro e w22 ⟨rfl,j,hj⟩;have hb:Below w21.heap.size w21 w22:=by rw [hj];exact Dl (Below.refl _ _) _
  clear hj;have hs_w22:=hb.size;replace G1:=G1.below hb;replace G3:=G3.below hb;replace o1:=o1.below hb;replace o2:=o2.below hb;replace hT:=hT.below hb;replace S4:=S4.below hb;replace S5:=S5.below hb;replace S6:=S6.below hb;replace hB:=tr hB hb (Nat.le_refl _);clear hb;go_wp2_with fail;refine wpIn_seq_k (fun _ _=>?_);refine Hn (fun _ _ h=>h) GK ?_;go_wp2_with fail;refine (hk3.out _).mono ?_;rintro e w23 ⟨rfl,j,hj⟩;have hb:Below w22.heap.size w22 w23:=by rw [hj];exact Dl (Below.refl _ _) _
  clear hj;have hs_w23:=hb.size;replace G1:=G1.below hb;replace G3:=G3.below hb;replace o1:=o1.below hb;replace o2:=o2.below hb;replace hT:=hT.below hb;replace S4:=S4.below hb;replace S5:=S5.below hb;replace S6:=S6.below hb;replace hB:=tr hB hb (Nat.le_refl _);clear hb;go_wp2_with fail;clear hk1 hk2 hk3;refine wpIn_seq_k (fun _ _=>?_);refine Hn (fun _ _ h=>h) GK ?_;go_wp2_with fail;have al:Below w23.heap.size w23 (w23.alloc (.cells #[.string cc,.string rr] 60)):=by
   repeat refine Below.alloc ?_ HI _
   exact Below.refl _ _
  have n_R8:=Ha.made w23 60 [.string cc,.string rr];have hs_w24:w23.heap.size < (w23.alloc (.cells #[.string cc,.string rr] 60)).heap.size:=by simp
  replace G1:=G1.below al;replace G3:=G3.below al;replace o1:=o1.below al;replace o2:=o2.below al;replace hT:=hT.below al;replace S4:=S4.below al;replace S5:=S5.below al;replace S6:=S6.below al;replace hB:=tr hB al (Nat.le_refl _);generalize (w23.alloc (.cells #[.string cc,.string rr] 60))=w24 at *;have R8:=n_R8;clear n_R8;clear al;cases henc:Adi (pre.length:Int) (Adg x.data.toList) (Ado x.data.toList) with
  | none =>
   have hno:Xz pre.length x.data.toList=false:=by unfold Xz;rw [henc];rfl
   have hE2:=hE.out;rw [hres.out,henc] at hE2;replace hE2:=Lib.hid hE2;refine wpIn_seq_k (fun _ _=>?_);refine wpIn_seq_k (fun _ _=>?_);refine Hn (fun _ _ h=>h) GK ?_;have c_G1:=G1.cells;have f_G1:=G1.frozens;have c_R8:=R8.cells;have f_R8:=R8.frozens;go_wp2_with fail;clear c_G1 f_G1 c_R8 f_R8;refine (hE2.out _ _ ⟨_,rfl,rfl,sc,sr,rfl⟩ hT).mono ?_;rintro e w25 ⟨rfl,hb⟩;have hs_w25:=hb.size;clear hE hE2;replace G1:=G1.below hb;replace G3:=G3.below hb;replace R8:=R8.below hb;replace o1:=o1.below hb;replace o2:=o2.below hb;replace hT:=hT.below hb;replace S4:=S4.below hb
   replace S5:=S5.below hb;replace S6:=S6.below hb;replace hB:=tr hB hb (Nat.le_refl _);clear hb;go_wp2_with fail;refine wpIn_seq_k (fun _ _=>?_);refine Hn (fun _ _ h=>h) GK ?_;go_wp2_with fail;refine wpIn_cond_true rfl ?_;refine wpIn_exit ?_;refine ⟨fun k hk=>?_,rfl,pre,x,rfl,⟨lo,lc,F1,eo,ec,F2,G1,G3,o1,n1,o2,n2,f1,f2,dd,hT,hB,ha⟩,hno⟩;simp only [List.mem_cons,List.not_mem_nil,or_false] at hk;rcases hk with rfl|rfl|rfl
   ·exact S4.1
   ·exact S5.1
   ·exact S6.1
  | some y =>
   by_cases hyx:y=x.data.toList
   ·have hok:Xz pre.length x.data.toList=true:=by unfold Xz;rw [henc,hyx];simp
    rw [hyx] at henc;have hE2:=hE.out;rw [hres.out,henc] at hE2;simp only [Option.getD_some,Aci,Option.isSome_some] at hE2;replace hE2:=Lib.hid hE2;refine wpIn_seq_k (fun _ _=>?_);refine wpIn_seq_k (fun _ _=>?_);refine Hn (fun _ _ h=>h) GK ?_;have c_G1:=G1.cells;have f_G1:=G1.frozens;have c_R8:=R8.cells;have f_R8:=R8.frozens;go_wp2_with fail;clear c_G1 f_G1 c_R8 f_R8;refine (hE2.out _ _ ⟨_,rfl,rfl,sc,sr,rfl⟩ hT).mono ?_;rintro e w26 ⟨rfl,hb⟩;have hs_w26:=hb.size;clear hE hE2;replace G1:=G1.below hb;replace G3:=G3.below hb;replace R8:=R8.below hb;replace o1:=o1.below hb
    replace o2:=o2.below hb;replace hT:=hT.below hb;replace S4:=S4.below hb;replace S5:=S5.below hb;replace S6:=S6.below hb;replace hB:=tr hB hb (Nat.le_refl _);clear hb;go_wp2_with fail;refine wpIn_seq_k (fun _ _=>?_);refine Hn (fun _ _ h=>h) GK ?_;go_wp2_with fail;refine wpIn_cond_false rfl ?_;refine wpIn_skip ?_;go_wp2_with fail;have lF1:=o1.lt;have lF2:=o2.lt;have hnd:∀b∈FT,b < w.heap.size:=hT0;clear henc hres;refine wpIn_seq_k (fun _ _=>?_);refine Hn (fun _ _ h=>h) GK ?_
    have c_G1:=G1.cells;have f_G1:=G1.frozens;have d_G1:=fun o=>(G1.alloc o).cells;have e_G1:=fun o=>(G1.alloc o).frozens;have c_R8:=R8.cells;have f_R8:=R8.frozens;have d_R8:=fun o=>(R8.alloc o).cells;have e_R8:=fun o=>(R8.alloc o).frozens
    go_wp2_with (at_builtin;refine Mn Wn GM GV _ _ _ GV 60 (.agg #[.string ⟨#[]⟩,.string ⟨#[]⟩]) 32 underlying54 Ae7 rfl (.slice lo pre.length lc) (pre.map Ac4) F1 GV (o1.below ((Below.refl _ _).alloc (Nat.le_refl _) _)) (Hd.of n1) (some ⟨w26.heap.size,0,none⟩) [⟨cc,rr⟩] 1 GV [.string cc,.string rr] [] (Cw.one ⟨rfl,sc,sr,rfl⟩) (.inr ⟨_,rfl,World.news_of_block (heap_alloc_new w26 _)⟩) GL (by simp;unfold maxLen;omega) GU ?_);clear c_G1 f_G1 d_G1 e_G1 c_R8 f_R8 d_R8 e_R8;intro v6 w27 F6 hA
    have o6:=hA.ow;have n6:=hA.Al7 n1 GL GL;have m6:=hA.mem;have K6:=hA.H8;obtain ⟨a6,c6,hv6⟩:=hA.val;clear hA;have hv7:v6=.slice a6 (pre.length+1) c6:=by simpa using hv6
    subst hv7;clear hv6;have al:=(Below.refl w26.heap.size w26).alloc (Nat.le_refl _) (.cells #[.string cc,.string rr] 60);have hs_w27:w26.heap.size+1≤w27.heap.size:=by have:=K6.size;simpa using this
    have f6:∀b∈F6,w1.heap.size+1 < b:=fun b hb=>by
     rcases m6 b hb with h7|h7|h7
     ·exact f1 b h7
     ·simp at h7
     ·simp at h7;omega
    have d6:∀b∈F6,b ∉ F2:=fun b hb hm=>by
     rcases m6 b hb with h7|h7|h7
     ·exact dd b h7 hm
     ·simp at h7
     ·have:=lF2 b hm;simp at h7;omega
    replace G1:=(G1.below al).keepK K6 (fun hm=>by have:=f1 _ hm;omega);replace G3:=(G3.below al).keepK K6 (fun hm=>by have:=f1 _ hm;omega);replace o2:=(o2.below al).H8 K6 (fun b hb hm=>dd b hm hb);replace hT:=(hT.below al).H8 K6 (fun b hb hm=>by have:=f1 b hm;have:=hnd b hb;omega);replace S4:=(S4.below al).keepK K6 (fun hm=>by have:=f1 _ hm;omega);replace S5:=(S5.below al).keepK K6 (fun hm=>by have:=f1 _ hm;omega);replace S6:=(S6.below al).keepK K6 (fun hm=>by have:=f1 _ hm;omega)
    replace hB:=(tr hB al (Nat.le_refl _)).trans (K6.below (B:=w.heap.size) (by have:=hB.size;simp;omega) (fun b hb=>by have:=f1 b hb;omega));clear K6 m6 al o1 n1 dd lF1 lF2 R8;have c_G1:=G1.cells;have f_G1:=G1.frozens;go_wp2_with fail;clear c_G1 f_G1;have K7:Dn [w.heap.size] w27 (w27.setCell ⟨w.heap.size,0,none⟩ (.slice a6 (pre.length+1) c6)):=(Dn.refl _ _).setCell GL _;have G1b:Ha (w27.setCell ⟨w.heap.size,0,none⟩ (.slice a6 (pre.length+1) c6)) w.heap.size 54 [(.slice a6 (pre.length+1) c6)]:=G1.set 0 (.slice a6 (pre.length+1) c6);replace G3:=G3.keepK K7 GU
    replace o2:=o2.H8 K7 (fun b hb hm=>by have:=f2 b hb;simp at hm;omega);replace o6:=o6.H8 K7 (fun b hb hm=>by have:=f6 b hb;simp at hm;omega);replace hT:=hT.H8 K7 (fun b hb hm=>by have:=hnd b hb;simp at hm;omega);replace S4:=S4.keepK K7 GU;replace S5:=S5.keepK K7 GU;replace S6:=S6.keepK K7 GU;replace hB:=hB.trans (K7.below (B:=w.heap.size) (by have:=hB.size;omega) (fun b hb=>by simp at hb;omega));have hs_w28:w27.heap.size≤(w27.setCell ⟨w.heap.size,0,none⟩ (.slice a6 (pre.length+1) c6)).heap.size:=K7.size;clear K7 G1
    generalize (w27.setCell ⟨w.heap.size,0,none⟩ (.slice a6 (pre.length+1) c6))=w28 at *;have G1:=G1b;clear G1b;obtain ⟨gb,off,rfl⟩:=Arf o2;have hw4:=Lib.hid (show IntKind.i64.wrap (pre.length:Int)=(pre.length:Int) from by rw [IntKind.wrap_i64];omega);have hw9:=Lib.hid (show IntKind.i64.wrap ((Oc pre:Int)+(x.size:Int))=(Oc pre:Int)+(x.size:Int) from by rw [IntKind.wrap_i64];omega)
    refine En.startIn (S:=(fun w'=>w'.cell? ⟨w.heap.size+1+1,0,none⟩=some (.slice (some ⟨gb,off,none⟩) (pre.length+1) ec)∧w'.cell? ⟨gb,off+pre.length,none⟩=some (.int .i64 (Oc pre:Int)))) (X:=(fun i=>i == 11 || i == 12)) GK (fun _ _ h=>h) GK ?_;have al:Below w28.heap.size w28 w28.drew:=Dl (Below.refl _ _) 1;have hs_w29:=al.size;replace G1:=G1.below al;replace G3:=G3.below al;replace o2:=o2.below al;replace hT:=hT.below al;replace S4:=S4.below al;replace S5:=S5.below al;replace S6:=S6.below al;replace o6:=o6.below al;replace hB:=tr hB al (Nat.le_refl _)
    generalize w28.drew=w29 at *;clear al;have hS:(fun w'=>w'.cell? ⟨w.heap.size+1+1,0,none⟩=some (.slice (some ⟨gb,off,none⟩) (pre.length+1) ec)∧w'.cell? ⟨gb,off+pre.length,none⟩=some (.int .i64 (Oc pre:Int))) w29:=⟨G3.cells 0,Aho o2⟩;refine En.take (i:=0) (oi:=_) (v:=?_) GQ GK GK GK GK GK GX (Or.inl ⟨GV,?_⟩) hS ?_
    rotate_left
    ·(intro wS hSw;(try dsimp only at hSw);go_simp;try with_reducible rfl)
    try simp only [Act.put,List.setIfInBounds_toArray,List.set_cons_zero,List.set_cons_succ]
    refine En.take (i:=1) (oi:=_) (v:=?_) GQ GK GK GK GK GK GX (Or.inl ⟨GV,?_⟩) hS ?_
    rotate_left
    ·(intro wS hSw;(try dsimp only at hSw);go_simp;try with_reducible rfl)
    try simp only [Act.put,List.setIfInBounds_toArray,List.set_cons_zero,List.set_cons_succ]
    refine En.take (i:=2) (oi:=_) (v:=?_) GQ GK GK GK GK GK GX (Or.inl ⟨GV,?_⟩) hS ?_
    rotate_left
    ·(intro wS hSw;(try dsimp only at hSw);go_simp;try with_reducible rfl)
    try simp only [Act.put,List.setIfInBounds_toArray,List.set_cons_zero,List.set_cons_succ]
    refine En.take (i:=3) (oi:=_) (v:=?_) GQ GK GK GK GK GK GX (Or.inl ⟨GV,?_⟩) hS ?_
    rotate_left
    ·(intro wS hSw;(try dsimp only at hSw);go_simp;try with_reducible rfl)
    try simp only [Act.put,List.setIfInBounds_toArray,List.set_cons_zero,List.set_cons_succ]
    refine En.take (i:=4) (oi:=_) (v:=?_) GQ GK GK GK GK GK GX (Or.inl ⟨GV,?_⟩) hS ?_
    rotate_left
    ·(intro wS hSw;(try dsimp only at hSw);go_simp;rw [hw4.out];try with_reducible rfl)
    try simp only [Act.put,List.setIfInBounds_toArray,List.set_cons_zero,List.set_cons_succ]
    refine En.take (i:=5) (oi:=_) (v:=?_) GQ GK GK GK GK GK GX (Or.inl ⟨GV,?_⟩) hS ?_
    rotate_left
    ·(intro wS hSw;(try dsimp only at hSw);go_simp;rw [if_pos GJ];try with_reducible rfl)
    try simp only [Act.put,List.setIfInBounds_toArray,List.set_cons_zero,List.set_cons_succ]
    refine En.take (i:=6) (oi:=_) (v:=?_) GQ GK GK GK GK GK GX (Or.inl ⟨GV,?_⟩) hS ?_
    rotate_left
    ·(intro wS hSw;(try dsimp only at hSw);go_simp;try with_reducible rfl)
    try simp only [Act.put,List.setIfInBounds_toArray,List.set_cons_zero,List.set_cons_succ]
    refine En.take (i:=7) (oi:=_) (v:=?_) GQ GK GK GK GK GK GX (Or.inl ⟨GV,?_⟩) hS ?_
    rotate_left
    ·(intro wS hSw;(try dsimp only at hSw);go_simp;try with_reducible rfl)
    try simp only [Act.put,List.setIfInBounds_toArray,List.set_cons_zero,List.set_cons_succ]
    refine En.take (i:=8) (oi:=_) (v:=?_) GQ GK GK GK GK GK GX (Or.inl ⟨GV,?_⟩) hS ?_
    rotate_left
    ·(intro wS hSw;(try dsimp only at hSw);go_simp;try with_reducible rfl)
    try simp only [Act.put,List.setIfInBounds_toArray,List.set_cons_zero,List.set_cons_succ]
    refine En.take (i:=9) (oi:=_) (v:=?_) GQ GK GK GK GK GK GX (Or.inl ⟨GV,?_⟩) hS ?_
    rotate_left
    ·(intro wS hSw;(try dsimp only at hSw);go_simp;rw [hw9.out];try with_reducible rfl)
    try simp only [Act.put,List.setIfInBounds_toArray,List.set_cons_zero,List.set_cons_succ]
    refine En.only (i:=10) (o:=_) GK GQ (fun K hK=>?_)
    go_simp
    have al:Below w29.heap.size w29 (w29.alloc (.cells #[.int .i64 ((Oc pre:Int)+(x.size:Int))] 3)):=by
     repeat refine Below.alloc ?_ HI _
     exact Below.refl _ _
    have n_R9:=Ha.made w29 3 [.int .i64 ((Oc pre:Int)+(x.size:Int))];have hs_w30:w29.heap.size < (w29.alloc (.cells #[.int .i64 ((Oc pre:Int)+(x.size:Int))] 3)).heap.size:=by simp
    replace G1:=G1.below al;replace G3:=G3.below al;replace o2:=o2.below al;replace hT:=hT.below al;replace S4:=S4.below al;replace S5:=S5.below al;replace S6:=S6.below al;replace o6:=o6.below al;replace hB:=tr hB al (Nat.le_refl _);generalize (w29.alloc (.cells #[.int .i64 ((Oc pre:Int)+(x.size:Int))] 3))=w30 at *;have R9:=n_R9;clear n_R9;clear al;clear hS;have hS:(fun w'=>w'.cell? ⟨w.heap.size+1+1,0,none⟩=some (.slice (some ⟨gb,off,none⟩) (pre.length+1) ec)∧w'.cell? ⟨gb,off+pre.length,none⟩=some (.int .i64 (Oc pre:Int))) w30:=⟨G3.cells 0,Aho o2⟩;refine hK.out _ _ (fun _=>hS) ?_;clear hK K
    try simp only [Act.put,List.setIfInBounds_toArray,List.set_cons_zero,List.set_cons_succ]
    refine En.only (i:=11) (o:=_) GK GQ (fun K hK=>?_);have lF2:=o2.lt;have lF6:=o6.lt;refine Amy C5 GM GV _ _ _ GV 3 (.int .i64 0) 8 underlying22 Z3 rfl (.slice (some ⟨gb,off,none⟩) (pre.length+1) ec) (Vn pre) F2 GV o2 (Hd.of n2) (some ⟨w29.heap.size,0,none⟩) [(Oc pre:Int)+(x.size:Int)] 1 GV [.int .i64 ((Oc pre:Int)+(x.size:Int))] [] (Cw.one ⟨rfl,rfl⟩) (.inr ⟨_,rfl,(Awz R9)⟩) GL (by have:=hel.out;simp;unfold maxLen;omega) (by have:=hel.out;simp;omega) ?_;intro v8 w31 F8 hA
    have o8:=hA.ow;have n8:=hA.Al7 n2 GL GL;have m8:=hA.mem;have K8:=hA.H8;obtain ⟨a8,c8,hv8⟩:=hA.val;clear hA;have hv9:v8=.slice a8 (pre.length+1+1) c8:=by rw [hv8,hel.out];rfl
    subst hv9;clear hv8;have hs_w31:=K8.size;have f8:∀b∈F8,b=w.heap.size+1∨w1.heap.size+1 < b:=fun b hb=>by
     rcases m8 b hb with h7|h7|h7
     ·exact f2 b h7
     ·simp at h7
     ·omega
    have d8:∀b∈F6,b ∉ F8:=fun b hb hm=>by
     rcases m8 b hm with h7|h7|h7
     ·exact d6 b hb h7
     ·simp at h7
     ·have:=lF6 b hb;omega
    replace G1:=G1.keepK K8 (fun hm=>by have:=f2 _ hm;omega);replace G3:=G3.keepK K8 (fun hm=>by have:=f2 _ hm;omega);replace o6:=o6.H8 K8 (fun b hb hm=>d6 b hb hm);replace hT:=hT.H8 K8 (fun b hb hm=>by have:=f2 b hm;have:=hnd b hb;omega);replace S4:=S4.keepK K8 (fun hm=>by have:=f2 _ hm;omega);replace S5:=S5.keepK K8 (fun hm=>by have:=f2 _ hm;omega);replace S6:=S6.keepK K8 (fun hm=>by have:=f2 _ hm;omega);replace hB:=hB.trans (K8.below (B:=w.heap.size) (by have:=hB.size;omega) (fun b hb=>by have:=f2 b hb;omega));clear K8 m8 lF2 lF6 R9 o2;refine hK.out _ _ (fun h=>by cases h) ?_;clear hK K
    try simp only [Act.put,List.setIfInBounds_toArray,List.set_cons_zero,List.set_cons_succ]
    refine En.only (i:=12) (o:=_) GK GQ (fun K hK=>?_);have c_G3:=G3.cells;have f_G3:=G3.frozens
    go_simp
    clear c_G3 f_G3;refine hK.out _ _ (fun h=>by cases h) ?_;clear hK K
    try simp only [Act.put,List.setIfInBounds_toArray,List.set_cons_zero,List.set_cons_succ]
    refine En.done GK ?_ _
    (try clear hS)
    have K9:Dn [w.heap.size+1+1] w31 (w31.setCell ⟨w.heap.size+1+1,0,none⟩ (.slice a8 (pre.length+1+1) c8)):=(Dn.refl _ _).setCell GL _;have G3b:Ha (w31.setCell ⟨w.heap.size+1+1,0,none⟩ (.slice a8 (pre.length+1+1) c8)) (w.heap.size+1+1) 22 [(.slice a8 (pre.length+1+1) c8)]:=G3.set 0 (.slice a8 (pre.length+1+1) c8);replace G1:=G1.keepK K9 HI;replace o6:=o6.H8 K9 (fun b hb hm=>by have:=f6 b hb;simp at hm;omega);replace o8:=o8.H8 K9 (fun b hb hm=>by have:=f8 b hb;simp at hm;omega);replace hT:=hT.H8 K9 (fun b hb hm=>by have:=hnd b hb;simp at hm;omega)
    replace S4:=S4.keepK K9 HI;replace S5:=S5.keepK K9 HI;replace S6:=S6.keepK K9 HI;replace hB:=hB.trans (K9.below (B:=w.heap.size) (by have:=hB.size;omega) (fun b hb=>by simp at hb;omega));have hlen:(pre++[x]).length=pre.length+1:=by simp
    have hmap:(pre++[x]).map Ac4=pre.map Ac4++[⟨cc,rr⟩]:=by rw [List.map_append,←hrec.out];rfl
    refine ⟨fun k hk=>?_,?_⟩
    ·simp only [List.mem_cons,List.not_mem_nil,or_false] at hk;rcases hk with rfl|rfl|rfl
     ·exact S4.1
     ·exact S5.1
     ·exact S6.1
    ·unfold RdI;rw [hlen,hmap,An0,U0];exact ⟨a6,c6,F6,a8,c8,F8,G1,G3b,o6,n6,o8,n8,f6,f8,d8,hT,hB,Lib.hid (Akz ha.out (by rw [Qo,Nat.zero_add];exact hok))⟩
   ·have hno:Xz pre.length x.data.toList=false:=by unfold Xz;rw [henc];simpa using hyx
    have hne:((bs y).toList == x.toList)=false:=by rw [ByteArray.toList_eq,ByteArray.toList_eq,Iy];simpa using hyx
    have hE2:=hE.out;rw [hres.out,henc] at hE2;replace hE2:=Lib.hid hE2;refine wpIn_seq_k (fun _ _=>?_);refine wpIn_seq_k (fun _ _=>?_);refine Hn (fun _ _ h=>h) GK ?_;have c_G1:=G1.cells;have f_G1:=G1.frozens;have c_R8:=R8.cells;have f_R8:=R8.frozens;go_wp2_with fail;clear c_G1 f_G1 c_R8 f_R8;refine (hE2.out _ _ ⟨_,rfl,rfl,sc,sr,rfl⟩ hT).mono ?_;rintro e w32 ⟨rfl,hb⟩;have hs_w32:=hb.size;clear hE hE2;replace G1:=G1.below hb;replace G3:=G3.below hb;replace R8:=R8.below hb;replace o1:=o1.below hb;replace o2:=o2.below hb;replace hT:=hT.below hb;replace S4:=S4.below hb
    replace S5:=S5.below hb;replace S6:=S6.below hb;replace hB:=tr hB hb (Nat.le_refl _);clear hb;go_wp2_with fail;refine wpIn_seq_k (fun _ _=>?_);refine Hn (fun _ _ h=>h) GK ?_;go_wp2_with fail;refine wpIn_cond_true rfl ?_;refine wpIn_exit ?_;refine ⟨fun k hk=>?_,rfl,pre,x,rfl,⟨lo,lc,F1,eo,ec,F2,G1,G3,o1,n1,o2,n2,f1,f2,dd,hT,hB,ha⟩,hno⟩;simp only [List.mem_cons,List.not_mem_nil,or_false] at hk;rcases hk with rfl|rfl|rfl
    ·exact S4.1
    ·exact S5.1
    ·exact S6.1
 case hdone =>
  intro W hi hD;obtain ⟨lo,lc,eo,ec,r1,r3,hp⟩:=RdI.post (s:=s) GJ (Aoq hi.acc) hi;replace hp:=Lib.hid hp;clear R1 R2 R3 R4 hT hB h0 hi;have c1:=r1.cells;have c3:=r3.cells;go_wp2_with fail
  go_quiet (fail)
  go_wp2_with fail;refine ⟨GL,.inl ⟨_,_,rfl,run_takeDeferred (show (World.drewN W nq).heap[w1.heap.size]?=_ from hD),?_⟩⟩;refine ⟨_,?_,hp.out _ ⟨rfl,rfl,rfl,by simp [World.drewN],fun k hk hm=>World.putObj_heap_other KG⟩⟩;simp [results,results30,go_sem]
 case hstop =>
  intro c pre post x W hxs hix hD;obtain ⟨rfl,pre',x',hy,hi,hok⟩:=hix;obtain ⟨rfl,hxx⟩:=List.append_inj' hy rfl;simp only [List.cons.injEq,and_true] at hxx;subst hxx;obtain ⟨lo,lc,eo,ec,r1,r3,hp⟩:=RdI.post (s:=s) GJ (Amc hxs hi.acc hok) hi;replace hp:=Lib.hid hp;clear R1 R2 R3 R4 hT hB h0 hi hxs hy;refine wpIn_exit ?_;have c1:=r1.cells;have c3:=r3.cells;go_wp2_with fail
  go_quiet (fail)
  go_wp2_with fail;refine ⟨GL,.inl ⟨_,_,rfl,run_takeDeferred (show (World.drewN W nq).heap[w1.heap.size]?=_ from hD),?_⟩⟩;refine ⟨_,?_,hp.out _ ⟨rfl,rfl,rfl,by simp [World.drewN],fun k hk hm=>World.putObj_heap_other KG⟩⟩;simp [results,results30,go_sem]
theorem Aq3 (xs:List Bs):acc 60 xs=[]:=by
 cases xs with
 | nil=>rfl
 | cons x r =>
  have:Xz 60 x=false:=by
   cases h:Xz 60 x with
   | false=>rfl
   | true=>obtain ⟨c,r,hk,_⟩:=S8.1 h;omega
  simp [acc,this]
theorem Aii {l rest:Bs} {pre:List Bs} (hl:l=pre.flatten++rest) (h:acc 0 pre=pre):Bn l=pre++acc pre.length (Dw rest):=by rw [hl];exact Rb h rest
theorem An3 {rest:Bs} (h:rest≠[]):∃x post,Dw rest=x::post∧(10∈rest→x=D5 10 rest++[10]∧post=Dw (Ll 10 rest))∧(10 ∉ rest→x=rest):=by
 rcases Nl 10 rest with ⟨h1,h2⟩|⟨h1,h2,_⟩
 ·refine ⟨D5 10 rest++[10],Dw (Ll 10 rest),?_,fun _=>⟨rfl,rfl⟩,fun e=>absurd h1 e⟩
  conv=>lhs;rw [h2]
  exact Sf _ W6
 ·exact ⟨rest,[],Uy h fun c hc e=>h1 (by rw [←e];exact hc),fun e=>absurd e h1,fun _=>rfl⟩
theorem Ac1 {l rest:Bs} {pre:List Bs} (hl:l=pre.flatten++rest) (h:acc 0 pre=pre) (hr:rest=[]∨pre.length=60):Bn l=pre:=by
 rw [Aii hl h];rcases hr with rfl|hr
 ·simp [Dw,acc]
 ·rw [hr,Aq3];simp
theorem Afp {l rest:Bs} {pre:List Bs} (hl:l=pre.flatten++rest) (h:acc 0 pre=pre) (hr:rest≠[]) (hb:10 ∉ rest∨Xz pre.length (D5 10 rest++[10])=false):Bn l=pre:=by
 rw [Aii hl h];obtain ⟨x,post,hx,h1,h2⟩:=An3 hr;have:Xz pre.length x=false:=by
  by_cases hm:10∈rest
  ·rw [(h1 hm).1];exact hb.resolve_left (fun e=>e hm)
  ·rw [h2 hm];exact Bce fun b hb e=>hm (by rw [←e];exact hb)
 rw [hx];simp [acc,this]
theorem Amb {l rest:Bs} {pre:List Bs} (hl:l=pre.flatten++rest) (h:acc 0 pre=pre) (hm:10∈rest) (hok:Xz pre.length (D5 10 rest++[10])=true) :
  acc 0 (pre++[D5 10 rest++[10]])=pre++[D5 10 rest++[10]]∧l=(pre++[D5 10 rest++[10]]).flatten++Ll 10 rest:=by
 refine ⟨Akz h (by rw [Nat.zero_add];exact hok),?_⟩;rcases Nl 10 rest with ⟨_,h2⟩|⟨h2,_⟩
 ·rw [hl];conv=>lhs;rw [h2]
  simp
 ·exact absurd hm h2
theorem Atk (c:UInt8) (l:Bs):(Cv c l).length < 2↔c ∉ l:=by
 obtain ⟨r,hr,he⟩:=Ov c l;rw [hr,←he];cases r <;> simp
theorem Bck {k:Nat} {x:Bs} (h:Xz k x=true):(Oz x).Eh.size≤maxLen∧(Oz x).E6.size≤maxLen:=by
 obtain ⟨c,r,_,hg,e⟩:=S8.1 h;have hG:=Ip hg;rw [e];unfold Oz;rw [Aeq hG,Afx hG];have:=hG.c1;have:=hG.r1;show (bs c).size≤_∧(bs r).size≤_;rw [Ih,Ih];unfold maxLen;omega
structure OpS where
 pre:List Bs
 rest:Bs
 a:Option Addr
 c:Nat
 F:List Nat
structure Be0 (l:Bs) (z:OpS):Prop where
 l:l=z.pre.flatten++z.rest
 a:acc 0 z.pre=z.pre
 p:z.pre.length≤60
theorem Abn (s:ByteArray) (hs:s.size≤16777216):Fn prog 22 [.string s] [] [] (fun (_:Option Addr × Nat × List Nat)=>True) (fun z=>.tuple #[.slice z.1 ((Bn s.data.toList).map Oz).length z.2.1,.int .i64 ((Bn s.data.toList).flatten.length:Nat)]) (fun z=>[.ow Hp 60 (.slice z.1 ((Bn s.data.toList).map Oz).length z.2.1) ((Bn s.data.toList).map Oz) z.2.2]):=by
 refine enter func22 rfl ntmps22 fun w0=>?_;refine go ?_;intros;refine C4 Hp ?_;refine go ?_;intros;refine Ck [0,2,3] (fun z:OpS=>[(4,.slice z.a (z.pre.map Oz).length z.c),(5,.int .i64 (z.pre.flatten.length:Nat))]) (fun z=>[.ow Hp 60 (.slice z.a (z.pre.map Oz).length z.c) (z.pre.map Oz) z.F]) (Be0 s.data.toList) (fun z=>z.rest.length) ⟨[],s.data.toList,_,_,_⟩ ⟨rfl,rfl,Nat.zero_le _⟩ fun z hz=>?_;have hsz:=congrArg List.length hz.l;rw [Cb,List.length_append] at hsz;have hp:=hz.p;have hml:(z.pre.map Oz).length=z.pre.length:=List.length_map ..
 have hend:Bn s.data.toList=z.pre→z.pre=Bn s.data.toList:=Eq.symm;refine go ?_;intros;by_cases hr:z.rest=[]
 ·have hop:=Ac1 hz.l hz.a (.inl hr);rw [show decide (((z.pre.flatten.length:Nat):Int) < (s.size:Int))=false from decide_eq_false (by rw [hr,List.length_nil] at hsz;omega)];exact DJ
 have hr1:0 < z.rest.length:=List.length_pos_iff.2 hr;rw [show decide (((z.pre.flatten.length:Nat):Int) < (s.size:Int))=true from decide_eq_true GJ];refine go ?_;intros;refine Be rfl (fun h6=>?_) (fun h6=>?_)
 rotate_left
 ·have hop:=Ac1 hz.l hz.a (.inr GJ);exact DJ
 have hp9:z.pre.length≤59:=by omega
 refine go ?_;intros;apply wO;apply oc;rfl;exact Agr rfl rfl GJ GJ;rw [show s.extract ((z.pre.flatten.length:Nat):Int).toNat s.size=bs z.rest by rw [show ((z.pre.flatten.length:Nat):Int).toNat=z.pre.flatten.length from rfl,Ur,hz.l,List.drop_left]];have hrz:(bs z.rest).size≤16777216:=by rw [Ih];omega
 refine go ?_;intros;refine cn (fun w st=>Abm (bs z.rest) 10 w hrz) fun a2 c2 F2=>?_;rw [Iy];refine A4 (E:=A8) (xs:=(Cv 10 z.rest).map bs) fun F3=>?_;have hi8:=Aka 10 z.rest;refine M9 (xs:=(Cv 10 z.rest).map bs) 0 ?_;rintro hi0 b0 o0 rfl q0;rw [Aj9];have hus:=Aat 10 z.rest;have hus2:=Ih (D5 10 z.rest);have hls:=Atk 10 z.rest
 obtain ⟨cc,rr,hRf,hrec⟩:∃cc rr,Fn prog 39 [.string (bs (D5 10 z.rest)),.int .i64 ((z.pre.map Oz).length:Int)] [] [] (fun (_:Unit)=>True) (fun _=>.tuple #[.agg #[.string cc,.string rr],.bool (Xz z.pre.length (D5 10 z.rest++[10]))]) (fun _=>[])∧(Xz z.pre.length (D5 10 z.rest++[10])=true→(⟨cc,rr⟩:Im)=Oz (D5 10 z.rest++[10])):=by
  have hRf:=Ask (bs (D5 10 z.rest)) z.pre.length hp9 GJ;rw [Iy,Aml hp9] at hRf;rw [hml];refine ⟨_,_,hRf,fun h=>?_⟩;rw [As8 (by rw [Aml hp9];exact h)];rfl
 have hsl:((Cv 10 z.rest).map bs).length=(Cv 10 z.rest).length:=List.length_map ..;refine go ?_;intros;refine cf hRf fun _ _=>?_;refine Ar ?_;refine go ?_;intros;by_cases hm:10∈z.rest
 ·rw [show decide ((((Cv 10 z.rest).map bs).length:Int) < 2)=false from decide_eq_false (by have:=mt hls.1 (fun h=>h hm);omega)];cases hok:Xz z.pre.length (D5 10 z.rest++[10])
  ·have hop:=Afp hz.l hz.a hr (.inr hok);exact DJ
  obtain ⟨hg1,hg2⟩:=Amb hz.l hz.a hm hok;have hq:=Bck hok;have hbl:=congrArg List.length hg2;rw [Cb,List.length_append] at hbl;have e9:∀x,x=Oz (D5 10 z.rest++[10])→z.pre.map Oz++[x]=(z.pre++[D5 10 z.rest++[10]]).map Oz:=fun x h=>by rw [h,List.map_append];rfl
  have e9:=e9 ⟨cc,rr⟩ (hrec hok);rw [←hrec hok] at hq;refine M7 ?_;intros;apply wO;refine Oh (Ag0 ⟨cc,rr⟩ hq.1 hq.2) Wn fun a9 c9 F9=>?_;rw [e9];have hfl:(z.pre++[D5 10 z.rest++[10]]).flatten.length=z.pre.flatten.length+(D5 10 z.rest).length+1:=by simp;omega
  refine go ?_;intros;rw [show ((z.pre.flatten.length:Nat):Int)+((bs (D5 10 z.rest)).size:Int)+1=(((z.pre++[D5 10 z.rest++[10]]).flatten.length:Nat):Int) by rw [hfl];omega];refine Cu ⟨z.pre++[D5 10 z.rest++[10]],Ll 10 z.rest,a9,c9,F9⟩ ⟨hg2,hg1,by show (z.pre++[_]).length≤60;simp;omega⟩ (by show (Ll 10 z.rest).length < z.rest.length;omega)
 ·have hop:=Afp hz.l hz.a hr (.inl hm);rw [show decide ((((Cv 10 z.rest).map bs).length:Int) < 2)=true from decide_eq_true (by have:=hls.2 hm;omega)];exact DJ
theorem Add {d p:Bs} {n:Int} (h:H2 d p n=true):0≤n∧n≤60:=by
 have h1:=(Am9 h).cnt;have h2:=(Js (d++p)).2;omega
theorem Aic {k:Nat} {c r:ByteArray} (hk:k≤59) (h:Bz c r=true):(bs (J4 k c.data.toList r.data.toList)).size≤372:=by
 rw [Ih];exact Abr hk (Ip (by rw [←Nq];exact h))
def Mv (x0:Log):(List Im) × Bool:=if H2 x0.Bh.data.toList x0.pending.data.toList x0.count then ((Bn (x0.Bh.data.toList++x0.pending.data.toList)).map Oz,true) else ([],false)
theorem Aqz (v:Value) (xs:List Int) (F:List Nat) (z:Int) (w:World) (h:Sl Bc w v xs F) :
  Calls prog 95 #[v,.int .i64 z] w fun e w'=>e=.returned (.int .i64 (Qy (fun x=>z == x) xs))∧w=w':=by
 obtain ⟨a,cap,rfl⟩:=h.slice;obtain ⟨-,hl,hc⟩:=h.int;unfold maxLen at hl
 go_enter func95,ntmps95
 go_wp2
 go_loop [5,8] (fun _ i=>∃k:Nat,k≤xs.length∧i=.int .i64 k∧Hid (∀j,j < k→∀hj:j < xs.length,(z == xs[j])=false)) (fun _ i=>xs.length - (intOf i).toNat)
 case atStart=>exact ⟨0,Nat.zero_le _,rfl,fun j hj=>by omega⟩
 case round =>
  obtain ⟨k,hk,rfl,hz⟩:=hrel;by_cases hlt:k < xs.length
  ·obtain ⟨b,off,rfl,c0⟩:=hc k hlt;clear hc;cases hp:(z == xs[k])
   ·have hp2:=Lib.hid hp
    go_wp2
    exact ⟨⟨k+1,GJ,HZ,Lib.hid fun j hj hl=>by rcases Nat.lt_or_eq_of_le (Nat.le_of_lt_succ hj) with h|h;exact hz.out j h hl;subst h;exact hp2.out⟩,HA⟩
   ·have hp2:=Lib.hid hp
    go_wp2
    go_ret
    exact ⟨I2 (N6 hlt hz.out hp2.out).symm,rfl⟩
  ·go_wp2
   go_ret
   exact ⟨I2 (Mt (fun j hj=>hz.out j GJ hj)).symm,rfl⟩
theorem Zk (v:Value) (xs:List Int) (F:List Nat) (z:Int) (w:World) (h:Sl Bc w v xs F) :
  Calls prog 53 #[v,.int .i64 z] w fun e w'=>e=.returned (.bool (xs.any fun x=>z == x))∧w=w':=by
 go_enter func53,ntmps53
 go_wp2_with fail;refine (Aqz v xs F z _ h).mono ?_;rintro e w1 ⟨rfl,rfl⟩;go_wp2_with fail
 go_ret
 exact ⟨B8 (Rz _ xs),rfl⟩
theorem Aul (A:List Bs) (n:Nat):(((Ki 0 A).map Int.ofNat).any fun x=>(n:Int) == x)=(Ki 0 A).contains n:=by
 generalize Ki 0 A=l
 induction l with
 | nil=>rfl
 | cons a l ih =>
  rw [List.map_cons,List.any_cons,ih,List.contains_cons]
  congr 1
  rw [Bool.eq_iff_iff];simp;constructor <;> intro h <;> omega
end Go.Proofs.YtkagnmekdkchiaaGreatDoor.Lg
namespace Go.Proofs.YtkagnmekdkchiaaGreatDoor
open Go.RowKit
theorem Aqs {FT:List Nat} {w:World} (h:(Gc FT).P w):N0 Lg.Aa1 w (.agg #[]) () [1]:=by
 have ht:=(Gc.env h).1;have hc:=Lib.TabIs.cell ht (g:=1) GK 0 (by rw [Lib.pow10Tab_length];omega);exact ⟨[],rfl,rfl,ht,rfl,World.block_lt_of_cell? w ⟨1,0,none⟩ hc⟩
theorem Bfa {p q:Pc} (h:Acd p q):Sq [p,q]:=⟨JB,GL,trivial⟩
theorem Yb (s:ByteArray) (hs:s.size≤16777216) (FT:List Nat):Fn prog 30 [.string s] [Gc FT] [] (fun (_:(Option Addr × Nat × List Nat) × (Option Addr × Nat × List Nat))=>True) (fun z=>.tuple #[.slice z.1.1 ((Bn s.data.toList).map Lg.Oz).length z.1.2.1,.slice z.2.1 ((Ki 0 (Bn s.data.toList)).map Int.ofNat).length z.2.2.1]) (fun z=>[.ow Hp 60 (.slice z.1.1 ((Bn s.data.toList).map Lg.Oz).length z.1.2.1) ((Bn s.data.toList).map Lg.Oz) z.1.2.2,.ow Bc 3 (.slice z.2.1 ((Ki 0 (Bn s.data.toList)).map Int.ofNat).length z.2.2.1) ((Ki 0 (Bn s.data.toList)).map Int.ofNat) z.2.2.2]):=fun w hA _=>by
 refine (Lg.Ag5 s _ w hs (Aqs (hA (Gc FT) GL))).mono ?_;rintro e w' ⟨u0,G0,u1,G1,rfl,o0,n0,o1,n1,b0,b1,dj,hB⟩;obtain ⟨a,c,rfl⟩:=o0.slice;obtain ⟨b,k,rfl⟩:=o1.slice;refine ⟨((a,c,G0),(b,k,G1)),trivial,rfl,Uv ⟨n0,o0⟩ ⟨n1,o1⟩,Bfa ?_,Dn.ofBelow hB,fun p hp q hq=>?_⟩
 ·exact fun _ q hq hp=>dj q hq hp
 ·simp only [List.mem_cons,List.not_mem_nil,or_false] at hp;rcases hp with rfl|rfl
  ·exact .inl (b0 q hq)
  ·exact .inl (b1 q hq)
theorem Ajb (d p:ByteArray) (n:Int) (FT:List Nat) (hz:d.size+p.size≤1048576):Fn prog 29 [.agg #[.string d,.string p,.int .i64 n]] [Gc FT] [] (fun (_:Unit)=>True) (fun _=>.bool (H2 d.data.toList p.data.toList n)) (fun _=>[]):=by
 have hsm:=Js (d.data.toList++p.data.toList);have hvp:H2 d.data.toList p.data.toList n=(decide ((Bn (d.data.toList++p.data.toList)).flatten.length=d.size+p.size) && (Ki 0 (Bn (d.data.toList++p.data.toList))).contains d.size && decide (n=((Bn (d.data.toList++p.data.toList)).length:Int))):=by rw [←Ax2];unfold Apf;rw [Cb,Cb]
 have hR:=Yb (d++p) IV FT;rw [Lg.Hb] at hR;have hL:=Yv (n:=0) (xs:=Bn (d.data.toList++p.data.toList));have hc:=Lg.Aul (Bn (d.data.toList++p.data.toList)) d.size;have hE:((Ki 0 (Bn (d.data.toList++p.data.toList))).map Int.ofNat).length=(Bn (d.data.toList++p.data.toList)).length+1:=by simp [Ro]
 rw [←hc] at hvp;have hL:∀h:(Bn (d.data.toList++p.data.toList)).length < ((Ki 0 (Bn (d.data.toList++p.data.toList))).map Int.ofNat).length,((Ki 0 (Bn (d.data.toList++p.data.toList))).map Int.ofNat)[(Bn (d.data.toList++p.data.toList)).length]=((Bn (d.data.toList++p.data.toList)).flatten.length:Int):=fun h=>by
  rw [List.getLast?_eq_getElem?,Ro,Nat.add_sub_cancel,List.getElem?_eq_getElem (by rw [Ro];omega)] at hL;have:=Option.some.inj hL;simp only [List.getElem_map,this];simp
 have hRl:((Bn (d.data.toList++p.data.toList)).map Lg.Oz).length=(Bn (d.data.toList++p.data.toList)).length:=by simp
 generalize (Bn (d.data.toList++p.data.toList)).map Lg.Oz=R at *;generalize (Ki 0 (Bn (d.data.toList++p.data.toList))).map Int.ofNat=E at *;generalize (Bn (d.data.toList++p.data.toList)).flatten.length=T at *;generalize (Bn (d.data.toList++p.data.toList)).length=K at *;replace hL:=hL GJ;refine enter func29 rfl ntmps29 fun w0=>?_;refine go ?_;intros;refine cf hR fun z _=>?_;refine Ar ?_;obtain ⟨⟨a,c,G⟩,⟨b,e,J⟩⟩:=z;dsimp only;refine A4 (E:=Bc) (xs:=E) fun F8=>?_;refine Io (xs:=E) K ?_;rintro hi0 b0 o0 rfl
 repeat (first|apply Sx|(apply wO;apply oc;rfl;exact ydE)|apply Aav|apply Adm|(apply Aph;rfl;rfl)|(apply Apg;rfl;rfl;rfl;rfl)|(apply Api;rfl;rfl;rfl)|(apply c_t;rfl)|(apply c_f;rfl)|apply V9|apply Sw|apply Afk)
 by_cases h1:T=d.size+p.size
 ·cases h2:E.any fun x=>(d.size:Int) == x
  ·have hQ:H2 d.data.toList p.data.toList n=false:=by rw [hvp,h2];simp
   refine At [0,3] [] ?_;refine Dk 0 1 2 3 ?_;rw [show ((E.length:Nat):Int) - 1=((K:Nat):Int) by omega];refine Dk 4 5 6 7 ?_;refine Dk 8 9 10 11 ?_;refine Dy 12 13 ?_;rw [hL,show decide ((T:Int)=(d.size:Int)+(p.size:Int))=true from decide_eq_true GJ];refine dt 14 ?_;refine Di 15 ?_;refine Di 16 ?_;refine Di 17 ?_;refine Di 18 ?_;refine d1g 19 ?_;apply On.h;refine oC ?_;refine ce (fun w st=>Lg.Zk _ _ _ _ w (st.get (p:=.sl Bc (.slice (some ⟨b0,o0,none⟩) E.length e) E F8) GO).2) ?_;rw [h2];refine dk ?_;refine Dy 20 21 ?_;refine ds 22 ?_;refine ds 23 ?_;refine ds 24 ?_
   refine ds 25 ?_;refine ds 26 ?_;refine Dy 27 28 ?_;refine dd ?_;refine go ?_;intros;refine ret () trivial ?_;rw [hQ]
   first|rfl|(rw [hRl];rfl)
  ·have hQ:H2 d.data.toList p.data.toList n=decide (n=(K:Int)):=by rw [hvp,h2,decide_eq_true h1];simp
   refine At [0,3] [] ?_;refine Dk 0 1 2 3 ?_;rw [show ((E.length:Nat):Int) - 1=((K:Nat):Int) by omega];refine Dk 4 5 6 7 ?_;refine Dk 8 9 10 11 ?_;refine Dy 12 13 ?_;rw [hL,show decide ((T:Int)=(d.size:Int)+(p.size:Int))=true from decide_eq_true GJ];refine dt 14 ?_;refine Di 15 ?_;refine Di 16 ?_;refine Di 17 ?_;refine Di 18 ?_;refine d1g 19 ?_;apply On.h;refine oC ?_;refine ce (fun w st=>Lg.Zk _ _ _ _ w (st.get (p:=.sl Bc (.slice (some ⟨b0,o0,none⟩) E.length e) E F8) GO).2) ?_;rw [h2];refine dk ?_;refine Dy 20 21 ?_;refine Di 22 ?_;refine Di 23 ?_;refine Di 24 ?_
   refine Di 25 ?_;refine Di 26 ?_;refine Dy 27 28 ?_;refine dd ?_;refine go ?_;intros;refine ret () trivial ?_;rw [hQ]
   first|rfl|(rw [hRl];rfl)
 ·have hQ:H2 d.data.toList p.data.toList n=false:=by rw [hvp,decide_eq_false h1];simp
  refine At [0,3] [] ?_;refine Dk 0 1 2 3 ?_;rw [show ((E.length:Nat):Int) - 1=((K:Nat):Int) by omega];refine Dk 4 5 6 7 ?_;refine Dk 8 9 10 11 ?_;refine Dy 12 13 ?_;rw [hL,show decide ((T:Int)=(d.size:Int)+(p.size:Int))=false from decide_eq_false GJ];refine dt 14 ?_;refine ds 15 ?_;refine ds 16 ?_;refine ds 17 ?_;refine ds 18 ?_;refine ds 19 ?_;refine Dy 20 21 ?_;refine ds 22 ?_;refine ds 23 ?_;refine ds 24 ?_;refine ds 25 ?_;refine ds 26 ?_;refine Dy 27 28 ?_;refine dd ?_;refine go ?_;intros;refine ret () trivial ?_;rw [hQ]
  first|rfl|(rw [hRl];rfl)
theorem Z8 (d p:ByteArray) (n:Int) (hz:d.size+p.size≤1048576):Fn prog 13 [.agg #[.string d,.string p,.int .i64 n]] [] [] (fun (_:Unit)=>True) (fun _=>.bool (H2 d.data.toList p.data.toList n)) (fun _=>[]):=by
 have hsm:=Js (d.data.toList++p.data.toList);have hsm2:=Js d.data.toList;have hvp:H2 d.data.toList p.data.toList n=(decide (d.size+p.size≤30000) && (decide ((Bn (d.data.toList++p.data.toList)).flatten.length=d.size+p.size) && decide ((Bn d.data.toList).flatten.length=d.size) && decide (((Bn (d.data.toList++p.data.toList)).length:Int)=n))):=by
  unfold H2;simp only [Cb]
 have h1:=Lg.Abn (d++p) IV;rw [Lg.Hb] at h1;have h2:=Lg.Abn d GJ;have hRl:((Bn (d.data.toList++p.data.toList)).map Lg.Oz).length=(Bn (d.data.toList++p.data.toList)).length:=by simp
 generalize (Bn (d.data.toList++p.data.toList)).map Lg.Oz=R at *;generalize (Bn (d.data.toList++p.data.toList)).flatten.length=T at *;generalize (Bn (d.data.toList++p.data.toList)).length=K at *;generalize (Bn d.data.toList).map Lg.Oz=R2 at *;generalize (Bn d.data.toList).flatten.length=T2 at *;rw [hvp];refine enter func13 rfl ntmps13 fun w0=>?_;refine go ?_;intros;refine Be rfl (fun h3=>?_) (fun h3=>?_)
 ·refine go ?_;intros;refine ret () trivial ?_;rw [decide_eq_false GJ];rfl
 rw [decide_eq_true (show d.size+p.size≤30000 by omega)];refine go ?_;intros;refine cf h1 fun z _=>?_;refine Ar ?_;refine go ?_;intros;refine cf h2 fun y _=>?_;refine Ar ?_;by_cases h4:T=d.size+p.size
 ·have e4:decide ((T:Int)=(d.size:Int)+(p.size:Int))=true:=decide_eq_true GJ;rw [decide_eq_true h4];refine go ?_;intros;rw [e4];by_cases h5:T2=d.size
  ·have e5:decide ((T2:Int)=(d.size:Int))=true:=decide_eq_true GJ;rw [decide_eq_true h5];refine go ?_;intros;rw [e5];refine go ?_;intros;refine ret () trivial ?_;rw [hRl];rfl
  ·have e5:decide ((T2:Int)=(d.size:Int))=false:=decide_eq_false GJ;rw [decide_eq_false h5];refine go ?_;intros;rw [e5];exact AB
 ·have e4:decide ((T:Int)=(d.size:Int)+(p.size:Int))=false:=decide_eq_false GJ;rw [decide_eq_false h4];refine go ?_;intros;rw [e4];exact AB
theorem Atj (d p c r:ByteArray) (k:Nat) (hv:H2 d.data.toList p.data.toList k=true) (hk:k≤59) (hr:Lg.Bz c r=true) (hz:d.size+p.size≤30000) (hc1:c.size≤160) (hr1:r.size≤200):Fn prog 27 [.agg #[.string d,.string p,.int .i64 (k:Int)],.agg #[.string c,.string r]] [] [] (fun (_:Unit)=>True) (fun _=>.tuple #[.agg #[.string d,.string (p++Lg.bs (J4 k c.data.toList r.data.toList)),.int .i64 ((k:Int)+1)],.int .i64 0]) (fun _=>[]):=by
 have hln:=Lg.Aic hk hr;have hG:Xx c.data.toList r.data.toList:=Ip (by rw [←Lg.Nq];exact hr);have hL:=fun w=>Lg.Asj k c r w hk hG;generalize Lg.bs (J4 k c.data.toList r.data.toList)=ln at *;refine enter func27 rfl ntmps27 fun w0=>?_;refine go ?_;intros;refine cf (Z8 d p k GJ) fun _ _=>?_;refine Ar ?_;rw [hv];refine go ?_;intros;refine cb (fun w st=>Lg.Xj c r w GZ GZ) ?_;rw [hr];refine go ?_;intros;refine Be rfl (fun h3=>?_) (fun h3=>?_)
 ·exact absurd h3 GJ
 repeat (first|apply Sx|(apply wO;apply oc;rfl;exact ydE)|apply Aav|apply Adm|(apply Aph;rfl;rfl)|(apply Apg;rfl;rfl;rfl;rfl)|(apply Api;rfl;rfl;rfl)|(apply c_t;rfl)|(apply c_f;rfl)|apply V9|apply Sw|apply Afk)
 refine At [1,2] [8] ?_;refine Dk 0 1 2 3 ?_;refine dt 4 ?_;refine dN 5 ?_;refine oC ?_;refine cb (fun w st=>hL w) ?_;refine dk ?_;refine Dy 6 7 ?_;refine dN 8 ?_;refine oS ?_;refine Rn ?_;exact CT
section
variable {c:Cx} {fr:Fr} {H:List Pc} {Φ:Gl}
theorem Dh {v:Value} {x:C7} {F:List Nat} (h:∀(a1:Option Addr) (c1:Nat) (F1:List Nat) (a2:Option Addr) (c2:Nat) (F2:List Nat) (a3:Option Addr) (c3:Nat) (F3:List Nat) (a4:Option Addr) (c4:Nat) (F4:List Nat) (a5:Option Addr) (c5:Nat) (F5:List Nat) (a6:Option Addr) (c6:Nat) (F6:List Nat) (a7:Option Addr) (c7:Nat) (F7:List Nat),v=.agg #[.slice a1 x.As.Al.Ad.length c1,.int .i64 x.As.Aa.Ab.Ao,.int .i64 x.As.Aa.Ab.size,.slice a2 x.As.Aa.Ab.Ak.length c2,.int .i64 x.As.Aa.Ai,.int .i64 x.As.Aa.quiet,.slice a3 x.As.Aa.holds.length c3,.slice a4 x.As.Ae.length c4,.slice a5 x.As.Ac.length c5,.slice a6 x.As.down.length c6,.slice a7 x.As.up.length c7,.string x.Eb.Bh,.string x.Eb.pending,.int .i64 x.Eb.count]→x.Eb.Bh.size≤maxLen→x.Eb.pending.size≤maxLen→x.As.Al.Ad.length≤maxLen→x.As.Aa.Ab.Ak.length≤maxLen→x.As.Aa.holds.length≤maxLen→x.As.Ae.length≤maxLen→x.As.Ac.length≤maxLen→x.As.down.length≤maxLen→x.As.up.length≤maxLen→T c fr (.sl Bc (.slice a1 x.As.Al.Ad.length c1) x.As.Al.Ad F1::.sl A8 (.slice a2 x.As.Aa.Ab.Ak.length c2) x.As.Aa.Ab.Ak F2::.sl Bi (.slice a3 x.As.Aa.holds.length c3) x.As.Aa.holds F3::.sl Bt (.slice a4 x.As.Ae.length c4) x.As.Ae F4::.sl B4 (.slice a5 x.As.Ac.length c5) x.As.Ac F5::.sl (Nn Aj GM) (.slice a6 x.As.down.length c6) x.As.down F6::.sl (Nn Aj GM) (.slice a7 x.As.up.length c7) x.As.up F7::H) Φ) (hm:.isv Hj v x F∈H:=by exact Bp):T c fr H Φ:=.mk fun a w s g=>by
 obtain ⟨cs,rfl,v1,v2,v3,v4,v5,v6,v7,G1,G2,G3,G4,G5,G6,G7,rfl,s1,s2,h1,h2,h3,h4,h5,h6,h7,rfl⟩:=s.get hm;obtain ⟨a1,c1,rfl⟩:=h1.slice;have l1:=h1.len;obtain ⟨a2,c2,rfl⟩:=h2.slice;have l2:=h2.len;obtain ⟨a3,c3,rfl⟩:=h3.slice;have l3:=h3.len;obtain ⟨a4,c4,rfl⟩:=h4.slice;have l4:=h4.len;obtain ⟨a5,c5,rfl⟩:=h5.slice;have l5:=h5.len;obtain ⟨a6,c6,rfl⟩:=h6.slice;have l6:=h6.len;obtain ⟨a7,c7,rfl⟩:=h7.slice;have l7:=h7.len;have t7:=s.ro (p:=.sl (Nn Aj GM) (.slice a7 x.As.up.length c7) x.As.up G7) hm rfl rfl ⟨GM,h7⟩ GR
 have t6:=t7.ro (p:=.sl (Nn Aj GM) (.slice a6 x.As.down.length c6) x.As.down G6) (List.mem_cons_of_mem _ hm) rfl rfl ⟨GM,h6⟩ GR;have t5:=t6.ro (p:=.sl B4 (.slice a5 x.As.Ac.length c5) x.As.Ac G5) (List.mem_cons_of_mem _ (List.mem_cons_of_mem _ hm)) rfl rfl ⟨GM,h5⟩ GR
 have t4:=t5.ro (p:=.sl Bt (.slice a4 x.As.Ae.length c4) x.As.Ae G4) (List.mem_cons_of_mem _ (List.mem_cons_of_mem _ (List.mem_cons_of_mem _ hm))) rfl rfl ⟨GM,h4⟩ GR;have t3:=t4.ro (p:=.sl Bi (.slice a3 x.As.Aa.holds.length c3) x.As.Aa.holds G3) (List.mem_cons_of_mem _ (List.mem_cons_of_mem _ (List.mem_cons_of_mem _ (List.mem_cons_of_mem _ hm)))) rfl rfl ⟨GM,h3⟩ GR
 have t2:=t3.ro (p:=.sl A8 (.slice a2 x.As.Aa.Ab.Ak.length c2) x.As.Aa.Ab.Ak G2) (List.mem_cons_of_mem _ (List.mem_cons_of_mem _ (List.mem_cons_of_mem _ (List.mem_cons_of_mem _ (List.mem_cons_of_mem _ hm))))) rfl rfl ⟨GM,h2⟩ GR;have t1:=t2.ro (p:=.sl Bc (.slice a1 x.As.Al.Ad.length c1) x.As.Al.Ad G1) (List.mem_cons_of_mem _ (List.mem_cons_of_mem _ (List.mem_cons_of_mem _ (List.mem_cons_of_mem _ (List.mem_cons_of_mem _ (List.mem_cons_of_mem _ hm)))))) rfl rfl ⟨GM,h1⟩ GR
 exact (h a1 c1 G1 a2 c2 G2 a3 c3 G3 a4 c4 G4 a5 c5 G5 a6 c6 G6 a7 c7 G7 rfl s1 s2 l1 l2 l3 l4 l5 l6 l7).h a w t1 g
theorem Du (x:C7) {a1:Option Addr} {c1:Nat} {F1:List Nat} {a2:Option Addr} {c2:Nat} {F2:List Nat} {a3:Option Addr} {c3:Nat} {F3:List Nat} {a4:Option Addr} {c4:Nat} {F4:List Nat} {a5:Option Addr} {c5:Nat} {F5:List Nat} {a6:Option Addr} {c6:Nat} {F6:List Nat} {a7:Option Addr} {c7:Nat} {F7:List Nat} (s1:x.Eb.Bh.size≤maxLen) (s2:x.Eb.pending.size≤maxLen) (h:T c fr (.isv Hj (.agg #[.slice a1 x.As.Al.Ad.length c1,.int .i64 x.As.Aa.Ab.Ao,.int .i64 x.As.Aa.Ab.size,.slice a2 x.As.Aa.Ab.Ak.length c2,.int .i64 x.As.Aa.Ai,.int .i64 x.As.Aa.quiet,.slice a3 x.As.Aa.holds.length c3,.slice a4 x.As.Ae.length c4,.slice a5 x.As.Ac.length c5,.slice a6 x.As.down.length c6,.slice a7 x.As.up.length c7,.string x.Eb.Bh,.string x.Eb.pending,.int .i64 x.Eb.count]) x (F1++F2++F3++F4++F5++F6++F7)::H) Φ) (m1:.sl Bc (.slice a1 x.As.Al.Ad.length c1) x.As.Al.Ad F1∈H:=by exact Bp) (m2:.sl A8 (.slice a2 x.As.Aa.Ab.Ak.length c2) x.As.Aa.Ab.Ak F2∈H:=by exact Bp) (m3:.sl Bi (.slice a3 x.As.Aa.holds.length c3) x.As.Aa.holds F3∈H:=by exact Bp) (m4:.sl Bt (.slice a4 x.As.Ae.length c4) x.As.Ae F4∈H:=by exact Bp) (m5:.sl B4 (.slice a5 x.As.Ac.length c5) x.As.Ac F5∈H:=by exact Bp) (m6:.sl (Nn Aj GM) (.slice a6 x.As.down.length c6) x.As.down F6∈H:=by exact Bp) (m7:.sl (Nn Aj GM) (.slice a7 x.As.up.length c7) x.As.up F7∈H:=by exact Bp):T c fr H Φ:=.mk fun a w s g=>by
 have hP:N0 Hj w (.agg #[.slice a1 x.As.Al.Ad.length c1,.int .i64 x.As.Aa.Ab.Ao,.int .i64 x.As.Aa.Ab.size,.slice a2 x.As.Aa.Ab.Ak.length c2,.int .i64 x.As.Aa.Ai,.int .i64 x.As.Aa.quiet,.slice a3 x.As.Aa.holds.length c3,.slice a4 x.As.Ae.length c4,.slice a5 x.As.Ac.length c5,.slice a6 x.As.down.length c6,.slice a7 x.As.up.length c7,.string x.Eb.Bh,.string x.Eb.pending,.int .i64 x.Eb.count]) x (F1++F2++F3++F4++F5++F6++F7):=⟨_,rfl,_,_,_,_,_,_,_,_,_,_,_,_,_,_,rfl,s1,s2,(s.get m1).2,(s.get m2).2,(s.get m3).2,(s.get m4).2,(s.get m5).2,(s.get m6).2,(s.get m7).2,rfl⟩
 refine h.h a w (s.add (N:=[.isv Hj (.agg #[.slice a1 x.As.Al.Ad.length c1,.int .i64 x.As.Aa.Ab.Ao,.int .i64 x.As.Aa.Ab.size,.slice a2 x.As.Aa.Ab.Ak.length c2,.int .i64 x.As.Aa.Ai,.int .i64 x.As.Aa.quiet,.slice a3 x.As.Aa.holds.length c3,.slice a4 x.As.Ae.length c4,.slice a5 x.As.Ac.length c5,.slice a6 x.As.down.length c6,.slice a7 x.As.up.length c7,.string x.Eb.Bh,.string x.Eb.pending,.int .i64 x.Eb.count]) x (F1++F2++F3++F4++F5++F6++F7)]) (Below.refl _ _) (by intro q hq;obtain rfl:=List.mem_singleton.1 hq;exact hP) ⟨GL,trivial⟩ fun q hq b hb=>?_) g;obtain rfl:=List.mem_singleton.1 hq
 simp only [Pc.F,List.mem_append] at hb;rcases hb with (((((hb|hb)|hb)|hb)|hb)|hb)|hb
 ·exact .inr ⟨rfl,_,m1,rfl,hb⟩
 ·exact .inr ⟨rfl,_,m2,rfl,hb⟩
 ·exact .inr ⟨rfl,_,m3,rfl,hb⟩
 ·exact .inr ⟨rfl,_,m4,rfl,hb⟩
 ·exact .inr ⟨rfl,_,m5,rfl,hb⟩
 ·exact .inr ⟨rfl,_,m6,rfl,hb⟩
 ·exact .inr ⟨rfl,_,m7,rfl,hb⟩
theorem Aac {v:Value} {x:C7} {F:List Nat} {S:List Pc} (h:∀(a1:Option Addr) (c1:Nat) (F1:List Nat) (a2:Option Addr) (c2:Nat) (F2:List Nat) (a3:Option Addr) (c3:Nat) (F3:List Nat) (a4:Option Addr) (c4:Nat) (F4:List Nat) (a5:Option Addr) (c5:Nat) (F5:List Nat) (a6:Option Addr) (c6:Nat) (F6:List Nat) (a7:Option Addr) (c7:Nat) (F7:List Nat),v=.agg #[.slice a1 x.As.Al.Ad.length c1,.int .i64 x.As.Aa.Ab.Ao,.int .i64 x.As.Aa.Ab.size,.slice a2 x.As.Aa.Ab.Ak.length c2,.int .i64 x.As.Aa.Ai,.int .i64 x.As.Aa.quiet,.slice a3 x.As.Aa.holds.length c3,.slice a4 x.As.Ae.length c4,.slice a5 x.As.Ac.length c5,.slice a6 x.As.down.length c6,.slice a7 x.As.up.length c7,.string x.Eb.Bh,.string x.Eb.pending,.int .i64 x.Eb.count]→x.Eb.Bh.size≤maxLen→x.Eb.pending.size≤maxLen→x.As.Al.Ad.length≤maxLen→x.As.Aa.Ab.Ak.length≤maxLen→x.As.Aa.holds.length≤maxLen→x.As.Ae.length≤maxLen→x.As.Ac.length≤maxLen→x.As.down.length≤maxLen→x.As.up.length≤maxLen→T c fr (.ow Bc 3 (.slice a1 x.As.Al.Ad.length c1) x.As.Al.Ad F1::.ow A8 9 (.slice a2 x.As.Aa.Ab.Ak.length c2) x.As.Aa.Ab.Ak F2::.ow Bi 156 (.slice a3 x.As.Aa.holds.length c3) x.As.Aa.holds F3::.ow Bj 110 (.slice a4 x.As.Ae.length c4) x.As.Ae F4::.ow Bg 117 (.slice a5 x.As.Ac.length c5) x.As.Ac F5::.ow (Fv Aj 159) 135 (.slice a6 x.As.down.length c6) x.As.down F6::.ow (Fv Aj 159) 135 (.slice a7 x.As.up.length c7) x.As.up F7::S) Φ) (hp:Cz H (.own Qe v x F) S:=by exact Df):T c fr H Φ:=.mk fun a w s g=>by
 have z1:=s.pick hp;obtain ⟨hn,cs,rfl,v1,v2,v3,v4,v5,v6,v7,G1,G2,G3,G4,G5,G6,G7,rfl,s1,s2,h1,h2,h3,h4,h5,h6,h7,rfl⟩:=z1.on (.own Qe v x F) GL;obtain ⟨a1,c1,rfl⟩:=h1.slice;have l1:=h1.len;obtain ⟨a2,c2,rfl⟩:=h2.slice;have l2:=h2.len;obtain ⟨a3,c3,rfl⟩:=h3.slice;have l3:=h3.len;obtain ⟨a4,c4,rfl⟩:=h4.slice;have l4:=h4.len;obtain ⟨a5,c5,rfl⟩:=h5.slice;have l5:=h5.len;obtain ⟨a6,c6,rfl⟩:=h6.slice;have l6:=h6.len;obtain ⟨a7,c7,rfl⟩:=h7.slice;have l7:=h7.len;have hn2:=hn;simp only [List.nodup_append,List.mem_append] at hn2
 refine (h a1 c1 G1 a2 c2 G2 a3 c3 G3 a4 c4 G4 a5 c5 G5 a6 c6 G6 a7 c7 G7 rfl s1 s2 l1 l2 l3 l4 l5 l6 l7).h a w (St.turn (M:=[.own Qe (.agg #[.slice a1 x.As.Al.Ad.length c1,.int .i64 x.As.Aa.Ab.Ao,.int .i64 x.As.Aa.Ab.size,.slice a2 x.As.Aa.Ab.Ak.length c2,.int .i64 x.As.Aa.Ai,.int .i64 x.As.Aa.quiet,.slice a3 x.As.Aa.holds.length c3,.slice a4 x.As.Ae.length c4,.slice a5 x.As.Ac.length c5,.slice a6 x.As.down.length c6,.slice a7 x.As.up.length c7,.string x.Eb.Bh,.string x.Eb.pending,.int .i64 x.Eb.count]) x _]) (N:=[.ow Bc 3 (.slice a1 x.As.Al.Ad.length c1) x.As.Al.Ad G1,.ow A8 9 (.slice a2 x.As.Aa.Ab.Ak.length c2) x.As.Aa.Ab.Ak G2,.ow Bi 156 (.slice a3 x.As.Aa.holds.length c3) x.As.Aa.holds G3,.ow Bj 110 (.slice a4 x.As.Ae.length c4) x.As.Ae G4,.ow Bg 117 (.slice a5 x.As.Ac.length c5) x.As.Ac G5,.ow (Fv Aj 159) 135 (.slice a6 x.As.down.length c6) x.As.down G6,.ow (Fv Aj 159) 135 (.slice a7 x.As.up.length c7) x.As.up G7]) z1 (Dn.refl _ w) ?_ ?_ ?_) g
 ·intro q hq;simp only [List.mem_cons,List.not_mem_nil,or_false] at hq;rcases hq with rfl|rfl|rfl|rfl|rfl|rfl|rfl
  ·exact DT
  ·exact DR
  ·exact EN
  ·exact ⟨(List.nodup_append.1 (List.nodup_append.1 (List.nodup_append.1 (List.nodup_append.1 hn).1).1).1).2.1,h4⟩
  ·exact ⟨(List.nodup_append.1 (List.nodup_append.1 (List.nodup_append.1 hn).1).1).2.1,h5⟩
  ·exact ⟨(List.nodup_append.1 (List.nodup_append.1 hn).1).2.1,h6⟩
  ·exact ⟨(List.nodup_append.1 hn).2.1,h7⟩
 ·refine ⟨?_,⟨?_,⟨?_,⟨?_,⟨?_,⟨?_,⟨?_,trivial⟩⟩⟩⟩⟩⟩⟩
  ·intro q hq _ b hb hb2;simp only [List.mem_cons,List.not_mem_nil,or_false] at hq;rcases hq with rfl|rfl|rfl|rfl|rfl|rfl
   ·exact DK
   ·exact AW
   ·exact AO
   ·exact AL
   ·exact AM
   ·exact AR
  ·intro q hq _ b hb hb2;simp only [List.mem_cons,List.not_mem_nil,or_false] at hq;rcases hq with rfl|rfl|rfl|rfl|rfl
   ·exact AW
   ·exact AO
   ·exact AL
   ·exact AM
   ·exact AR
  ·intro q hq _ b hb hb2;simp only [List.mem_cons,List.not_mem_nil,or_false] at hq;rcases hq with rfl|rfl|rfl|rfl
   ·exact AO
   ·exact AL
   ·exact AM
   ·exact AR
  ·intro q hq _ b hb hb2;simp only [List.mem_cons,List.not_mem_nil,or_false] at hq;rcases hq with rfl|rfl|rfl
   ·exact AL
   ·exact AM
   ·exact AR
  ·intro q hq _ b hb hb2;simp only [List.mem_cons,List.not_mem_nil,or_false] at hq;rcases hq with rfl|rfl
   ·exact AM
   ·exact AR
  ·intro q hq _ b hb hb2;simp only [List.mem_cons,List.not_mem_nil,or_false] at hq;rcases hq with rfl
   ·exact AR
  ·intro q hq _ b hb hb2;simp at hq
 ·exact CH
theorem N5 (x:C7) {a1:Option Addr} {c1:Nat} {F1:List Nat} {a2:Option Addr} {c2:Nat} {F2:List Nat} {a3:Option Addr} {c3:Nat} {F3:List Nat} {a4:Option Addr} {c4:Nat} {F4:List Nat} {a5:Option Addr} {c5:Nat} {F5:List Nat} {a6:Option Addr} {c6:Nat} {F6:List Nat} {a7:Option Addr} {c7:Nat} {F7:List Nat} {S1 S2 S3 S4 S5 S6 S7:List Pc} (s1:x.Eb.Bh.size≤maxLen) (s2:x.Eb.pending.size≤maxLen) (h:T c fr (.own Qe (.agg #[.slice a1 x.As.Al.Ad.length c1,.int .i64 x.As.Aa.Ab.Ao,.int .i64 x.As.Aa.Ab.size,.slice a2 x.As.Aa.Ab.Ak.length c2,.int .i64 x.As.Aa.Ai,.int .i64 x.As.Aa.quiet,.slice a3 x.As.Aa.holds.length c3,.slice a4 x.As.Ae.length c4,.slice a5 x.As.Ac.length c5,.slice a6 x.As.down.length c6,.slice a7 x.As.up.length c7,.string x.Eb.Bh,.string x.Eb.pending,.int .i64 x.Eb.count]) x (F1++F2++F3++F4++F5++F6++F7)::S7) Φ) (m1:Cz H (.ow Bc 3 (.slice a1 x.As.Al.Ad.length c1) x.As.Al.Ad F1) S1:=by exact Df) (m2:Cz S1 (.ow A8 9 (.slice a2 x.As.Aa.Ab.Ak.length c2) x.As.Aa.Ab.Ak F2) S2:=by exact Df) (m3:Cz S2 (.ow Bi 156 (.slice a3 x.As.Aa.holds.length c3) x.As.Aa.holds F3) S3:=by exact Df) (m4:Cz S3 (.ow Bj 110 (.slice a4 x.As.Ae.length c4) x.As.Ae F4) S4:=by exact Df) (m5:Cz S4 (.ow Bg 117 (.slice a5 x.As.Ac.length c5) x.As.Ac F5) S5:=by exact Df) (m6:Cz S5 (.ow (Fv Aj 159) 135 (.slice a6 x.As.down.length c6) x.As.down F6) S6:=by exact Df) (m7:Cz S6 (.ow (Fv Aj 159) 135 (.slice a7 x.As.up.length c7) x.As.up F7) S7:=by exact Df)  : T c fr H Φ:=.mk fun a w s g=>by
 have z1:St c.G c.D c.w0 ([.ow Bc 3 (.slice a1 x.As.Al.Ad.length c1) x.As.Al.Ad F1,.ow A8 9 (.slice a2 x.As.Aa.Ab.Ak.length c2) x.As.Aa.Ab.Ak F2,.ow Bi 156 (.slice a3 x.As.Aa.holds.length c3) x.As.Aa.holds F3,.ow Bj 110 (.slice a4 x.As.Ae.length c4) x.As.Ae F4,.ow Bg 117 (.slice a5 x.As.Ac.length c5) x.As.Ac F5,.ow (Fv Aj 159) 135 (.slice a6 x.As.down.length c6) x.As.down F6,.ow (Fv Aj 159) 135 (.slice a7 x.As.up.length c7) x.As.up F7]++S7) w:=by simpa using (show Ex H [.ow Bc 3 (.slice a1 x.As.Al.Ad.length c1) x.As.Al.Ad F1,.ow A8 9 (.slice a2 x.As.Aa.Ab.Ak.length c2) x.As.Aa.Ab.Ak F2,.ow Bi 156 (.slice a3 x.As.Aa.holds.length c3) x.As.Aa.holds F3,.ow Bj 110 (.slice a4 x.As.Ae.length c4) x.As.Ae F4,.ow Bg 117 (.slice a5 x.As.Ac.length c5) x.As.Ac F5,.ow (Fv Aj 159) 135 (.slice a6 x.As.down.length c6) x.As.down F6,.ow (Fv Aj 159) 135 (.slice a7 x.As.up.length c7) x.As.up F7] S7 from Ex.cons m1 (Ex.cons m2 (Ex.cons m3 (Ex.cons m4 (Ex.cons m5 (Ex.cons m6 (Ex.cons m7 (Ex.nil)))))))).st (X:=[]) IB
 obtain ⟨n1,k1⟩:=z1.on (.ow Bc 3 (.slice a1 x.As.Al.Ad.length c1) x.As.Al.Ad F1) GL;obtain ⟨n2,k2⟩:=z1.on (.ow A8 9 (.slice a2 x.As.Aa.Ab.Ak.length c2) x.As.Aa.Ab.Ak F2) GL;obtain ⟨n3,k3⟩:=z1.on (.ow Bi 156 (.slice a3 x.As.Aa.holds.length c3) x.As.Aa.holds F3) GL;obtain ⟨n4,k4⟩:=z1.on (.ow Bj 110 (.slice a4 x.As.Ae.length c4) x.As.Ae F4) GL;obtain ⟨n5,k5⟩:=z1.on (.ow Bg 117 (.slice a5 x.As.Ac.length c5) x.As.Ac F5) GL;obtain ⟨n6,k6⟩:=z1.on (.ow (Fv Aj 159) 135 (.slice a6 x.As.down.length c6) x.As.down F6) GL
 obtain ⟨n7,k7⟩:=z1.on (.ow (Fv Aj 159) 135 (.slice a7 x.As.up.length c7) x.As.up F7) GL;have hsp:=z1.sep;have p1_2:∀b∈F1,b ∉ F2:=hsp.1 (.ow A8 9 (.slice a2 x.As.Aa.Ab.Ak.length c2) x.As.Aa.Ab.Ak F2) GL rfl;have p1_3:∀b∈F1,b ∉ F3:=hsp.1 (.ow Bi 156 (.slice a3 x.As.Aa.holds.length c3) x.As.Aa.holds F3) GL rfl;have p1_4:∀b∈F1,b ∉ F4:=hsp.1 (.ow Bj 110 (.slice a4 x.As.Ae.length c4) x.As.Ae F4) GL rfl;have p1_5:∀b∈F1,b ∉ F5:=hsp.1 (.ow Bg 117 (.slice a5 x.As.Ac.length c5) x.As.Ac F5) GL rfl
 have p1_6:∀b∈F1,b ∉ F6:=hsp.1 (.ow (Fv Aj 159) 135 (.slice a6 x.As.down.length c6) x.As.down F6) GL rfl;have p1_7:∀b∈F1,b ∉ F7:=hsp.1 (.ow (Fv Aj 159) 135 (.slice a7 x.As.up.length c7) x.As.up F7) GL rfl;have p2_3:∀b∈F2,b ∉ F3:=hsp.2.1 (.ow Bi 156 (.slice a3 x.As.Aa.holds.length c3) x.As.Aa.holds F3) GL rfl;have p2_4:∀b∈F2,b ∉ F4:=hsp.2.1 (.ow Bj 110 (.slice a4 x.As.Ae.length c4) x.As.Ae F4) GL rfl;have p2_5:∀b∈F2,b ∉ F5:=hsp.2.1 (.ow Bg 117 (.slice a5 x.As.Ac.length c5) x.As.Ac F5) GL rfl
 have p2_6:∀b∈F2,b ∉ F6:=hsp.2.1 (.ow (Fv Aj 159) 135 (.slice a6 x.As.down.length c6) x.As.down F6) GL rfl;have p2_7:∀b∈F2,b ∉ F7:=hsp.2.1 (.ow (Fv Aj 159) 135 (.slice a7 x.As.up.length c7) x.As.up F7) GL rfl;have p3_4:∀b∈F3,b ∉ F4:=hsp.2.2.1 (.ow Bj 110 (.slice a4 x.As.Ae.length c4) x.As.Ae F4) GL rfl;have p3_5:∀b∈F3,b ∉ F5:=hsp.2.2.1 (.ow Bg 117 (.slice a5 x.As.Ac.length c5) x.As.Ac F5) GL rfl;have p3_6:∀b∈F3,b ∉ F6:=hsp.2.2.1 (.ow (Fv Aj 159) 135 (.slice a6 x.As.down.length c6) x.As.down F6) GL rfl
 have p3_7:∀b∈F3,b ∉ F7:=hsp.2.2.1 (.ow (Fv Aj 159) 135 (.slice a7 x.As.up.length c7) x.As.up F7) GL rfl;have p4_5:∀b∈F4,b ∉ F5:=hsp.2.2.2.1 (.ow Bg 117 (.slice a5 x.As.Ac.length c5) x.As.Ac F5) GL rfl;have p4_6:∀b∈F4,b ∉ F6:=hsp.2.2.2.1 (.ow (Fv Aj 159) 135 (.slice a6 x.As.down.length c6) x.As.down F6) GL rfl;have p4_7:∀b∈F4,b ∉ F7:=hsp.2.2.2.1 (.ow (Fv Aj 159) 135 (.slice a7 x.As.up.length c7) x.As.up F7) GL rfl;have p5_6:∀b∈F5,b ∉ F6:=hsp.2.2.2.2.1 (.ow (Fv Aj 159) 135 (.slice a6 x.As.down.length c6) x.As.down F6) GL rfl
 have p5_7:∀b∈F5,b ∉ F7:=hsp.2.2.2.2.1 (.ow (Fv Aj 159) 135 (.slice a7 x.As.up.length c7) x.As.up F7) GL rfl;have p6_7:∀b∈F6,b ∉ F7:=hsp.2.2.2.2.2.1 (.ow (Fv Aj 159) 135 (.slice a7 x.As.up.length c7) x.As.up F7) GL rfl;have hN:(F1++F2++F3++F4++F5++F6++F7).Nodup:=by
  simp only [List.nodup_append,List.mem_append]
  grind
 refine h.h a w (St.turn (M:=[.ow Bc 3 (.slice a1 x.As.Al.Ad.length c1) x.As.Al.Ad F1,.ow A8 9 (.slice a2 x.As.Aa.Ab.Ak.length c2) x.As.Aa.Ab.Ak F2,.ow Bi 156 (.slice a3 x.As.Aa.holds.length c3) x.As.Aa.holds F3,.ow Bj 110 (.slice a4 x.As.Ae.length c4) x.As.Ae F4,.ow Bg 117 (.slice a5 x.As.Ac.length c5) x.As.Ac F5,.ow (Fv Aj 159) 135 (.slice a6 x.As.down.length c6) x.As.down F6,.ow (Fv Aj 159) 135 (.slice a7 x.As.up.length c7) x.As.up F7]) (N:=[.own Qe (.agg #[.slice a1 x.As.Al.Ad.length c1,.int .i64 x.As.Aa.Ab.Ao,.int .i64 x.As.Aa.Ab.size,.slice a2 x.As.Aa.Ab.Ak.length c2,.int .i64 x.As.Aa.Ai,.int .i64 x.As.Aa.quiet,.slice a3 x.As.Aa.holds.length c3,.slice a4 x.As.Ae.length c4,.slice a5 x.As.Ac.length c5,.slice a6 x.As.down.length c6,.slice a7 x.As.up.length c7,.string x.Eb.Bh,.string x.Eb.pending,.int .i64 x.Eb.count]) x (F1++F2++F3++F4++F5++F6++F7)]) z1 (Dn.refl _ w) (by intro q hq;obtain rfl:=List.mem_singleton.1 hq;exact ⟨hN,_,rfl,_,_,_,_,_,_,_,_,_,_,_,_,_,_,rfl,s1,s2,k1,k2,k3,k4,k5,k6,k7,rfl⟩) ⟨GL,trivial⟩ fun q hq b hb=>?_) g
 obtain rfl:=List.mem_singleton.1 hq;simp only [Pc.F,List.mem_append] at hb;rcases hb with (((((hb|hb)|hb)|hb)|hb)|hb)|hb
 ·exact .inr (.inl ⟨.ow Bc 3 (.slice a1 x.As.Al.Ad.length c1) x.As.Al.Ad F1,GL,rfl,hb⟩)
 ·exact .inr (.inl ⟨.ow A8 9 (.slice a2 x.As.Aa.Ab.Ak.length c2) x.As.Aa.Ab.Ak F2,GL,rfl,hb⟩)
 ·exact .inr (.inl ⟨.ow Bi 156 (.slice a3 x.As.Aa.holds.length c3) x.As.Aa.holds F3,GL,rfl,hb⟩)
 ·exact .inr (.inl ⟨.ow Bj 110 (.slice a4 x.As.Ae.length c4) x.As.Ae F4,GL,rfl,hb⟩)
 ·exact .inr (.inl ⟨.ow Bg 117 (.slice a5 x.As.Ac.length c5) x.As.Ac F5,GL,rfl,hb⟩)
 ·exact .inr (.inl ⟨.ow (Fv Aj 159) 135 (.slice a6 x.As.down.length c6) x.As.down F6,GL,rfl,hb⟩)
 ·exact .inr (.inl ⟨.ow (Fv Aj 159) 135 (.slice a7 x.As.up.length c7) x.As.up F7,GL,rfl,hb⟩)
end
def I0 (x:C7):Bool:=Aw x.As && H2 x.Eb.Bh.data.toList x.Eb.pending.data.toList x.Eb.count
theorem Asl (x:C7) (v:Value) (F:List Nat) (hz:x.Eb.Bh.size+x.Eb.pending.size≤1048576):Fn prog 24 [v] [.isv Hj v x F] [] (fun (_:Unit)=>True) (fun _=>.bool (I0 x)) (fun _=>[]):=by
 refine enter func24 rfl ntmps24 fun w0=>?_;refine Dh ?_;rintro a1 c1 F1 a2 c2 F2 a3 c3 F3 a4 c4 F4 a5 c5 F5 a6 c6 F6 a7 c7 F7 rfl s1 s2 l1 l2 l3 l4 l5 l6 l7;refine Jm x.As ?_;generalize hFN:F1++F2++F3++F4++F5++F6++F7=FN;refine go ?_;intros;refine cf (Abl x.As _ FN) fun _ _=>?_;refine Ar ?_;unfold I0;cases g1:Aw x.As
 ·exact AB
 refine go ?_;intros;refine cf (Z8 x.Eb.Bh x.Eb.pending x.Eb.count hz) fun _ _=>?_;refine Ar ?_;exact AB
structure Bdr where
 Bed:Int
 got:Int
 Bee:Int
 Bfg:Int
theorem Avj (b:UInt8) (r:Bs):∀x:Bs,(∀c∈x,c≠b)→Lib.index (x++b::r) [b]=x.length
 | [],_=>by simp [Lib.index]
 | c::x,h=>by
  have ih:=Avj b r x (fun d hd=>h d (by simp [hd]));have hc:¬b=c:=fun e=>h c GL e.symm;rw [List.cons_append,Lib.index,if_neg JN,ih,if_neg HI];simp
theorem Ak8 (l:Bs) (b:UInt8) (d:Nat) (hb:Lib.digitVal b=some d):∀acc n,Lib.decFrom acc l=some n→Lib.decFrom acc (l++[b])=some (n * 10+d):=by
 induction l with
 | nil=>intro acc n h;simp [Lib.decFrom] at h ⊢;subst h;rw [hb]
 | cons a l ih =>
  intro acc n h;simp only [List.cons_append,Lib.decFrom] at h ⊢;cases ha:Lib.digitVal a with
  | none=>rw [ha] at h;cases h
  | some x =>
   have h2:Lib.decFrom (acc * 10+x) l=some n:=by simpa [ha] using h
   exact ih _ _ h2
theorem Ajn:∀d:Nat,d < 10→Lib.digitVal (UInt8.ofNat (48+d))=some d:=by decide
theorem Aet:∀(k u:Nat),u < 10 ^ (k+1)→Lib.decFrom 0 (Lib.decDigits u)=some u
 | 0,u,h=>by
  have h3:u < 10:=by simpa using h
  rw [Lib.decDigits,dif_pos h3,Lib.decFrom,Ajn u h3];simp [Lib.decFrom]
 | k+1,u,h=>by
  by_cases h3:u < 10
  ·rw [Lib.decDigits,dif_pos h3,Lib.decFrom,Ajn u h3];simp [Lib.decFrom]
  ·have ih:=Aet k (u / 10) KO;rw [Lib.decDigits,dif_neg h3,Ak8 _ _ _ (Ajn (u % 10) GJ) _ _ ih]
   congr 1;omega
theorem Aq8 (u:Nat) (h:u < 10000000):Lib.atoiAll (Lib.decDigits u)=.ok (u:Int):=by
 have hl:=Dx 6 u GJ;have hp:=Xb u;rw [Lib.atoiAll_short _ GJ];have:Lib.atoi (Lib.decDigits u)=some (u:Int):=by
  have hb:=Aet 6 u GJ;cases hd:Lib.decDigits u with
  | nil=>rw [hd] at hp;simp at hp
  | cons b r =>
   have hm:=Oj u b (by rw [hd];simp);have h45:(45:UInt8).toNat=45:=rfl;have h43:(43:UInt8).toNat=43:=rfl;rw [Lib.atoi,if_neg (by simp;intro e;subst e;omega),if_neg (by simp;intro e;subst e;omega)];unfold Lib.decNat;rw [if_neg GL,←hd,hb];rfl
 rw [this];rfl
def Cv (b:UInt8):Bs→List Bs
 | []=>[[]]
 | c::r=>if c == b then []::Cv b r else match Cv b r with
  | []=>[[c]]
  | x::xs=>(c::x)::xs
theorem Ou {b:UInt8}:∀{x:Bs} (r:Bs),(∀c∈x,c≠b)→Cv b (x++b::r)=x::Cv b r
 | [],r,_=>by simp [Cv]
 | c::x,r,h=>by
  have ih:=Ou (b:=b) (x:=x) r fun d hd=>h d (by simp [hd]);have hb:(c == b)=false:=by simpa using h c GL
  simp only [List.cons_append,Cv,hb,ih];simp
theorem Nv {b:UInt8}:∀{x:Bs},(∀c∈x,c≠b)→Cv b x=[x]
 | [],_=>rfl
 | c::x,h=>by
  have ih:=Nv (b:=b) (x:=x) fun d hd=>h d (by simp [hd]);have hb:(c == b)=false:=by simpa using h c GL
  simp only [Cv,hb,ih];simp
theorem Ov (b:UInt8) (l:Bs):∃r,Cv b l=D5 b l::r∧(r=[]↔b ∉ l):=by
 rcases Nl b l with ⟨h,h2⟩|⟨h,h2,_⟩
 ·refine ⟨Cv b (Ll b l),?_,?_⟩
  ·conv=>lhs;rw [h2]
   exact Ou _ W6
  ·refine ⟨fun e=>?_,fun e=>absurd h e⟩;have:∀l:Bs,Cv b l≠[]:=by
    intro l;cases l with
    | nil=>simp [Cv]
    | cons c r =>
     unfold Cv
     split
     ·simp
     ·split <;> simp
   exact absurd e (this _)
 ·exact ⟨[],by rw [Nv fun c hc e=>h (by rw [←e];exact hc),h2],JB⟩
theorem Ys {l:Bs} {f k:Nat} (hf:f≤k) (hk:k < l.length):l.drop f=(l.drop f).take (k - f)++l[k]::l.drop (k+1):=by
 have h1:(l.drop f).drop (k - f)=l.drop k:=by rw [List.drop_drop];congr 1;omega
 conv=>lhs;rw [←List.take_append_drop (k - f) (l.drop f),h1,List.drop_eq_getElem_cons hk]
theorem Ab7 {l:Bs} {f k:Nat} (hf:f≤k) (hk:k < l.length):(l.drop f).take (k+1 - f)=(l.drop f).take (k - f)++[l[k]]:=by
 rw [show k+1 - f=(k - f)+1 by omega,List.take_succ_eq_append_getElem HX]
 congr 2
 rw [List.getElem_drop];congr 1;omega
theorem Aeo (s:ByteArray) (k:Nat) (h:k < s.size):s.data.toList[k]'GW=s[k]:=rfl
theorem Bd0 (s:ByteArray) (f k:Nat):s.extract f k=bz ((s.data.toList.drop f).take (k - f)):=Lib.extract_eq s f k
theorem Ur (s:ByteArray) (f:Nat):s.extract f s.size=bz (s.data.toList.drop f):=by
 rw [Lib.extract_eq];unfold bz;rw [List.take_of_length_le GL]
theorem Axc (b:UInt8):∀(l:Bs),Lib.splitB ⟨#[b]⟩ 0 (l.count b) (bz l)=(Cv b l).map bz:=by
 intro l
 induction hn:l.length using Nat.strongRecOn generalizing l with
 | ind n ih =>
  subst hn;rcases Nl b l with ⟨h,h2⟩|⟨h, -, -⟩
  ·obtain ⟨u,r,hm,e⟩:∃u r:Bs,(∀c∈u,c≠b)∧l=u++b::r:=⟨_,_,W6,h2⟩;subst e;clear h h2;have hc0:u.count b=0:=List.count_eq_zero.2 fun hc=>hm b hc rfl;have hcnt:(u++b::r).count b=r.count b+1:=by rw [List.count_append,List.count_cons_self,hc0];omega
   have hi:Lib.indexB (bz (u++b::r)) ⟨#[b]⟩=(u.length:Int):=by
    unfold Lib.indexB;rw [Jq];exact Avj b r u hm
   have e1:(bz (u++b::r)).extract 0 (u.length+0)=bz u:=by
    rw [←V8 (ByteArray.extract _ _ _),Lib.extract_from_zero,Jq,Nat.add_zero,List.take_left]
   have e2:(bz (u++b::r)).extract (u.length+(⟨#[b]⟩:ByteArray).size) (bz (u++b::r)).size=bz r:=by
    rw [←V8 (ByteArray.extract _ _ _)]
    congr 1
    rw [Lib.extract_data,Jq,Jb,show (⟨#[b]⟩:ByteArray).size=1 from rfl,show u++b::r=(u++[b])++r by simp,List.drop_left' GL];exact List.take_of_length_le GU
   rw [hcnt,Lib.splitB_hit _ _ _ _ _ hi,e1,e2,ih _ GU _ rfl,Ou _ hm];rfl
  ·have hc0:l.count b=0:=List.count_eq_zero.2 h;rw [hc0,Lib.splitB_zero,Nv fun c hc e=>h (by subst e;exact hc)];rfl
theorem Aga (b:UInt8) (s:ByteArray):Lib.splitB ⟨#[b]⟩ 0 (Lib.countB s ⟨#[b]⟩) s=(Cv b s.data.toList).map bz:=by
 have h:=Axc b s.data.toList;rw [V8] at h;rw [←h]
 congr 1
 have:=Lib.count_one b s.data.toList;unfold Lib.countB;exact this
section
variable {P:Program} {n:Nat} {fr:Fr} {H:List Pc} {ty:TypeId} {x:Operand} {t t2:TypeId}
theorem Bdg (hx:ev fr x=some .nilIface) (hu:P.underlying t=some (.interface (P.methodsAt t))):Yd P n fr H (.binOp .neq t x (.const .nilIface) t2) ty (.bool false):=.mk fun c w d pos Ce gd hA _=>by
 have e:binOp .neq t .nilIface .nilIface=(do pure (.bool (!(←Op.equal t .nilIface .nilIface)))):=rfl;have eg:eqGuard .neq t x (.const .nilIface) .nilIface .nilIface=pure ():=by unfold eqGuard;simp
 have ec:c.eval (.const .nilIface)=.nilIface:=rfl;simp only [execOp,hA.ev hx,ec,eg,e,Sem.run_bind,Sem.run_pure,Result.andThen_ok,run_equal_nil_nil w t hu];rfl
theorem Ayd {u:TypeId} {p:Value} (hx:ev fr x=some (.iface u p)) (hu:P.underlying t=some (.interface (P.methodsAt t))):Yd P n fr H (.binOp .neq t x (.const .nilIface) t2) ty (.bool true):=.mk fun c w d pos Ce gd hA _=>by
 have e:binOp .neq t (.iface u p) .nilIface=(do pure (.bool (!(←Op.equal t (.iface u p) .nilIface)))):=rfl;have eg:eqGuard .neq t x (.const .nilIface) (.iface u p) .nilIface=pure ():=by unfold eqGuard;simp
 have ec:c.eval (.const .nilIface)=.nilIface:=rfl;simp only [execOp,hA.ev hx,ec,eg,e,Sem.run_bind,Sem.run_pure,Result.andThen_ok,run_equal_held_nil w t u p hu];rfl
end
section
variable {c:Cx} {fr:Fr} {H:List Pc} {d:Nat} {Φ:Gl}
theorem cx {f:Nat} {vs:List Value} (V:Value→Prop) (hc:∀w,St c.G c.D c.w0 H w→Calls c.P f vs.toArray w fun e w'=>∃v,V v∧e=.returned v∧Below w.heap.size w w') (h:∀v,V v→T c ((d,v)::fr) H Φ):Cl c fr H d f vs Φ :=
 Zr hc fun w e w' s ⟨v,hv,he,hB⟩=>⟨v,he,fun a g=>(h v hv).h a w' (s.below hB) g⟩
end
def Cc (s:ByteArray):Int × Bool:=match Lib.atoiAll s.data.toList with
 | .ok v=>if Eu (-999999) v 999999 && decide (bz (Lib.itoa v)=s) then (v,true) else (0,false)
 | _=>(0,false)
theorem Aeg (s:ByteArray) (FT:List Nat) (hs:s.size≤1000000000):Fn prog 107 [.string s] [Gc FT] [] (fun (_:Unit)=>True) (fun _=>.tuple #[.int .i64 (Cc s).1,.bool (Cc s).2]) (fun _=>[]):=by
 have hu:prog.underlying 199=some (.interface (prog.methodsAt 199)):=by kernel_rfl
 refine enter func107 rfl ntmps107 fun w0=>?_;refine go ?_;intros;have bad:(∀v,Lib.atoiAll s.data.toList≠.ok v)→Cc s=(0,false):=fun h=>by
  unfold Cc;cases h2:Lib.atoiAll s.data.toList with
  | ok v=>exact absurd h2 (h v)
  | _=>rfl
 match h:Lib.atoiAll s.data.toList with
 | Lib.NumEnd.ok v =>
  obtain ⟨b0,b1⟩:=Lib.atoiAll_bounds h;refine cb (fun w st=>(Tryz.strconv_Atoi_ok s GJ v h w).mono fun e w' hh=>⟨hh.1,?_⟩) ?_
  ·rcases hh.2 with rfl|⟨t,rfl⟩
   ·exact Below.refl _ _
   ·exact Lib.bytesWorld_below _ _ _
  refine go ?_;intros;apply wO;apply oc;rfl;exact Bdg rfl hu;refine go ?_;intros;refine ce (fun w s=>Hk _ _ _ _) ?_;cases g1:Eu (-999999) v 999999
  ·refine go ?_;intros;rw [show Cc s=(0,false) by unfold Cc;rw [h];simp [g1]];exact BD
  refine go ?_;intros;refine cb (fun w st=>Yz v GJ GJ FT w (st.get (p:=Gc FT) GL)) ?_;refine go ?_;intros;by_cases g2:bz (Lib.itoa v)=s
  ·rw [decide_eq_false (by simpa using g2)];refine go ?_;intros;rw [show Cc s=(v,true) by unfold Cc;rw [h];simp [g1,g2]];exact BD
  ·rw [decide_eq_true g2];refine go ?_;intros;rw [show Cc s=(0,false) by unfold Cc;rw [h];simp [g2]];exact BD
 | Lib.NumEnd.syntax =>
  rw [bad JB];refine cx (fun v=>∃n u p,v=.tuple #[.int .i64 n,.iface u p]) (fun w st=>?_) ?_
  ·obtain ⟨tp,p,hv⟩:=(Gc.env (st.get (p:=Gc FT) GL)).2.2.1;refine (Tryz.strconv_Atoi_syntax_var s GJ h tp p w hv).mono ?_;rintro e w' ⟨N,rfl, -, -,hB⟩;exact ⟨_,⟨_,_,_,rfl⟩,rfl,hB⟩
  rintro _ ⟨n,u,p,rfl⟩;refine go ?_;intros;apply wO;apply oc;rfl;exact Ayd rfl hu;exact AB
 | Lib.NumEnd.range =>
  rw [bad JB];refine cx (fun v=>∃n u p,v=.tuple #[.int .i64 n,.iface u p]) (fun w st=>?_) ?_
  ·obtain ⟨tp,p,hv⟩:=(Gc.env (st.get (p:=Gc FT) GL)).2.2.2;refine (Tryz.strconv_Atoi_range_var s GJ h tp p w hv).mono ?_;rintro e w' ⟨N,rfl, -, -,hB⟩;exact ⟨_,⟨_,_,_,rfl⟩,rfl,hB⟩
  rintro _ ⟨n,u,p,rfl⟩;refine go ?_;intros;apply wO;apply oc;rfl;exact Ayd rfl hu;exact AB
theorem Aow (u:Nat) (h:u≤999999):Cc (bz (Lib.decDigits u))=((u:Int),true):=by
 unfold Cc;rw [Jq,Aq8 u GJ];have e:Lib.itoa (u:Int)=Lib.decDigits u:=by unfold Lib.itoa;rw [if_neg GJ];simp
 simp only [e];rw [show Eu (-999999) (u:Int) 999999=true by unfold Eu;rw [decide_eq_true GJ,decide_eq_true GJ];rfl];simp
def Anu (n:Int):Bs:=Lib.decDigits n.toNat
def atW (ws:List Bs) (i:Nat):Bs:=ws.getD i []
theorem Ay0 {n:Int} (h:n≤1000000):(Anu n).length≤7:=Dx 6 _ GJ
theorem Anv {u:Nat} (h:u < 10000000):Lib.decNat (Lib.decDigits u)=some u:=by
 have hb:=Aet 6 u GJ;have hp:=Xb u;unfold Lib.decNat;rw [if_neg (by intro e;rw [List.isEmpty_iff] at e;rw [e] at hp;simp at hp),hb]
theorem Ae9 {v:Int} (h:v < 0):Lib.itoa v=45::Lib.decDigits v.natAbs:=by unfold Lib.itoa;rw [if_pos h]
theorem Aln {v:Int} (h:0≤v):Lib.itoa v=Lib.decDigits v.natAbs:=by unfold Lib.itoa;rw [if_neg GJ,show v.toNat=v.natAbs by omega]
theorem Pz {v:Int} (h0:-999999≤v) (h1:v≤999999):Cc (bz (Lib.itoa v))=(v,true):=by
 by_cases hn:v < 0
 ·have hl:=Dx 5 v.natAbs GJ;have ha:Lib.atoiAll (Lib.itoa v)=.ok v:=by
   rw [Ae9 hn,Lib.atoiAll_short _ GU];have:Lib.atoi (45::Lib.decDigits v.natAbs)=some v:=by
    rw [Lib.atoi,if_pos GV,Anv GJ];show some (-((v.natAbs:Nat):Int))=some v
    congr 1;omega
   rw [this];rfl
  unfold Cc;rw [Jq,ha];show (if Eu (-999999) v 999999 && decide (bz (Lib.itoa v)=bz (Lib.itoa v)) then (v,true) else (0,false))=(v,true);rw [decide_eq_true rfl,show Eu (-999999) v 999999=true by unfold Eu;rw [decide_eq_true h0,decide_eq_true h1];rfl];rfl
 ·rw [Aln GJ,Aow v.natAbs GJ]
  congr 1;omega
theorem Amp (s:ByteArray):Cc s=(0,false)∨∃v:Int, -999999≤v∧v≤999999∧s=bz (Lib.itoa v):=by
 unfold Cc
 split
 ·rename_i v _;cases h:(Eu (-999999) v 999999 && decide (bz (Lib.itoa v)=s))
  ·exact .inl rfl
  ·unfold Eu at h;simp only [Bool.and_eq_true,decide_eq_true_eq] at h;exact .inr ⟨v,h.1.1,h.1.2,h.2.symm⟩
 ·exact .inl rfl
def unS (l:Bs):Bs:=if 1 < l.length∧l.head?=some 45 then l.drop 1 else l
def Yt (l:Bs):Nat:=l.foldl (fun a c=>10 * a+(c.toNat - 48)) 0
theorem Wb (l:Bs) (c:UInt8):Yt (l++[c])=10 * Yt l+(c.toNat - 48):=by unfold Yt;rw [List.foldl_append];rfl
theorem Adx:∀(n:Nat) (l:Bs),l.length=n→(∀c∈l,48≤c.toNat∧c.toNat≤57)→Yt l < 10 ^ n
 | 0,l,h,_=>by rw [List.length_eq_zero_iff.1 h];decide
 | n+1,l,h,hd=>by
  have hne:l≠[]:=by intro e;rw [e] at h;simp at h
  have e:=List.dropLast_concat_getLast hne;have ih:=Adx n l.dropLast GU fun c hc=>hd c (List.dropLast_subset _ hc);have hc:=hd _ (List.getLast_mem hne);rw [←e,Wb,Nat.pow_succ];omega
theorem Bbw:∀d:Nat,d < 10→(UInt8.ofNat (48+d)).toNat=48+d:=by decide
theorem Ala:∀(k u:Nat),u < 10 ^ (k+1)→Yt (Lib.decDigits u)=u
 | 0,u,h=>by
  have h3:u < 10:=by simpa using h
  rw [Lib.decDigits,dif_pos h3];unfold Yt;simp only [List.foldl_cons,List.foldl_nil];rw [Bbw u h3];omega
 | k+1,u,h=>by
  by_cases h3:u < 10
  ·rw [Lib.decDigits,dif_pos h3];unfold Yt;simp only [List.foldl_cons,List.foldl_nil];rw [Bbw u h3];omega
  ·rw [Lib.decDigits,dif_neg h3,Wb,Ala k (u / 10) KO,Bbw _ GJ];omega
theorem Axz {v:Int} (h0:-999999≤v) (h1:v≤999999):unS (Lib.itoa v)=Lib.decDigits v.natAbs∧((unS (Lib.itoa v)).length < (Lib.itoa v).length↔v < 0):=by
 have hp:=Xb v.natAbs;by_cases hn:v < 0
 ·rw [Ae9 hn];unfold unS;rw [if_pos ⟨GU,rfl⟩];exact ⟨rfl,by simp [hn]⟩
 ·rw [Aln GJ];have:¬(1 < (Lib.decDigits v.natAbs).length∧(Lib.decDigits v.natAbs).head?=some 45):=by
   rintro ⟨-,h⟩;have:=Oj _ 45 (List.mem_of_mem_head? h);revert this;decide
  unfold unS;rw [if_neg this];exact ⟨rfl,GU⟩
theorem Iv {s:ByteArray} (h:Cc s≠(0,false)):∃v:Int, -999999≤v∧v≤999999∧s=bz (Lib.itoa v)∧1≤(unS s.data.toList).length∧(unS s.data.toList).length≤6∧(∀c∈unS s.data.toList,48≤c.toNat∧c.toNat≤57)∧Yt (unS s.data.toList)=v.natAbs∧((unS s.data.toList).length < s.size↔v < 0):=by
 rcases Amp s with h2|⟨v,h0,h1,rfl⟩
 ·exact absurd h2 h
 ·obtain ⟨e,e2⟩:=Axz h0 h1;have hl:=Dx 5 v.natAbs GJ;rw [Jq,Jb];refine ⟨v,h0,h1,rfl,?_,?_,?_,?_,e2⟩
  ·rw [e];exact Xb _
  ·rw [e];exact hl
  ·rw [e];exact Oj _
  ·rw [e];exact Ala 5 _ GJ
structure Bfe (c:Int) (x:Ja):Prop where
 n0:0≤x.Af
 n1:x.Af≤65535
 f:∀f∈x.Bm,1≤f∧f≤7
 p:0 < x.Bm.length
 l:x.Bm.length≤7
 u0:c+1≤x.Cg
 u1:x.Cg≤c+6
structure Bff (e:Bl) (k:Nat) (y:Bl):Prop where
 g:Ba y=true
 c:y.Ai=e.Ai+(k:Int)
 u:∀x∈y.Ah,x.Cg≤e.Ai+6
section
variable {c:Cx} {fr:Fr} {H:List Pc} {Φ:Gl}
end
theorem Avm {n:Int} (h:0≤n):Lib.itoa n=Anu n:=by unfold Lib.itoa Anu;rw [if_neg GJ]
theorem Av8 (n:Int) (h0:0≤n) (h1:n≤1000000) (w:World):Calls prog 77 #[.int .i64 n] w fun e w2=>e=.returned (.string (bz (Anu n)))∧Below w.heap.size w w2:=by
 obtain ⟨k,rfl⟩:∃k:Nat,n=k:=⟨n.toNat,GJ⟩;refine (Xh 6 k w GJ GJ).mono ?_;rintro e w2 ⟨rfl,j,rfl⟩;exact ⟨rfl,Dl (Below.refl _ _) j⟩
structure Bdw where
 o:List Bs
 f:Nat
 k:Nat
 a:Option Addr
 c:Nat
 F:List Nat
structure Bdv (b:UInt8) (s:ByteArray) (z:Bdw):Prop where
 k:z.k≤s.size
 f:z.f≤z.k
 l:z.o.length≤z.f
 e:Cv b s.data.toList=z.o++Cv b (s.data.toList.drop z.f)
 n:∀x∈(s.data.toList.drop z.f).take (z.k - z.f),x≠b
theorem Asi (s:ByteArray) (b:UInt8) (hs:s.size≤16777216):Fn prog 38 [.string s,.int .u8 (b.toNat:Int)] [] [] (fun (_:Option Addr × Nat × List Nat)=>True) (fun z=>.slice z.1 ((Cv b s.data.toList).map bz).length z.2.1) (fun z=>[.ow A8 9 (.slice z.1 ((Cv b s.data.toList).map bz).length z.2.1) ((Cv b s.data.toList).map bz) z.2.2]):=by
 refine enter func38 rfl ntmps38 fun w0=>?_;refine go ?_;intros;refine C4 A8 ?_;refine go ?_;intros;refine Ck [0,1,4] (fun z:Bdw=>[(5,.slice z.a (z.o.map bz).length z.c),(6,.int .i64 (z.f:Nat)),(7,.int .i64 (z.k:Nat))]) (fun z=>[.ow A8 9 (.slice z.a (z.o.map bz).length z.c) (z.o.map bz) z.F]) (Bdv b s) (fun z=>s.size - z.k) ⟨[],0,0,_,_,_⟩ ⟨Nat.zero_le _,Nat.le_refl _,Nat.le_refl _,rfl,GL⟩ fun z hz=>?_;obtain ⟨z1,z2,z3,z4,z5⟩:=hz;have hml:(z.o.map bz).length=z.o.length:=List.length_map ..;refine go ?_;intros;refine Be rfl (fun h1=>?_) (fun h1=>?_)
 ·have hk:z.k < s.size:=by omega
  have hkl:z.k < s.data.toList.length:=by rw [Cb];exact hk
  refine go ?_;intros;refine Be rfl (fun h2=>?_) (fun h2=>?_)
  ·have hb:s[z.k]=b:=UInt8.toNat_inj.1 (by have:((s[z.k]).toNat:Int)=(b.toNat:Int):=h2;omega);have h3:=Ys (l:=s.data.toList) z2 hkl;rw [Aeo s z.k hk,hb] at h3;have h4:Cv b (s.data.toList.drop z.f)=(s.data.toList.drop z.f).take (z.k - z.f)::Cv b (s.data.toList.drop (z.k+1)):=by rw [h3,Ou _ z5,←h3]
   have hx:(s.extract z.f z.k).size≤maxLen:=by unfold maxLen;simp;omega
   refine M7 ?_;intros;apply wO;apply oc;rfl;exact Bdm rfl rfl rfl GJ GJ GJ;refine M7 ?_;intros;rw [show s.extract ((z.f:Nat):Int).toNat ((z.k:Nat):Int).toNat=s.extract z.f z.k from rfl];apply wO;refine Oh (Amo hx) Dp fun a9 c9 F9=>?_;refine go ?_;intros;have e9:z.o.map bz++[s.extract z.f z.k]=(z.o++[(s.data.toList.drop z.f).take (z.k - z.f)]).map bz:=by rw [List.map_append,Bd0 s z.f z.k];rfl
   rw [e9];refine Cu ⟨z.o++[(s.data.toList.drop z.f).take (z.k - z.f)],z.k+1,z.k+1,a9,c9,F9⟩ ⟨by show z.k+1≤s.size;omega,Nat.le_refl _,by show (z.o++[_]).length≤z.k+1;simp;omega,by show _=(z.o++[_])++Cv b (s.data.toList.drop (z.k+1));rw [z4,h4];simp,by show ∀x∈(s.data.toList.drop (z.k+1)).take (z.k+1 - (z.k+1)),x≠b;simp⟩ (by show s.size - (z.k+1) < s.size - z.k;omega)
  ·refine go ?_;intros;refine Cu ⟨z.o,z.f,z.k+1,z.a,z.c,z.F⟩ ⟨by show z.k+1≤s.size;omega,by show z.f≤z.k+1;omega,z3,z4,by
    show ∀x∈(s.data.toList.drop z.f).take (z.k+1 - z.f),x≠b;rw [Ab7 z2 hkl,Aeo s z.k hk];intro x hx;rcases List.mem_append.1 hx with hx|hx
    ·exact z5 x hx
    ·rw [List.mem_singleton] at hx;subst hx;intro e;exact h2 (by show ((s[z.k]).toNat:Int)=(b.toNat:Int);rw [e])⟩ (by show s.size - (z.k+1) < s.size - z.k;omega)
 ·have hke:z.k=s.size:=by omega
  have h4:Cv b s.data.toList=z.o++[s.data.toList.drop z.f]:=by
   rw [z4,Nv];rw [List.take_of_length_le GU] at z5;exact z5
  have hx:(s.extract z.f s.size).size≤maxLen:=by unfold maxLen;simp;omega
  refine M7 ?_;intros;apply wO;apply oc;rfl;exact Agr rfl rfl GJ GJ;refine M7 ?_;intros;rw [show s.extract ((z.f:Nat):Int).toNat s.size=s.extract z.f s.size from rfl];apply wO;refine Oh (Amo hx) Dp fun a9 c9 F9=>?_;refine go ?_;intros;have e9:z.o.map bz++[s.extract z.f s.size]=(Cv b s.data.toList).map bz:=by rw [h4,List.map_append,Ur s z.f];rfl
  rw [e9];refine ret (a9,c9,F9) trivial rfl
theorem Av9 (n:Int) (h0:-999999≤n) (hn:n < 0):Fn prog 77 [.int .i64 n] [] [] (fun (_:Unit)=>True) (fun _=>.string (bz (Lib.itoa n))) (fun _=>[]):=by
 have hz:(bz (Anu (-n))).size≤7:=by rw [Jb];exact Ay0 GJ
 have zl:(⟨#[45]⟩:ByteArray).size=1:=rfl;refine enter func77 rfl ntmps77 fun w0=>?_;refine go ?_;intros;refine Be rfl (fun e0=>?_) (fun e0=>?_)
 rotate_left
 ·exact absurd hn e0
 refine go ?_;intros;refine cb (fun w st=>Av8 (-n) GJ GJ w) ?_;refine go ?_;intros;rw [show (⟨#[45]⟩:ByteArray)++bz (Anu (-n))=bz (Lib.itoa n) by
  rw [Ae9 hn];unfold Anu;rw [show (-n).toNat=n.natAbs by omega];apply ByteArray.ext;simp [bz,ByteArray.data_append]]
 exact BD
theorem Tg (n:Int) (h0:-999999≤n) (h1:n≤999999) (w:World):Calls prog 77 #[.int .i64 n] w fun e w2=>e=.returned (.string (bz (Lib.itoa n)))∧Below w.heap.size w w2:=by
 by_cases hn:n < 0
 ·exact (Av9 n h0 hn).val w (fun p hp=>by cases hp)
 ·rw [Avm GJ];exact Av8 n GJ GJ w
theorem Axy {s:ByteArray} (h:1 < s.size):unS s.data.toList=if s[0]=45 then (s.extract 1 s.size).data.toList else s.data.toList:=by
 have e:s.data.toList.head?=some s[0]:=by
  rw [List.head?_eq_getElem?,List.getElem?_eq_getElem KL];rfl
 unfold unS;rw [Cb,e,Ur,Jq];by_cases h2:s[0]=45
 ·rw [if_pos ⟨h,by rw [h2]⟩,if_pos h2]
 ·rw [if_neg (fun hh=>h2 (Option.some.inj hh.2)),if_neg h2]
theorem Atr {s:ByteArray} (h:¬1 < s.size):unS s.data.toList=s.data.toList:=by
 unfold unS;rw [Cb,if_neg (fun hh=>h hh.1)]
theorem Ags {P:Program} {n:Nat} {fr:Fr} {H:List Pc} {ty:TypeId} {x y:Operand} {a b:Int} {t t':TypeId} (hx:ev fr x=some (.int .u8 a)) (hy:ev fr y=some (.int .u8 b)) (h0:0≤a - b) (h1:a - b≤255):Yd P n fr H (.binOp .sub t x y t') ty (.int .u8 (a - b)):=.mk fun c w d pos Ce gd hA _=>by
 simp [execOp,hA.ev hx,hA.ev hy,eqGuard_sub,binOp_sub,Op.intArith,IntWalk.u8_in _ ⟨h0,h1⟩]
structure Bbp (t:ByteArray) (z:Nat × Nat):Prop where
 k:z.2≤t.size
 v:z.1=Yt (t.data.toList.take z.2)
 d:∀c∈t.data.toList.take z.2,48≤c.toNat∧c.toNat≤57
theorem Avu (s:ByteArray) (hs:s.size≤1000000000):Fn prog 88 [.string s] [] [] (fun (_:Unit)=>True) (fun _=>.tuple #[.int .i64 (Cc s).1,.bool (Cc s).2]) (fun _=>[]):=by
 refine enter func88 rfl ntmps88 fun w0=>?_;refine go ?_;intros;refine Dj rfl rfl (fun h1=>?_) (fun h1=>?_)
 ·have h1:1 < s.size:=by omega
  refine go ?_;intros;refine Be rfl (fun h2=>?_) (fun h2=>?_)
  ·have ht:(s.extract 1 s.size).data.toList=unS s.data.toList:=by rw [Axy h1,if_pos (UInt8.toNat_inj.1 (by have:((s[0]).toNat:Int)=45:=h2;show (s[0]).toNat=45;omega))]
   have hts:(s.extract 1 s.size).size=s.size - 1:=by simp
   refine M7 ?_;intros;apply wO;apply oc;rfl;exact Agr rfl rfl GJ GJ;rw [show s.extract (1:Int).toNat s.size=s.extract 1 s.size from rfl];generalize s.extract 1 s.size=t at ht hts ⊢;refine go ?_;intros;refine ce (fun w s=>Iq _ _ _ _) ?_;cases g1:Eu 1 ((t.size:Nat):Int) 6
   ·have hr:Cc s=(0,false):=by
     rcases Classical.em (Cc s=(0,false)) with h|h
     ·exact h
     ·exfalso;obtain ⟨v,h0,h1',hsv,q1,q2,q3,q4,q5⟩:=Iv h;rw [←ht,Cb] at q1 q2;have:Eu 1 ((t.size:Nat):Int) 6=true:=by unfold Eu;rw [decide_eq_true GJ,decide_eq_true GJ];rfl
      rw [this] at g1;cases g1
    exact GH
   obtain ⟨t1,t6⟩:1≤t.size∧t.size≤6:=by unfold Eu at g1;simp only [Bool.and_eq_true,decide_eq_true_eq] at g1;omega
   refine go ?_;intros;refine Ev [0,2,3,4] (fun z:Nat × Nat=>[(5,.int .i64 (z.1:Nat)),(6,.int .i64 (z.2:Nat))]) (Bbp t) (fun z=>t.size - z.2) (0,0) ⟨Nat.zero_le _,rfl,GL⟩ fun z hz=>?_;obtain ⟨vv,k⟩:=z;obtain ⟨z1,z2,z3⟩:=hz;dsimp only at z1 z2 z3 ⊢;have hv6:vv≤999999:=by
    have:=Adx (t.data.toList.take k).length _ rfl z3;have hl:(t.data.toList.take k).length≤6:=by rw [List.length_take,Cb];omega
    have:=Nat.pow_le_pow_right (show 0 < 10 by omega) hl;omega
   refine go ?_;intros;refine Be rfl (fun h1=>?_) (fun h1=>?_)
   ·have hk:k < t.size:=by omega
    have hkl:k < t.data.toList.length:=by rw [Cb];exact hk
    have hm:t[k]∈unS s.data.toList:=by rw [←ht];exact List.getElem_mem hkl
    refine go ?_;intros;refine Dj rfl rfl (fun h3=>?_) (fun h3=>?_)
    ·have h3:((t[k]).toNat:Int) < 48:=h3;have hr:Cc s=(0,false):=by
      rcases Classical.em (Cc s=(0,false)) with h|h
      ·exact h
      ·exfalso;obtain ⟨v,h0,h1',hsv,q1,q2,q3,q4,q5⟩:=Iv h;have:=q3 _ hm;omega
     exact GH
    have h3k:¬((t[k]).toNat:Int) < 48:=h3;refine go ?_;intros;refine Be rfl (fun h4=>?_) (fun h4=>?_)
    ·have h4:57 < ((t[k]).toNat:Int):=h4;have hr:Cc s=(0,false):=by
      rcases Classical.em (Cc s=(0,false)) with h|h
      ·exact h
      ·exfalso;obtain ⟨v,h0,h1',hsv,q1,q2,q3,q4,q5⟩:=Iv h;have:=q3 _ hm;omega
     exact GH
    have h4k:¬57 < ((t[k]).toNat:Int):=h4;refine go ?_;intros;apply wO;apply oc;rfl;exact Ags rfl rfl GJ GJ;apply wO;apply oc;rfl;exact Agq rfl GJ GJ;refine M7 ?_;intros;have e48:∀x:Nat,48≤x→10 * ((vv:Nat):Int)+(((x:Nat):Int) - 48)=((10 * vv+(x - 48):Nat):Int):=fun x hx=>by omega
    rw [e48]
    rotate_left
    ·show 48≤(t[k]).toNat;omega
    refine go ?_;intros;have etk:t.data.toList.take (k+1)=t.data.toList.take k++[t[k]]:=by rw [List.take_succ_eq_append_getElem hkl];rfl
    refine Cu (10 * vv+((t[k]).toNat - 48),k+1) ⟨by show k+1≤t.size;omega,by show _=Yt (t.data.toList.take (k+1));rw [etk,Wb,←z2],by
     show ∀c∈t.data.toList.take (k+1),48≤c.toNat∧c.toNat≤57;rw [etk];intro c hc;rcases List.mem_append.1 hc with hc|hc
     ·exact z3 c hc
     ·rw [List.mem_singleton] at hc;subst hc;omega⟩ (by show t.size - (k+1) < t.size - k;omega)
   ·have hks:k=t.size:=by omega
    have z2:vv=Yt (unS s.data.toList):=by rw [←ht,z2,List.take_of_length_le KL]
    have htz:(unS s.data.toList).length=t.size:=by rw [←ht,Cb]
    refine go ?_;intros;refine Be rfl (fun h5=>?_) (fun h5=>?_)
    ·refine go ?_;intros;refine cb (fun w st=>Tg (-((vv:Nat):Int)) GJ GJ w) ?_;refine go ?_;intros;by_cases h6:bz (Lib.itoa (-((vv:Nat):Int)))=s
     ·have hr:Cc s=(-((vv:Nat):Int),true):=by rw [←h6];exact Pz GJ GJ
      exact CE
     ·rw [decide_eq_true h6];have hr:Cc s=(0,false):=by
       rcases Classical.em (Cc s=(0,false)) with h|h
       ·exact h
       ·exfalso;obtain ⟨v,h0,h1',hsv,q1,q2,q3,q4,q5⟩:=Iv h;rw [htz] at q5;have hv:v=-((vv:Nat):Int):=by omega
        exact DS
      exact GH
    ·refine go ?_;intros;refine cb (fun w st=>Tg (((vv:Nat):Int)) GJ GJ w) ?_;refine go ?_;intros;by_cases h6:bz (Lib.itoa (((vv:Nat):Int)))=s
     ·have hr:Cc s=(((vv:Nat):Int),true):=by rw [←h6];exact Pz GJ GJ
      exact CE
     ·rw [decide_eq_true h6];have hr:Cc s=(0,false):=by
       rcases Classical.em (Cc s=(0,false)) with h|h
       ·exact h
       ·exfalso;obtain ⟨v,h0,h1',hsv,q1,q2,q3,q4,q5⟩:=Iv h;rw [htz] at q5;have hv:v=((vv:Nat):Int):=by omega
        exact DS
      exact GH
  ·have ht:s.data.toList=unS s.data.toList:=by rw [Axy h1,if_neg (fun e=>h2 (by show ((s[0]).toNat:Int)=45;rw [e];rfl))]
   refine go ?_;intros;refine ce (fun w s=>Iq _ _ _ _) ?_;cases g1:Eu 1 ((s.size:Nat):Int) 6
   ·have hr:Cc s=(0,false):=by
     rcases Classical.em (Cc s=(0,false)) with h|h
     ·exact h
     ·exfalso;obtain ⟨v,h0,h1',hsv,q1,q2,q3,q4,q5⟩:=Iv h;rw [←ht,Cb] at q1 q2;have:Eu 1 ((s.size:Nat):Int) 6=true:=by unfold Eu;rw [decide_eq_true GJ,decide_eq_true GJ];rfl
      rw [this] at g1;cases g1
    exact GH
   obtain ⟨t1,t6⟩:1≤s.size∧s.size≤6:=by unfold Eu at g1;simp only [Bool.and_eq_true,decide_eq_true_eq] at g1;omega
   refine go ?_;intros;refine Ev [0,2,3,4] (fun z:Nat × Nat=>[(5,.int .i64 (z.1:Nat)),(6,.int .i64 (z.2:Nat))]) (Bbp s) (fun z=>s.size - z.2) (0,0) ⟨Nat.zero_le _,rfl,GL⟩ fun z hz=>?_;obtain ⟨vv,k⟩:=z;obtain ⟨z1,z2,z3⟩:=hz;dsimp only at z1 z2 z3 ⊢;have hv6:vv≤999999:=by
    have:=Adx (s.data.toList.take k).length _ rfl z3;have hl:(s.data.toList.take k).length≤6:=by rw [List.length_take,Cb];omega
    have:=Nat.pow_le_pow_right (show 0 < 10 by omega) hl;omega
   refine go ?_;intros;refine Be rfl (fun h1=>?_) (fun h1=>?_)
   ·have hk:k < s.size:=by omega
    have hkl:k < s.data.toList.length:=by rw [Cb];exact hk
    have hm:s[k]∈unS s.data.toList:=by rw [←ht];exact List.getElem_mem hkl
    refine go ?_;intros;refine Dj rfl rfl (fun h3=>?_) (fun h3=>?_)
    ·have h3:((s[k]).toNat:Int) < 48:=h3;have hr:Cc s=(0,false):=by
      rcases Classical.em (Cc s=(0,false)) with h|h
      ·exact h
      ·exfalso;obtain ⟨v,h0,h1',hsv,q1,q2,q3,q4,q5⟩:=Iv h;have:=q3 _ hm;omega
     exact GH
    have h3k:¬((s[k]).toNat:Int) < 48:=h3;refine go ?_;intros;refine Be rfl (fun h4=>?_) (fun h4=>?_)
    ·have h4:57 < ((s[k]).toNat:Int):=h4;have hr:Cc s=(0,false):=by
      rcases Classical.em (Cc s=(0,false)) with h|h
      ·exact h
      ·exfalso;obtain ⟨v,h0,h1',hsv,q1,q2,q3,q4,q5⟩:=Iv h;have:=q3 _ hm;omega
     exact GH
    have h4k:¬57 < ((s[k]).toNat:Int):=h4;refine go ?_;intros;apply wO;apply oc;rfl;exact Ags rfl rfl GJ GJ;apply wO;apply oc;rfl;exact Agq rfl GJ GJ;refine M7 ?_;intros;have e48:∀x:Nat,48≤x→10 * ((vv:Nat):Int)+(((x:Nat):Int) - 48)=((10 * vv+(x - 48):Nat):Int):=fun x hx=>by omega
    rw [e48]
    rotate_left
    ·show 48≤(s[k]).toNat;omega
    refine go ?_;intros;have etk:s.data.toList.take (k+1)=s.data.toList.take k++[s[k]]:=by rw [List.take_succ_eq_append_getElem hkl];rfl
    refine Cu (10 * vv+((s[k]).toNat - 48),k+1) ⟨by show k+1≤s.size;omega,by show _=Yt (s.data.toList.take (k+1));rw [etk,Wb,←z2],by
     show ∀c∈s.data.toList.take (k+1),48≤c.toNat∧c.toNat≤57;rw [etk];intro c hc;rcases List.mem_append.1 hc with hc|hc
     ·exact z3 c hc
     ·rw [List.mem_singleton] at hc;subst hc;omega⟩ (by show s.size - (k+1) < s.size - k;omega)
   ·have hks:k=s.size:=by omega
    have z2:vv=Yt (unS s.data.toList):=by rw [←ht,z2,List.take_of_length_le KL]
    have htz:(unS s.data.toList).length=s.size:=by rw [←ht,Cb]
    refine go ?_;intros;refine Be rfl (fun h5=>?_) (fun h5=>?_)
    ·refine go ?_;intros;refine cb (fun w st=>Tg (-((vv:Nat):Int)) GJ GJ w) ?_;refine go ?_;intros;by_cases h6:bz (Lib.itoa (-((vv:Nat):Int)))=s
     ·have hr:Cc s=(-((vv:Nat):Int),true):=by rw [←h6];exact Pz GJ GJ
      exact CE
     ·rw [decide_eq_true h6];have hr:Cc s=(0,false):=by
       rcases Classical.em (Cc s=(0,false)) with h|h
       ·exact h
       ·exfalso;obtain ⟨v,h0,h1',hsv,q1,q2,q3,q4,q5⟩:=Iv h;rw [htz] at q5;have hv:v=-((vv:Nat):Int):=by omega
        exact DS
      exact GH
    ·refine go ?_;intros;refine cb (fun w st=>Tg (((vv:Nat):Int)) GJ GJ w) ?_;refine go ?_;intros;by_cases h6:bz (Lib.itoa (((vv:Nat):Int)))=s
     ·have hr:Cc s=(((vv:Nat):Int),true):=by rw [←h6];exact Pz GJ GJ
      exact CE
     ·rw [decide_eq_true h6];have hr:Cc s=(0,false):=by
       rcases Classical.em (Cc s=(0,false)) with h|h
       ·exact h
       ·exfalso;obtain ⟨v,h0,h1',hsv,q1,q2,q3,q4,q5⟩:=Iv h;rw [htz] at q5;have hv:v=((vv:Nat):Int):=by omega
        exact DS
      exact GH
 ·have ht:s.data.toList=unS s.data.toList:=(Atr GJ).symm;refine go ?_;intros;refine ce (fun w s=>Iq _ _ _ _) ?_;cases g1:Eu 1 ((s.size:Nat):Int) 6
  ·have hr:Cc s=(0,false):=by
    rcases Classical.em (Cc s=(0,false)) with h|h
    ·exact h
    ·exfalso;obtain ⟨v,h0,h1',hsv,q1,q2,q3,q4,q5⟩:=Iv h;rw [←ht,Cb] at q1 q2;have:Eu 1 ((s.size:Nat):Int) 6=true:=by unfold Eu;rw [decide_eq_true GJ,decide_eq_true GJ];rfl
     rw [this] at g1;cases g1
   exact GH
  obtain ⟨t1,t6⟩:1≤s.size∧s.size≤6:=by unfold Eu at g1;simp only [Bool.and_eq_true,decide_eq_true_eq] at g1;omega
  refine go ?_;intros;refine Ev [0,2,3,4] (fun z:Nat × Nat=>[(5,.int .i64 (z.1:Nat)),(6,.int .i64 (z.2:Nat))]) (Bbp s) (fun z=>s.size - z.2) (0,0) ⟨Nat.zero_le _,rfl,GL⟩ fun z hz=>?_;obtain ⟨vv,k⟩:=z;obtain ⟨z1,z2,z3⟩:=hz;dsimp only at z1 z2 z3 ⊢;have hv6:vv≤999999:=by
   have:=Adx (s.data.toList.take k).length _ rfl z3;have hl:(s.data.toList.take k).length≤6:=by rw [List.length_take,Cb];omega
   have:=Nat.pow_le_pow_right (show 0 < 10 by omega) hl;omega
  refine go ?_;intros;refine Be rfl (fun h1=>?_) (fun h1=>?_)
  ·have hk:k < s.size:=by omega
   have hkl:k < s.data.toList.length:=by rw [Cb];exact hk
   have hm:s[k]∈unS s.data.toList:=by rw [←ht];exact List.getElem_mem hkl
   refine go ?_;intros;refine Dj rfl rfl (fun h3=>?_) (fun h3=>?_)
   ·have h3:((s[k]).toNat:Int) < 48:=h3;have hr:Cc s=(0,false):=by
     rcases Classical.em (Cc s=(0,false)) with h|h
     ·exact h
     ·exfalso;obtain ⟨v,h0,h1',hsv,q1,q2,q3,q4,q5⟩:=Iv h;have:=q3 _ hm;omega
    exact GH
   have h3k:¬((s[k]).toNat:Int) < 48:=h3;refine go ?_;intros;refine Be rfl (fun h4=>?_) (fun h4=>?_)
   ·have h4:57 < ((s[k]).toNat:Int):=h4;have hr:Cc s=(0,false):=by
     rcases Classical.em (Cc s=(0,false)) with h|h
     ·exact h
     ·exfalso;obtain ⟨v,h0,h1',hsv,q1,q2,q3,q4,q5⟩:=Iv h;have:=q3 _ hm;omega
    exact GH
   have h4k:¬57 < ((s[k]).toNat:Int):=h4;refine go ?_;intros;apply wO;apply oc;rfl;exact Ags rfl rfl GJ GJ;apply wO;apply oc;rfl;exact Agq rfl GJ GJ;refine M7 ?_;intros;have e48:∀x:Nat,48≤x→10 * ((vv:Nat):Int)+(((x:Nat):Int) - 48)=((10 * vv+(x - 48):Nat):Int):=fun x hx=>by omega
   rw [e48]
   rotate_left
   ·show 48≤(s[k]).toNat;omega
   refine go ?_;intros;have etk:s.data.toList.take (k+1)=s.data.toList.take k++[s[k]]:=by rw [List.take_succ_eq_append_getElem hkl];rfl
   refine Cu (10 * vv+((s[k]).toNat - 48),k+1) ⟨by show k+1≤s.size;omega,by show _=Yt (s.data.toList.take (k+1));rw [etk,Wb,←z2],by
    show ∀c∈s.data.toList.take (k+1),48≤c.toNat∧c.toNat≤57;rw [etk];intro c hc;rcases List.mem_append.1 hc with hc|hc
    ·exact z3 c hc
    ·rw [List.mem_singleton] at hc;subst hc;omega⟩ (by show s.size - (k+1) < s.size - k;omega)
  ·have hks:k=s.size:=by omega
   have z2:vv=Yt (unS s.data.toList):=by rw [←ht,z2,List.take_of_length_le KL]
   have htz:(unS s.data.toList).length=s.size:=by rw [←ht,Cb]
   refine go ?_;intros;refine Be rfl (fun h5=>?_) (fun h5=>?_)
   ·refine go ?_;intros;refine cb (fun w st=>Tg (-((vv:Nat):Int)) GJ GJ w) ?_;refine go ?_;intros;by_cases h6:bz (Lib.itoa (-((vv:Nat):Int)))=s
    ·have hr:Cc s=(-((vv:Nat):Int),true):=by rw [←h6];exact Pz GJ GJ
     exact CE
    ·rw [decide_eq_true h6];have hr:Cc s=(0,false):=by
      rcases Classical.em (Cc s=(0,false)) with h|h
      ·exact h
      ·exfalso;obtain ⟨v,h0,h1',hsv,q1,q2,q3,q4,q5⟩:=Iv h;rw [htz] at q5;have hv:v=-((vv:Nat):Int):=by omega
       exact DS
     exact GH
   ·refine go ?_;intros;refine cb (fun w st=>Tg (((vv:Nat):Int)) GJ GJ w) ?_;refine go ?_;intros;by_cases h6:bz (Lib.itoa (((vv:Nat):Int)))=s
    ·have hr:Cc s=(((vv:Nat):Int),true):=by rw [←h6];exact Pz GJ GJ
     exact CE
    ·rw [decide_eq_true h6];have hr:Cc s=(0,false):=by
      rcases Classical.em (Cc s=(0,false)) with h|h
      ·exact h
      ·exfalso;obtain ⟨v,h0,h1',hsv,q1,q2,q3,q4,q5⟩:=Iv h;rw [htz] at q5;have hv:v=((vv:Nat):Int):=by omega
       exact DS
     exact GH
end Go.Proofs.YtkagnmekdkchiaaGreatDoor
namespace Go.Proofs.YtkagnmekdkchiaaGreatDoor

open Go.RowKit
open Go.RowKit
end Go.Proofs.YtkagnmekdkchiaaGreatDoor
namespace Go.Proofs.YtkagnmekdkchiaaGreatDoor
open Go.RowKit
theorem Axb {w:World} {a:Option Addr} {n cp:Nat} {xs:List ByteArray} {F:List Nat} (h:(Pc.sl A8 (.slice a n cp) xs F).P w) (h0:0 < xs.length):∃b o,a=some ⟨b,o,none⟩∧n=xs.length∧xs.length≤cp∧b < w.heap.size∧∀(j:Nat) x,xs[j]?=some x→w.cell? ⟨b,o+j,none⟩=some (.string x):=by
 have hlt:=h.2.lt;obtain ⟨hz,a',cap,hv,hl,h|⟨b,o,F',rfl,hne,rfl,hc⟩⟩:=h
 ·rw [h.1] at h0;simp at h0
 ·simp only [Value.slice.injEq] at hv;obtain ⟨rfl,rfl,rfl⟩:=hv;refine ⟨b,o,rfl,rfl,hl.1,hlt GM b GL,fun j x hj=>?_⟩;obtain ⟨hj1,rfl⟩:=List.getElem?_eq_some_iff.1 hj;obtain ⟨cs,F1,⟨rfl, -, -⟩,h2, -⟩:=hc.get j hj1;have:=h2 0 GM;simpa [A8] using this
theorem Avp (xs:List ByteArray) (sep:ByteArray) (a:Option Addr) (cp:Nat) (F:List Nat) (w:World) (h:(Pc.sl A8 (.slice a xs.length cp) xs F).P w) (h0:0 < xs.length) (hN:xs.length≤100000000000000) (hlen:(Lib.join (xs.map (·.data.toList)) sep.data.toList).length≤100000000000000) :
  Calls prog 115 #[.slice a xs.length cp,.string sep] w fun e w'=>e=.returned (.string (bz (Lib.join (xs.map (·.data.toList)) sep.data.toList)))∧Below w.heap.size w w':=by
 obtain ⟨b,o,rfl, -,hcap,hb,hc⟩:=Axb h h0;exact Tryz.strings_Join b o cp xs sep w hc hb GJ hcap GJ
theorem Bcc (n:Nat):madeCells (Value.string ⟨#[]⟩).cells (n * 1)=(List.replicate n (Value.string ⟨#[]⟩)).toArray:=by
 rw [Nat.mul_one];apply Array.ext
 ·simp [madeCells]
 ·intro i h1 h2;simp [madeCells,Value.cells,Nat.mod_one]
theorem Ali (w:World):∀n:Nat,Cw A8 w (List.replicate n (Value.string ⟨#[]⟩)) (List.replicate n ⟨#[]⟩) []
 | 0=>⟨rfl,rfl⟩
 | n+1=>⟨[.string ⟨#[]⟩],List.replicate n (Value.string ⟨#[]⟩),[],[],by simp [List.replicate_succ],GL,⟨rfl,Nat.zero_le _,rfl⟩,Ali w n⟩
def itB (f:Int):ByteArray:=bz (Lib.itoa f)
def zsJ (l:List Int) (k:Nat):List ByteArray:=(l.take k).map itB++List.replicate (l.length - k) ⟨#[]⟩
theorem Bay {l:List Int} {k:Nat} (h:k≤l.length):(zsJ l k).length=l.length:=by unfold zsJ;simp;omega
theorem Baz {l:List Int} {k:Nat} (h:k < l.length):(zsJ l k).set k (itB l[k])=zsJ l (k+1):=by
 unfold zsJ;have e:List.replicate (l.length - k) (⟨#[]⟩:ByteArray)=⟨#[]⟩::List.replicate (l.length - (k+1)) ⟨#[]⟩:=by rw [show l.length - k=(l.length - (k+1))+1 by omega,List.replicate_succ]
 have hl:((l.take k).map itB).length=k:=by rw [List.length_map,List.length_take];omega
 rw [e,List.set_append_right _ _ GJ,hl,Nat.sub_self,List.set_cons_zero,List.take_succ_eq_append_getElem h,List.map_append];simp only [List.map_cons,List.map_nil,List.append_assoc,List.cons_append,List.nil_append]
theorem Ae8 (l:List Int):(l.map itB).map (·.data.toList)=l.map Lib.itoa:=by
 rw [List.map_map];exact List.map_congr_left fun x _=>by simp [itB,Jq]
theorem Azc (l:List Int) (g:Nat) (F:List Nat) (w:World) (hf:∀f∈l,0≤f∧f.natAbs < 10 ^ (4+1)) (h0:0 < l.length) (h7:l.length≤1000) (h:(Pc.sl A8 (.slice (some ⟨g,0,none⟩) l.length l.length) (l.map itB) F).P w) :
  Calls prog 115 #[.slice (some ⟨g,0,none⟩) l.length l.length,.string ⟨#[32]⟩] w fun e w'=>e=.returned (.string (bz (jn l)))∧Below w.heap.size w w':=by
 have hml:(l.map itB).length=l.length:=List.length_map ..;have hd:(⟨#[32]⟩:ByteArray).data.toList=[32]:=rfl;have hj:=Bca (k:=4) hf;have:=Avp (l.map itB) ⟨#[32]⟩ (some ⟨g,0,none⟩) l.length F w (by rw [hml];exact h) GJ GJ (by rw [hd,Ae8];unfold jn at hj;omega);rw [hml,hd,Ae8] at this;exact this
theorem Azd (l:List Int) (a:Option Addr) (c:Nat) (F FT:List Nat) (hf:∀f∈l,0≤f∧f.natAbs < 10 ^ (4+1)) (h0:0 < l.length) (h7:l.length≤1000):Fn prog 179 [.slice a l.length c,.string ⟨#[32]⟩] [.sl Bc (.slice a l.length c) l F,Gc FT] [] (fun (_:Unit)=>True) (fun _=>.string (bz (jn l))) (fun _=>[]):=by
 refine enter func179 rfl ntmps179 fun w0=>?_;refine go ?_;intros;apply wO;refine Ag4 l.length (cs:=List.replicate l.length (.string ⟨#[]⟩)) rfl rfl rfl (Bcc _) GJ GJ fun g=>?_;refine Ic (E:=A8) (xs:=List.replicate l.length ⟨#[]⟩) (fun w=>Ali w _) ?_ HB;rw [List.length_replicate,show List.replicate l.length (⟨#[]⟩:ByteArray)=zsJ l 0 by unfold zsJ;simp];refine go ?_;intros
 refine Ck [1,4,5,11,12] (fun k:Nat=>[(13,.int .i64 (k:Nat))]) (fun k=>[.ow A8 9 (.slice (some ⟨g,0,none⟩) l.length l.length) (zsJ l k) [g]]) (fun k=>k≤l.length) (fun k=>l.length - k) 0 (Nat.zero_le _) fun k hk=>?_;have hzl:=Bay hk;refine go ?_;intros;refine Be rfl (fun h1=>?_) (fun h1=>?_)
 ·have hk1:k < l.length:=by omega
  have hfk:=hf _ (List.getElem_mem hk1);refine Io (xs:=l) k ?_;rintro hi b o e1;rw [e1];refine go ?_;intros;refine cb (fun w st=>Yz l[k] GJ GJ FT w (st.get (p:=Gc FT) GL)) ?_;refine R5 (m:=1) Hi k ?_ GP rfl GJ;rintro _ g2 A cs B e2 - hr hH;cases e2;obtain ⟨rfl, -⟩:=hr w0;refine go ?_;intros;refine Qv (itB l[k]) hH (fun w=>⟨rfl,by rw [itB,Jb,Pd hfk.1];have:=Dx 4 l[k].natAbs hfk.2;unfold maxLen;omega,rfl⟩) ?_;rw [Baz hk1];refine go ?_;intros;refine Cu (k+1) hk1 GJ
 ·have hk1:k=l.length:=by omega
  subst hk1;rw [show zsJ l l.length=l.map itB by unfold zsJ;simp];have hml:(l.map itB).length=l.length:=List.length_map ..;refine A4 (E:=A8) (xs:=l.map itB) fun F8=>?_;refine go ?_;intros;refine cb (fun w st=>Azc l g F8 w hf h0 h7 (st.get (p:=.sl A8 (.slice (some ⟨g,0,none⟩) l.length l.length) (l.map itB) F8) GL)) ?_;exact AB
structure RtS where
 k:Nat
 a:Option Addr
 c:Nat
 F:List Nat
end Go.Proofs.YtkagnmekdkchiaaGreatDoor
namespace Go.Proofs.YtkagnmekdkchiaaGreatDoor

open Go.RowKit
end Go.Proofs.YtkagnmekdkchiaaGreatDoor
