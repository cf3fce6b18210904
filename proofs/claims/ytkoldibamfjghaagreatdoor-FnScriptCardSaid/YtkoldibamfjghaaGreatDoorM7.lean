/- Part 7 of the proof: 39 texts, one behind the other. -/
import Derived.Test.YtkoldibamfjghaaGreatDoorShelf
import Derived.Deep.RegionHeld3
import Derived.Lib.Strings
import Derived.Lib.LaidTab
import Derived.Lib.ItoaMem
import Derived.RangeFuncCalls
import Derived.RangeFuncFrom
import Derived.RangeFuncLeaves
import Derived.TacticsInMore
import Derived.OrdersIn
import Derived.WalkKit
import Derived.LoopNIn
import Derived.LoopIn
import Derived.OwnWalkIn
import Derived.Test.YtkoldibamfjghaaGreatDoorM6
open _root_.Go.Proofs.Tryz
set_option maxRecDepth 100000
set_option maxHeartbeats 8000000
set_option linter.all false
set_option linter.unusedVariables false
set_option linter.unusedSimpArgs false
namespace Go.Proofs.YtkoldibamfjghaaGreatDoor
theorem CA{p:Prop}(h:p:=by refine I9 (xs:=x.Ao) i ?_;rintro hi2 b o e;rw [e];refine go ?_;intros;apply wO;refine Nb (Rz _) C6 fun a7 c7 F7=>?_;refine go ?_;rw [<-eo];refine Ca (⟨i+1,_,_,_⟩:AwS) (by show i+1<=x.Ao.length;omega) (by show x.Ao.length - (i+1) < x.Ao.length - i;omega)):p:=h
theorem CJ{p:Prop}(h:p:=by exact ⟨by omega,fun e=>by rw [e] at this;exact absurd this.1 (by decide)⟩):p:=h
theorem DA{p:Prop}(h:p:=by refine go ?_;intros;rw [hop];refine ret (z.a,z.c,z.F) trivial rfl):p:=h
theorem DS{p:Prop}(h:p:=by refine Ca (k+1) hk3 (by omega)):p:=h
theorem FM{p:Prop}(h:p:=by obtain ⟨v1,v2,v3,v4,v5,v6,v7,F1,F2,F3,F4,F5,F6,F7,rfl,s1,s2,h1,h2,h3,h4,h5,h6,h7,rfl⟩:=h;exact ⟨v1,v2,v3,v4,v5,v6,v7,F1,F2,F3,F4,F5,F6,F7,rfl,s1,s2,h1.frame fun b hb=>hF b (by simp [hb]),h2.frame fun b hb=>hF b (by simp [hb]),h3.frame fun b hb=>hF b (by simp [hb]),h4.frame fun b hb=>hF b (by simp [hb]),h5.frame fun b hb=>hF b (by simp [hb]),h6.frame fun b hb=>hF b (by simp [hb]),h7.frame fun b hb=>hF b (by simp [hb]),rfl⟩):p:=h
theorem FQ{p:Prop}(h:p:=by exact fun _ _ _ h=>h):p:=h
theorem GI{p:Prop}(h:p:=by simp only [aE,sz1];omega):p:=h
theorem HY{p:Prop}(h:p:=by rw [hj];exact E5 (Below.refl _ _) _):p:=h
theorem IS{p:Prop}(h:p:=by obtain ⟨v1,v2,v3,v4,v5,v6,v7,F1,F2,F3,F4,F5,F6,F7,rfl,s1,s2,h1,h2,h3,h4,h5,h6,h7,rfl⟩:=h;rfl):p:=h
theorem JC{p:Prop}(h:p:=by rw [cu];omega):p:=h
theorem JO{p:Prop}(h:p:=by have:=run_endLoop (P:=P) hl (by rw [hrec];simp);rw [hrec] at this;exact this):p:=h
theorem KO{p:Prop}(h:p:=by rw [Jh];exact Dv 1 _ (by omega)):p:=h
end Go.Proofs.YtkoldibamfjghaaGreatDoor
namespace Go.Proofs.YtkoldibamfjghaaGreatDoor
open Go.RowKit
theorem Atk:Lv [-1,0]:=⟨FA,FA,fun _=>rfl,fun i h h0=>by
 have:i=1:=by simp at h;omega
 subst this;simp⟩
theorem Aps {l:ar} (h:Lv l) (h7:l.length<=7) {x:Nat} (hx:x < l.length):Lv (l++[(x:Int)]):=by
 have h0:=h.n0;refine ⟨FF,FF,fun _=>?_,fun i hi hi0=>?_⟩
 ·rw [fN EZ];exact h.z EZ
 ·by_cases e:i < l.length
  ·rw [fN e];exact h.p i e hi0
  ·have:i=l.length:=by simp at hi;omega
   subst this;rw [List.getElem_append_right (aL _)];simp;omega
theorem Am2 {t:Pv} (h:Lv t.Ac):Hj t=true:=by
 have h0:=h.n0;have h1:=h.n1;unfold Hj;rw [aw];refine ⟨by unfold E8;rw [av EZ,av EZ];rfl,Kd fun i hi=>?_⟩;by_cases e:i=0
 ·subst e;rw [Qf hi,av (h.z hi)]
 ·rw [Sm hi EZ];obtain ⟨a,b⟩:=h.p i hi EZ;unfold E8;rw [av EZ,av EZ];rfl
theorem Anx {t:Pv} {f y:Int} (ht:Hj t=true) (hs:Ck ⟨⟨f,y,[]⟩,0,0,[]⟩=true):At (Wp t f y)=true:=by
 refine Ax.2 ⟨ht,hs,Bg.2 ⟨by simp [Wp],by simp [Wp],by simp [Wp],by simp [Wp]⟩,fun i h1 h2 h3 h4=>?_⟩;refine Ny.2 ?_;simp only [Wp,List.getElem_replicate];exact ⟨rfl,rfl,rfl,fun _=>⟨rfl,rfl,rfl,rfl⟩,fun _ _=>⟨rfl,rfl,rfl⟩,fun _ _=>⟨rfl,rfl,rfl⟩⟩
theorem Agn {t:Pv} {f y:Int} (ht:Lv t.Ac) (h0:0<=f) (h1:f<=65535) (z0:1<=y) (z6:y<=6):Kh t f y=(Wp t f y,true)/\At (Wp t f y)=true:=by
 have hg:Ck ⟨⟨f,y,[]⟩,0,0,[]⟩=true:=En.2 ⟨Ds.2 ⟨⟨h0,h1⟩,⟨z0,z6⟩,FF,rfl⟩,rfl,rfl,FB,List.Pairwise.nil⟩;have hT:=Am2 ht;refine ⟨?_,Anx hT hg⟩;unfold Kh;rw [hT,hg];rfl
def Bhm (e:au):Int:=((e.data.toList.getD 0 0).toNat:Int) - 48
def Bhs (i:Nat) (E:ai):ai:=(E.filter fun e=>decide (Bhm e=((i:Nat):Int))).map fun e=>e.extract 2 e.size
def EvW (E:ai):Prop:=∀e∈E,∃i x,1<=i/\i<=7/\e=Mx i x
theorem Azw {i:Nat} (h:i<=7) (x:au):Mx i x=bz (UInt8.ofNat (48+i)::32::x.data.toList):=by
 have e:bz (Lib.itoa ((i:Nat):Int))=bz [UInt8.ofNat (48+i)]:=by
  rw [Nc (dB i),Int.natAbs_natCast,Lib.decDigits,ei EZ]
 unfold Mx;rw [e,<-Wv (_++_),Hx,Hx];rfl
theorem EvW.app {a b:ai} (h:EvW a) (h2:EvW b):EvW (a++b):=fun e he=>by
 rcases aK.1 he with he|he
 ·exact h e he
 ·exact h2 e he
theorem EvW.T6 {i:Nat} (h1:1<=i) (h7:i<=7) (es:ai):EvW (T6 i es):=fun e he=>by
 obtain ⟨x, -,rfl⟩:=bL.1 he;exact ⟨i,x,h1,h7,rfl⟩
theorem EvW.nil:EvW []:=fun e he=>by cases he
structure SrI (S:ai) (f:Int) (w:Aw):Prop where
 h:∃i,i+w.Ak.length=S.length/\w.Am=Cc f ((i:Nat):Int)/\w.Ak=S.drop i
structure NtJ (S:ai) (f:Int) (n:Du) (E:ai):Prop where
 s:SrI S f n.Ab.Aa
 d:∀q∈n.down,∀p∈q,PkI S f p
 r:∀i (h:i < n.Ad.length),RcI S f n.Ad[i] (Bhs i E)
 e:EvW E
section
variable {S:ai} {f:Int} {n:Du} {E:ai}
theorem SrI.E7 {w:Aw} (h:SrI S f w):Li w=Cc f ((S.length:Nat):Int):=by
 obtain ⟨i,h1,h2, -⟩:=h.h;unfold Li;rw [h2,Aes,h1]
theorem SrI.Am {w:Aw} (h:SrI S f w):∃i,i<=S.length/\w.Am=Cc f ((i:Nat):Int):=by
 obtain ⟨i,h1,h2, -⟩:=h.h;exact ⟨i,EZ,h2⟩
theorem SrI.De {w:Aw} (h:SrI S f w) (hs:1<=w.size):SrI S f (De w):=by
 obtain ⟨i,h1,h2,h3⟩:=h.h;unfold Go.Proofs.YtkoldibamfjghaaGreatDoor.De
 split
 ·rename_i e;refine ⟨i+1,?_,?_,?_⟩
  ·show i+1+(w.Ak.drop 1).length=_;rw [aX];omega
  ·show Cc w.Am 1=_;rw [h2,show Cc (Cc f (i:Nat)) 1=Cc (Cc f (i:Nat)) ((1:Nat):Int) from rfl,Aes]
  ·show w.Ak.drop 1=_;rw [h3,cA]
 ·exact h
theorem SrI.push {w:Aw} (h:SrI S f w) (hs:1<=w.size) (t:au):SrI (S++[t]) f (Di w t):=by
 obtain ⟨i,h1,h2,h3⟩:=(h.De hs).h;refine ⟨i,?_,h2,?_⟩
 ·show i+((Go.Proofs.YtkoldibamfjghaaGreatDoor.De w).Ak++[t]).length=_;rw [aA,aA,dH];omega
 ·show (Go.Proofs.YtkoldibamfjghaaGreatDoor.De w).Ak++[t]=_;rw [h3,List.drop_append_of_le_length EZ]
theorem NtJ.mono {S2:ai} (h:NtJ S f n E) (hs:SrI (S++S2) f n.Ab.Aa):NtJ (S++S2) f n E:=⟨hs,fun q hq p hp=>(h.d q hq p hp).mono,fun i hi=>(h.r i hi).mono,h.e⟩
theorem Aws {P:NE->Prop} (hP:∀(x y:NE) (s:Jf),P x->At x.1=true->Dq s=true->s.Cq≠1->Bm x.1 s=some y->P (y.1,x.2++y.2)) {x:NE} (hg:At x.1=true) (h:P x):P (drE x):=by
 have ht:∀(x:NE) (s:Jf),P x->At x.1=true->Dq s=true->s.Cq≠1->P (Mu x s):=fun x s hx hg hs hk=>by
  cases e:Bm x.1 s with
  | none=>rw [Jt e];exact hx
  | some y=>rw [Yn e];exact hP x y s hx hg hs hk e
 have hr:∀(x:NE),P x->At x.1=true->∀k,k+1<=x.1.Al.Ac.length->P (Hp x k):=fun x hx hg k=>by
  have hn8:=(Gf (Ax.1 hg).t).n1
  induction k with
  | zero=>intro _;exact hx
  | succ k ih =>
   intro hk;have f1:=(Oy hg k EZ).1;have hk1:k+1 < (Hp x k).1.Al.Ac.length:=by rw [f1.t];omega
   have f2:=(Aoy f1.g EZ hk1).1;have p2:=ht _ (I4 (k+1)) (ih EZ) f1.g (Bb5 EZ EZ) (by show (2:Int)≠1;decide);exact ht _ (Ly (k+1)) p2 f2.g (Ayh EZ EZ) (by show (5:Int)≠1;decide)
 unfold drE;generalize wN x.1=m
 induction m generalizing x with
 | zero=>exact h
 | succ m ih =>
  unfold Sv
  split
  ·exact h
  ·have h2:=(Gf (Ax.1 hg).t).n0;exact ih (Mm hg).1.g (hr x h hg _ EZ)
end
def lgB (b:UInt8):Prop:=(32<=b.toNat/\b.toNat<=126)/\b≠35
instance (b:UInt8):Decidable (lgB b):=by unfold lgB;infer_instance
def Yr (l:Bs):Prop:=∀b∈l,lgB b
theorem Yr.app {a b:Bs} (h:Yr a) (k:Yr b):Yr (a++b):=fun x hx=>by
 rcases aK.1 hx with h1|h1
 ·exact h x h1
 ·exact k x h1
theorem Atv {s:au} (h:Pe s=true):∀c∈s.data.toList,97<=c.toNat/\c.toNat<=122:=by
 unfold Pe T4 low E8 at h;simp only [aw,aW,aF] at h;exact fun c hc=>by have:=h.2 c hc;omega
def evK (e:au):Prop:=e=Ans\/e=Xb\/∃t,Pe t=true/\e=Agu t
def slK (l:List Ic):Prop:=∀s∈l,s.Wm=true->Pe s.Dn=true
theorem slK.drop {l:List Ic} (h:slK l) (k:Nat):slK (l.drop k):=fun s hs=>h s (bu hs)
theorem Ahb {w:Aj} (h:Cv w=true):slK w.Ap:=fun s hs _=>by
 unfold Cv at h;simp only [aw] at h;have:=aW.1 h.1.2 s hs;unfold Hc at this;simp only [aw] at this;exact this.1
theorem Ays:∀(l:List Ic) (n:Int),slK l->∀e∈(rel n l).2.2,evK e
 | [],_,_,e,he=>by cases he
 | s::r,n,h,e,he=>by
  unfold rel at he
  split at he
  ·rename_i hs;rcases aH.1 he with rfl|he
   ·exact .inr (.inr ⟨_,h s FB hs,rfl⟩)
   ·exact Ays r _ (fun x hx=>h x IE) e he
  ·cases he
theorem Aw5:∀(m:Nat) (w:Aj),slK w.Ap->∀e∈N5 m w,evK e
 | 0,_,_,e,he=>by cases he
 | m+1,w,h,e,he=>by
  unfold N5 at he;rcases aH.1 he with rfl|he
  ·cases hw:w.Ap with
   | nil=>exact .inl rfl
   | cons s r =>
    by_cases hs:s.Wm=true
    ·exact .inr (.inr ⟨s.Dn,h s (by rw [hw];simp) hs,by simp [Gg,hs]⟩)
    ·exact .inl (by simp [Gg,hs])
  ·exact Aw5 m (Yw w) (by rw [show (Yw w).Ap=w.Ap.drop 1 by simp [Yw]];exact h.drop 1) e he
theorem Arx {w:Aj} {t:Int} (h:slK w.Ap):∀e∈Jc w t,evK e:=fun e he=>by
 unfold Jc at he;rcases aK.1 he with he|he
 ·exact Aw5 _ _ h e he
 ·exact Ays _ _ (by rw [Sx];exact h.drop _) e he
theorem Bgk {w:Aj} {n:Int} {t:au} (h:slK w.Ap) (ht:Pe t=true):slK (Yv w n t).Ap:=fun s hs hv=>by
 unfold Yv L0 at hs;rcases bE hs with hs|rfl
 ·unfold Mc at hs;rcases aK.1 hs with hs|hs
  ·exact h s hs hv
  ·rw [(fg.1 hs).2] at hv;cases hv
 ·exact ht
theorem Bee {r:A1} {p:As} (hg:Lu r) (hp:Bo p=true):∀e∈Id r p,evK e:=fun e he=>by
 unfold Id at he
 split at he
 ·unfold Mk at he;have hs:=Ahb (Qn hg hp).1;have hd:Pe p.data=true:=by have h:=hp;unfold Bo at h;simp only [aw] at h;exact h.1.1.2
  rcases aK.1 he with he|he
  ·unfold Kt Lp at he
   split at he
   ·cases he
   ·split at he
    ·cases he
    ·exact Ays _ _ (Bgk hs hd) e he
  ·unfold Oo at he
   split at he
   ·split at he
    ·exact Arx (Ahb (Tj hg hp).1) e he
    ·rw [aM] at he;exact .inr (.inl he)
   ·cases he
 ·cases he
theorem Be5 {r:A1} (hg:Lu r):∀e∈Hh r,evK e:=fun e he=>by
 unfold Hh at he
 split at he
 ·cases he
 ·exact Arx (Ahb hg.w) e he
def evN (e:au):Prop:=∃i x,i<=7/\evK x/\e=Mx i x
theorem Azx {i:Nat} (h:i<=7) {es:ai} (he:∀e∈es,evK e):∀e∈T6 i es,evN e:=fun e hm=>by
 obtain ⟨x,hx,rfl⟩:=bL.1 hm;exact ⟨i,x,h,he x hx,rfl⟩
theorem Az0 {n:Du} (hg:At n=true) (hc:n.Ab.Ai < 9999):∀k,k+1<=n.Al.Ac.length->∀e∈(Bd n k).2,evN e
 | 0,_,e,he=>by cases he
 | k+1,hk,e,he=>by
  obtain ⟨hG,ht, -⟩:=Pa hg hc k EZ;have hn8:=(Gf hG.t).n1;have hi:k+1 < (Bd n k).1.Al.Ac.length:=by rw [ht];omega
  obtain ⟨g1,g2,g3,g4,r⟩:=hG.rn hi;rcases aK.1 (show e∈(Bd n k).2++(Nf (Bd n k).1 (k+1)).2 from he) with he|he
  ·exact Az0 hg hc k EZ e he
  ·unfold Nf at he;cases hl:D5 (Bd n k).1.Al.Ac ((k+1:Nat):Int)
   ·rw [hl,aC FA] at he;cases he
   ·rw [hl,aJ rfl,Gp g2] at he;exact Azx EZ (Be5 (Ej.1 (r.hf EZ hl).2.1)) e he
theorem Aqw {n:Du} {s:Jf} {y:NE} (hg:At n=true) (hs:Dq s=true) (e:Bm n s=some y):∀z∈y.2,evN z:=by
 have hG:=Ax.1 hg;unfold Bm at e
 split at e
 ·cases e;exact fun z hz=>by cases hz
 ·rename_i h1
  split at e
  ·split at e
   ·cases e
   ·cases e;have:=Xs hG.s;exact Az0 hg EZ _ (by have:=(Gf hG.t).n0;omega)
  ·rename_i h4;unfold Dq at hs;rw [aC h1,aC h4] at hs;simp only [aw] at hs;have hf:=M5.1 hs.1.2;have hpg:=Ll (s:=s) hg;have hq:=Md (s:=s) hg;have htl:(Gm n s).Al=n.Al:=JY
   unfold C4 at e
   split at e
   ·cases e
   ·rename_i hb
    split at e
    ·cases e
    ·rename_i h2;have hpk:=M3 hq.1 (Ok (q:=T5 n s) EZ)
     split at e
     ·cases e;have hi:s.node.toNat < (Gm n s).Al.Ac.length:=by rw [htl];omega
      obtain ⟨i1,i2,i3,i4,hrn⟩:=(Ax.1 hpg).rn hi;unfold C8;cases hl:D5 (Gm n s).Al.Ac ((s.node.toNat:Nat):Int)
      ·rw [aC FA];exact fun z hz=>by cases hz
      ·rw [aJ rfl,Gp i2];exact Azx EZ (Bee (Ej.1 (hrn.hf EZ hl).2.1) hpk)
     ·split at e
      ·cases e;exact fun z hz=>by cases hz
      ·cases e;exact fun z hz=>by cases hz
theorem Bd7 {n:Du} (hg:At n=true):∀z∈(P9 n).2,evN z :=
 Aws (P:=fun x=>∀z∈x.2,evN z) (fun x y s hx hgx hs _ e z hz=>by
  rcases aK.1 hz with hz|hz
  ·exact hx z hz
  ·exact Aqw hgx hs e z hz) (x:=(n,[])) hg fun z hz=>by cases hz
theorem Ata {e:au} (h:evK e):Yr e.data.toList/\e.size<=9:=by
 rcases h with rfl|rfl|⟨t,ht,rfl⟩
 ·exact ⟨fun b hb=>by rw [aM.1 (show b∈[45] from hb)];decide,FA⟩
 ·exact ⟨fun b hb=>by rw [aM.1 (show b∈[33] from hb)];decide,FA⟩
 ·have h8:=Up ht;refine ⟨?_,by unfold Agu;rw [aE];show 1+_<=9;omega⟩;unfold Agu;rw [Hx];refine Yr.app (fun b hb=>by rw [aM.1 (show b∈[43] from hb)];decide) fun b hb=>?_;have:=Atv ht b hb;exact CJ
theorem X4 {e:au} (h:evN e):Yr e.data.toList/\e.size<=11:=by
 obtain ⟨i,x,hi,hx,rfl⟩:=h;obtain ⟨h1,h2⟩:=Ata hx;rw [Azw hi,I1,Gk];refine ⟨fun b hb=>?_,by simp only [aU,Cp];omega⟩;rcases aH.1 hb with rfl|hb
 ·have e:(UInt8.ofNat (48+i)).toNat=48+i:=by rw [UInt8.toNat_ofNat'];omega
  exact ⟨EZ,fun h=>by have:=congrArg UInt8.toNat h;rw [e] at this;have:(35:UInt8).toNat=35:=rfl;omega⟩
 ·rcases aH.1 hb with rfl|hb
  ·decide
  ·exact h1 b hb
structure Log where
 Cg:au
 pending:au
 count:Int
structure B4 where
 Bb:Du
 Il:Log
def Ed:Bt B4 where
 sz:=14
 L8 w cs x F:=∃v1 v2 v3 v4 v5 v6 v7 F1 F2 F3 F4 F5 F6 F7,cs=[v1,aa x.Bb.Ab.Aa.Am,aa x.Bb.Ab.Aa.size,v2,aa x.Bb.Ab.Ai,aa x.Bb.Ab.quiet,v3,v4,v5,v6,v7,af x.Il.Cg,af x.Il.pending,aa x.Il.count]/\x.Il.Cg.size<=maxLen/\x.Il.pending.size<=maxLen/\Sl Bc w v1 x.Bb.Al.Ac F1/\Sl A8 w v2 x.Bb.Ab.Aa.Ak F2/\Sl Bw w v3 x.Bb.Ab.holds F3/\Sl Bv w v4 x.Bb.Af F4/\Sl B8 w v5 x.Bb.Ad F5/\Sl (Oa An FA) w v6 x.Bb.down F6/\Sl (Oa An FA) w v7 x.Bb.up F7/\F=F1++F2++F3++F4++F5++F6++F7
 len h:=IS
 lt h:=by
  obtain ⟨v1,v2,v3,v4,v5,v6,v7,F1,F2,F3,F4,F5,F6,F7,rfl,s1,s2,h1,h2,h3,h4,h5,h6,h7,rfl⟩:=h;intro b hb;simp only [aK] at hb;rcases hb with (((((hb|hb)|hb)|hb)|hb)|hb)|hb
  ·exact h1.lt FA b hb
  ·exact h2.lt FA b hb
  ·exact h3.lt FA b hb
  ·exact h4.lt FA b hb
  ·exact h5.lt FA b hb
  ·exact h6.lt FA b hb
  ·exact h7.lt FA b hb
 frame h hF:=FM
def Aal:Bt B4 where
 sz:=14
 L8 w cs x F:=∃v1 v2 v3 v4 v5 v6 v7 F1 F2 F3 F4 F5 F6 F7,cs=[v1,aa x.Bb.Ab.Aa.Am,aa x.Bb.Ab.Aa.size,v2,aa x.Bb.Ab.Ai,aa x.Bb.Ab.quiet,v3,v4,v5,v6,v7,af x.Il.Cg,af x.Il.pending,aa x.Il.count]/\x.Il.Cg.size<=maxLen/\x.Il.pending.size<=maxLen/\Ow Bc 3 w v1 x.Bb.Al.Ac F1/\Ow A8 9 w v2 x.Bb.Ab.Aa.Ak F2/\Ow Bw 191 w v3 x.Bb.Ab.holds F3/\Ow Ce 122 w v4 x.Bb.Af F4/\Ow B9 76 w v5 x.Bb.Ad F5/\Ow (Ki An 141) 125 w v6 x.Bb.down F6/\Ow (Ki An 141) 125 w v7 x.Bb.up F7/\F=F1++F2++F3++F4++F5++F6++F7
 len h:=IS
 lt h:=by
  obtain ⟨v1,v2,v3,v4,v5,v6,v7,F1,F2,F3,F4,F5,F6,F7,rfl,s1,s2,h1,h2,h3,h4,h5,h6,h7,rfl⟩:=h;intro b hb;simp only [aK] at hb;rcases hb with (((((hb|hb)|hb)|hb)|hb)|hb)|hb
  ·exact h1.lt b hb
  ·exact h2.lt b hb
  ·exact h3.lt b hb
  ·exact h4.lt b hb
  ·exact h5.lt b hb
  ·exact h6.lt b hb
  ·exact h7.lt b hb
 frame h hF:=FM
theorem Alv:Mq Aal Ed:=⟨rfl,fun h=>by
 obtain ⟨v1,v2,v3,v4,v5,v6,v7,F1,F2,F3,F4,F5,F6,F7,rfl,s1,s2,h1,h2,h3,h4,h5,h6,h7,rfl⟩:=h;obtain ⟨G1,g1,k1⟩:=h1.sl (Mq.refl _);obtain ⟨G2,g2,k2⟩:=h2.sl (Mq.refl _);obtain ⟨G3,g3,k3⟩:=h3.sl (Mq.refl _);obtain ⟨G4,g4,k4⟩:=h4.sl Kc;obtain ⟨G5,g5,k5⟩:=h5.sl Qt;obtain ⟨G6,g6,k6⟩:=h6.sl (Pt (Mq.refl _) FA _);obtain ⟨G7,g7,k7⟩:=h7.sl (Pt (Mq.refl _) FA _);refine ⟨G1++G2++G3++G4++G5++G6++G7,?_,v1,v2,v3,v4,v5,v6,v7,G1,G2,G3,G4,G5,G6,G7,rfl,s1,s2,k1,k2,k3,k4,k5,k6,k7,rfl⟩;intro b hb;simp only [aK] at hb ⊢;rcases hb with (((((hb|hb)|hb)|hb)|hb)|hb)|hb
 ·simp [g1 b hb]
 ·simp [g2 b hb]
 ·simp [g3 b hb]
 ·simp [g4 b hb]
 ·simp [g5 b hb]
 ·simp [g6 b hb]
 ·simp [g7 b hb]⟩
-- markConsole: a nested struct with several slices is not written here
def Abm (s:Ic):au:=if s.Wm then (if s.Dn=⟨#[]⟩ then ⟨#[46]⟩ else s.Dn) else ⟨#[63]⟩
def slT (x:Aj) (k:Nat):au:=(x.Ap.take k).foldl (fun a s=>a++(⟨#[32]⟩++Abm s)) (bz (Lib.decDigits x.next.toNat)++⟨#[58]⟩)
def Tw (x:Aj):au:=slT x x.Ap.length
theorem Abi {x:Aj} {k:Nat} (hk:k < x.Ap.length):slT x (k+1)=slT x k++(⟨#[32]⟩++Abm x.Ap[k]):=by
 unfold slT;rw [<-List.take_append_getElem hk,dF];rfl
theorem Bdo {x:Aj} {k:Nat} (hk:k < x.Ap.length) (h:x.Ap[k].Wm=false):slT x k++⟨#[32,63]⟩=slT x (k+1):=by
 rw [Abi hk,Abm,h];rfl
theorem Bdn {x:Aj} {k:Nat} (hk:k < x.Ap.length) (h:x.Ap[k].Wm=true) (h2:x.Ap[k].Dn=⟨#[]⟩):slT x k++⟨#[32,46]⟩=slT x (k+1):=by
 rw [Abi hk,Abm,h,aJ rfl,aJ h2];rfl
theorem Bdp {x:Aj} {k:Nat} (hk:k < x.Ap.length) (h:x.Ap[k].Wm=true) (h2:¬x.Ap[k].Dn=⟨#[]⟩):slT x k++(⟨#[32]⟩++x.Ap[k].Dn)=slT x (k+1):=by
 rw [Abi hk,Abm,h,aJ rfl,aC h2]
theorem Aqx {s:Ic} (h:s.Dn.size<=8):(Abm s).size<=8:=by
 unfold Abm;split
 ·split
  ·decide
  ·exact h
 ·decide
theorem Abh {x:Aj} (hg:Cv x=true):∀k,(slT x k).size<=6+9 * k
 | 0=>by
  obtain ⟨n0,n1,hl,hit⟩:=Rt hg;unfold slT;rw [ff,eZ,aE,Gk];have:=Dv 4 x.next.toNat EZ
  have:(⟨#[58]⟩:au).size=1:=rfl;omega
 | k+1=>by
  have ih:=Abh hg k;obtain ⟨n0,n1,hl,hit⟩:=Rt hg;by_cases hk:k < x.Ap.length
  ·rw [Abi hk,aE,aE];have:=Aqx (hit _ (aB hk));have:(⟨#[32]⟩:au).size=1:=rfl;omega
  ·have e:slT x (k+1)=slT x k:=by unfold slT;rw [aV EZ,aV EZ]
   rw [e];omega
theorem Ad7 (x:Aj) (v:Value) (F FT:aq) (hg:Cv x=true):FV 31 [v] [.isv Br v x F,E4 FT] (af (Tw x)):=by
 obtain ⟨n0,n1,hl,hit⟩:=Rt hg;have hzd:(bz (Lib.decDigits x.next.toNat)).size<=5:=by rw [Gk];exact Dv 4 _ EZ
 have z58:(⟨#[58]⟩:au).size=1:=rfl;refine enter func31 rfl ntmps31 fun w0=>?_;refine Cu ?_;rintro a1 c1 F1 rfl l1;unfold maxLen at l1;refine go ?_;intros;refine cb (fun w st=>S0 x.next EZ EZ FT w (st.get (p:=E4 FT) FB)) ?_;rw [show Lib.itoa x.next=Lib.decDigits x.next.toNat by unfold Lib.itoa;rw [aC EZ]];refine go ?_;refine Em [2,11,12] (fun k:Nat=>[(3,af (slT x k)),(13,aa k)]) (fun k=>k<=x.Ap.length) (fun k=>x.Ap.length - k) 0 (aG _) fun k hk=>?_;have hz:=Abh hg k;have z2:(⟨#[32,63]⟩:au).size=2:=rfl
 have z3:(⟨#[32,46]⟩:au).size=2:=rfl;have z1:(⟨#[32]⟩:au).size=1:=rfl;refine go ?_;refine A4 rfl (fun h=>?_) (fun h=>?_)
 ·have hk3:k < x.Ap.length:=EZ
  have hs8:=hit _ (aB hk3);refine Pg (xs:=x.Ap) k ?_;rintro hi b o e s1;rw [e];refine go ?_;intros;cases g2:x.Ap[k].Wm
  ·refine go ?_;rw [Bdo hk3 g2];exact DS
  ·
   refine go ?_;by_cases g3:x.Ap[k].Dn=⟨#[]⟩
   ·rw [av g3];refine go ?_;rw [Bdn hk3 g2 g3];exact DS
   ·rw [ay g3];have z9:=aE (a:=⟨#[32]⟩) (b:=x.Ap[k].Dn);refine go ?_;rw [Bdp hk3 g2 g3];exact DS
 ·obtain rfl:k=x.Ap.length:=EZ
  refine go ?_;refine ret () trivial ?_;unfold Tw;rfl
theorem Ai9 (x:Aj) (v:Value) (F FT:aq) (hg:Cv x=true):FV 35 [v] [.isv Br v x F,E4 FT] (af (Tw x)):=by
 obtain ⟨n0,n1,hl,hit⟩:=Rt hg;have hzd:(bz (Lib.decDigits x.next.toNat)).size<=5:=by rw [Gk];exact Dv 4 _ EZ
 have z58:(⟨#[58]⟩:au).size=1:=rfl;refine enter func35 rfl ntmps35 fun w0=>?_;refine Cu ?_;rintro a1 c1 F1 rfl l1;unfold maxLen at l1;refine go ?_;intros;refine cb (fun w st=>(by rw [show x.next=((x.next.toNat:Nat):Int) by omega];exact Ax7 _ EZ w)) ?_;refine go ?_;refine Em [1,2] (fun k:Nat=>[(3,af (slT x k)),(4,aa k)]) (fun k=>k<=x.Ap.length) (fun k=>x.Ap.length - k) 0 (aG _) fun k hk=>?_;have hz:=Abh hg k;have z2:(⟨#[32,63]⟩:au).size=2:=rfl;have z3:(⟨#[32,46]⟩:au).size=2:=rfl;have z1:(⟨#[32]⟩:au).size=1:=rfl;refine go ?_
 refine A4 rfl (fun h=>?_) (fun h=>?_)
 ·have hk3:k < x.Ap.length:=EZ
  have hs8:=hit _ (aB hk3);refine Pg (xs:=x.Ap) k ?_;rintro hi b o e s1;rw [e];refine go ?_;cases g2:x.Ap[k].Wm
  ·refine go ?_;rw [Bdo hk3 g2];exact DS
  ·
   refine go ?_;by_cases g3:x.Ap[k].Dn=⟨#[]⟩
   ·rw [av g3];refine go ?_;rw [Bdn hk3 g2 g3];exact DS
   ·rw [ay g3];have z9:=aE (a:=slT x k) (b:=⟨#[32]⟩);refine go ?_;rw [ByteArray.append_assoc,Bdp hk3 g2 g3];exact DS
 ·obtain rfl:k=x.Ap.length:=EZ
  refine go ?_;refine ret () trivial ?_;unfold Tw;rfl
theorem Ai6 (xs:List Bs) (x sep:Bs) (h:0 < xs.length):Lib.join (xs++[x]) sep=Lib.join xs sep++(sep++x):=by
 cases xs with
 | nil=>cases h
 | cons a r =>
  rw [cj,Lib.join_cons,Lib.join_cons];unfold Lib.joinTail;simp
theorem Aa4 {sep:Bs} {m:Nat}:∀{xs:List Bs},(∀x∈xs,x.length<=m)->(Lib.joinTail sep xs).length<=(sep.length+m) * xs.length
 | [],_=>by unfold Lib.joinTail;simp
 | x::r,h=>by
  have ih:=Aa4 (sep:=sep) (m:=m) (xs:=r) fun y hy=>h y KS;have hx:=h x FB;unfold Lib.joinTail at ih ⊢;simp only [cB,cm,aA,aU] at ih ⊢;rw [gE];omega
theorem Ana {sep:Bs} {m:Nat} {xs:List Bs} (h:∀x∈xs,x.length<=m):(Lib.join xs sep).length<=(sep.length+m) * xs.length:=by
 cases xs with
 | nil=>simp [Lib.join]
 | cons a r =>
  have hr:=Aa4 (sep:=sep) (m:=m) (xs:=r) fun y hy=>h y KS;have ha:=h a FB;rw [Lib.join_cons,aA,aU,gE];omega
def jn (l:ar):Bs:=Lib.join (l.map Lib.itoa) [32]
theorem Bei (x:Int):jn [x]=Lib.itoa x:=by unfold jn;rw [cB,Lib.join_cons];simp [Lib.joinTail]
theorem Bbl {l:ar} {k:Nat} (h0:0 < k) (h:k < l.length):jn (l.take (k+1))=jn (l.take k)++32::Lib.itoa l[k]:=by
 unfold jn;rw [aO h,bD,cB,da,Ai6 _ _ _ KD];rfl
theorem Axg {l:ar} {k:Nat} (h:∀x∈l,0<=x/\x.natAbs < 10 ^ (k+1)):(jn l).length<=(k+2) * l.length:=by
 have:=Ana (sep:=[32]) (m:=k+1) (xs:=l.map Lib.itoa) fun y hy=>by
  obtain ⟨x,hx,rfl⟩:=bL.1 hy;rw [Nc (h x hx).1];exact Dv k _ (h x hx).2
 unfold jn;rw [bf] at this;simp only [aU,aY] at this;rw [show (k+2)=(0+1+(k+1)) by omega];exact this
def slB (r:A1):au:=if r.Be then Tw r.Aa else ⟨#[45]⟩
def Ajj (r:A1) (f:Int):au:=bz (Lib.itoa f)++⟨#[32]⟩++slB r++⟨#[10]⟩
def zR:A1:=⟨false,0,⟨0,[]⟩,[]⟩
def Ar8 (n:Du) (f:Int):A1:=n.Ad.getD f.toNat zR
theorem Agx {n:Du} {i:Nat} (h:i < n.Ad.length):Ar8 n ((i:Nat):Int)=n.Ad[i]:=by
 unfold Ar8;rw [ba,bn,aD h];rfl
def Bd4 (c:B4):au:=bz (jn (c.Bb.Al.Ac.drop 1))++⟨#[59,32,99,108,111,99,107,32]⟩++bz (Lib.itoa c.Bb.Ab.Ai)++⟨#[59,32,114,101,99,111,114,100,115,32]⟩++bz (Lib.itoa c.Il.count)++⟨#[10]⟩
def Pj (c:B4) (k:Nat):au:=((Tm c.Bb.Al.Ac).take k).foldl (fun a f=>a++Ajj (Ar8 c.Bb f) f) (Bd4 c)
def Zm (c:B4):au:=Pj c (Tm c.Bb.Al.Ac).length
theorem Ab5 {c:B4} {k:Nat} (hk:k < (Tm c.Bb.Al.Ac).length):Pj c (k+1)=Pj c k++Ajj (Ar8 c.Bb (Tm c.Bb.Al.Ac)[k]) (Tm c.Bb.Al.Ac)[k]:=by
 unfold Pj;rw [aO hk,dF];rfl
theorem Aa6 {n:Du} (hg:At n=true) {i:Nat} (hi:i < n.Ad.length):Bp n.Ad[i]=true:=by
 obtain ⟨-, -,hl,ha⟩:=Mj.1 hg;obtain ⟨q1,q2,q3,q4⟩:=Bg.1 hl;have h:=ha i EZ;rw [Ug EZ hi EZ EZ,<-Ac2] at h;unfold Ag4 at h;simp only [aw] at h;exact h.1.1.1.2
theorem Aqg {r:A1} (hg:Bp r=true) (hs:r.Be=true):Cv r.Aa=true:=by
 unfold Bp at hg;rw [hs] at hg;simp only [aw,if_true] at hg;exact hg.2.1.1
theorem Aha {r:A1} (hg:Bp r=true):(slB r).size<=100:=by
 unfold slB
 split
 ·rename_i hs;have h:=Aqg hg hs;obtain ⟨-, -,hl, -⟩:=Rt h;have:=Abh h r.Aa.Ap.length;unfold Tw;omega
 ·decide
theorem Ayk {l:ar} (hg:Lv l):∀f∈l.drop 1,0<=f/\f.natAbs < 10 ^ (4+1):=fun f hf=>by
 obtain ⟨i,hi,rfl⟩:=bi hf;rw [db];have h1:=hg.n1;have h3:1+i < l.length:=by rw [aX] at hi;omega
 have h2:=hg.p (1+i) h3 EZ;have:(10:Nat) ^ (4+1)=100000:=FA
 omega
theorem Axh {l:ar} (hg:Lv l) (k:Nat):(bz (jn ((l.drop 1).take k))).size<=60:=by
 rw [Gk];have:=Axg (l:=(l.drop 1).take k) (k:=4) fun x hx=>Ayk hg x (bO hx);have h1:=hg.n1;rw [aP,aX] at this;have h2:min k (l.length - 1)<=7:=EZ
 have h3:(4+2) * min k (l.length - 1)<=(4+2) * 7:=Nat.mul_le_mul_left _ h2;omega
theorem Akx {l:ar} (hg:Lv l):(bz (jn (l.drop 1))).size<=60:=by
 have:=Axh hg (l.drop 1).length
 rwa [bl] at this
theorem Ru {n:Int} {k:Nat} (h0:0<=n) (h1:n.natAbs < 10 ^ (k+1)):(bz (Lib.itoa n)).size<=k+1:=by rw [Gk,Nc h0];exact Dv k _ h1
theorem Alm {x:Cr} (h:Ck x=true):0<=x.Ai/\x.Ai<=9999:=by
 unfold Ck at h;simp only [aw] at h;exact Mb.1 h.1.1.2
theorem As4 {c:B4} (hg:Lv c.Bb.Al.Ac) (h0:0<=c.Bb.Ab.Ai) (h1:c.Bb.Ab.Ai<=9999) (h2:0<=c.Il.count) (h3:c.Il.count<=60):(Bd4 c).size<=90:=by
 have e1:=Akx hg;have e2:(bz (Lib.itoa c.Bb.Ab.Ai)).size<=4:=Ru h0 (by show _ < 10000;omega);have e3:(bz (Lib.itoa c.Il.count)).size<=2:=Ru h2 (by show _ < 100;omega);have e4:(⟨#[59,32,99,108,111,99,107,32]⟩:au).size=8:=rfl;have e5:(⟨#[59,32,114,101,99,111,114,100,115,32]⟩:au).size=10:=rfl;have e6:(⟨#[10]⟩:au).size=1:=rfl;unfold Bd4;simp only [aE];omega
theorem Acr {c:B4} (hn:At c.Bb=true) {i:Nat} (hi:i < c.Bb.Ad.length) (h8:i < 8):(Ajj c.Bb.Ad[i] ((i:Nat):Int)).size<=103:=by
 have e1:(bz (Lib.itoa ((i:Nat):Int))).size<=1:=Ru (k:=0) EZ (by show _ < 10;omega);have e2:=Aha (Aa6 hn hi);have e3:(⟨#[32]⟩:au).size=1:=rfl;have e4:(⟨#[10]⟩:au).size=1:=rfl;unfold Ajj;simp only [aE];omega
theorem Ab4 {c:B4} (hn:At c.Bb=true) (h2:0<=c.Il.count) (h3:c.Il.count<=60):∀k,k<=(Tm c.Bb.Al.Ac).length->(Pj c k).size<=90+103 * k
 | 0,_=>by
  obtain ⟨g1,g2, -, -⟩:=Mj.1 hn;have:=Alm g2;exact As4 (Gf g1) this.1 this.2 h2 h3
 | k+1,hk=>by
  obtain ⟨g1, -,gl, -⟩:=Mj.1 hn;obtain ⟨-,q2, -, -⟩:=Bg.1 gl;have g8:=(Gf g1).n1;obtain ⟨i,hi,e, -⟩:=Ak6 (show k < (Tm c.Bb.Al.Ac).length by omega);have ih:=Ab4 hn h2 h3 k EZ;have:=Acr hn (show i < c.Bb.Ad.length by omega) EZ;rw [Ab5 EZ,e,Agx EZ,aE];omega
section
variable {c:Cx} {fr:Fr} {H:List Pc} {Φ:Gl}
end
end Go.Proofs.YtkoldibamfjghaaGreatDoor
namespace Go.Proofs.YtkoldibamfjghaaGreatDoor.Lg
open Go.RowKit
theorem Acf (c:UInt8):∀l:List UInt8,decide (0<=Lib.indexByte l c)=Jz c l:=by
 intro l;have h1:∀l:List UInt8, -1<=Lib.indexByte l c:=by
  intro l
  induction l with
  | nil=>simp [Lib.indexByte]
  | cons b l ih=>simp only [Lib.indexByte];split <;> (try split) <;> omega
 have h2:∀l:List UInt8,(0<=Lib.indexByte l c)↔Jz c l=true:=by
  intro l
  induction l with
  | nil=>simp [Lib.indexByte,Jz]
  | cons b l ih =>
   have h2:=h1 l;rw [show Jz c (b::l)=(b == c || Jz c l) from rfl,bZ,<-ih];simp only [Lib.indexByte];by_cases hb:(b == c)=true
   ·simp [hb]
   ·rw [aC hb];simp only [hb]
    split
    ·rename_i h3;simp at h3;simp [h3]
    ·rename_i h3;simp at h3;omega
 rw [cG,fl];exact h2 l
theorem Afn (s:au) (c:UInt8) (w:World):Calls prog 108 #[af s,af ⟨#[c]⟩] w fun e w'=>e=.returned (.bool (Jz c s.data.toList))/\w=w' :=
 (Tryz.strings_Contains_one s c w).mono fun _ _ ⟨he,hw⟩=>⟨by rw [he,Acf],hw.symm⟩
def Bp (c r:au):Bool:=E8 1 c.size 160 && decide ((r.size:Int)<=200) && Ip c.data.toList && Ip r.data.toList && !Jz 64 c.data.toList
theorem Wd (c r:au) (w:World) (hc:c.size<=maxLen) (hr:r.size<=maxLen) :
  Calls prog 56 #[.agg #[af c,af r]] w (RB (.bool (Bp c r)) w):=by
 go_enter func56,ntmps56
 go_wp2_with (first
  | (go_at_call 106;refine (H1 _ _ _ _).mono ?_;rintro e w' ⟨rfl,rfl⟩)
  | (go_at_call 107;refine (Am6 _ _ FR).mono ?_;rintro e w' ⟨rfl,rfl⟩)
  | (go_at_call 108;refine (Afn _ _ _).mono ?_;rintro e w' ⟨rfl,rfl⟩))
 all_goals go_ret
 all_goals refine ⟨Cn ?_,(Below.refl _ _).alloc (aL _) _⟩
 all_goals simp [Bp, *]
 all_goals omega
theorem Apr (c r:au):Bp c r=(!c.data.toList.isEmpty && (Ip c.data.toList && decide ((c.size:Int)<=160)) && !Jz 64 c.data.toList && (Ip r.data.toList && decide ((r.size:Int)<=200))):=by
 have h0:(!c.data.toList.isEmpty)=decide ((1:Int)<=c.size):=by
  have e:c.data.toList.length=c.size:=FB
  cases h:c.data.toList with
  | nil=>rw [h] at e;simp at e;simp [<-e]
  | cons b l=>rw [h] at e;simp at e;simp;omega
 rw [h0,Bp,E8];cases decide ((1:Int)<=c.size) <;> cases decide ((c.size:Int)<=160) <;> cases decide ((r.size:Int)<=200) <;> cases Ip c.data.toList <;> cases Ip r.data.toList <;> simp
theorem Si (c r:au) (w:World) (hc:c.size<=maxLen) (hr:r.size<=maxLen) :
  Calls prog 39 #[.agg #[af c,af r]] w (RB (.bool (Bp c r)) w):=by
 go_enter func39,ntmps39
 go_wp2_with (first
  | (go_at_call 67;refine (Ap3 _ _ _ FR).mono ?_;rintro e w' ⟨rfl,rfl⟩)
  | (go_at_call 68;refine (Ap2 _ 64 _ FR).mono ?_;rintro e w' ⟨rfl,rfl⟩))
 all_goals go_ret
 all_goals refine ⟨Cn ?_,(Below.refl _ _).alloc (aL _) _⟩
 all_goals simp only [ByteArray.toList_eq] at *
 all_goals rw [Apr]
 ·have h:c.data.toList=[]:=FR
  simp [h]
 ·have h:Jz 64 c.data.toList=true:=FR
  simp [h]
 ·have h1:¬c.data.toList=[]:=FR
  have h2:Ip c.data.toList=true/\(c.size:Int)<=160:=FR
  have h3:¬Jz 64 c.data.toList=true:=FR
  simp [h2,h3, -List.isEmpty_iff,List.isEmpty_eq_false_iff.2 h1]
 ·have h2:¬(Ip c.data.toList=true/\(c.size:Int)<=160):=FR
  have h3:(Ip c.data.toList && decide ((c.size:Int)<=160))=false:=by
   rw [Bool.eq_false_iff];intro h;simp only [aw,fl] at h;exact h2 h
  rw [h3];simp
def bs (l:Bs):au:=⟨l.toArray⟩
theorem Jg (l:Bs):(bs l).data.toList=l:=by simp [bs]
theorem Adj (s:au):bs s.data.toList=s:=by simp [bs]
theorem Jh (l:Bs):(bs l).size=l.length:=by simp [bs,ByteArray.size]
theorem Cp (s:au):s.data.toList.length=s.size:=by simp
theorem Hx (s t:au):(s++t).data.toList=s.data.toList++t.data.toList:=by simp [cF]
theorem Ab1 (s t:au):s++t=bs (s.data.toList++t.data.toList):=by rw [<-Hx,Adj]
theorem Yi {a b:au} (h:a=b):Ending.returned (af a)=.returned (af b):=by rw [h]
def Abx:Bt Unit where
 sz:=0
 L8 w cs _ F:=cs=[]/\Lib.TabIs prog w "internal/strconv.uint64pow10" .u64 Lib.pow10Tab/\F=[1]/\1 < w.heap.size
 len h:=JN
 lt h:=by intro b hb;rw [h.2.2.1] at hb;simp at hb;rw [hb];exact h.2.2.2
 frame h hF:=by
  obtain ⟨h1,h2,rfl,h4⟩:=h;have e:=hF 1 FB;refine ⟨h1,?_,rfl,?_⟩
  ·unfold Lib.TabIs World.var? at h2 ⊢;rw [show prog.globalNamed "internal/strconv.uint64pow10" = some 1 by kernel_rfl] at h2 ⊢;simp only [dh] at h2 ⊢;rw [e];exact h2
  ·rw [dW h4] at e;exact (bK.1 e).1
theorem Abx.tab {w:World} {F:aq} (h:Ro Abx w (.agg #[]) () F):Lib.TabIs prog w "internal/strconv.uint64pow10" .u64 Lib.pow10Tab:=by
 obtain ⟨cs,_,h⟩:=h;exact h.2.1
theorem Zi (w:World) (k:Nat) (os:Array Obj):Below w.heap.size w (Go.Sort.grow (w.drewN k) os):=by
 refine ⟨rfl,rfl,rfl,?_,fun i hi=>?_⟩
 ·simp [Go.Sort.grow,World.drewN]
 ·simp [Go.Sort.grow,World.drewN,dL hi]
theorem Av3 (n:Nat) (hn:n<=9223372036854775807) (F:aq) (w:World) (hT:Ro Abx w (.agg #[]) () F) :
  Calls prog 29 #[aa (n:Int)] w (RB (af (bs (Lib.decDigits n))) w):=by
 refine (Tryz.strconv_Itoa (n:Int) EZ EZ w (Abx.tab hT)).mono ?_;rintro e w' ⟨rfl,k,os,rfl⟩;refine ⟨Yi ?_,Zi w k os⟩;unfold bs;rw [show Lib.itoa (n:Int)=Lib.decDigits n from by unfold Lib.itoa;rw [aC EZ];simp]
theorem Aj7 (l:Bs) (c:UInt8):((Sa (l++[c]):Nat):Int)=(41 * (Sa l:Int)+(c.toNat:Int)+1) % 999979:=by
 rw [Avf];unfold Abl;omega
theorem Apf (s:au) (w:World) (hs:s.size<=maxLen) :
  Calls prog 200 #[af s] w fun e w'=>e=.returned (aa (Sa s.data.toList))/\w=w':=by
 unfold maxLen at hs
 go_enter func200,ntmps200
 go_wp2
 go_loop [3,7] (fun h i=>∃k:Nat,k<=s.size/\i=aa k/\h=aa (Sa (s.data.toList.take k))) (fun _ i=>s.size - (intOf i).toNat)
 case atStart=>exact ⟨0,aG _,rfl,rfl⟩
 case round =>
  obtain ⟨k,hk,rfl,rfl⟩:=hrel;by_cases hlt:k < s.size
  ·have hb:(s[k].toNat:Int)<=255:=IB
   have hS:=Lib.hid (Aj7 (s.data.toList.take k) s[k]);rw [<-Aj9 s k hlt] at hS;have hl:=Abk (s.data.toList.take k);generalize Sa (s.data.toList.take k)=n at *
   go_wp2
   go_round
   case rel=>exact ⟨k+1,EZ,HQ,by rw [hS.out]⟩
   case measure=>simp [intOf];omega
  ·go_wp2
   go_ret
   exact ⟨Lo (by rw [Aot s k hlt]),rfl⟩
theorem Bbu (s:au) (w:World) (hs:s.size<=maxLen) :
  Calls prog 215 #[af s] w fun e w'=>e=.returned (aa (Sa s.data.toList))/\w=w':=by
 unfold maxLen at hs
 go_enter func215,ntmps215
 go_wp2
 go_loop [3,4] (fun h i=>∃k:Nat,k<=s.size/\i=aa k/\h=aa (Sa (s.data.toList.take k))) (fun _ i=>s.size - (intOf i).toNat)
 case atStart=>exact ⟨0,aG _,rfl,rfl⟩
 case round =>
  obtain ⟨k,hk,rfl,rfl⟩:=hrel;by_cases hlt:k < s.size
  ·have hb:(s[k].toNat:Int)<=255:=IB
   have hS:=Lib.hid (Aj7 (s.data.toList.take k) s[k]);rw [<-Aj9 s k hlt] at hS;have hl:=Abk (s.data.toList.take k);generalize Sa (s.data.toList.take k)=n at *
   go_wp2
   go_round
   case rel=>exact ⟨k+1,EZ,HQ,by rw [hS.out]⟩
   case measure=>simp [intOf];omega
  ·go_wp2
   go_ret
   exact ⟨Lo (by rw [Aot s k hlt]),rfl⟩
theorem Vl:∀(k n:Nat) (w:World),n < 10 ^ (k+1)->n<=999999999999999999 ->
  Calls prog 33 #[aa (n:Int)] w fun e w'=>e=.returned (af (bs (Lib.decDigits n)))/\∃j,w'=w.drewN j:=_root_.Go.Proofs.YtkoldibamfjghaaGreatDoor.Vl
theorem Axp (s:au) (w:World) (hs0:s.size<=4294967296) :
  Calls prog 126 #[af s] w fun e w'=>e=.returned (af (bs (N8 s.data.toList)))/\∃j,w'=w.drewN j:=by
 have hl:=Abk s.data.toList;have hn:=fun w=>Vl 5 (Sa s.data.toList) w EZ EZ;have hS:Hid (s++⟨#[35]⟩++bs (Lib.decDigits (Sa s.data.toList))=bs (N8 s.data.toList)):=by
  refine Lib.hid ?_;rw [Ab1,Hx,Jg];congr 1;simp [N8]
 have hD:(bs (Lib.decDigits (Sa s.data.toList))).size<=6:=by rw [Jh];exact Dv 5 _ EZ
 generalize bs (Lib.decDigits (Sa s.data.toList))=D at *;have hs:s.size<=maxLen:=FH
 go_enter func126,ntmps126
 go_wp2_with (first
  | (go_at_call 215;refine (Bbu _ _ FR).mono ?_;rintro e w' ⟨rfl,rfl⟩)
  | (go_at_call 33;refine (hn _).mono ?_;rintro e w' ⟨rfl,j,rfl⟩))
 go_ret
 exact ⟨Yi hS.out,_,rfl⟩
theorem Pm (c:UInt8):∀l:Bs,(c∈l->Lib.indexByte l c=(Ea c l).length)/\(c ∉ l->Lib.indexByte l c=-1)
 | []=>by simp [Lib.indexByte]
 | b::l=>by
  obtain ⟨h1,h2⟩:=Pm c l;unfold Lib.indexByte Ea;by_cases hb:b=c
  ·subst hb;simp
  ·have hb':(b == c)=false:=IY
   rw [hb'];have hm:c∈b::l↔c∈l:=by
    rw [aH];exact ⟨fun h=>h.resolve_left (fun e=>hb e.symm),.inr⟩
   rw [hm];refine ⟨fun h=>?_,fun h=>?_⟩
   ·rw [h1 h];have:((Ea c l).length:Int)≠-1:=EZ
    simp [Ea,hb] at this ⊢
   ·rw [h2 h];simp
theorem Abp (c:UInt8) (l:Bs):(Ea c l).length<=l.length:=by
 unfold Ea;exact (List.takeWhile_sublist _).length_le
theorem Ask {c:UInt8} {l:Bs} (h:c∈l):(Ea c l).length < l.length:=by
 rcases Oq c l with ⟨_,h2⟩|⟨h2,_⟩
 ·have:=congrArg List.length h2;simp at this;omega
 ·exact absurd h h2
def P8 (c:UInt8) (s:au):au:=bs (Ea c s.data.toList)
def Rd (c:UInt8) (s:au):au:=bs (Ma c s.data.toList)
theorem Ari {c:UInt8} {s:au} (h:c∈s.data.toList):s.extract 0 (Ea c s.data.toList).length=P8 c s/\s.extract ((Ea c s.data.toList).length+1) s.size=Rd c s:=by
 rcases Oq c s.data.toList with ⟨_,h2⟩|⟨h2,_⟩
 ·constructor
  ·rw [Lib.extract_eq];unfold P8 bs;congr 2;rw [dw,gA];exact (congrArg (List.take _) h2).trans fU
  ·rw [Lib.extract_eq];unfold Rd bs;congr 2;rw [aV FB];refine (congrArg (List.drop _) h2).trans ?_;rw [<-cA,fb];rfl
 ·exact absurd h h2
theorem Aui (s:au) (c:UInt8) (w:World) (hs:s.size<=maxLen) :
  Calls prog 160 #[af s,af ⟨#[c]⟩] w fun e w'=>e=.returned (.tuple #[af (P8 c s),af (Rd c s),.bool (Jz c s.data.toList)])/\∃j,w'=w.drewN j:=by
 unfold maxLen at hs;have hi:=fun w=>Tryz.stringslite_Index_one s c w;by_cases h:c∈s.data.toList
 ·have hc:=Ari h;have hl:=Ask h;rw [Cp] at hl;have hst:Jz c s.data.toList=true:=by unfold Jz;rw [cJ];exact ⟨c,h,FB⟩
  have hst:=Lib.hid hst;rw [(Pm c _).1 h] at hi;generalize (Ea c s.data.toList).length=n at *;have hc1:=Lib.hid hc.1;have hc2:=Lib.hid hc.2;clear hc
  go_enter func160,ntmps160
  go_wp2_with (go_at_call 179;refine (hi _).mono ?_;rintro e w' ⟨rfl,rfl⟩)
  go_quiet (fail)
  go_wp2_with fail;refine bodyPost_ret (v:=.tuple #[af (P8 c s),af (Rd c s),.bool true]) ?_ rfl ?_
  ·simp [results,results160,go_sem,hc1.out,hc2.out]
  ·exact ⟨by rw [hst.out],_,rfl⟩
 ·have hst:Jz c s.data.toList=false:=by unfold Jz;rw [cD];intro x hx;simp;rintro rfl;exact h hx
  have h1:P8 c s=s:=by unfold P8;rw [Asl (fun x hx e=>h (by rw [<-e];exact hx)),Adj]
  have h2:Rd c s=⟨#[]⟩:=by unfold Rd;rw [Aif (fun x hx e=>h (by rw [<-e];exact hx))];rfl
  rw [(Pm c _).2 h] at hi;replace hst:=Lib.hid hst;replace h1:=Lib.hid h1;replace h2:=Lib.hid h2
  go_enter func160,ntmps160
  go_wp2_with (go_at_call 179;refine (hi _).mono ?_;rintro e w' ⟨rfl,rfl⟩);refine bodyPost_ret (v:=.tuple #[af s,af ⟨#[]⟩,.bool false]) ?_ rfl ?_
  ·simp [results,results160,go_sem]
  ·exact ⟨by rw [hst.out,h1.out,h2.out],0,rfl⟩
end Go.Proofs.YtkoldibamfjghaaGreatDoor.Lg
namespace Go.Proofs.YtkoldibamfjghaaGreatDoor
open Go.RowKit
structure Nz where
 I2:au
 Gj:au
def Mo:Bt Nz where
 sz:=2
 L8 _ cs x F:=cs=[af x.I2,af x.Gj]/\x.I2.size<=maxLen/\x.Gj.size<=maxLen/\F=[]
 len h:=by obtain ⟨rfl,s1,s2,rfl⟩:=h;rfl
 lt h:=by obtain ⟨rfl,s1,s2,rfl⟩:=h;simp
 frame h _:=h
theorem Xi:One Mo:=fun h u hu=>by
 obtain ⟨rfl,s1,s2,rfl⟩:=h;simp only [aH,aT,bm] at hu;rcases hu with rfl|rfl
 ·rfl
 ·rfl
theorem Af7:(prog.info? 56).map (fun i=>(i.zero,i.size,i.bytes))=some (some (.agg #[af ⟨#[]⟩,af ⟨#[]⟩]),2,32):=by kernel_rfl
end Go.Proofs.YtkoldibamfjghaaGreatDoor
namespace Go.Proofs.YtkoldibamfjghaaGreatDoor.Lg
open Go.RowKit
theorem N0 (c r:au):Bp c r=Adn c.data.toList r.data.toList:=by
 unfold Bp Adn;rw [Cp,Cp]
theorem Ayz {a b:au} {x y:Bool} (h:a=b) (h2:x=y):Ending.returned (.tuple #[af a,.bool x])=.returned (.tuple #[af b,.bool y]):=by rw [h,h2]
theorem Avu (s:au) (c:UInt8) (w:World) (hs:s.size<=maxLen) :
  Calls prog 84 #[af s,af ⟨#[c]⟩] w fun e w'=>e=.returned (.tuple #[af (P8 c s),af (Rd c s),.bool (Jz c s.data.toList)])/\∃j,w'=w.drewN j:=by
 go_enter func84,ntmps84
 go_wp2_with (go_at_call 160;refine (Aui _ _ _ hs).mono ?_;rintro e w' ⟨rfl,j,rfl⟩);refine bodyPost_ret (v:=.tuple #[af (P8 c s),af (Rd c s),.bool (Jz c s.data.toList)]) ?_ rfl ⟨rfl,_,rfl⟩;simp [results,results84,go_sem]
theorem R6 {s:au} {n:Nat} (h:s.data.toList.length<=n):s.size<=n:=by rwa [Cp] at h
theorem Aaf (s:au) (F:aq) (w:World) (hs0:s.size<=3000) (h35:∀b∈s.data.toList,b≠35) (hT:Ro Abx w (.agg #[]) () F) :
  Calls prog 117 #[af s] w (RB (.tuple #[af (bs (N8 s.data.toList)),.bool true]) w):=by
 have hl:=Abk s.data.toList;have hD:(bs (Lib.decDigits (Sa s.data.toList))).size<=6:=by rw [Jh];exact Dv 5 _ EZ
 have hS:Hid (s++⟨#[35]⟩++bs (Lib.decDigits (Sa s.data.toList))=bs (N8 s.data.toList)):=by
  refine Lib.hid ?_;rw [Ab1,Hx,Jg];congr 1;simp [N8]
 have hI:=fun w F hT=>Av3 (Sa s.data.toList) EZ F w hT;have hs:s.size<=maxLen:=FH
 have hst:Jz 35 s.data.toList=false:=by unfold Jz;rw [cD];intro x hx;simp;exact h35 x hx
 have hct:=fun w=>Afn s 35 w;rw [hst] at hct;generalize bs (Lib.decDigits (Sa s.data.toList))=D at *;clear hst h35
 go_enter func117,ntmps117
 go_wp2_with (first
  | (go_at_call 108;refine (hct _).mono ?_;rintro e w' ⟨rfl,rfl⟩)
  | (go_at_call 200;refine (Apf _ _ FR).mono ?_;rintro e w' ⟨rfl,rfl⟩)
  | (go_at_call 29;refine (hI _ _ hT).mono ?_;rintro e w' ⟨rfl,hb⟩))
 refine bodyPost_ret (v:=.tuple #[af (s++⟨#[35]⟩++D),.bool true]) ?_ rfl ⟨Ayz hS.out rfl,hb⟩;simp [results,results117,go_sem]
theorem Beb (s:au) (f k:Nat):s.extract f k=bs ((s.data.toList.drop f).take (k - f)):=Lib.extract_eq s f k
theorem X6 (s:au) (f:Nat):s.extract f s.size=bs (s.data.toList.drop f):=by
 rw [Lib.extract_eq];unfold bs;rw [aV FB]
theorem Acn (s:au) (c:UInt8) (w:World) (hs:s.size<=16777216) :
  Calls prog 26 #[af s,.int .u8 (c.toNat:Int)] w (Wr A8 9 ((Dm c s.data.toList).map bs) w) :=
 ((Ya s c hs).made w (fun _ h=>by cases h) (fun _=>rfl)).mono fun e w1 ⟨z,_,he,hH,hn,hF,hB⟩=>⟨_,z.2.2,he,(hH _ (aM.2 rfl)).2,by simpa [fp,Pc.F] using hn,by simpa [fp,Pc.F] using hF,hB⟩
end Go.Proofs.YtkoldibamfjghaaGreatDoor.Lg
namespace Go.Proofs.YtkoldibamfjghaaGreatDoor
open Go.RowKit
section
variable {c:Cx} {fr:Fr} {H:List Pc} {Φ:Gl}
theorem Ah1 (x:Nz) (s1:x.I2.size<=maxLen) (s2:x.Gj.size<=maxLen) (w:World):Cz Mo w [af x.I2,af x.Gj] [x] []:=⟨_,[],[],[],FB,FB,⟨rfl,s1,s2,rfl⟩,rfl,rfl⟩
end
end Go.Proofs.YtkoldibamfjghaaGreatDoor
namespace Go.Proofs.YtkoldibamfjghaaGreatDoor.Lg
open Go.RowKit
theorem Amg (k:Nat) (c r:au):bs (Lib.decDigits k)++⟨#[32]⟩++c++⟨#[64]⟩++r=bs (Kw k c.data.toList r.data.toList):=by
 rw [Ab1 (_++_) r,Hx,Hx,Hx,Jg];congr 1;simp [Kw]
theorem Awj (l:Bs):bs l++⟨#[10]⟩=bs (l++[10]):=by rw [Ab1,Jg]
theorem Afl {P:Program} {f:FuncId} {a:Array Value} {w:World} {v:Value} (h:Calls P f a w fun e w1=>e=.returned v/\∃j,w1=w.drewN j):Calls P f a w (RB v w):=h.mono fun e w1 ⟨he,j,hj⟩=>⟨he,HY⟩
theorem sz1 (x:UInt8):(⟨#[x]⟩:au).size=1:=rfl
theorem Aft (k:Nat) (c r:au) (F:aq) (hk:k<=59) (hg:Yq c.data.toList r.data.toList):FV 58 [aa (k:Int),.agg #[af c,af r]] [.isv Abx (.agg #[]) () F] (af (bs (Ke k c.data.toList r.data.toList))):=by
 have hb0:=Ab2 hk hg;have hm:=Sf (k:=k) hg;have hX:=Amg k c r;have hc1:c.size<=160:=R6 hg.c1;have hr1:r.size<=200:=R6 hg.r1;have hD:(bs (Lib.decDigits k)).size<=2:=KO
 have hE:(bs (N8 (Kw k c.data.toList r.data.toList))).size<=400:=by rw [Jh];have:=Ac3 (Kw k c.data.toList r.data.toList);omega
 have hN:=Awj (N8 (Kw k c.data.toList r.data.toList));have hI:=fun w hT=>Av3 k EZ F w hT;have hA:=fun w hT=>Aaf (bs (Kw k c.data.toList r.data.toList)) F w (by rw [Jh];omega) (by rw [Jg];exact fun b hb=>(hm b hb).2) hT;rw [Jg,<-hX] at hA;rw [show bs (Ke k c.data.toList r.data.toList)=bs (N8 (Kw k c.data.toList r.data.toList)++[10]) from rfl];generalize bs (Lib.decDigits k)=D at *;generalize bs (N8 (Kw k c.data.toList r.data.toList))=E at *;refine enter func58 rfl ntmps58 fun w0=>?_;refine go ?_;intros;refine Ar [0] [] ?_;refine Df 0 3 4 7 ?_;refine dt 8 ?_;refine dN 1 ?_;refine oC ?_
 refine cb (fun w st=>hI w (st.get (p:=.isv Abx (.agg #[]) () F) FD)) ?_;refine dk ?_;refine dt 2 ?_ (hy:=Hi rfl rfl GI);refine dt 5 ?_ (hy:=Hi rfl rfl GI);refine dt 6 ?_ (hy:=Hi rfl rfl GI);refine dt 9 ?_ (hy:=Hi rfl rfl GI);refine dN 10 ?_;refine oC ?_;refine cb (fun w st=>hA w (st.get (p:=.isv Abx (.agg #[]) () F) FD)) ?_;refine dk ?_;refine Df 11 12 13 14 ?_;refine dt 15 ?_;refine dd ?_
 refine go ?_;intros;apply wO;apply oc;rfl;exact Hi rfl rfl (by rw [sz1];omega);refine go ?_;intros;refine ret () trivial ?_;rw [<-hN];rfl
theorem Wy (k:Nat) (c r:au) (F:aq) (w:World) (hk:k<=59) (hg:Yq c.data.toList r.data.toList) (hT:Ro Abx w (.agg #[]) () F) :
  Calls prog 58 #[aa (k:Int),.agg #[af c,af r]] w (RB (af (bs (Ke k c.data.toList r.data.toList))) w):=(Aft k c r F hk hg).val w (Iw hT)
theorem Ajf (k:Nat) (c r:au) (hk:k<=59) (hg:Yq c.data.toList r.data.toList):FV 65 [aa (k:Int),.agg #[af c,af r]] [] (af (bs (Ke k c.data.toList r.data.toList))):=by
 have hb0:=Ab2 hk hg;have hm:=Sf (k:=k) hg;have hX:=Amg k c r;have hc1:c.size<=160:=R6 hg.c1;have hr1:r.size<=200:=R6 hg.r1;have hD:(bs (Lib.decDigits k)).size<=2:=KO
 have hE:(bs (N8 (Kw k c.data.toList r.data.toList))).size<=400:=by rw [Jh];have:=Ac3 (Kw k c.data.toList r.data.toList);omega
 have hN:=Awj (N8 (Kw k c.data.toList r.data.toList));have hI:=fun w=>Afl (Vl 1 k w EZ EZ);have hA:=fun w=>Afl (Axp (bs (Kw k c.data.toList r.data.toList)) w (by rw [Jh];omega));rw [Jg,<-hX] at hA;rw [show bs (Ke k c.data.toList r.data.toList)=bs (N8 (Kw k c.data.toList r.data.toList)++[10]) from rfl];generalize bs (Lib.decDigits k)=D at *;generalize bs (N8 (Kw k c.data.toList r.data.toList))=E at *;refine enter func65 rfl ntmps65 fun w0=>?_;refine go ?_;intros;refine Ar [0] [] ?_;refine Df 0 3 4 7 ?_;refine dt 8 ?_;refine dN 1 ?_;refine oC ?_;refine cb (fun w st=>hI w) ?_
 refine dk ?_;refine dt 2 ?_ (hy:=Hi rfl rfl GI);refine dt 5 ?_ (hy:=Hi rfl rfl GI);refine dt 6 ?_ (hy:=Hi rfl rfl GI);refine dt 9 ?_ (hy:=Hi rfl rfl GI);refine dN 10 ?_;refine oC ?_;refine cb (fun w st=>hA w) ?_;refine dk ?_;refine dt 11 ?_ (hy:=Hi rfl rfl GI);refine dt 12 ?_;refine dd ?_;refine go ?_;intros;refine ret () trivial ?_;rw [<-hN];rfl
theorem Aub (k:Nat) (c r:au) (w:World) (hk:k<=59) (hg:Yq c.data.toList r.data.toList) :
  Calls prog 65 #[aa (k:Int),.agg #[af c,af r]] w (RB (af (bs (Ke k c.data.toList r.data.toList))) w):=(Ajf k c r hk hg).val w nofun
theorem Bbh {a b:au} (h:Bp a b=true):Yq a.data.toList b.data.toList:=Ja (by rw [<-N0];exact h)
theorem Ar7 {l:Bs} {k:Nat} (h:(Ea 35 l).length < (Hk k).length\/(Ea 35 l).take (Hk k).length≠Hk k):Tf l k=(([],[]),false):=by
 unfold Tf;rw [aJ h]
theorem Bcf {l:Bs} {k:Nat} {rest:Bs} (h:¬((Ea 35 l).length < (Hk k).length\/(Ea 35 l).take (Hk k).length≠Hk k)) (hr:rest=(Ea 35 l).drop (Hk k).length) (h2:(Ea 64 rest).length=rest.length):Tf l k=(([],[]),false):=by
 subst hr;unfold Tf;rw [aC h];simp only [];rw [aJ h2]
theorem Bcg {l:Bs} {k:Nat} {rest:Bs} (h:¬((Ea 35 l).length < (Hk k).length\/(Ea 35 l).take (Hk k).length≠Hk k)) (hr:rest=(Ea 35 l).drop (Hk k).length) (h2:¬(Ea 64 rest).length=rest.length) :
  Tf l k=((Ea 64 rest,rest.drop ((Ea 64 rest).length+1)),Adn (Ea 64 rest) (rest.drop ((Ea 64 rest).length+1)) && (Ke k (Ea 64 rest) (rest.drop ((Ea 64 rest).length+1)) == l++[10])):=by
 subst hr;unfold Tf;rw [aC h];simp only [];rw [aC h2]
theorem Awz (l:Bs) (n:Nat):(bs l).extract 0 n=bs (l.take n):=by rw [Beb,Jg];simp
theorem Awy (l:Bs) (n:Nat):(bs l).extract n (bs l).size=bs (l.drop n):=by rw [X6,Jg]
theorem Awm {a b:Bs}:bs a=bs b↔a=b:=⟨fun h=>by have:=congrArg (fun x=>x.data.toList) h;simpa [Jg] using this,fun h=>by rw [h]⟩
theorem Alk {c:UInt8} {l:Bs} (h:0 < ((Dm c l).map bs).length):((Dm c l).map bs)[0]=bs (Ea c l):=by
 obtain ⟨r,hr,_⟩:=O9 c l;simp [hr]
theorem All (c:UInt8) (l:Bs):0 < ((Dm c l).map bs).length:=by
 obtain ⟨r,hr,_⟩:=O9 c l;simp [hr]
theorem Auc (s:au) (k:Nat) (hk:k<=59) (hs:s.size<=16777216):FV 208 [af s,aa (k:Int)] [] (.tuple #[.agg #[af (bs (Tf s.data.toList k).1.1),af (bs (Tf s.data.toList k).1.2)],.bool (Tf s.data.toList k).2]):=by
 have hI:=fun w=>Afl (Vl 1 k w EZ EZ);have hah:bs (Lib.decDigits k)++⟨#[32]⟩=bs (Hk k):=by rw [Ab1,Jg];rfl
 have hD:(bs (Lib.decDigits k)).size<=2:=KO
 have hT0:=Abp 35 s.data.toList;rw [Cp] at hT0;have e0:=Jh (Hk k);have hA:(Hk k).length<=3:=by have:=Dv 1 k EZ;simp [Hk];omega
 have e1:=Jh (Ea 35 s.data.toList);have e2:=Awz (Ea 35 s.data.toList) (Hk k).length;have e3:=Awy (Ea 35 s.data.toList) (Hk k).length;refine enter func208 rfl ntmps208 fun w0=>?_;refine go ?_;intros;refine cb (fun w st=>hI w) ?_;apply wO;apply oc;rfl;exact Hi rfl rfl (by rw [sz1];omega);rw [hah];refine go ?_;intros;refine cn (fun w st=>Acn s 35 w hs) fun a2 c2 F2=>?_;refine Av (E:=A8) (xs:=(Dm 35 s.data.toList).map bs) fun F3=>?_;have hi7:=All 35 s.data.toList;refine Jv (xs:=(Dm 35 s.data.toList).map bs) 0 ?_;rintro hi0 b0 o0 rfl q0;rw [Alk];rw [<-e0] at e2 e3
 have e4:(Ea 35 s.data.toList).take (bs (Hk k)).size=Hk k↔(bs (Ea 35 s.data.toList)).extract 0 (bs (Hk k)).size=bs (Hk k):=by rw [e2,Awm]
 rw [e0] at e4;have hr3:((bs (Ea 35 s.data.toList)).extract (bs (Hk k)).size (bs (Ea 35 s.data.toList)).size).data.toList=(Ea 35 s.data.toList).drop (Hk k).length:=by rw [e3,Jg,e0]
 generalize bs (Ea 35 s.data.toList)=tx at *;rw [<-e0] at e4;generalize bs (Hk k)=ah at *;refine go ?_;intros;by_cases hlt:tx.size < ah.size
 ·rw [Ar7 (.inl EZ),show decide ((tx.size:Int) < (ah.size:Int))=true from av EZ];refine go ?_;intros;exact BC
 rw [show decide ((tx.size:Int) < (ah.size:Int))=false from ay EZ];refine go ?_;intros;apply wO;apply oc;rfl;exact Ade rfl rfl EZ EZ;refine go ?_;intros;refine A4 rfl (fun h4=>?_) (fun h4=>?_)
 ·rw [Ar7 (.inr (fun e=>h4 (e4.1 (by rw [e0];exact e))))];refine go ?_;intros;exact BC
 have h4:tx.extract 0 ah.size=ah:=dp.1 h4;have hyes:¬((Ea 35 s.data.toList).length < (Hk k).length\/(Ea 35 s.data.toList).take (Hk k).length≠Hk k):=by
  rintro (h|h)
  ·omega
  ·exact h (by rw [<-e0];exact e4.2 h4)
 refine go ?_;intros;apply wO;apply oc;rfl;exact V8 rfl rfl EZ EZ;rw [show tx.extract ((ah.size:Nat):Int).toNat tx.size=tx.extract ah.size tx.size from rfl];have hrz:(tx.extract ah.size tx.size).size<=16777216:=JC
 generalize tx.extract ah.size tx.size=rs at *;refine go ?_;intros;refine cn (fun w st=>Acn rs 64 w hrz) fun a4 c4 F4=>?_;refine Av (E:=A8) (xs:=(Dm 64 rs.data.toList).map bs) fun F5=>?_;have hi8:=All 64 rs.data.toList;refine Jv (xs:=(Dm 64 rs.data.toList).map bs) 0 ?_;rintro hi1 b1 o1 rfl q1;rw [Alk];have e5:=Jh (Ea 64 rs.data.toList);have e6:=Abp 64 rs.data.toList;have e7:=X6 rs ((Ea 64 rs.data.toList).length+1);have e8:=Cp rs;have e9:=Jg (Ea 64 rs.data.toList);have hnb:=fun h=>Bcf (l:=s.data.toList) (k:=k) hyes hr3 h;have hnc:=fun h=>Bcg (l:=s.data.toList) (k:=k) hyes hr3 h;rw [<-e5] at e7
 generalize bs (Ea 64 rs.data.toList)=ak at *;refine go ?_;intros;refine A4 rfl (fun h5=>?_) (fun h5=>?_)
 ·rw [hnb EZ];refine go ?_;intros;exact BC
 have hno:=hnc EZ;refine go ?_;intros;apply wO;apply oc;rfl;exact V8 rfl rfl EZ EZ;rw [show rs.extract ((ak.size:Int)+1).toNat rs.size=rs.extract (ak.size+1) rs.size from rfl];have hrp:(rs.extract (ak.size+1) rs.size).size<=16777216:=JC
 have p1:(rs.extract (ak.size+1) rs.size).data.toList=rs.data.toList.drop ((Ea 64 rs.data.toList).length+1):=by rw [e7,Jg,e5]
 generalize rs.extract (ak.size+1) rs.size=rp at *;rw [<-p1,<-e9,<-N0] at hno;refine go ?_;intros;rw [hno];cases hg:Bp ak rp
 ·skip
  refine Ar [0] [] ?_;refine Dh 0 1 ?_;refine dN 2 ?_;refine oC ?_;refine cb (fun w st=>Si ak rp w FH FH) ?_;rw [hg];refine dk ?_;refine dt 3 ?_;refine ds 4 ?_;refine ds 5 ?_;refine ds 6 ?_;refine ds 7 ?_;refine ds 8 ?_;refine ds 9 ?_;refine dt 10 ?_;refine dN 11 ?_;refine oS ?_;refine dk ?_;refine dt 12 ?_;refine dd ?_;refine go ?_;intros;refine ret () trivial ?_;dsimp only;rw [Adj,Adj];rw [cX];rfl
 ·skip
  refine Ar [0] [] ?_;refine Dh 0 1 ?_;refine dN 2 ?_;refine oC ?_;refine cb (fun w st=>Si ak rp w FH FH) ?_;rw [hg];refine dk ?_;refine dt 3 ?_;refine C5 4 ?_;refine C5 5 ?_;refine C5 7 ?_;refine C5 8 ?_ (hy:=Hi rfl rfl (by rw [sz1];omega));refine d1g 6 ?_;apply On.h;refine oC ?_;refine Bf (Ajf k ak rp hk (Bbh hg)) fun _ _=>?_;refine dk ?_;refine C5 9 ?_;refine dt 10 ?_;refine dN 11 ?_;refine oS ?_;refine dk ?_;refine dt 12 ?_;refine dd ?_;refine go ?_;intros;refine ret () trivial ?_;dsimp only;rw [Adj,Adj]
  rw [bV,show (decide (bs (Ke k ak.data.toList rp.data.toList)=s++⟨#[10]⟩))=(Ke k ak.data.toList rp.data.toList == s.data.toList++[10]) from by
   rw [Ab1,cG];simp [Awm]]
  rfl
end Go.Proofs.YtkoldibamfjghaaGreatDoor.Lg
namespace Go.Proofs.YtkoldibamfjghaaGreatDoor
open Go.RowKit
theorem Au4 {n:Nat} {P:Program} {row:String} {args:Array Value} {w:World} {R:Value->World->Prop} (h:Rows P row args w R):RowsIn Fence.wide n P row args w R:=fun c cs _=>by
 obtain ⟨v,w',r,s⟩:=h c cs;exact ⟨v,w',r,stepsIn_wide.2 s⟩
theorem Agq {l n:Nat} {P:Program} {o:Oper} {a:Act} {w:World} {K:Act->World->Prop} {Q:Exit->Act->World->Prop} (hd:∀c,o.op≠.defer c) (h:o.wp P a w K Q) :
  o.wpIn (Fence.wide.inRound l) n P a w K Q:=by
 refine ⟨fun f _=>trivial,?_⟩;rw [Fence.inRound_round,Oper.semAt_some l _ _ hd];unfold Oper.wp at h;generalize (execOp a.eval o).run P w=r at *;cases r with
 | ok x w' =>
  cases x <;> simp only [Oper.upon,Oper.uponIn] at h ⊢ <;>
   first
    | exact h
    | exact ⟨(fun e=>by cases e),CallsIn.inRound l (callsIn_wide.2 h)⟩
    | exact ⟨(fun e=>by cases e),Au4 h⟩
 | halt x w'=>cases x <;> simp only [Oper.upon,Oper.uponIn] at h ⊢ <;> exact h
def Vs (o:Oper):Bool:=match o.op with
 | .defer _=>false
 | _=>true
theorem Ags {o:Oper} (h:Vs o=true):∀c,o.op≠.defer c:=fun c e=>by simp [Vs,e] at h
theorem Z0 {l n:Nat} {P:Program} {ops:Array Oper} {Q:Exit->Act->World->Prop} (hQ:∀a w,¬Q .outgrown a w):∀{lst:List Oper} {a:Act} {w:World},
  (∀o∈lst,Vs o=true)->wpList P ops Q lst a w->wpListIn (Fence.wide.inRound l) n P ops Q lst a w
 | [],_,_,_,h=>h
 | o::rest,a,w,hp,h=>by
  unfold wpList at h;unfold wpListIn
  split
  ·rename_i hw;rw [aJ hw] at h;rcases h with h|⟨_,a',w',h⟩
   ·refine Agq (Ags (hp o FB)) (Oper.wp_mono (fun a w h=>?_) h);exact Z0 hQ (fun o ho=>hp o (by simp [ho])) h
   ·exact absurd h (hQ a' w')
  ·rename_i hw;rw [aC hw] at h;exact ⟨fun f _=>trivial,Z0 hQ (fun o ho=>hp o (by simp [ho])) h⟩
theorem H3 {l n id:Nat} {P:Program} {ops:List Oper} {Q:Exit->Act->World->Prop} {a:Act} {w:World} (hQ:∀a w,¬Q .outgrown a w) (hp:(ops.all Vs)=true)
  (h:wpList P ops.toArray Q ops a w):(Code.region id ops.toArray false).wpIn (Fence.wide.inRound l) n P Q a w :=
 wpIn_region_lit (Z0 hQ (fun o ho=>aW.1 hp o ho) h)
theorem X2 {l n:Nat} {P:Program} {md:Region.Mode} {ops:Array Oper} {Q:Exit->Act->World->Prop} (hQ:∀a w,¬Q .outgrown a w) (hp:(ops.toList.all Vs)=true):∀(f:Nat) (listed:Array Bool) (a:Act) (w:World),
  wpAny P md ops Q f listed a w->wpAnyIn (Fence.wide.inRound l) n P md ops Q f listed a w
 | 0,_,_,_,h=>h
 | f+1,listed,a,w,h=>by
  refine ⟨h.1,fun i hi=>?_⟩;have h1:=h.2 i hi;unfold wpOp at h1;unfold wpOpIn;cases ho:ops[i]? with
  | none=>rw [ho] at h1;exact X2 hQ hp f _ _ _ h1
  | some o =>
   rw [ho] at h1;have hpo:Vs o=true:=aW.1 hp o (by rw [<-Array.getElem?_toList] at ho;exact cg ho);dsimp only at h1 ⊢
   split
   ·rename_i hw;rw [aJ hw] at h1;rcases h1 with h1|⟨_,a',w',h1⟩
    ·exact Agq (Ags hpo) (Oper.wp_mono (fun a w h=>X2 hQ hp f _ a w h) h1)
    ·exact absurd h1 (hQ a' w')
   ·rename_i hw;rw [aC hw] at h1;exact ⟨fun f _=>trivial,X2 hQ hp f _ _ _ h1⟩
def AbB {β:Type} (b:aq) (J:β->World->Prop):Prop:=∀s W W',J s W->Ei b W W'->J s W'
def Ama (ks:aq) (W W':World):Prop:=∀k∈ks,W'.heap[k]?=W.heap[k]?
def Awb (P:Program) (gf:Nat) (lb:Array Value) (b:Nat) (xs:ai) (W0:World):Prop :=
 ∀(n l:Nat) (J Jx:ai->World->Prop),AbB [b] J->AbB [b] Jx ->
  (∀m pre x post W1,xs=pre++x::post->J pre W1->YieldAt Fence.wide m P l #[af x] W1 fun e W' =>
   (e=.returned (.bool true)/\J (pre++[x]) W'/\W'.heap[b]?=W1.heap[b]?)\/(e=.returned (.bool false)/\Jx (pre++[x]) W')) ->
  J [] W0->CallsIn Fence.wide n P gf (#[.func (.yield l) #[] #[]]++lb) W0 fun e W'=>(∃v,e=.returned v)/\(J xs W'\/∃pre x post,xs=pre++x::post/\Jx (pre++[x]) W')
def Ba5 (ks:aq) (I:ai->World->Prop) (Ix:Code->ai->World->Prop) (ys:ai) (W:World):Exit->Act->World->Prop
 | .normal,_,W'=>Ama ks W W'/\I ys W'
 | .ret,_,W'=>Ama ks W W'/\Ix .ret ys W'
 | .exit id,_,W'=>Ama ks W W'/\Ix (.exit id) ys W'
 | .goto t,_,W'=>Ama ks W W'/\Ix (.goto t) ys W'
 | .panic _,_,_=>False
 | .outgrown,_,_=>False
theorem Nr (W:World) (l:Nat) (o:Obj):Ei [l] W (W.putObj l o) :=
 ⟨rfl,rfl,rfl,FB,fun k _ hk=>World.putObj_heap_other (fun e=>hk (by simp [e]))⟩
theorem Alw {P:Program} {g:Operand} {ps:Array Tmp} {assign body:Code} {Q:Exit->Act->World->Prop} {a:Act} {w:World} {n gf b:Nat} {lb:Array Value} {xs:ai}
  (hg:a.eval g=.func (.func gf) #[] lb) (eg:∀args w,(callFunc gf args).run P w=.ok (.enter gf args) w) (hps:ps.size=1) (hb:b < w.heap.size)
  (hseq:∀W0,W0.heap[b]?=w.heap[b]?->Awb P gf lb b xs W0)
  (I:ai->World->Prop) (Ix:Code->ai->World->Prop) (hI:AbB [b,w.heap.size+1] I) (hIx:∀c,AbB [b,w.heap.size+1] (Ix c)) (h0:I [] w) (a₁:au->Act)
  (hassign:∀(m:Nat) (x:au) (W:World) (K:Act->World->Prop),K (a₁ x) W ->
   assign.wpIn (Fence.wide.inRound (w.heap.size+1)) m P (Exit.then K (fun _ _ _=>False)) { tmps:=(ps.zip #[af x]).foldl (fun t (p,v)=>t.setIfInBounds p v) a.tmps,defers:=[] } W)
  (hbody:∀(m:Nat) (pre post:ai) (x:au) (W:World),xs=pre++x::post->w.heap.size+2<=W.heap.size->I pre W ->
   body.wpIn (Fence.wide.inRound (w.heap.size+1)) m P (Ba5 [b,w.heap.size,w.heap.size+1] I Ix (pre++[x]) W) (a₁ x) W)
  (hdone:∀(W:World),I xs W->W.heap[w.heap.size]?=some (.deferred (some []))->Q .normal { a with defers:={ target:=.collected w.heap.size,args:=#[] }::a.defers } W)
  (hstop:∀(c:Code) (pre post:ai) (x:au) (W:World),xs=pre++x::post->Ix c (pre++[x]) W->W.heap[w.heap.size]?=some (.deferred (some [])) ->
   c.wpIn Fence.wide n P Q { a with defers:={ target:=.collected w.heap.size,args:=#[] }::a.defers } W) :
  (Code.rangeFunc g ps assign body).wpIn Fence.wide n P Q a w:=by
 refine wpIn_rangeFunc ?_;intro fn hfn;rw [Fence.wide_round];obtain ⟨rec,hrec⟩:∃rec:LoopState->Option Code->Loop,rec=fun st pe=>{ state:=st,pending:=pe,fn,tmps:=a.tmps,params:=ps,assign,body,defers:=w.heap.size }:=⟨_,rfl⟩;obtain ⟨W1,hW1⟩:∃W1,(w.alloc (.deferred (some []))).alloc (.loop (rec .ready none))=W1:=⟨_,rfl⟩;have hL1:W1.heap[w.heap.size+1]?=some (.loop (rec .ready none)):=by
  rw [<-hW1];have:=World.alloc_heap_new (w.alloc (.deferred (some []))) (.loop (rec .ready none));rwa [World.size_alloc] at this
 have hK1:W1.heap[w.heap.size]?=some (.deferred (some [])):=by
  rw [<-hW1];exact (Below.heap_alloc _ _ _ FB).trans (World.alloc_heap_new w _)
 have hk1:Ei [b,w.heap.size+1] w W1:=by rw [<-hW1];exact ((Ei.refl _ _).alloc _).alloc _
 have hb1:W1.heap[b]?=w.heap[b]?:=by
  rw [<-hW1];exact (Below.heap_alloc _ _ _ FF).trans (Below.heap_alloc _ _ _ hb)
 refine ⟨w.heap.size+1,[{ target:=.collected w.heap.size,args:=#[] }],W1,{ target:=.fn (.func gf) lb,args:=#[.func (.yield (w.heap.size+1)) #[] #[]] },W1,gf,
  #[.func (.yield (w.heap.size+1)) #[] #[]]++lb,W1,?_,?_,?_,?_,(fun e=>by cases e),?_⟩
 ·rw [<-hW1,hrec];exact run_enterLoop_outer _ _ _ _ _
 ·simp only [resolve,hg];simp [go_sem]
 ·intro f' hf';trivial
 ·simp [invoke,go_sem,eg]
 have far:∀{W W':World} {k:Nat} {o:Obj},Ei [b] W W'->b < w.heap.size->w.heap.size<=k->W.heap[k]?=some o->W'.heap[k]?=some o:=fun {W W' k o} hk h1 h2 h3 =>
  (hk.block k (bK.1 h3).1 FF).trans h3
 have wider:∀{W W':World},Ei [b] W W'->Ei [b,w.heap.size+1] W W':=fun h=>h.mono fun x hx _=>by simp at hx ⊢;omega
 have wider2:∀{W W':World},Ei [w.heap.size+1] W W'->Ei [b,w.heap.size+1] W W':=fun h=>h.mono fun x hx _=>by simp at hx ⊢;omega
 refine (hseq W1 hb1 (n - 1) (w.heap.size+1)
  (fun pre W=>I pre W/\W.heap[w.heap.size+1]?=some (.loop (rec .ready none))/\W.heap[w.heap.size]?=some (.deferred (some [])))
  (fun pre W=>∃c,Ix c pre W/\W.heap[w.heap.size+1]?=some (.loop (rec .done (some c)))/\W.heap[w.heap.size]?=some (.deferred (some [])))
  (fun s A B hs hk=>⟨hI s A B hs.1 (wider hk),far hk hb EZ hs.2.1,far hk hb EZ hs.2.2⟩)
  (fun s A B hs hk=>by
   obtain ⟨c,hc,hl,hd⟩:=hs;exact ⟨c,hIx c s A B hc (wider hk),far hk hb EZ hl,far hk hb EZ hd⟩)
  ?_ ⟨hI _ _ _ h0 hk1,hL1,hK1⟩).mono ?_
 ·rintro m pre x post W hxs ⟨hi,hl,hk⟩;have hlt:w.heap.size+1 < W.heap.size:=(bK.1 hl).1;have hy:=run_yield (P:=P) (args:=#[af x]) hl (by rw [hrec];exact hps.symm);rw [hrec] at hy;refine ⟨fn,_,assign,body,hy,roundIn_of_wpIn hfn (hassign m x W _ ⟨_,run_beginRound hl (by rw [hrec]),?_⟩)⟩;obtain ⟨W2,hW2⟩:∃W2,W.putObj (w.heap.size+1) (.loop { rec .ready none with state:=.busy })=W2:=⟨_,rfl⟩;rw [hW2];have hl2:W2.heap[w.heap.size+1]?=some (.loop { rec .ready none with state:=.busy }):=by rw [<-hW2];exact World.putObj_heap_same hlt
  have hk2:W2.heap[w.heap.size]?=some (.deferred (some [])):=by rw [<-hW2];exact (World.putObj_heap_other EZ).trans hk
  have hb2:W2.heap[b]?=W.heap[b]?:=by rw [<-hW2];exact World.putObj_heap_other EZ
  have hi2:I pre W2:=hI _ _ _ hi (by rw [<-hW2];exact wider2 (Nr _ _ _));have hs2:w.heap.size+2<=W2.heap.size:=by rw [<-hW2];simp;omega
  refine wpIn_mono (hbody m pre post x _ hxs hs2 hi2) ?_
  have fin:∀(Xb:Option Code) (W3:World),Ama [b,w.heap.size,w.heap.size+1] W2 W3 ->
    (Instr.endRound (w.heap.size+1) Xb).run P W3=.ok (.bool Xb.isNone) (W3.putObj (w.heap.size+1) (.loop (rec (if Xb.isNone then .ready else .done) Xb))) /\
    (W3.putObj (w.heap.size+1) (.loop (rec (if Xb.isNone then .ready else .done) Xb))).heap[w.heap.size+1]?=some (.loop (rec (if Xb.isNone then .ready else .done) Xb)) /\
    (W3.putObj (w.heap.size+1) (.loop (rec (if Xb.isNone then .ready else .done) Xb))).heap[w.heap.size]?=some (.deferred (some [])) /\
    (W3.putObj (w.heap.size+1) (.loop (rec (if Xb.isNone then .ready else .done) Xb))).heap[b]?=W.heap[b]?:=fun Xb W3 hk3=>by
   have hl3:=(hk3 (w.heap.size+1) FB).trans hl2;have h4:=run_endRound (P:=P) Xb hl3;rw [hrec] at h4 ⊢;exact ⟨h4,World.putObj_heap_same (bK.1 hl3).1,(World.putObj_heap_other EZ).trans ((hk3 w.heap.size FB).trans hk2),(World.putObj_heap_other EZ).trans ((hk3 b FB).trans hb2)⟩
  rintro e a3 W3 hp;cases e with
  | normal =>
   obtain ⟨hk3,hi3⟩:=hp;obtain ⟨hr,hl4,hd4,hb4⟩:=fin none W3 hk3;exact ⟨_,_,hr,.inl ⟨rfl,⟨hI _ _ _ hi3 (wider2 (Nr _ _ _)),hl4,hd4⟩,hb4⟩⟩
  | ret =>
   obtain ⟨hk3,hi3⟩:=hp;obtain ⟨hr,hl4,hd4,hb4⟩:=fin (some .ret) W3 hk3;exact ⟨_,_,hr,.inr ⟨rfl,.ret,hIx _ _ _ _ hi3 (wider2 (Nr _ _ _)),hl4,hd4⟩⟩
  | exit id =>
   obtain ⟨hk3,hi3⟩:=hp;obtain ⟨hr,hl4,hd4,hb4⟩:=fin (some (.exit id)) W3 hk3;exact ⟨_,_,hr,.inr ⟨rfl,.exit id,hIx _ _ _ _ hi3 (wider2 (Nr _ _ _)),hl4,hd4⟩⟩
  | goto t =>
   obtain ⟨hk3,hi3⟩:=hp;obtain ⟨hr,hl4,hd4,hb4⟩:=fin (some (.goto t)) W3 hk3;exact ⟨_,_,hr,.inr ⟨rfl,.goto t,hIx _ _ _ _ hi3 (wider2 (Nr _ _ _)),hl4,hd4⟩⟩
  | panic ch=>exact hp.elim
  | outgrown=>exact hp.elim
 ·rintro e W2 ⟨⟨v,rfl⟩,(⟨hi,hl,hk⟩|⟨pre,x,post,hxs,c,hi,hl,hk⟩)⟩
  ·exact ⟨none,_,JO,hdone _ (hI _ _ _ hi (wider2 (Nr _ _ _))) ((World.putObj_heap_other EZ).trans hk)⟩
  ·exact ⟨some c,_,JO,hstop c pre post x _ hxs (hIx _ _ _ _ hi (wider2 (Nr _ _ _))) ((World.putObj_heap_other EZ).trans hk)⟩
end Go.Proofs.YtkoldibamfjghaaGreatDoor
namespace Go.Proofs.YtkoldibamfjghaaGreatDoor.Lg
open Go.RowKit
theorem Al5 (s:au) (c:UInt8) (w:World):Calls prog 159 #[af s,.int .u8 (c.toNat:Int)] w fun e w'=>e=.returned (aa (Lib.indexByte s.data.toList c))/\w=w':=by
 refine (Tryz.strings_IndexByte s c.toNat w).mono ?_;rintro e w' ⟨rfl,rfl⟩;exact ⟨FB,rfl⟩
def Jb (s:au):ai:=(D9 s.data.toList).map bs
theorem Ap7 {s:au} (h:¬0 < s.size):Jb s=[]:=by
 have:s.data.toList=[]:=bF (by rw [Cp];omega);unfold Jb;rw [this];rfl
theorem Ap6 {s:au} (h:10∈s.data.toList):Jb s=bs (Ea 10 s.data.toList++[10])::Jb (bs (Ma 10 s.data.toList)) /\
  s.extract 0 ((Ea 10 s.data.toList).length+1)=bs (Ea 10 s.data.toList++[10])/\s.extract ((Ea 10 s.data.toList).length+1) s.size=bs (Ma 10 s.data.toList):=by
 refine ⟨?_,?_,(Ari h).2⟩
 ·rcases Oq 10 s.data.toList with ⟨_,h2⟩|⟨h2,_⟩
  ·unfold Jb;rw [Jg]
   conv=>lhs;rw [h2]
   rw [Tc _ Xw];rfl
  ·exact absurd h h2
 ·rcases Oq 10 s.data.toList with ⟨_,h2⟩|⟨h2,_⟩
  ·rw [Lib.extract_eq];unfold bs;congr 2;rw [dw,gA];refine (congrArg (List.take _) h2).trans ?_;rw [List.take_append,aV EZ];simp
  ·exact absurd h h2
theorem Ano {s:au} (h0:0 < s.size) (h:10 ∉ s.data.toList):Jb s=[s]:=by
 unfold Jb;rw [Vm (fun e=>by have:=Cp s;rw [e] at this;simp at this;omega) (fun c hc e=>h (by rw [<-e];exact hc))];simp [Adj]
theorem As2 {s:au} (h:10∈s.data.toList):(bs (Ma 10 s.data.toList)).size < s.size:=by
 rcases Oq 10 s.data.toList with ⟨_,h2⟩|⟨h2,_⟩
 ·have:=congrArg List.length h2;rw [Jh];rw [Cp] at this;simp at this;omega
 ·exact absurd h h2
def Ako (b:Nat) (w:World):Nat:=match w.cell? ⟨b,0,none⟩ with
 | some (.string r)=>r.size
 | _=>0
theorem Zj {b:Nat} {t:TypeId} {w:World} {r:au} (h:Ib w b t [af r]):Ako b w=r.size:=by
 unfold Ako;rw [h.cell];rfl
theorem Bar (s:au) (w:World):Calls prog 83 #[af s] w fun e w'=>e=.returned (.func (.func 158) #[] #[.pointer (some ⟨w.heap.size,0,none⟩)])/\w'=w.alloc (.cells #[af s] 9):=by
 go_enter func83,ntmps83
 go_wp2_with fail;refine bodyPost_ret (v:=.func (.func 158) #[] #[.pointer (some ⟨w.heap.size,0,none⟩)]) ?_ rfl ⟨rfl,rfl⟩;simp [results,results83,go_sem]
theorem Auh (s:au) (b:Nat) (W0:World) (hs:s.size<=4294967296) (hr:Ib W0 b 9 [af s]):Awb prog 158 #[.pointer (some ⟨b,0,none⟩)] b (Jb s) W0:=by
 intro n l J Jx hJ hJx hY h0;refine callsIn_of_wp func158 rfl trivial ?_ rfl;simp only [ntmps158,fz,aU,aY,Nat.reduceAdd,Nat.reduceSub,f9,ga,fB,gy,cj,aZ];have c0:=hr.cells
 gi_wp2
 gi_loopw [3] (fun _ wr=>∃(pre:ai) (r:au),Hid (Jb s=pre++Jb r)/\r.size<=4294967296/\Ib wr b 9 [af r]/\J pre wr) (fun _ wr=>Ako b wr)
 case atStart=>exact ⟨[],s,rfl,hs,hr,h0⟩
 case round =>
  obtain ⟨pre,r,hx,hrs,hrow,hj⟩:=hrel;have hm:=Lib.hid (Zj hrow);have hi:=fun w=>Al5 r 10 w;by_cases hz:0 < r.size
  ·by_cases hn:10∈r.data.toList
   ·obtain ⟨hl,hx1,hx2⟩:=Ap6 hn;have hbl:=As2 hn;have hlt:=Ask hn;rw [Cp] at hlt;rw [(Pm 10 _).1 hn] at hi;generalize (Ea 10 r.data.toList).length=i at *;generalize bs (Ea 10 r.data.toList++[10])=x at *;generalize bs (Ma 10 r.data.toList)=rest at *;have hx3:Hid (Jb s=pre++x::Jb rest):=by have:=hx.out;rw [hl] at this;exact Lib.hid this
    replace hx1:=Lib.hid hx1;replace hx2:=Lib.hid hx2;replace hi:=Lib.hid hi;replace hY:=Lib.hid hY;have hw:=Lib.hid (show IntKind.i64.wrap ((i:Int)+1)=(i:Int)+1 from by rw [IntKind.wrap_i64];omega);have hn1:=Lib.hid (show ((i:Int)+1).toNat=i+1 from by omega);clear hx hl hn;have c1:=hrow.cells;have f1:=hrow.frozens
    gi_wp2_with (refine ⟨trivial,(fun e=>by cases e),?_⟩;refine (callsIn_wide.2 (hi.out _)).mono ?_;rintro e w' ⟨rfl,rfl⟩)
    refine wpIn_wide.2 ?_;clear c1 f1;refine Ez.start (S:=(fun w'=>w'.cell? ⟨b,0,none⟩=some (af r))) (X:=(fun i=>i == 9)) FC ?_;have al:Below wr.heap.size wr wr.drew:=E5 (Below.refl _ _) 1;have hs_w1:=al.size;replace hrow:=hrow.below al;have hB:=al;generalize wr.drew=w1 at *;clear al;have hS:(fun w'=>w'.cell? ⟨b,0,none⟩=some (af r)) w1:=hrow.cells 0;refine Ez.take (i:=0) (oi:=_) (v:=?_) FX FC FC FC FC FC FQ (Or.inl ⟨FL,?_⟩) hS ?_
    rotate_left
    ·(intro wS hSw;(try dsimp only at hSw);go_simp;try with_reducible rfl)
    try simp only [Act.put,be,bj,bt]
    refine Ez.take (i:=1) (oi:=_) (v:=?_) FX FC FC FC FC FC FQ (Or.inl ⟨FL,?_⟩) hS ?_
    rotate_left
    ·(intro wS hSw;(try dsimp only at hSw);go_simp;try with_reducible rfl)
    try simp only [Act.put,be,bj,bt]
    refine Ez.take (i:=2) (oi:=_) (v:=?_) FX FC FC FC FC FC FQ (Or.inl ⟨FL,?_⟩) hS ?_
    rotate_left
    ·(intro wS hSw;(try dsimp only at hSw);go_simp;rw [hw.out];try with_reducible rfl)
    try simp only [Act.put,be,bj,bt]
    refine Ez.take (i:=3) (oi:=_) (v:=?_) FX FC FC FC FC FC FQ (Or.inl ⟨FL,?_⟩) hS ?_
    rotate_left
    ·(intro wS hSw;(try dsimp only at hSw);go_simp;rw [aJ EZ,hx1.out];try with_reducible rfl)
    try simp only [Act.put,be,bj,bt]
    refine Ez.take (i:=4) (oi:=_) (v:=?_) FX FC FC FC FC FC FQ (Or.inl ⟨FL,?_⟩) hS ?_
    rotate_left
    ·(intro wS hSw;(try dsimp only at hSw);go_simp;try with_reducible rfl)
    try simp only [Act.put,be,bj,bt]
    refine Ez.take (i:=5) (oi:=_) (v:=?_) FX FC FC FC FC FC FQ (Or.inl ⟨FL,?_⟩) hS ?_
    rotate_left
    ·(intro wS hSw;(try dsimp only at hSw);go_simp;try with_reducible rfl)
    try simp only [Act.put,be,bj,bt]
    refine Ez.take (i:=6) (oi:=_) (v:=?_) FX FC FC FC FC FC FQ (Or.inl ⟨FL,?_⟩) hS ?_
    rotate_left
    ·(intro wS hSw;(try dsimp only at hSw);go_simp;rw [hw.out];try with_reducible rfl)
    try simp only [Act.put,be,bj,bt]
    refine Ez.take (i:=7) (oi:=_) (v:=?_) FX FC FC FC FC FC FQ (Or.inl ⟨FL,?_⟩) hS ?_
    rotate_left
    ·(intro wS hSw;(try dsimp only at hSw);go_simp;rw [aJ EZ,hx2.out];try with_reducible rfl)
    try simp only [Act.put,be,bj,bt]
    refine Ez.only (i:=8) (o:=_) FC FX (fun K hK=>?_)
    try go_simp
    clear hS;have hS:(fun w'=>w'.cell? ⟨b,0,none⟩=some (af r)) w1:=hrow.cells 0;refine hK.out _ _ (fun _=>hS) ?_;clear hK K
    try simp only [Act.put,be,bj,bt]
    refine Ez.only (i:=9) (o:=_) FC FX (fun K hK=>?_);have c_hrow:=hrow.cells;have f_hrow:=hrow.frozens
    go_simp
    clear c_hrow f_hrow;refine hK.out _ _ (fun h=>by cases h) ?_;clear hK K
    try simp only [Act.put,be,bj,bt]
    refine Ez.done FC ?_ _
    (try clear hS)
    have hrow2:Ib (w1.setCell ⟨b,0,none⟩ (af rest)) b 9 [af rest]:=hrow.set 0 (af rest);have hj2:J pre (w1.setCell ⟨b,0,none⟩ (af rest)):=hJ _ _ _ hj ((Ei.ofBelow hB).setCell FB _);clear hrow hj hB;generalize (w1.setCell ⟨b,0,none⟩ (af rest))=w9 at *;obtain ⟨fn,tmps,assign,body,hy,hR⟩:=hY.out (n - 1) pre x (Jb rest) w9 hx3.out hj2;replace hR:=Lib.hid hR
    gi_wp2
    refine ⟨(fun e=>by cases e),?_⟩;refine hR.out.mono ?_;rintro e W3 (⟨rfl,hJ3,hk3⟩|⟨rfl,hJx3⟩)
    ·have hrow3:=hrow2.I0 hk3;have hm3:=Zj hrow3
     gi_wp2
     go_roundw
     case rel=>exact ⟨pre++[x],rest,by refine Lib.hid ?_;rw [hx3.out];simp,EZ,hrow3,hJ3⟩
     case measure=>have:=hm.out;omega
    ·gi_wp2
     refine bodyPost_ret (results_none rfl _ _ _) rfl ?_;exact ⟨⟨_,rfl⟩,.inr ⟨pre,x,Jb rest,hx3.out,hJx3⟩⟩
   ·have hl:=Ano hz hn;rw [(Pm 10 _).2 hn] at hi;have hx3:Hid (Jb s=pre++r::[]):=by have:=hx.out;rw [hl] at this;exact Lib.hid this
    replace hi:=Lib.hid hi;have c1:=hrow.cells;have f1:=hrow.frozens;have hrow2:Ib (wr.setCell ⟨b,0,none⟩ (af ⟨#[]⟩)) b 9 [af ⟨#[]⟩]:=hrow.set 0 (af ⟨#[]⟩);have hj2:J pre (wr.setCell ⟨b,0,none⟩ (af ⟨#[]⟩)):=hJ _ _ _ hj ((Ei.refl _ _).setCell FB _);obtain ⟨fn,tmps,assign,body,hy,hR⟩:=hY (n - 1) pre r [] _ hx3.out hj2;replace hR:=Lib.hid hR;replace hrow2:=Lib.hid hrow2;clear hx hl hn hY
    gi_wp2_with (refine ⟨trivial,(fun e=>by cases e),?_⟩;refine (callsIn_wide.2 (hi.out _)).mono ?_;rintro e w' ⟨rfl,rfl⟩)
    refine ⟨(fun e=>by cases e),?_⟩;refine hR.out.mono ?_;rintro e W3 (⟨rfl,hJ3,hk3⟩|⟨rfl,hJx3⟩)
    ·have hrow3:=hrow2.out.I0 hk3;have hm3:=Zj hrow3
     gi_wp2
     go_roundw
     case rel=>exact ⟨pre++[r],⟨#[]⟩,by refine Lib.hid ?_;rw [hx3.out];simp [Jb,D9],aG _,hrow3,hJ3⟩
     case measure=>have h7:=hm.out;have h8:(⟨#[]⟩:au).size=0:=rfl;omega
    ·gi_wp2
     refine bodyPost_ret (results_none rfl _ _ _) rfl ?_;exact ⟨⟨_,rfl⟩,.inr ⟨pre,r,[],hx3.out,hJx3⟩⟩
  ·have c1:=hrow.cells;have f1:=hrow.frozens
   gi_wp2
   go_end0
   refine ⟨⟨_,rfl⟩,.inl ?_⟩;have h1:=hx.out;rw [Ap7 hz,bg] at h1;rw [h1];exact hj
def Jy (k:Int) (x:Nz):au × Bool:=(bs ((Aej k x.I2.data.toList x.Gj.data.toList).getD []),(Aej k x.I2.data.toList x.Gj.data.toList).isSome)
def Aeg:au × Bool->World->Ending->World->Prop:=fun (r0,r1) w e w'=>e=.returned (.tuple #[af r0,.bool r1])/\Below w.heap.size w w'
theorem Ajw {k:Int} {x:Nz} (h:(E8 0 k 59 && Bp x.I2 x.Gj)=false):Jy k x=(bs [],false):=by
 rw [N0] at h;unfold Jy Aej;rw [aC (by rw [h];simp)];rfl
theorem Aqj {k:Nat} {x:Nz} (hk:k<=59) (h:Bp x.I2 x.Gj=true):Jy (k:Int) x=(bs (Ke k x.I2.data.toList x.Gj.data.toList),true):=by
 rw [N0] at h;unfold Jy Aej;rw [aJ (by rw [h];simp [E8];omega)];rfl
theorem Afa (x0:Int) (v1:Value) (x1:Nz) (F1:aq) (FT:aq) (w:World) (h1:Ro Mo w v1 x1 F1) (hT:Ro Abx w (.agg #[]) () FT) :
  Calls prog 85 #[aa x0,v1] w (Aeg (Jy x0 x1) w):=by
 obtain ⟨_,rfl,rfl,s1,s2,rfl⟩:=h1;have hin:=fun w=>H1 x0 0 59 w;have hgd:=fun w=>Wd x1.I2 x1.Gj w s1 s2;have hB0:∀A:Obj,Below w.heap.size w (w.alloc A):=fun A=>(Below.refl _ _).alloc (aL _) _;cases hb:E8 0 x0 59 with
 | false =>
  rw [Ajw (by rw [hb];rfl)];rw [hb] at hin;clear hb
  go_enter func85,ntmps85
  go_wp2_with (first|(go_at_call 106;refine (hin _).mono ?_;rintro e w' ⟨rfl,rfl⟩));refine bodyPost_ret (v:=.tuple #[af ⟨#[]⟩,.bool false]) ?_ rfl ⟨rfl,hB0 _⟩;simp [results,results85,go_sem]
 | true =>
  have hk:0<=x0/\x0<=59:=by simpa [E8] using hb
  cases hg:Bp x1.I2 x1.Gj with
  | false =>
   rw [Ajw (by rw [hg];simp)];rw [hb] at hin;rw [hg] at hgd;clear hb hg
   go_enter func85,ntmps85
   go_wp2_with (first|(go_at_call 106;refine (hin _).mono ?_;rintro e w' ⟨rfl,rfl⟩)|(go_at_call 56;refine (hgd _).mono ?_;rintro e w1 ⟨rfl,hb1⟩));refine bodyPost_ret (v:=.tuple #[af ⟨#[]⟩,.bool false]) ?_ rfl ⟨rfl,(hB0 _).trans (hb1.mono FB)⟩;simp [results,results85,go_sem]
  | true =>
   obtain ⟨k,rfl⟩:=Int.eq_ofNat_of_zero_le hk.1;have hk9:k<=59:=EZ
   rw [Aqj hk9 hg];rw [hb] at hin;rw [hg] at hgd;have hl:=Lib.hid (fun w hT=>Wy k x1.I2 x1.Gj FT w hk9 (Ja (by rw [<-N0];exact hg)) hT);clear hb hg hk;have R:=fun (w1:World) (hb1:Below (w.alloc (.cells #[af x1.I2,af x1.Gj] 56)).heap.size (w.alloc (.cells #[af x1.I2,af x1.Gj] 56)) w1)=>(Ib.made w 56 [af x1.I2,af x1.Gj]).below hb1;replace R:=Lib.hid R;have hT1:=hT.below (hB0 (.cells #[af x1.I2,af x1.Gj] 56))
   go_enter func85,ntmps85
   go_wp2_with (first|(go_at_call 106;refine (hin _).mono ?_;rintro e w' ⟨rfl,rfl⟩)|(go_at_call 56;refine (hgd _).mono ?_;rintro e w1 ⟨rfl,hb1⟩;have c_R:=(R.out _ hb1).cells)|(go_at_call 58;refine (hl.out _ (hT1.below hb1)).mono ?_;rintro e w2 ⟨rfl,hb2⟩));refine bodyPost_ret (v:=.tuple #[af (bs (Ke k x1.I2.data.toList x1.Gj.data.toList)),.bool true]) ?_ rfl ⟨rfl,((hB0 _).trans (hb1.mono FB)).trans (hb2.mono (by have:=hb1.size;simp at this;omega))⟩;simp [results,results85,go_sem]
theorem Aur {k:Nat} {x:Bs} (h:Yt k x=true):∃y,x=y++[10]/\∀b∈y,32<=b.toNat/\b.toNat<=126:=by
 obtain ⟨c,r,_,hg,rfl⟩:=Tt.1 h;have hG:=Ja hg;refine ⟨N8 (Kw k c r),rfl,fun b hb=>?_⟩;unfold N8 at hb;simp only [aK,aH] at hb;rcases hb with hb|rfl|hb
 ·exact (Sf hG b hb).1
 ·decide
 ·have:=O2 _ b hb;omega
theorem Ben {k:Nat} {z:Bs} (h:∀b∈z,b≠10):Yt k z=false:=by
 cases hk:Yt k z with
 | false=>rfl
 | true =>
  obtain ⟨y,rfl,_⟩:=Aur hk;exact absurd rfl (h 10 FB)
theorem Asx {k:Nat} {x:Bs} (h:Yt k x=true) (r:Bs):acc k (D9 (x++r))=x::acc (k+1) (D9 r):=by
 obtain ⟨y,rfl,hy⟩:=Ajn h;rw [aN,dG,Tc _ hy];simp [acc,h]
theorem Ala {d:Bs} (hd:(Bn d).flatten.length=d.length) (q:Bs):Bn (d++q)=Bn d++acc (Bn d).length (D9 q):=by
 have hf:=Xk hd;have h2:=Rx (xs:=Bn d) (by rw [hf];exact hf) q;rw [Ux hd] at h2;exact h2
structure Aap (d p:Bs) (n:Int):Prop where
 all:(Bn (d++p)).flatten=d++p
 dur:(Bn d).flatten=d
 cnt:n=(Bn (d++p)).length
theorem Abq {d p:Bs} {n:Int} (h:Gt d p n=true):Aap d p n:=by
 unfold Gt at h;simp only [aw,aF] at h;exact ⟨Ux (by simp [h.2.1.1]),Ux h.2.1.2,h.2.2.symm⟩
theorem Aap.bool {d p:Bs} {n:Int} (h:Aap d p n):Gt d p n=true:=by
 unfold Gt;have h1:=Lk (d++p);have h2:=congrArg List.length h.all;have h3:=congrArg List.length h.dur;rw [aA] at h2;simp only [aw,aF];exact ⟨EZ,⟨h2,h3⟩,h.cnt.symm⟩
theorem Aap.append {d p x:Bs} {n:Int} (h:Aap d p n) (hx:Yt (Bn (d++p)).length x=true):Aap d (p++x) (n+1)/\Bn (d++(p++x))=Bn (d++p)++[x]:=by
 have h1:=Ala (d:=d++p) (by rw [h.all]) x;have h2:=Asx hx [];simp only [bg,D9,acc] at h2;rw [h2,aN] at h1;refine ⟨⟨?_,h.dur,?_⟩,h1⟩
 ·rw [h1,dg,h.all];simp
 ·rw [h1,aA,h.cnt];simp
theorem Aap.sync {d p:Bs} {n:Int} (h:Aap d p n):Aap (d++p) [] n:=by
 refine ⟨?_,?_,?_⟩
 ·rw [bg];exact h.all
 ·exact h.all
 ·rw [bg];exact h.cnt
def Qh (l:Bs):Nz:=⟨bs (Aeh l),bs (Aen l)⟩
def Ad4 (x:au):Nz:=Qh x.data.toList
theorem Au0 (x:au):Ad4 x=⟨P8 64 (Rd 32 (P8 35 x)),Rd 64 (Rd 32 (P8 35 x))⟩:=by
 simp only [Ad4,Qh,P8,Rd,Jg,Aeh,Aen,Ahj]
def Ey (pre:ai):List Bs:=pre.map fun x=>x.data.toList
theorem Vo (pre:ai) (x:au):Ey (pre++[x])=Ey pre++[x.data.toList]:=by simp [Ey]
theorem Q4 (pre:ai):(Ey pre).length=pre.length:=by simp [Ey]
theorem Qq (s:au):Ey (Jb s)=D9 s.data.toList:=by
 unfold Ey Jb;rw [eK];have:(fun x:au=>x.data.toList) ∘ bs=id:=by funext l;simp [bs]
 rw [this,fP]
def We (pre:ai):ar:=(Kx 0 (Ey pre)).map Int.ofNat
theorem Ui (pre:ai):(We pre).length=pre.length+1:=by simp [We,Sg,Q4]
def Ou (pre:ai):Nat:=(Ey pre).flatten.length
theorem Apm (pre:ai) (x:au):We (pre++[x])=We pre++[(Ou pre:Int)+(x.size:Int)]:=by
 unfold We Ou;rw [Vo,Afu];simp
theorem Afv (pre:ai):(We pre)[pre.length]?=some (Ou pre:Int):=by
 have h:=Zp (n:=0) (xs:=Ey pre);have hl:=Ui pre;rw [dU,Sg,Q4] at h;unfold We;rw [List.getElem?_map,show pre.length=pre.length+1 - 1 from rfl,h];simp [Ou]
theorem Aox {s:au} {pre post:ai} (h:Jb s=pre++post):Ou pre<=s.size:=by
 have h1:=congrArg (fun l=>(Ey l).flatten.length) h;simp only [Qq,Rv] at h1;rw [Cp] at h1;have:Ey (pre++post)=Ey pre++Ey post:=by simp [Ey]
 rw [this,dg,aA] at h1;unfold Ou;omega
theorem Awr {s:au} {pre post:ai} (h:Jb s=pre++post):pre.length<=s.size:=by
 have h1:=Aox h;have h2:∀xs:List Bs,(∀x∈xs,x≠[])->xs.length<=xs.flatten.length:=by
  intro xs
  induction xs with
  | nil=>simp
  | cons x xs ih =>
   intro hx;have h3:=ih fun y hy=>hx y KS;have h4:1<=x.length:=by
    have:=hx x FB;cases x with
    | nil=>exact absurd rfl this
    | cons=>simp
   simp only [aU,cm,aA];omega
 have h5:=h2 (Ey pre) fun x hx=>by
  refine Vn (l:=s.data.toList) ?_;rw [<-Qq,h];simp only [Ey,bD,aK];exact .inl hx
 rw [Q4] at h5;unfold Ou at h1;omega
theorem Bbw {s:au} {pre post:ai} {x:au} (h:Jb s=pre++x::post):Ou pre+x.size<=s.size:=by
 have h1:Jb s=(pre++[x])++post:=by rw [h];simp
 have h2:=Aox h1;unfold Ou at h2 ⊢;rw [Vo] at h2;simp at h2 ⊢;omega
theorem Ez.startIn {P:Program} {ops:Array Oper} {Q:Exit->Act->World->Prop} {S:World->Prop} {X:Nat->Bool} {l n id:Nat} {a:Act} {w:World} (hm:P.follows .mixedOrders=true) (hQ:∀a w,¬Q .outgrown a w) (hp:(ops.toList.all Vs)=true)
  (h:Ez P .any ops Q S X ops.size (Array.replicate ops.size false) a w.drew):(Code.region id ops true).wpIn (Fence.wide.inRound l) n P Q a w :=
 wpIn_region_any hm (X2 hQ hp _ _ _ _ (Ez.any _ _ _ _ h))
theorem Aik (c:UInt8) (s:au):(P8 c s).size<=s.size:=by
 unfold P8;rw [Jh];have:=Abp c s.data.toList;rw [Cp] at this;exact this
theorem Aij (c:UInt8) (s:au):(Rd c s).size<=s.size:=by
 unfold Rd;rw [Jh];rcases Oq c s.data.toList with ⟨_,h2⟩|⟨_,_,h2⟩
 ·have:=congrArg List.length h2;rw [Cp] at this;simp at this;omega
 ·rw [h2];simp
theorem Ay3 {w:World} {g:Nat} {t:TypeId} {cs:am} (h:Ib w g t cs):∀j u,cs[j]?=some u->w.cell? ((⟨g,0,none⟩:Addr).add j)=some u:=fun j u hu=>by
 rw [<-hu,<-h.cell j];by_cases hj:j=0
 ·subst hj;rfl
 ·simp [Addr.add,hj]
theorem Ain {w:World} {t:TypeId} {pre:ai} {gb off ec:Nat} {F:aq} (h:Ow Bc t w (ab (some ⟨gb,off,none⟩) (pre.length+1) ec) (We pre) F):w.cell? ⟨gb,off+pre.length,none⟩=some (aa (Ou pre:Int)):=by
 obtain ⟨F',_,hs⟩:=h.read;have hl:=Ui pre;obtain ⟨b,o,e,hc⟩:=hs.int.2.2 pre.length EZ;cases e;rw [hc];have:=Afv pre;rw [aD EZ] at this;rw [Option.some.inj this]
theorem As9 {w:World} {t:TypeId} {pre:ai} {eo:aj} {ec:Nat} {F:aq} (h:Ow Bc t w (ab eo (pre.length+1) ec) (We pre) F):∃gb off,eo=some ⟨gb,off,none⟩:=by
 obtain ⟨F',_,hs⟩:=h.read;have hl:=Ui pre;obtain ⟨b,o,e,hc⟩:=hs.int.2.2 pre.length EZ;exact ⟨b,o,e⟩
def Zf (k:Nat) (W0 W:World):Prop:=W.heap[k]?=W0.heap[k]?/\k < W.heap.size
theorem Zf.below {k W0 W w'} (h:Zf k W0 W) (hb:Below W.heap.size W w'):Zf k W0 w':=⟨(hb.block k h.2).trans h.1,eh h.2 hb.size⟩
theorem Zf.keepK {k W0 W w' F} (h:Zf k W0 W) (hk:Ei F W w') (hn:k ∉ F):Zf k W0 w':=⟨(hk.block k h.2 hn).trans h.1,eh h.2 hk.size⟩
theorem Zf.alloc {k W0 W} (h:Zf k W0 W) (o:Obj):Zf k W0 (W.alloc o):=h.below ((Below.refl _ _).alloc (aL _) _)
theorem Zf.I0 {k W0 W w'} (h:Zf k W0 W) (e:w'.heap[k]?=W.heap[k]?):Zf k W0 w':=by
 refine ⟨e.trans h.1,?_⟩;rw [dW h.2] at e;exact (bK.1 e).1
def RdI (w w1:World) (FT:aq) (pre:ai) (W:World):Prop :=
 ∃lo lc F1 eo ec F2,Ib W w.heap.size 52 [ab lo pre.length lc]/\Ib W (w.heap.size+1+1) 24 [ab eo (pre.length+1) ec] /\
  Ow Mo 56 W (ab lo pre.length lc) (pre.map Ad4) F1/\F1.Nodup/\Ow Bc 3 W (ab eo (pre.length+1) ec) (We pre) F2/\F2.Nodup /\
  (∀b∈F1,w1.heap.size+1 < b)/\(∀b∈F2,b=w.heap.size+1\/w1.heap.size+1 < b)/\(∀b∈F1,b ∉ F2)/\Ro Abx W (.agg #[]) () FT/\Below w.heap.size w W /\
  Hid (acc 0 (Ey pre)=Ey pre)
theorem RdI.I0 {w w1:World} {FT:aq} {g4:Nat} (h4:w.heap.size+1+1 < g4) (h5:g4 < w1.heap.size) (hFT:∀b∈FT,b < w.heap.size):AbB [g4,w1.heap.size+1] (RdI w w1 FT):=by
 rintro pre W W' ⟨lo,lc,F1,eo,ec,F2,r1,r3,o1,n1,o2,n2,f1,f2,d,hT,hB,ha⟩ hk;refine ⟨lo,lc,F1,eo,ec,F2,r1.keepK hk FF,r3.keepK hk FF,o1.I0 hk (fun b hb hm=>?_),n1,o2.I0 hk (fun b hb hm=>?_),n2,f1,f2,d,hT.I0 hk (fun b hb hm=>?_),hB.trans (hk.below hB.size (fun b hb=>?_)),ha⟩
 ·have:=f1 b hb;simp at hm;omega
 ·have:=f2 b hb;simp at hm;omega
 ·have:=hFT b hb;simp at hm;omega
 ·simp at hb;omega
def RdX (w w1:World) (FT:aq) (c:Code) (ys:ai) (W:World):Prop :=
 c=.exit 0/\∃pre x,ys=pre++[x]/\RdI w w1 FT pre W/\Yt pre.length x.data.toList=false
def Bdc (s:au) (w:World) (e:Ending) (w':World):Prop :=
 ∃u0 G0 u1 G1,e=.returned (.tuple #[u0,u1])/\Ow Mo 56 w' u0 ((Bn s.data.toList).map Qh) G0/\G0.Nodup/\Ow Bc 3 w' u1 ((Kx 0 (Bn s.data.toList)).map Int.ofNat) G1/\G1.Nodup /\
  (∀b∈G0,w.heap.size<=b)/\(∀b∈G1,w.heap.size<=b)/\(∀b∈G0,b ∉ G1)/\Below w.heap.size w w'
theorem Amb {k:Nat} {xs:List Bs} {x:Bs} (h:acc k xs=xs) (hx:Yt (k+xs.length) x=true):acc k (xs++[x])=xs++[x]:=by
 rw [U9 k xs _ h];simp [acc,hx]
theorem Awd {k:Nat} {xs:List Bs} {x:Bs} (post:List Bs) (h:acc k xs=xs) (hx:Yt (k+xs.length) x=false):acc k (xs++x::post)=xs:=by
 rw [U9 k xs _ h];simp [acc,hx]
theorem Aqd {s:au} (h:acc 0 (Ey (Jb s))=Ey (Jb s)):Ey (Jb s)=Bn s.data.toList:=by
 rw [Qq] at h ⊢;exact h.symm
theorem An4 {s:au} {pre post:ai} {x:au} (hs:Jb s=pre++x::post) (h:acc 0 (Ey pre)=Ey pre) (hx:Yt pre.length x.data.toList=false):Ey pre=Bn s.data.toList:=by
 unfold Bn;rw [<-Qq,hs];have:Ey (pre++x::post)=Ey pre++x.data.toList::Ey post:=by simp [Ey]
 rw [this,Awd _ h (by rw [Q4,cO];exact hx)]
theorem RdI.post {s:au} {w w1:World} {FT:aq} {pre:ai} {W:World} (h1:w.heap.size+1 < w1.heap.size) (ho:Ey pre=Bn s.data.toList)
  (h:RdI w w1 FT pre W):∃lo lc eo ec,Ib W w.heap.size 52 [ab lo pre.length lc]/\Ib W (w.heap.size+1+1) 24 [ab eo (pre.length+1) ec] /\
   ∀W',Ei [w1.heap.size] W W'->Bdc s w (.returned (.tuple #[ab lo pre.length lc,ab eo (pre.length+1) ec])) W':=by
 obtain ⟨lo,lc,F1,eo,ec,F2,r1,r3,o1,n1,o2,n2,f1,f2,d,hT,hB,ha⟩:=h;refine ⟨lo,lc,eo,ec,r1,r3,fun W' hk=>⟨_,F1,_,F2,rfl,?_,n1,?_,n2,fun b hb=>by have:=f1 b hb;omega,fun b hb=>by have:=f2 b hb;omega,d,hB.trans (hk.below hB.size (fun b hb=>by simp at hb;omega))⟩⟩
 ·have e:(Bn s.data.toList).map Qh=pre.map Ad4:=by rw [<-ho];simp [Ey,Ad4]
  rw [e];exact o1.I0 hk (fun b hb hm=>by have:=f1 b hb;simp at hm;omega)
 ·have e:(Kx 0 (Bn s.data.toList)).map Int.ofNat=We pre:=by rw [<-ho];rfl
  rw [e];exact o2.I0 hk (fun b hb hm=>by have:=f2 b hb;simp at hm;omega)
theorem RdI.acc {w w1:World} {FT:aq} {pre:ai} {W:World} (h:RdI w w1 FT pre W):acc 0 (Ey pre)=Ey pre:=by
 obtain ⟨_,_,_,_,_,_,_,_,_,_,_,_,_,_,_,_,_,h⟩:=h;exact h.out
theorem Ah3 (s:au) (FT:aq) (w:World) (hs:s.size<=16777216) (hT:Ro Abx w (.agg #[]) () FT) :
  Calls prog 44 #[af s] w (Bdc s w):=by
 have hFT:=hT.lt;refine (callsIn_wide (n:=9)).1 (callsIn_of_wp_marks func44 rfl trivial ?_ rfl);simp only [ntmps44,fz,aU,aY,Nat.reduceAdd,Nat.reduceSub,f9,ga,fB,gy,cj,aZ];refine wpIn_wide.2 ?_;go_wp2_with (go_at_call 83;refine (Bar _ _).mono ?_;rintro e w' ⟨rfl,rfl⟩)
 have al:Below w.heap.size w ((((w.alloc (.cells #[ab none 0 0] 52)).alloc (.cells #[aa 0] 3)).alloc (.cells #[ab (some ⟨w.heap.size+1,0,none⟩) 1 1] 24)).alloc (.cells #[af s] 9)):=by
  repeat refine Below.alloc ?_ GQ _
  exact Below.refl _ _
 have n_R1:Ib ((((w.alloc (.cells #[ab none 0 0] 52)).alloc (.cells #[aa 0] 3)).alloc (.cells #[ab (some ⟨w.heap.size+1,0,none⟩) 1 1] 24)).alloc (.cells #[af s] 9)) (w.heap.size) 52 [ab none 0 0]:=GM
 have n_R2:Ib ((((w.alloc (.cells #[ab none 0 0] 52)).alloc (.cells #[aa 0] 3)).alloc (.cells #[ab (some ⟨w.heap.size+1,0,none⟩) 1 1] 24)).alloc (.cells #[af s] 9)) (w.heap.size+1) 3 [aa 0]:=GM
 have n_R3:Ib ((((w.alloc (.cells #[ab none 0 0] 52)).alloc (.cells #[aa 0] 3)).alloc (.cells #[ab (some ⟨w.heap.size+1,0,none⟩) 1 1] 24)).alloc (.cells #[af s] 9)) (w.heap.size+1+1) 24 [ab (some ⟨w.heap.size+1,0,none⟩) 1 1]:=GM
 have n_R4:Ib ((((w.alloc (.cells #[ab none 0 0] 52)).alloc (.cells #[aa 0] 3)).alloc (.cells #[ab (some ⟨w.heap.size+1,0,none⟩) 1 1] 24)).alloc (.cells #[af s] 9)) (w.heap.size+1+1+1) 9 [af s]:=GM
 have hs_w1:w.heap.size+1+1+1 < ((((w.alloc (.cells #[ab none 0 0] 52)).alloc (.cells #[aa 0] 3)).alloc (.cells #[ab (some ⟨w.heap.size+1,0,none⟩) 1 1] 24)).alloc (.cells #[af s] 9)).heap.size:=GQ
 replace hT:=hT.below al;have hB:=al;generalize ((((w.alloc (.cells #[ab none 0 0] 52)).alloc (.cells #[aa 0] 3)).alloc (.cells #[ab (some ⟨w.heap.size+1,0,none⟩) 1 1] 24)).alloc (.cells #[af s] 9))=w1 at *;have R1:=n_R1;clear n_R1;have R2:=n_R2;clear n_R2;have R3:=n_R3;clear n_R3;have R4:=n_R4;clear n_R4;clear al;have h0:RdI w w1 FT [] w1:=by
  refine ⟨none,0,[],some ⟨w.heap.size+1,0,none⟩,1,[w.heap.size+1],R1,R3,.inl ⟨rfl,rfl,rfl⟩,FB,?_,FB,FB,FB,FB,hT,hB,Lib.hid rfl⟩;exact .inr ⟨w.heap.size+1,1,[aa 0],[],[],rfl,by simpa using R2,by rw [Ui];simp,FH,rfl,⟨[aa 0],[],[],[],rfl,rfl,⟨rfl,rfl⟩,rfl,rfl⟩,rfl⟩
 refine (wpIn_wide (n:=9)).1 ?_
 apply Alw (b:=w.heap.size+1+1+1) (xs:=Jb s) (gf:=158) (lb:=#[.pointer (some ⟨w.heap.size+1+1+1,0,none⟩)]) rfl (enters_of func158 FC rfl) rfl EZ
  (fun W0 hW0=>Auh s _ W0 EZ (R4.I0 hW0)) (RdI w w1 FT) (RdX w w1 FT) (RdI.I0 EZ EZ hFT)
  (by
   rintro c ys W W' ⟨hc,pre,x,hy,hi,hk2⟩ hk;exact ⟨hc,pre,x,hy,RdI.I0 EZ EZ hFT _ _ _ hi hk,hk2⟩) h0
 case hassign =>
  intro m x W K hK;refine H3 (fun _ _ h=>h) FC ?_;simp only [List.zip_toArray,List.foldl_toArray,List.zip_cons_cons,List.zip_nil_right,dS,eZ,be,bj,bt];go_wp2_with fail;exact hK
 case hbody =>
  intro m pre post x W hxs hsz hI;clear R1 R2 R3 R4 hT hB h0;have hxl:=Bbw hxs;have hcl:=Awr hxs;have hends:=Afv pre;have hel:=Ui pre;have hT0:=hFT;obtain ⟨lo,lc,F1,eo,ec,F2,G1,G3,o1,n1,o2,n2,f1,f2,dd,hT,hB,ha⟩:=hI;have S4:Zf (w.heap.size+1+1+1) W W:=⟨rfl,EZ⟩;have S5:Zf w1.heap.size W W:=⟨rfl,EZ⟩;have S6:Zf (w1.heap.size+1) W W:=⟨rfl,EZ⟩;have z1:=Aik 35 x;have z2:=Aij 32 (P8 35 x);have z3:=Aik 64 (Rd 32 (P8 35 x));have z4:=Aij 64 (Rd 32 (P8 35 x));have hk1:=Lib.hid (fun w=>Avu x 35 w FH)
  have hk2:=Lib.hid (fun w=>Avu (P8 35 x) 32 w FH);have hk3:=Lib.hid (fun w=>Avu (Rd 32 (P8 35 x)) 64 w FH);have hrec:=Au0 x;have hcm:(P8 64 (Rd 32 (P8 35 x))).data.toList=Aeh x.data.toList:=by simp only [P8,Rd,Jg,Aeh,Ahj]
  have hrp:(Rd 64 (Rd 32 (P8 35 x))).data.toList=Aen x.data.toList:=by simp only [P8,Rd,Jg,Aen,Ahj]
  generalize P8 35 x=y1 at *;generalize Rd 32 y1=y2 at *;generalize P8 64 y2=cc at *;generalize Rd 64 y2=rr at *;generalize hy1f:Rd 35 x=y3 at *;generalize hy2f:P8 32 y1=y4 at *;clear hy1f hy2f;have sc:cc.size<=maxLen:=FH
  have sr:rr.size<=maxLen:=FH
  have hE:=Lib.hid (fun w v hv hT=>Afa (pre.length:Int) v ⟨cc,rr⟩ [] FT w hv hT);have hres:Jy (pre.length:Int) ⟨cc,rr⟩=(bs ((Aej (pre.length:Int) (Aeh x.data.toList) (Aen x.data.toList)).getD []),(Aej (pre.length:Int) (Aeh x.data.toList) (Aen x.data.toList)).isSome):=by unfold Jy;rw [hcm,hrp]
  replace hres:=Lib.hid hres;replace hrec:=Lib.hid hrec;replace hends:=Lib.hid hends;replace hel:=Lib.hid hel;replace hxs:=Lib.hid hxs;clear hcm hrp;refine wpIn_block ?_;refine wpIn_seq_k (fun _ _=>?_);refine H3 (fun _ _ h=>h) FC ?_;go_wp2_with fail;refine (hk1.out _).mono ?_;rintro e w21 ⟨rfl,j,hj⟩;have hb:Below W.heap.size W w21:=HY
  clear hj;have hs_w21:=hb.size;replace G1:=G1.below hb;replace G3:=G3.below hb;replace o1:=o1.below hb;replace o2:=o2.below hb;replace hT:=hT.below hb;replace S4:=S4.below hb;replace S5:=S5.below hb;replace S6:=S6.below hb;replace hB:=tr hB hb (aL _);clear hb;go_wp2_with fail;refine wpIn_seq_k (fun _ _=>?_);refine H3 (fun _ _ h=>h) FC ?_;go_wp2_with fail;refine (hk2.out _).mono ?_;rintro e w22 ⟨rfl,j,hj⟩;have hb:Below w21.heap.size w21 w22:=HY
  clear hj;have hs_w22:=hb.size;replace G1:=G1.below hb;replace G3:=G3.below hb;replace o1:=o1.below hb;replace o2:=o2.below hb;replace hT:=hT.below hb;replace S4:=S4.below hb;replace S5:=S5.below hb;replace S6:=S6.below hb;replace hB:=tr hB hb (aL _);clear hb;go_wp2_with fail;refine wpIn_seq_k (fun _ _=>?_);refine H3 (fun _ _ h=>h) FC ?_;go_wp2_with fail;refine (hk3.out _).mono ?_;rintro e w23 ⟨rfl,j,hj⟩;have hb:Below w22.heap.size w22 w23:=HY
  clear hj;have hs_w23:=hb.size;replace G1:=G1.below hb;replace G3:=G3.below hb;replace o1:=o1.below hb;replace o2:=o2.below hb;replace hT:=hT.below hb;replace S4:=S4.below hb;replace S5:=S5.below hb;replace S6:=S6.below hb;replace hB:=tr hB hb (aL _);clear hb;go_wp2_with fail;clear hk1 hk2 hk3;refine wpIn_seq_k (fun _ _=>?_);refine H3 (fun _ _ h=>h) FC ?_;go_wp2_with fail;have al:Below w23.heap.size w23 (w23.alloc (.cells #[af cc,af rr] 56)):=by
   repeat refine Below.alloc ?_ GQ _
   exact Below.refl _ _
  have n_R8:=Ib.made w23 56 [af cc,af rr];have hs_w24:w23.heap.size < (w23.alloc (.cells #[af cc,af rr] 56)).heap.size:=FB
  replace G1:=G1.below al;replace G3:=G3.below al;replace o1:=o1.below al;replace o2:=o2.below al;replace hT:=hT.below al;replace S4:=S4.below al;replace S5:=S5.below al;replace S6:=S6.below al;replace hB:=tr hB al (aL _);generalize (w23.alloc (.cells #[af cc,af rr] 56))=w24 at *;have R8:=n_R8;clear n_R8;clear al;cases henc:Aej (pre.length:Int) (Aeh x.data.toList) (Aen x.data.toList) with
  | none =>
   have hno:Yt pre.length x.data.toList=false:=by unfold Yt;rw [henc];rfl
   have hE2:=hE.out;rw [hres.out,henc] at hE2;replace hE2:=Lib.hid hE2;refine wpIn_seq_k (fun _ _=>?_);refine wpIn_seq_k (fun _ _=>?_);refine H3 (fun _ _ h=>h) FC ?_;have c_G1:=G1.cells;have f_G1:=G1.frozens;have c_R8:=R8.cells;have f_R8:=R8.frozens;go_wp2_with fail;clear c_G1 f_G1 c_R8 f_R8;refine (hE2.out _ _ ⟨_,rfl,rfl,sc,sr,rfl⟩ hT).mono ?_;rintro e w25 ⟨rfl,hb⟩;have hs_w25:=hb.size;clear hE hE2;replace G1:=G1.below hb;replace G3:=G3.below hb;replace R8:=R8.below hb;replace o1:=o1.below hb;replace o2:=o2.below hb;replace hT:=hT.below hb;replace S4:=S4.below hb
   replace S5:=S5.below hb;replace S6:=S6.below hb;replace hB:=tr hB hb (aL _);clear hb;go_wp2_with fail;refine wpIn_seq_k (fun _ _=>?_);refine H3 (fun _ _ h=>h) FC ?_;go_wp2_with fail;refine wpIn_cond_true rfl ?_;refine wpIn_exit ?_;refine ⟨fun k hk=>?_,rfl,pre,x,rfl,⟨lo,lc,F1,eo,ec,F2,G1,G3,o1,n1,o2,n2,f1,f2,dd,hT,hB,ha⟩,hno⟩;simp only [aH,aT,bm] at hk;rcases hk with rfl|rfl|rfl
   ·exact S4.1
   ·exact S5.1
   ·exact S6.1
  | some y =>
   by_cases hyx:y=x.data.toList
   ·have hok:Yt pre.length x.data.toList=true:=by unfold Yt;rw [henc,hyx];simp
    rw [hyx] at henc;have hE2:=hE.out;rw [hres.out,henc] at hE2;simp only [fK,Adj,Option.isSome_some] at hE2;replace hE2:=Lib.hid hE2;refine wpIn_seq_k (fun _ _=>?_);refine wpIn_seq_k (fun _ _=>?_);refine H3 (fun _ _ h=>h) FC ?_;have c_G1:=G1.cells;have f_G1:=G1.frozens;have c_R8:=R8.cells;have f_R8:=R8.frozens;go_wp2_with fail;clear c_G1 f_G1 c_R8 f_R8;refine (hE2.out _ _ ⟨_,rfl,rfl,sc,sr,rfl⟩ hT).mono ?_;rintro e w26 ⟨rfl,hb⟩;have hs_w26:=hb.size;clear hE hE2;replace G1:=G1.below hb;replace G3:=G3.below hb;replace R8:=R8.below hb;replace o1:=o1.below hb
    replace o2:=o2.below hb;replace hT:=hT.below hb;replace S4:=S4.below hb;replace S5:=S5.below hb;replace S6:=S6.below hb;replace hB:=tr hB hb (aL _);clear hb;go_wp2_with fail;refine wpIn_seq_k (fun _ _=>?_);refine H3 (fun _ _ h=>h) FC ?_;go_wp2_with fail;refine wpIn_cond_false rfl ?_;refine wpIn_skip ?_;go_wp2_with fail;have lF1:=o1.lt;have lF2:=o2.lt;have hnd:∀b∈FT,b < w.heap.size:=hT0;clear henc hres;refine wpIn_seq_k (fun _ _=>?_);refine H3 (fun _ _ h=>h) FC ?_
    have c_G1:=G1.cells;have f_G1:=G1.frozens;have d_G1:=fun o=>(G1.alloc o).cells;have e_G1:=fun o=>(G1.alloc o).frozens;have c_R8:=R8.cells;have f_R8:=R8.frozens;have d_R8:=fun o=>(R8.alloc o).cells;have e_R8:=fun o=>(R8.alloc o).frozens
    go_wp2_with (at_builtin;refine Oz Xi FA FL _ _ _ FL 56 (.agg #[af ⟨#[]⟩,af ⟨#[]⟩]) 32 underlying52 Af7 rfl (ab lo pre.length lc) (pre.map Ad4) F1 FL (o1.below ((Below.refl _ _).alloc (aL _) _)) (Hd.of n1) (some ⟨w26.heap.size,0,none⟩) [⟨cc,rr⟩] 1 FL [af cc,af rr] [] (Cz.one ⟨rfl,sc,sr,rfl⟩) (.inr ⟨_,rfl,World.news_of_block (heap_alloc_new w26 _)⟩) FB (by simp;unfold maxLen;omega) FF ?_);clear c_G1 f_G1 d_G1 e_G1 c_R8 f_R8 d_R8 e_R8;intro v6 w27 F6 hA
    have o6:=hA.ow;have n6:=hA.Ax4 n1 FB FB;have m6:=hA.mem;have K6:=hA.I0;obtain ⟨a6,c6,hv6⟩:=hA.val;clear hA;have hv7:v6=ab a6 (pre.length+1) c6:=by simpa using hv6
    subst hv7;clear hv6;have al:=(Below.refl w26.heap.size w26).alloc (aL _) (.cells #[af cc,af rr] 56);have hs_w27:w26.heap.size+1<=w27.heap.size:=by have:=K6.size;simpa using this
    have f6:∀b∈F6,w1.heap.size+1 < b:=fun b hb=>by
     rcases m6 b hb with h7|h7|h7
     ·exact f1 b h7
     ·simp at h7
     ·simp at h7;omega
    have d6:∀b∈F6,b ∉ F2:=fun b hb hm=>by
     rcases m6 b hb with h7|h7|h7
     ·exact dd b h7 hm
     ·simp at h7
     ·have:=lF2 b hm;simp at h7;omega
    replace G1:=(G1.below al).keepK K6 (fun hm=>by have:=f1 _ hm;omega);replace G3:=(G3.below al).keepK K6 (fun hm=>by have:=f1 _ hm;omega);replace o2:=(o2.below al).I0 K6 (fun b hb hm=>dd b hm hb);replace hT:=(hT.below al).I0 K6 (fun b hb hm=>by have:=f1 b hm;have:=hnd b hb;omega);replace S4:=(S4.below al).keepK K6 (fun hm=>by have:=f1 _ hm;omega);replace S5:=(S5.below al).keepK K6 (fun hm=>by have:=f1 _ hm;omega);replace S6:=(S6.below al).keepK K6 (fun hm=>by have:=f1 _ hm;omega)
    replace hB:=(tr hB al (aL _)).trans (K6.below (B:=w.heap.size) (by have:=hB.size;simp;omega) (fun b hb=>by have:=f1 b hb;omega));clear K6 m6 al o1 n1 dd lF1 lF2 R8;have c_G1:=G1.cells;have f_G1:=G1.frozens;go_wp2_with fail;clear c_G1 f_G1;have K7:Ei [w.heap.size] w27 (w27.setCell ⟨w.heap.size,0,none⟩ (ab a6 (pre.length+1) c6)):=(Ei.refl _ _).setCell FB _;have G1b:Ib (w27.setCell ⟨w.heap.size,0,none⟩ (ab a6 (pre.length+1) c6)) w.heap.size 52 [(ab a6 (pre.length+1) c6)]:=G1.set 0 (ab a6 (pre.length+1) c6);replace G3:=G3.keepK K7 FF
    replace o2:=o2.I0 K7 (fun b hb hm=>by have:=f2 b hb;simp at hm;omega);replace o6:=o6.I0 K7 (fun b hb hm=>by have:=f6 b hb;simp at hm;omega);replace hT:=hT.I0 K7 (fun b hb hm=>by have:=hnd b hb;simp at hm;omega);replace S4:=S4.keepK K7 FF;replace S5:=S5.keepK K7 FF;replace S6:=S6.keepK K7 FF;replace hB:=hB.trans (K7.below (B:=w.heap.size) (by have:=hB.size;omega) (fun b hb=>by simp at hb;omega));have hs_w28:w27.heap.size<=(w27.setCell ⟨w.heap.size,0,none⟩ (ab a6 (pre.length+1) c6)).heap.size:=K7.size;clear K7 G1
    generalize (w27.setCell ⟨w.heap.size,0,none⟩ (ab a6 (pre.length+1) c6))=w28 at *;have G1:=G1b;clear G1b;obtain ⟨gb,off,rfl⟩:=As9 o2;have hw4:=Lib.hid (show IntKind.i64.wrap (pre.length:Int)=(pre.length:Int) from by rw [IntKind.wrap_i64];omega);have hw9:=Lib.hid (show IntKind.i64.wrap ((Ou pre:Int)+(x.size:Int))=(Ou pre:Int)+(x.size:Int) from by rw [IntKind.wrap_i64];omega)
    refine Ez.startIn (S:=(fun w'=>w'.cell? ⟨w.heap.size+1+1,0,none⟩=some (ab (some ⟨gb,off,none⟩) (pre.length+1) ec)/\w'.cell? ⟨gb,off+pre.length,none⟩=some (aa (Ou pre:Int)))) (X:=(fun i=>i == 11 || i == 12)) FC (fun _ _ h=>h) FC ?_;have al:Below w28.heap.size w28 w28.drew:=E5 (Below.refl _ _) 1;have hs_w29:=al.size;replace G1:=G1.below al;replace G3:=G3.below al;replace o2:=o2.below al;replace hT:=hT.below al;replace S4:=S4.below al;replace S5:=S5.below al;replace S6:=S6.below al;replace o6:=o6.below al;replace hB:=tr hB al (aL _)
    generalize w28.drew=w29 at *;clear al;have hS:(fun w'=>w'.cell? ⟨w.heap.size+1+1,0,none⟩=some (ab (some ⟨gb,off,none⟩) (pre.length+1) ec)/\w'.cell? ⟨gb,off+pre.length,none⟩=some (aa (Ou pre:Int))) w29:=⟨G3.cells 0,Ain o2⟩;refine Ez.take (i:=0) (oi:=_) (v:=?_) FX FC FC FC FC FC FQ (Or.inl ⟨FL,?_⟩) hS ?_
    rotate_left
    ·(intro wS hSw;(try dsimp only at hSw);go_simp;try with_reducible rfl)
    try simp only [Act.put,be,bj,bt]
    refine Ez.take (i:=1) (oi:=_) (v:=?_) FX FC FC FC FC FC FQ (Or.inl ⟨FL,?_⟩) hS ?_
    rotate_left
    ·(intro wS hSw;(try dsimp only at hSw);go_simp;try with_reducible rfl)
    try simp only [Act.put,be,bj,bt]
    refine Ez.take (i:=2) (oi:=_) (v:=?_) FX FC FC FC FC FC FQ (Or.inl ⟨FL,?_⟩) hS ?_
    rotate_left
    ·(intro wS hSw;(try dsimp only at hSw);go_simp;try with_reducible rfl)
    try simp only [Act.put,be,bj,bt]
    refine Ez.take (i:=3) (oi:=_) (v:=?_) FX FC FC FC FC FC FQ (Or.inl ⟨FL,?_⟩) hS ?_
    rotate_left
    ·(intro wS hSw;(try dsimp only at hSw);go_simp;try with_reducible rfl)
    try simp only [Act.put,be,bj,bt]
    refine Ez.take (i:=4) (oi:=_) (v:=?_) FX FC FC FC FC FC FQ (Or.inl ⟨FL,?_⟩) hS ?_
    rotate_left
    ·(intro wS hSw;(try dsimp only at hSw);go_simp;rw [hw4.out];try with_reducible rfl)
    try simp only [Act.put,be,bj,bt]
    refine Ez.take (i:=5) (oi:=_) (v:=?_) FX FC FC FC FC FC FQ (Or.inl ⟨FL,?_⟩) hS ?_
    rotate_left
    ·(intro wS hSw;(try dsimp only at hSw);go_simp;rw [aJ EZ];try with_reducible rfl)
    try simp only [Act.put,be,bj,bt]
    refine Ez.take (i:=6) (oi:=_) (v:=?_) FX FC FC FC FC FC FQ (Or.inl ⟨FL,?_⟩) hS ?_
    rotate_left
    ·(intro wS hSw;(try dsimp only at hSw);go_simp;try with_reducible rfl)
    try simp only [Act.put,be,bj,bt]
    refine Ez.take (i:=7) (oi:=_) (v:=?_) FX FC FC FC FC FC FQ (Or.inl ⟨FL,?_⟩) hS ?_
    rotate_left
    ·(intro wS hSw;(try dsimp only at hSw);go_simp;try with_reducible rfl)
    try simp only [Act.put,be,bj,bt]
    refine Ez.take (i:=8) (oi:=_) (v:=?_) FX FC FC FC FC FC FQ (Or.inl ⟨FL,?_⟩) hS ?_
    rotate_left
    ·(intro wS hSw;(try dsimp only at hSw);go_simp;try with_reducible rfl)
    try simp only [Act.put,be,bj,bt]
    refine Ez.take (i:=9) (oi:=_) (v:=?_) FX FC FC FC FC FC FQ (Or.inl ⟨FL,?_⟩) hS ?_
    rotate_left
    ·(intro wS hSw;(try dsimp only at hSw);go_simp;rw [hw9.out];try with_reducible rfl)
    try simp only [Act.put,be,bj,bt]
    refine Ez.only (i:=10) (o:=_) FC FX (fun K hK=>?_)
    go_simp
    have al:Below w29.heap.size w29 (w29.alloc (.cells #[aa ((Ou pre:Int)+(x.size:Int))] 3)):=by
     repeat refine Below.alloc ?_ GQ _
     exact Below.refl _ _
    have n_R9:=Ib.made w29 3 [aa ((Ou pre:Int)+(x.size:Int))];have hs_w30:w29.heap.size < (w29.alloc (.cells #[aa ((Ou pre:Int)+(x.size:Int))] 3)).heap.size:=FB
    replace G1:=G1.below al;replace G3:=G3.below al;replace o2:=o2.below al;replace hT:=hT.below al;replace S4:=S4.below al;replace S5:=S5.below al;replace S6:=S6.below al;replace o6:=o6.below al;replace hB:=tr hB al (aL _);generalize (w29.alloc (.cells #[aa ((Ou pre:Int)+(x.size:Int))] 3))=w30 at *;have R9:=n_R9;clear n_R9;clear al;clear hS;have hS:(fun w'=>w'.cell? ⟨w.heap.size+1+1,0,none⟩=some (ab (some ⟨gb,off,none⟩) (pre.length+1) ec)/\w'.cell? ⟨gb,off+pre.length,none⟩=some (aa (Ou pre:Int))) w30:=⟨G3.cells 0,Ain o2⟩;refine hK.out _ _ (fun _=>hS) ?_;clear hK K
    try simp only [Act.put,be,bj,bt]
    refine Ez.only (i:=11) (o:=_) FC FX (fun K hK=>?_);have lF2:=o2.lt;have lF6:=o6.lt;refine Aop C6 FA FL _ _ _ FL 3 (aa 0) 8 underlying24 Af8 rfl (ab (some ⟨gb,off,none⟩) (pre.length+1) ec) (We pre) F2 FL o2 (Hd.of n2) (some ⟨w29.heap.size,0,none⟩) [(Ou pre:Int)+(x.size:Int)] 1 FL [aa ((Ou pre:Int)+(x.size:Int))] [] (Cz.one ⟨rfl,rfl⟩) (.inr ⟨_,rfl,(Ay3 R9)⟩) FB (by have:=hel.out;simp;unfold maxLen;omega) (by have:=hel.out;simp;omega) ?_;intro v8 w31 F8 hA
    have o8:=hA.ow;have n8:=hA.Ax4 n2 FB FB;have m8:=hA.mem;have K8:=hA.I0;obtain ⟨a8,c8,hv8⟩:=hA.val;clear hA;have hv9:v8=ab a8 (pre.length+1+1) c8:=by rw [hv8,hel.out];rfl
    subst hv9;clear hv8;have hs_w31:=K8.size;have f8:∀b∈F8,b=w.heap.size+1\/w1.heap.size+1 < b:=fun b hb=>by
     rcases m8 b hb with h7|h7|h7
     ·exact f2 b h7
     ·simp at h7
     ·omega
    have d8:∀b∈F6,b ∉ F8:=fun b hb hm=>by
     rcases m8 b hm with h7|h7|h7
     ·exact d6 b hb h7
     ·simp at h7
     ·have:=lF6 b hb;omega
    replace G1:=G1.keepK K8 (fun hm=>by have:=f2 _ hm;omega);replace G3:=G3.keepK K8 (fun hm=>by have:=f2 _ hm;omega);replace o6:=o6.I0 K8 (fun b hb hm=>d6 b hb hm);replace hT:=hT.I0 K8 (fun b hb hm=>by have:=f2 b hm;have:=hnd b hb;omega);replace S4:=S4.keepK K8 (fun hm=>by have:=f2 _ hm;omega);replace S5:=S5.keepK K8 (fun hm=>by have:=f2 _ hm;omega);replace S6:=S6.keepK K8 (fun hm=>by have:=f2 _ hm;omega);replace hB:=hB.trans (K8.below (B:=w.heap.size) (by have:=hB.size;omega) (fun b hb=>by have:=f2 b hb;omega));clear K8 m8 lF2 lF6 R9 o2;refine hK.out _ _ (fun h=>by cases h) ?_;clear hK K
    try simp only [Act.put,be,bj,bt]
    refine Ez.only (i:=12) (o:=_) FC FX (fun K hK=>?_);have c_G3:=G3.cells;have f_G3:=G3.frozens
    go_simp
    clear c_G3 f_G3;refine hK.out _ _ (fun h=>by cases h) ?_;clear hK K
    try simp only [Act.put,be,bj,bt]
    refine Ez.done FC ?_ _
    (try clear hS)
    have K9:Ei [w.heap.size+1+1] w31 (w31.setCell ⟨w.heap.size+1+1,0,none⟩ (ab a8 (pre.length+1+1) c8)):=(Ei.refl _ _).setCell FB _;have G3b:Ib (w31.setCell ⟨w.heap.size+1+1,0,none⟩ (ab a8 (pre.length+1+1) c8)) (w.heap.size+1+1) 24 [(ab a8 (pre.length+1+1) c8)]:=G3.set 0 (ab a8 (pre.length+1+1) c8);replace G1:=G1.keepK K9 GQ;replace o6:=o6.I0 K9 (fun b hb hm=>by have:=f6 b hb;simp at hm;omega);replace o8:=o8.I0 K9 (fun b hb hm=>by have:=f8 b hb;simp at hm;omega);replace hT:=hT.I0 K9 (fun b hb hm=>by have:=hnd b hb;simp at hm;omega)
    replace S4:=S4.keepK K9 GQ;replace S5:=S5.keepK K9 GQ;replace S6:=S6.keepK K9 GQ;replace hB:=hB.trans (K9.below (B:=w.heap.size) (by have:=hB.size;omega) (fun b hb=>by simp at hb;omega));have hlen:(pre++[x]).length=pre.length+1:=FB
    have hmap:(pre++[x]).map Ad4=pre.map Ad4++[⟨cc,rr⟩]:=by rw [bD,<-hrec.out];rfl
    refine ⟨fun k hk=>?_,?_⟩
    ·simp only [aH,aT,bm] at hk;rcases hk with rfl|rfl|rfl
     ·exact S4.1
     ·exact S5.1
     ·exact S6.1
    ·unfold RdI;rw [hlen,hmap,Apm,Vo];exact ⟨a6,c6,F6,a8,c8,F8,G1,G3b,o6,n6,o8,n8,f6,f8,d8,hT,hB,Lib.hid (Amb ha.out (by rw [Q4,cO];exact hok))⟩
   ·have hno:Yt pre.length x.data.toList=false:=by unfold Yt;rw [henc];simpa using hyx
    have hne:((bs y).toList == x.toList)=false:=by rw [ByteArray.toList_eq,ByteArray.toList_eq,Jg];simpa using hyx
    have hE2:=hE.out;rw [hres.out,henc] at hE2;replace hE2:=Lib.hid hE2;refine wpIn_seq_k (fun _ _=>?_);refine wpIn_seq_k (fun _ _=>?_);refine H3 (fun _ _ h=>h) FC ?_;have c_G1:=G1.cells;have f_G1:=G1.frozens;have c_R8:=R8.cells;have f_R8:=R8.frozens;go_wp2_with fail;clear c_G1 f_G1 c_R8 f_R8;refine (hE2.out _ _ ⟨_,rfl,rfl,sc,sr,rfl⟩ hT).mono ?_;rintro e w32 ⟨rfl,hb⟩;have hs_w32:=hb.size;clear hE hE2;replace G1:=G1.below hb;replace G3:=G3.below hb;replace R8:=R8.below hb;replace o1:=o1.below hb;replace o2:=o2.below hb;replace hT:=hT.below hb;replace S4:=S4.below hb
    replace S5:=S5.below hb;replace S6:=S6.below hb;replace hB:=tr hB hb (aL _);clear hb;go_wp2_with fail;refine wpIn_seq_k (fun _ _=>?_);refine H3 (fun _ _ h=>h) FC ?_;go_wp2_with fail;refine wpIn_cond_true rfl ?_;refine wpIn_exit ?_;refine ⟨fun k hk=>?_,rfl,pre,x,rfl,⟨lo,lc,F1,eo,ec,F2,G1,G3,o1,n1,o2,n2,f1,f2,dd,hT,hB,ha⟩,hno⟩;simp only [aH,aT,bm] at hk;rcases hk with rfl|rfl|rfl
    ·exact S4.1
    ·exact S5.1
    ·exact S6.1
 case hdone =>
  intro W hi hD;obtain ⟨lo,lc,eo,ec,r1,r3,hp⟩:=RdI.post (s:=s) EZ (Aqd hi.acc) hi;replace hp:=Lib.hid hp;clear R1 R2 R3 R4 hT hB h0 hi;have c1:=r1.cells;have c3:=r3.cells;go_wp2_with fail
  go_quiet (fail)
  go_wp2_with fail;refine ⟨FB,.inl ⟨_,_,rfl,run_takeDeferred (show (World.drewN W nq).heap[w1.heap.size]?=_ from hD),?_⟩⟩;refine ⟨_,?_,hp.out _ ⟨rfl,rfl,rfl,by simp [World.drewN],fun k hk hm=>World.putObj_heap_other IT⟩⟩;simp [results,results44,go_sem]
 case hstop =>
  intro c pre post x W hxs hix hD;obtain ⟨rfl,pre',x',hy,hi,hok⟩:=hix;obtain ⟨rfl,hxx⟩:=List.append_inj' hy rfl;simp only [List.cons.injEq,cR] at hxx;subst hxx;obtain ⟨lo,lc,eo,ec,r1,r3,hp⟩:=RdI.post (s:=s) EZ (An4 hxs hi.acc hok) hi;replace hp:=Lib.hid hp;clear R1 R2 R3 R4 hT hB h0 hi hxs hy;refine wpIn_exit ?_;have c1:=r1.cells;have c3:=r3.cells;go_wp2_with fail
  go_quiet (fail)
  go_wp2_with fail;refine ⟨FB,.inl ⟨_,_,rfl,run_takeDeferred (show (World.drewN W nq).heap[w1.heap.size]?=_ from hD),?_⟩⟩;refine ⟨_,?_,hp.out _ ⟨rfl,rfl,rfl,by simp [World.drewN],fun k hk hm=>World.putObj_heap_other IT⟩⟩;simp [results,results44,go_sem]
theorem Asw (xs:List Bs):acc 60 xs=[]:=by
 cases xs with
 | nil=>rfl
 | cons x r =>
  have:Yt 60 x=false:=by
   cases h:Yt 60 x with
   | false=>rfl
   | true=>obtain ⟨c,r,hk,_⟩:=Tt.1 h;omega
  simp [acc,this]
theorem Ajp {l rest:Bs} {pre:List Bs} (hl:l=pre.flatten++rest) (h:acc 0 pre=pre):Bn l=pre++acc pre.length (D9 rest):=by rw [hl];exact Rx h rest
theorem App {rest:Bs} (h:rest≠[]):∃x post,D9 rest=x::post/\(10∈rest->x=Ea 10 rest++[10]/\post=D9 (Ma 10 rest))/\(10 ∉ rest->x=rest):=by
 rcases Oq 10 rest with ⟨h1,h2⟩|⟨h1,h2,_⟩
 ·refine ⟨Ea 10 rest++[10],D9 (Ma 10 rest),?_,fun _=>⟨rfl,rfl⟩,fun e=>absurd h1 e⟩
  conv=>lhs;rw [h2]
  exact Tc _ Xw
 ·exact ⟨rest,[],Vm h fun c hc e=>h1 (by rw [<-e];exact hc),fun e=>absurd e h1,fun _=>rfl⟩
theorem Ad1 {l rest:Bs} {pre:List Bs} (hl:l=pre.flatten++rest) (h:acc 0 pre=pre) (hr:rest=[]\/pre.length=60):Bn l=pre:=by
 rw [Ajp hl h];rcases hr with rfl|hr
 ·simp [D9,acc]
 ·rw [hr,Asw];simp
theorem Agp {l rest:Bs} {pre:List Bs} (hl:l=pre.flatten++rest) (h:acc 0 pre=pre) (hr:rest≠[]) (hb:10 ∉ rest\/Yt pre.length (Ea 10 rest++[10])=false):Bn l=pre:=by
 rw [Ajp hl h];obtain ⟨x,post,hx,h1,h2⟩:=App hr;have:Yt pre.length x=false:=by
  by_cases hm:10∈rest
  ·rw [(h1 hm).1];exact hb.resolve_left (fun e=>e hm)
  ·rw [h2 hm];exact Ben fun b hb e=>hm (by rw [<-e];exact hb)
 rw [hx];simp [acc,this]
theorem An3 {l rest:Bs} {pre:List Bs} (hl:l=pre.flatten++rest) (h:acc 0 pre=pre) (hm:10∈rest) (hok:Yt pre.length (Ea 10 rest++[10])=true) :
  acc 0 (pre++[Ea 10 rest++[10]])=pre++[Ea 10 rest++[10]]/\l=(pre++[Ea 10 rest++[10]]).flatten++Ma 10 rest:=by
 refine ⟨Amb h (by rw [cO];exact hok),?_⟩;rcases Oq 10 rest with ⟨_,h2⟩|⟨h2,_⟩
 ·rw [hl];conv=>lhs;rw [h2]
  simp
 ·exact absurd hm h2
theorem Ava (c:UInt8) (l:Bs):(Dm c l).length < 2↔c ∉ l:=by
 obtain ⟨r,hr,he⟩:=O9 c l;rw [hr,<-he];cases r <;> simp
theorem Bet {k:Nat} {x:Bs} (h:Yt k x=true):(Qh x).I2.size<=maxLen/\(Qh x).Gj.size<=maxLen:=by
 obtain ⟨c,r,_,hg,e⟩:=Tt.1 h;have hG:=Ja hg;rw [e];unfold Qh;rw [Afm hG,Agz hG];have:=hG.c1;have:=hG.r1;show (bs c).size<=_/\(bs r).size<=_;rw [Jh,Jh];unfold maxLen;omega
structure OpS where
 pre:List Bs
 rest:Bs
 a:aj
 c:Nat
 F:aq
structure Bhd (l:Bs) (z:OpS):Prop where
 l:l=z.pre.flatten++z.rest
 a:acc 0 z.pre=z.pre
 p:z.pre.length<=60
theorem Ajg (s:au) (hs:s.size<=16777216):Fn prog 121 [af s] [] [] (fun (_:aj × Nat × aq)=>True) (fun z=>.tuple #[.slice z.1 ((Bn s.data.toList).map Qh).length z.2.1,aa ((Bn s.data.toList).flatten.length:Nat)]) (fun z=>[.ow Mo 56 (.slice z.1 ((Bn s.data.toList).map Qh).length z.2.1) ((Bn s.data.toList).map Qh) z.2.2]):=by
 refine enter func121 rfl ntmps121 fun w0=>?_;refine go ?_;intros;refine Cy Mo ?_;refine go ?_;intros;refine Bx [0,2,3] (fun z:OpS=>[(4,.slice z.a (z.pre.map Qh).length z.c),(5,aa (z.pre.flatten.length:Nat))]) (fun z=>[.ow Mo 56 (.slice z.a (z.pre.map Qh).length z.c) (z.pre.map Qh) z.F]) (Bhd s.data.toList) (fun z=>z.rest.length) ⟨[],s.data.toList,_,_,_⟩ ⟨rfl,rfl,aG _⟩ fun z hz=>?_;have hsz:=congrArg List.length hz.l;rw [Cp,aA] at hsz;have hp:=hz.p;have hml:(z.pre.map Qh).length=z.pre.length:=bf ..
 have hend:Bn s.data.toList=z.pre->z.pre=Bn s.data.toList:=Eq.symm;refine go ?_;intros;by_cases hr:z.rest=[]
 ·have hop:=Ad1 hz.l hz.a (.inl hr);rw [show decide (((z.pre.flatten.length:Nat):Int) < (s.size:Int))=false from ay (by rw [hr,aY] at hsz;omega)];exact DA
 have hr1:0 < z.rest.length:=cT.2 hr;rw [show decide (((z.pre.flatten.length:Nat):Int) < (s.size:Int))=true from av EZ];refine go ?_;intros;refine A4 rfl (fun h6=>?_) (fun h6=>?_)
 rotate_left
 ·have hop:=Ad1 hz.l hz.a (.inr EZ);exact DA
 have hp9:z.pre.length<=59:=EZ
 refine go ?_;intros;apply wO;apply oc;rfl;exact V8 rfl rfl EZ EZ;rw [show s.extract ((z.pre.flatten.length:Nat):Int).toNat s.size=bs z.rest by rw [show ((z.pre.flatten.length:Nat):Int).toNat=z.pre.flatten.length from rfl,X6,hz.l,fb]];have hrz:(bs z.rest).size<=16777216:=by rw [Jh];omega
 refine go ?_;intros;refine cn (fun w st=>Acn (bs z.rest) 10 w hrz) fun a2 c2 F2=>?_;rw [Jg];refine Av (E:=A8) (xs:=(Dm 10 z.rest).map bs) fun F3=>?_;have hi8:=All 10 z.rest;refine Jv (xs:=(Dm 10 z.rest).map bs) 0 ?_;rintro hi0 b0 o0 rfl q0;rw [Alk];have hus:=Abp 10 z.rest;have hus2:=Jh (Ea 10 z.rest);have hls:=Ava 10 z.rest
 obtain ⟨cc,rr,hRf,hrec⟩:∃cc rr,FV 208 [af (bs (Ea 10 z.rest)),aa ((z.pre.map Qh).length:Int)] [] (.tuple #[.agg #[af cc,af rr],.bool (Yt z.pre.length (Ea 10 z.rest++[10]))])/\(Yt z.pre.length (Ea 10 z.rest++[10])=true->(⟨cc,rr⟩:Nz)=Qh (Ea 10 z.rest++[10])):=by
  have hRf:=Auc (bs (Ea 10 z.rest)) z.pre.length hp9 EZ;rw [Jg,Aod hp9] at hRf;rw [hml];refine ⟨_,_,hRf,fun h=>?_⟩;rw [Auz (by rw [Aod hp9];exact h)];rfl
 have hsl:((Dm 10 z.rest).map bs).length=(Dm 10 z.rest).length:=bf ..;refine go ?_;intros;refine Bf hRf fun _ _=>?_;refine go ?_;intros;by_cases hm:10∈z.rest
 ·rw [show decide ((((Dm 10 z.rest).map bs).length:Int) < 2)=false from ay (by have:=mt hls.1 (fun h=>h hm);omega)];cases hok:Yt z.pre.length (Ea 10 z.rest++[10])
  ·have hop:=Agp hz.l hz.a hr (.inr hok);exact DA
  obtain ⟨hg1,hg2⟩:=An3 hz.l hz.a hm hok;have hq:=Bet hok;have hbl:=congrArg List.length hg2;rw [Cp,aA] at hbl;have e9:∀x,x=Qh (Ea 10 z.rest++[10])->z.pre.map Qh++[x]=(z.pre++[Ea 10 z.rest++[10]]).map Qh:=fun x h=>by rw [h,bD];rfl
  have e9:=e9 ⟨cc,rr⟩ (hrec hok);rw [<-hrec hok] at hq;refine Io ?_;intros;apply wO;refine Nb (Ah1 ⟨cc,rr⟩ hq.1 hq.2) Xi fun a9 c9 F9=>?_;rw [e9];have hfl:(z.pre++[Ea 10 z.rest++[10]]).flatten.length=z.pre.flatten.length+(Ea 10 z.rest).length+1:=FF
  refine go ?_;intros;rw [show ((z.pre.flatten.length:Nat):Int)+((bs (Ea 10 z.rest)).size:Int)+1=(((z.pre++[Ea 10 z.rest++[10]]).flatten.length:Nat):Int) by rw [hfl];omega];refine Ca ⟨z.pre++[Ea 10 z.rest++[10]],Ma 10 z.rest,a9,c9,F9⟩ ⟨hg2,hg1,by show (z.pre++[_]).length<=60;simp;omega⟩ (by show (Ma 10 z.rest).length < z.rest.length;omega)
 ·have hop:=Agp hz.l hz.a hr (.inl hm);rw [show decide ((((Dm 10 z.rest).map bs).length:Int) < 2)=true from av (by have:=hls.2 hm;omega)];exact DA
theorem Tz {d p:Bs} {n:Int} (h:Gt d p n=true):0<=n/\n<=60:=by
 have h1:=(Abq h).cnt;have h2:=(Lk (d++p)).2;omega
theorem Acr {k:Nat} {c r:au} (hk:k<=59) (h:Bp c r=true):(bs (Ke k c.data.toList r.data.toList)).size<=372:=by
 rw [Jh];exact Acq hk (Ja (by rw [<-N0];exact h))
theorem Ass (v:Value) (xs:ar) (F:aq) (z:Int) (w:World) (h:Sl Bc w v xs F) :
  Calls prog 157 #[v,aa z] w fun e w'=>e=.returned (aa (Re (fun x=>z == x) xs))/\w=w':=by
 obtain ⟨a,cap,rfl⟩:=h.slice;obtain ⟨-,hl,hc⟩:=h.int;unfold maxLen at hl
 go_enter func157,ntmps157
 go_wp2
 go_loop [5,8] (fun _ i=>∃k:Nat,k<=xs.length/\i=aa k/\Hid (∀j,j < k->∀hj:j < xs.length,(z == xs[j])=false)) (fun _ i=>xs.length - (intOf i).toNat)
 case atStart=>exact ⟨0,aG _,rfl,fun j hj=>by omega⟩
 case round =>
  obtain ⟨k,hk,rfl,hz⟩:=hrel;by_cases hlt:k < xs.length
  ·obtain ⟨b,off,rfl,c0⟩:=hc k hlt;clear hc;cases hp:(z == xs[k])
   ·have hp2:=Lib.hid hp
    go_wp2
    exact ⟨⟨k+1,EZ,HQ,Lib.hid fun j hj hl=>by rcases bc (cL hj) with h|h;exact hz.out j h hl;subst h;exact hp2.out⟩,GJ⟩
   ·have hp2:=Lib.hid hp
    go_wp2
    go_ret
    exact ⟨Lo (Oh hlt hz.out hp2.out).symm,rfl⟩
  ·go_wp2
   go_ret
   exact ⟨Lo (M2 (fun j hj=>hz.out j EZ hj)).symm,rfl⟩
theorem Aaj (v:Value) (xs:ar) (F:aq) (z:Int) (w:World) (h:Sl Bc w v xs F) :
  Calls prog 82 #[v,aa z] w fun e w'=>e=.returned (.bool (xs.any fun x=>z == x))/\w=w':=by
 go_enter func82,ntmps82
 go_wp2_with fail;refine (Ass v xs F z _ h).mono ?_;rintro e w1 ⟨rfl,rfl⟩;go_wp2_with fail
 go_ret
 exact ⟨Cn (Sw _ xs),rfl⟩
theorem Awg (A:List Bs) (n:Nat):(((Kx 0 A).map Int.ofNat).any fun x=>(n:Int) == x)=(Kx 0 A).contains n:=by
 generalize Kx 0 A=l
 induction l with
 | nil=>rfl
 | cons a l ih =>
  rw [cB,List.any_cons,ih,List.contains_cons]
  congr 1
  rw [cG];simp;constructor <;> intro h <;> omega
end Go.Proofs.YtkoldibamfjghaaGreatDoor.Lg
namespace Go.Proofs.YtkoldibamfjghaaGreatDoor
open Go.RowKit
theorem Asj {FT:aq} {w:World} (h:(E4 FT).P w):Ro Lg.Abx w (.agg #[]) () [1]:=by
 have ht:=(E4.env h).1;have hc:=Lib.TabIs.cell ht (g:=1) FC 0 (by rw [Lib.pow10Tab_length];omega);exact ⟨[],rfl,rfl,ht,rfl,World.block_lt_of_cell? w ⟨1,0,none⟩ hc⟩
theorem Bhu {p q:Pc} (h:Adf p q):Sc [p,q]:=⟨JR,FB,trivial⟩
theorem Ah4 (s:au) (hs:s.size<=16777216) (FT:aq):Fn prog 44 [af s] [E4 FT] [] (fun (_:(aj × Nat × aq) × (aj × Nat × aq))=>True) (fun z=>.tuple #[.slice z.1.1 ((Bn s.data.toList).map Lg.Qh).length z.1.2.1,.slice z.2.1 ((Kx 0 (Bn s.data.toList)).map Int.ofNat).length z.2.2.1]) (fun z=>[.ow Mo 56 (.slice z.1.1 ((Bn s.data.toList).map Lg.Qh).length z.1.2.1) ((Bn s.data.toList).map Lg.Qh) z.1.2.2,.ow Bc 3 (.slice z.2.1 ((Kx 0 (Bn s.data.toList)).map Int.ofNat).length z.2.2.1) ((Kx 0 (Bn s.data.toList)).map Int.ofNat) z.2.2.2]):=fun w hA _=>by
 refine (Lg.Ah3 s _ w hs (Asj (hA (E4 FT) FB))).mono ?_;rintro e w' ⟨u0,G0,u1,G1,rfl,o0,n0,o1,n1,b0,b1,dj,hB⟩;obtain ⟨a,c,rfl⟩:=o0.slice;obtain ⟨b,k,rfl⟩:=o1.slice;refine ⟨((a,c,G0),(b,k,G1)),trivial,rfl,Sz ⟨n0,o0⟩ ⟨n1,o1⟩,Bhu ?_,Ei.ofBelow hB,fun p hp q hq=>?_⟩
 ·exact fun _ q hq hp=>dj q hq hp
 ·simp only [aH,aT,bm] at hp;rcases hp with rfl|rfl
  ·exact .inl (b0 q hq)
  ·exact .inl (b1 q hq)
theorem Aki (d p:au) (n:Int) (FT:aq) (hz:d.size+p.size<=1048576):FV 43 [.agg #[af d,af p,aa n]] [E4 FT] (.bool (Gt d.data.toList p.data.toList n)):=by
 have hsm:=Lk (d.data.toList++p.data.toList);have hvp:Gt d.data.toList p.data.toList n=(decide ((Bn (d.data.toList++p.data.toList)).flatten.length=d.size+p.size) && (Kx 0 (Bn (d.data.toList++p.data.toList))).contains d.size && decide (n=((Bn (d.data.toList++p.data.toList)).length:Int))):=by rw [<-Az9];unfold Aq5;rw [Cp,Cp]
 have hR:=Ah4 (d++p) (by rw [aE];omega) FT;rw [Lg.Hx] at hR;have hL:=Zp (n:=0) (xs:=Bn (d.data.toList++p.data.toList));have hc:=Lg.Awg (Bn (d.data.toList++p.data.toList)) d.size;have hE:((Kx 0 (Bn (d.data.toList++p.data.toList))).map Int.ofNat).length=(Bn (d.data.toList++p.data.toList)).length+1:=by simp [Sg]
 rw [<-hc] at hvp;have hL:∀h:(Bn (d.data.toList++p.data.toList)).length < ((Kx 0 (Bn (d.data.toList++p.data.toList))).map Int.ofNat).length,((Kx 0 (Bn (d.data.toList++p.data.toList))).map Int.ofNat)[(Bn (d.data.toList++p.data.toList)).length]=((Bn (d.data.toList++p.data.toList)).flatten.length:Int):=fun h=>by
  rw [dU,Sg,dX,aD (by rw [Sg];omega)] at hL;have:=Option.some.inj hL;simp only [fL,this];simp
 have hRl:((Bn (d.data.toList++p.data.toList)).map Lg.Qh).length=(Bn (d.data.toList++p.data.toList)).length:=FB
 generalize (Bn (d.data.toList++p.data.toList)).map Lg.Qh=R at *;generalize (Kx 0 (Bn (d.data.toList++p.data.toList))).map Int.ofNat=E at *;generalize (Bn (d.data.toList++p.data.toList)).flatten.length=T at *;generalize (Bn (d.data.toList++p.data.toList)).length=K at *;replace hL:=hL EZ;refine enter func43 rfl ntmps43 fun w0=>?_;refine go ?_;intros;refine Bf hR fun z _=>?_;obtain ⟨⟨a,c,G⟩,⟨b,e,J⟩⟩:=z;dsimp only;refine Av (E:=Bc) (xs:=E) fun F8=>?_;refine Hy (xs:=E) K ?_;rintro hi0 b0 o0 rfl
 repeat (first|apply Og|(apply wO;apply oc;rfl;exact ydE)|apply U5|apply Ys|(apply Aq7;rfl;rfl)|(apply Aq6;rfl;rfl;rfl;rfl)|(apply Aq8;rfl;rfl;rfl)|(apply c_t;rfl)|(apply c_f;rfl)|apply Ww|apply Tq|apply Agl)
 by_cases h1:T=d.size+p.size
 ·cases h2:E.any fun x=>(d.size:Int) == x
  ·have hQ:Gt d.data.toList p.data.toList n=false:=by rw [hvp,h2];simp
   refine Ar [0,3] [] ?_;refine Df 0 1 2 3 ?_;rw [show ((E.length:Nat):Int) - 1=((K:Nat):Int) by omega];refine Df 4 5 6 7 ?_;refine Df 8 9 10 11 ?_;refine Dh 12 13 ?_;rw [hL,show decide ((T:Int)=(d.size:Int)+(p.size:Int))=true from av EZ];refine dt 14 ?_;refine C5 15 ?_;refine C5 16 ?_;refine C5 17 ?_;refine C5 18 ?_;refine d1g 19 ?_;apply On.h;refine oC ?_;refine ce (fun w st=>Lg.Aaj _ _ _ _ w (st.get (p:=.sl _ _ _ _) FD).2) ?_;rw [h2];refine dk ?_;refine Dh 20 21 ?_;refine ds 22 ?_;refine ds 23 ?_;refine ds 24 ?_;refine ds 25 ?_;refine ds 26 ?_
   refine Dh 27 28 ?_;refine dd ?_;refine go ?_;refine ret () trivial ?_;rw [hQ]
   first|rfl|(rw [hRl];rfl)
  ·have hQ:Gt d.data.toList p.data.toList n=decide (n=(K:Int)):=by rw [hvp,h2,av h1];simp
   refine Ar [0,3] [] ?_;refine Df 0 1 2 3 ?_;rw [show ((E.length:Nat):Int) - 1=((K:Nat):Int) by omega];refine Df 4 5 6 7 ?_;refine Df 8 9 10 11 ?_;refine Dh 12 13 ?_;rw [hL,show decide ((T:Int)=(d.size:Int)+(p.size:Int))=true from av EZ];refine dt 14 ?_;refine C5 15 ?_;refine C5 16 ?_;refine C5 17 ?_;refine C5 18 ?_;refine d1g 19 ?_;apply On.h;refine oC ?_;refine ce (fun w st=>Lg.Aaj _ _ _ _ w (st.get (p:=.sl _ _ _ _) FD).2) ?_;rw [h2];refine dk ?_;refine Dh 20 21 ?_;refine C5 22 ?_;refine C5 23 ?_;refine C5 24 ?_;refine C5 25 ?_;refine C5 26 ?_
   refine Dh 27 28 ?_;refine dd ?_;refine go ?_;refine ret () trivial ?_;rw [hQ]
   first|rfl|(rw [hRl];rfl)
 ·have hQ:Gt d.data.toList p.data.toList n=false:=by rw [hvp,ay h1];simp
  refine Ar [0,3] [] ?_;refine Df 0 1 2 3 ?_;rw [show ((E.length:Nat):Int) - 1=((K:Nat):Int) by omega];refine Df 4 5 6 7 ?_;refine Df 8 9 10 11 ?_;refine Dh 12 13 ?_;rw [hL,show decide ((T:Int)=(d.size:Int)+(p.size:Int))=false from ay EZ];refine dt 14 ?_;refine ds 15 ?_;refine ds 16 ?_;refine ds 17 ?_;refine ds 18 ?_;refine ds 19 ?_;refine Dh 20 21 ?_;refine ds 22 ?_;refine ds 23 ?_;refine ds 24 ?_;refine ds 25 ?_;refine ds 26 ?_;refine Dh 27 28 ?_;refine dd ?_;refine go ?_;refine ret () trivial ?_;rw [hQ]
  first|rfl|(rw [hRl];rfl)
theorem Xe (d p:au) (n:Int) (hz:d.size+p.size<=1048576):FV 60 [.agg #[af d,af p,aa n]] [] (.bool (Gt d.data.toList p.data.toList n)):=by
 have hsm:=Lk (d.data.toList++p.data.toList);have hsm2:=Lk d.data.toList;have hvp:Gt d.data.toList p.data.toList n=(decide (d.size+p.size<=30000) && (decide ((Bn (d.data.toList++p.data.toList)).flatten.length=d.size+p.size) && decide ((Bn d.data.toList).flatten.length=d.size) && decide (((Bn (d.data.toList++p.data.toList)).length:Int)=n))):=by
  unfold Gt;simp only [Cp]
 have h1:=Lg.Ajg (d++p) (by rw [aE];omega);rw [Lg.Hx] at h1;have h2:=Lg.Ajg d EZ;have hRl:((Bn (d.data.toList++p.data.toList)).map Lg.Qh).length=(Bn (d.data.toList++p.data.toList)).length:=FB
 generalize (Bn (d.data.toList++p.data.toList)).map Lg.Qh=R at *;generalize (Bn (d.data.toList++p.data.toList)).flatten.length=T at *;generalize (Bn (d.data.toList++p.data.toList)).length=K at *;generalize (Bn d.data.toList).map Lg.Qh=R2 at *;generalize (Bn d.data.toList).flatten.length=T2 at *;rw [hvp];refine enter func60 rfl ntmps60 fun w0=>?_;refine go ?_;intros;refine A4 rfl (fun h3=>?_) (fun h3=>?_)
 ·refine go ?_;refine ret () trivial ?_;rw [ay EZ];rfl
 rw [av (show d.size+p.size<=30000 by omega)];refine go ?_;refine Bf h1 fun z _=>?_;refine go ?_;refine Bf h2 fun y _=>?_;by_cases h4:T=d.size+p.size
 ·have e4:decide ((T:Int)=(d.size:Int)+(p.size:Int))=true:=av EZ;rw [av h4];refine go ?_;rw [e4];by_cases h5:T2=d.size
  ·have e5:decide ((T2:Int)=(d.size:Int))=true:=av EZ;rw [av h5];refine go ?_;rw [e5];refine go ?_;refine ret () trivial ?_;rw [hRl];rfl
  ·have e5:decide ((T2:Int)=(d.size:Int))=false:=ay EZ;rw [ay h5];refine go ?_;rw [e5];exact AA
 ·have e4:decide ((T:Int)=(d.size:Int)+(p.size:Int))=false:=ay EZ;rw [ay h4];refine go ?_;rw [e4];exact AA
theorem Aj2 (d p c r:au) (k:Nat) (hv:Gt d.data.toList p.data.toList k=true) (hk:k<=59) (hr:Lg.Bp c r=true) (hz:d.size+p.size<=30000) (hc1:c.size<=160) (hr1:r.size<=200):FV 36 [.agg #[af d,af p,aa (k:Int)],.agg #[af c,af r]] [] (.tuple #[.agg #[af d,af (p++Lg.bs (Ke k c.data.toList r.data.toList)),aa ((k:Int)+1)],aa 0]):=by
 have hln:=Lg.Acr hk hr;have hG:Yq c.data.toList r.data.toList:=Ja (by rw [<-Lg.N0];exact hr);have hL:=fun w=>Lg.Aub k c r w hk hG;generalize Lg.bs (Ke k c.data.toList r.data.toList)=ln at *;refine enter func36 rfl ntmps36 fun w0=>?_;refine go ?_;intros;refine Bf (Xe d p k EZ) fun _ _=>?_;rw [hv];refine go ?_;refine cb (fun w st=>Lg.Si c r w FH FH) ?_;rw [hr];refine go ?_;refine A4 rfl (fun h3=>?_) (fun h3=>?_)
 ·exact absurd h3 EZ
 repeat (first|apply Og|(apply wO;apply oc;rfl;exact ydE)|apply U5|apply Ys|(apply Aq7;rfl;rfl)|(apply Aq6;rfl;rfl;rfl;rfl)|(apply Aq8;rfl;rfl;rfl)|(apply c_t;rfl)|(apply c_f;rfl)|apply Ww|apply Tq|apply Agl)
 refine Ar [1,2] [8] ?_;refine Df 0 1 2 3 ?_;refine dt 4 ?_;refine dN 5 ?_;refine oC ?_;refine cb (fun w st=>hL w) ?_;refine dk ?_;refine Dh 6 7 ?_;refine dN 8 ?_;refine oS ?_;refine Nm ?_;exact CI
section
variable {c:Cx} {fr:Fr} {H:List Pc} {Φ:Gl}
theorem Cd {v:Value} {x:B4} {F:aq} (h:∀(a1:aj) (c1:Nat) (F1:aq) (a2:aj) (c2:Nat) (F2:aq) (a3:aj) (c3:Nat) (F3:aq) (a4:aj) (c4:Nat) (F4:aq) (a5:aj) (c5:Nat) (F5:aq) (a6:aj) (c6:Nat) (F6:aq) (a7:aj) (c7:Nat) (F7:aq),v=.agg #[ab a1 x.Bb.Al.Ac.length c1,aa x.Bb.Ab.Aa.Am,aa x.Bb.Ab.Aa.size,ab a2 x.Bb.Ab.Aa.Ak.length c2,aa x.Bb.Ab.Ai,aa x.Bb.Ab.quiet,ab a3 x.Bb.Ab.holds.length c3,ab a4 x.Bb.Af.length c4,ab a5 x.Bb.Ad.length c5,ab a6 x.Bb.down.length c6,ab a7 x.Bb.up.length c7,af x.Il.Cg,af x.Il.pending,aa x.Il.count]->x.Il.Cg.size<=maxLen->x.Il.pending.size<=maxLen->x.Bb.Al.Ac.length<=maxLen->x.Bb.Ab.Aa.Ak.length<=maxLen->x.Bb.Ab.holds.length<=maxLen->x.Bb.Af.length<=maxLen->x.Bb.Ad.length<=maxLen->x.Bb.down.length<=maxLen->x.Bb.up.length<=maxLen->T c fr (.sl Bc (ab a1 x.Bb.Al.Ac.length c1) x.Bb.Al.Ac F1::.sl A8 (ab a2 x.Bb.Ab.Aa.Ak.length c2) x.Bb.Ab.Aa.Ak F2::.sl Bw (ab a3 x.Bb.Ab.holds.length c3) x.Bb.Ab.holds F3::.sl Bv (ab a4 x.Bb.Af.length c4) x.Bb.Af F4::.sl B8 (ab a5 x.Bb.Ad.length c5) x.Bb.Ad F5::.sl (Oa An FA) (ab a6 x.Bb.down.length c6) x.Bb.down F6::.sl (Oa An FA) (ab a7 x.Bb.up.length c7) x.Bb.up F7::H) Φ) (hm:.isv Ed v x F∈H:=by exact Bl):T c fr H Φ:=.mk fun a w s g=>by
 obtain ⟨cs,rfl,v1,v2,v3,v4,v5,v6,v7,G1,G2,G3,G4,G5,G6,G7,rfl,s1,s2,h1,h2,h3,h4,h5,h6,h7,rfl⟩:=s.get hm;obtain ⟨a1,c1,rfl⟩:=h1.slice;have l1:=h1.len;obtain ⟨a2,c2,rfl⟩:=h2.slice;have l2:=h2.len;obtain ⟨a3,c3,rfl⟩:=h3.slice;have l3:=h3.len;obtain ⟨a4,c4,rfl⟩:=h4.slice;have l4:=h4.len;obtain ⟨a5,c5,rfl⟩:=h5.slice;have l5:=h5.len;obtain ⟨a6,c6,rfl⟩:=h6.slice;have l6:=h6.len;obtain ⟨a7,c7,rfl⟩:=h7.slice;have l7:=h7.len;have t7:=s.ro (p:=.sl _ _ _ _) hm rfl rfl ⟨FA,h7⟩ FI
 have t6:=t7.ro (p:=.sl _ _ _ _) (aQ _ hm) rfl rfl ⟨FA,h6⟩ FI;have t5:=t6.ro (p:=.sl _ _ _ _) (aQ _ (aQ _ hm)) rfl rfl ⟨FA,h5⟩ FI;have t4:=t5.ro (p:=.sl _ _ _ _) (aQ _ (aQ _ (aQ _ hm))) rfl rfl ⟨FA,h4⟩ FI
 have t3:=t4.ro (p:=.sl _ _ _ _) (aQ _ (aQ _ (aQ _ (aQ _ hm)))) rfl rfl ⟨FA,h3⟩ FI;have t2:=t3.ro (p:=.sl _ _ _ _) (aQ _ (aQ _ (aQ _ (aQ _ (aQ _ hm))))) rfl rfl ⟨FA,h2⟩ FI
 have t1:=t2.ro (p:=.sl _ _ _ _) (aQ _ (aQ _ (aQ _ (aQ _ (aQ _ (aQ _ hm)))))) rfl rfl ⟨FA,h1⟩ FI;exact (h a1 c1 G1 a2 c2 G2 a3 c3 G3 a4 c4 G4 a5 c5 G5 a6 c6 G6 a7 c7 G7 rfl s1 s2 l1 l2 l3 l4 l5 l6 l7).h a w t1 g
theorem C0 (x:B4) {a1:aj} {c1:Nat} {F1:aq} {a2:aj} {c2:Nat} {F2:aq} {a3:aj} {c3:Nat} {F3:aq} {a4:aj} {c4:Nat} {F4:aq} {a5:aj} {c5:Nat} {F5:aq} {a6:aj} {c6:Nat} {F6:aq} {a7:aj} {c7:Nat} {F7:aq} (s1:x.Il.Cg.size<=maxLen) (s2:x.Il.pending.size<=maxLen) (h:T c fr (.isv Ed (.agg #[ab a1 x.Bb.Al.Ac.length c1,aa x.Bb.Ab.Aa.Am,aa x.Bb.Ab.Aa.size,ab a2 x.Bb.Ab.Aa.Ak.length c2,aa x.Bb.Ab.Ai,aa x.Bb.Ab.quiet,ab a3 x.Bb.Ab.holds.length c3,ab a4 x.Bb.Af.length c4,ab a5 x.Bb.Ad.length c5,ab a6 x.Bb.down.length c6,ab a7 x.Bb.up.length c7,af x.Il.Cg,af x.Il.pending,aa x.Il.count]) x (F1++F2++F3++F4++F5++F6++F7)::H) Φ) (m1:.sl Bc (ab a1 x.Bb.Al.Ac.length c1) x.Bb.Al.Ac F1∈H:=by exact Bl) (m2:.sl A8 (ab a2 x.Bb.Ab.Aa.Ak.length c2) x.Bb.Ab.Aa.Ak F2∈H:=by exact Bl) (m3:.sl Bw (ab a3 x.Bb.Ab.holds.length c3) x.Bb.Ab.holds F3∈H:=by exact Bl) (m4:.sl Bv (ab a4 x.Bb.Af.length c4) x.Bb.Af F4∈H:=by exact Bl) (m5:.sl B8 (ab a5 x.Bb.Ad.length c5) x.Bb.Ad F5∈H:=by exact Bl) (m6:.sl (Oa An FA) (ab a6 x.Bb.down.length c6) x.Bb.down F6∈H:=by exact Bl) (m7:.sl (Oa An FA) (ab a7 x.Bb.up.length c7) x.Bb.up F7∈H:=by exact Bl):T c fr H Φ:=.mk fun a w s g=>by
 refine h.h a w (s.add (N:=[_]) (Below.refl _ _) (by intro q hq;obtain rfl:=aM.1 hq;exact ⟨_,rfl,_,_,_,_,_,_,_,_,_,_,_,_,_,_,rfl,s1,s2,(s.get m1).2,(s.get m2).2,(s.get m3).2,(s.get m4).2,(s.get m5).2,(s.get m6).2,(s.get m7).2,rfl⟩) ⟨FB,trivial⟩ fun q hq b hb=>?_) g;obtain rfl:=aM.1 hq;simp only [Pc.F,aK] at hb;rcases hb with (((((hb|hb)|hb)|hb)|hb)|hb)|hb
 ·exact .inr ⟨rfl,_,m1,rfl,hb⟩
 ·exact .inr ⟨rfl,_,m2,rfl,hb⟩
 ·exact .inr ⟨rfl,_,m3,rfl,hb⟩
 ·exact .inr ⟨rfl,_,m4,rfl,hb⟩
 ·exact .inr ⟨rfl,_,m5,rfl,hb⟩
 ·exact .inr ⟨rfl,_,m6,rfl,hb⟩
 ·exact .inr ⟨rfl,_,m7,rfl,hb⟩
theorem Y0 (x:B4) {a1:aj} {c1:Nat} {F1:aq} {a2:aj} {c2:Nat} {F2:aq} {a3:aj} {c3:Nat} {F3:aq} {a4:aj} {c4:Nat} {F4:aq} {a5:aj} {c5:Nat} {F5:aq} {a6:aj} {c6:Nat} {F6:aq} {a7:aj} {c7:Nat} {F7:aq} {S1 S2 S3 S4 S5 S6 S7:List Pc} (s1:x.Il.Cg.size<=maxLen) (s2:x.Il.pending.size<=maxLen) (h:T c fr (.own Aal (.agg #[ab a1 x.Bb.Al.Ac.length c1,aa x.Bb.Ab.Aa.Am,aa x.Bb.Ab.Aa.size,ab a2 x.Bb.Ab.Aa.Ak.length c2,aa x.Bb.Ab.Ai,aa x.Bb.Ab.quiet,ab a3 x.Bb.Ab.holds.length c3,ab a4 x.Bb.Af.length c4,ab a5 x.Bb.Ad.length c5,ab a6 x.Bb.down.length c6,ab a7 x.Bb.up.length c7,af x.Il.Cg,af x.Il.pending,aa x.Il.count]) x (F1++F2++F3++F4++F5++F6++F7)::S7) Φ) (m1:C2 H (.ow Bc 3 (ab a1 x.Bb.Al.Ac.length c1) x.Bb.Al.Ac F1) S1:=by exact Dt) (m2:C2 S1 (.ow A8 9 (ab a2 x.Bb.Ab.Aa.Ak.length c2) x.Bb.Ab.Aa.Ak F2) S2:=by exact Dt) (m3:C2 S2 (.ow Bw 191 (ab a3 x.Bb.Ab.holds.length c3) x.Bb.Ab.holds F3) S3:=by exact Dt) (m4:C2 S3 (.ow Ce 122 (ab a4 x.Bb.Af.length c4) x.Bb.Af F4) S4:=by exact Dt) (m5:C2 S4 (.ow B9 76 (ab a5 x.Bb.Ad.length c5) x.Bb.Ad F5) S5:=by exact Dt) (m6:C2 S5 (.ow (Ki An 141) 125 (ab a6 x.Bb.down.length c6) x.Bb.down F6) S6:=by exact Dt) (m7:C2 S6 (.ow (Ki An 141) 125 (ab a7 x.Bb.up.length c7) x.Bb.up F7) S7:=by exact Dt)  : T c fr H Φ:=.mk fun a w s g =>
 h.h a w (s.mer (M:=[.ow Bc _ _ _ F1,.ow A8 _ _ _ F2,.ow Bw _ _ _ F3,.ow Ce _ _ _ F4,.ow B9 _ _ _ F5,.ow (Ki An 141) _ _ _ F6,.ow (Ki An 141) _ _ _ F7]) (N:=[.own Aal _ x (F1++F2++F3++F4++F5++F6++F7)]) (.cons m1 (.cons m2 (.cons m3 (.cons m4 (.cons m5 (.cons m6 (.cons m7 (.nil)))))))) (fun hk hn=>⟨Iw ⟨GD,_,rfl,_,_,_,_,_,_,_,_,_,_,_,_,_,_,rfl,s1,s2,(P0 hk).2,(P0 (Hn hk)).2,(P0 (Hn (Hn hk))).2,(P0 (Hn (Hn (Hn hk)))).2,(P0 (Hn (Hn (Hn (Hn hk))))).2,(P0 (Hn (Hn (Hn (Hn (Hn hk)))))).2,(P0 (Hn (Hn (Hn (Hn (Hn (Hn hk))))))).2,rfl⟩,GD⟩) GP) g
end
def D7 (x:B4):Bool:=At x.Bb && Gt x.Il.Cg.data.toList x.Il.pending.data.toList x.Il.count
theorem Ua (x:B4) (v:Value) (F FT:aq) (hz:x.Il.Cg.size+x.Il.pending.size<=1048576):FV 16 [v] [.isv Ed v x F,E4 FT] (.bool (D7 x)):=by
 refine enter func16 rfl ntmps16 fun w0=>?_;refine Cd ?_;rintro a1 c1 F1 a2 c2 F2 a3 c3 F3 a4 c4 F4 a5 c5 F5 a6 c6 F6 a7 c7 F7 rfl s1 s2 l1 l2 l3 l4 l5 l6 l7;refine Es x.Bb ?_;generalize hFN:F1++F2++F3++F4++F5++F6++F7=FN;refine go ?_;intros;refine Bf (Aak x.Bb _ FN) fun _ _=>?_;unfold D7;cases g1:At x.Bb
 ·exact AA
 refine go ?_;refine Bf (Aki x.Il.Cg x.Il.pending x.Il.count FT hz) fun _ _=>?_;exact AA
theorem Yb (x:B4) (v:Value) (F:aq) (hz:x.Il.Cg.size+x.Il.pending.size<=1048576):FV 27 [v] [.isv Ed v x F] (.bool (D7 x)):=by
 refine enter func27 rfl ntmps27 fun w0=>?_;refine Cd ?_;rintro a1 c1 F1 a2 c2 F2 a3 c3 F3 a4 c4 F4 a5 c5 F5 a6 c6 F6 a7 c7 F7 rfl s1 s2 l1 l2 l3 l4 l5 l6 l7;refine Es x.Bb ?_;generalize hFN:F1++F2++F3++F4++F5++F6++F7=FN;refine go ?_;intros;refine Bf (Acm x.Bb _ FN) fun _ _=>?_;unfold D7;cases g1:At x.Bb
 ·exact AA
 refine go ?_;refine Bf (Xe x.Il.Cg x.Il.pending x.Il.count hz) fun _ _=>?_;exact AA
theorem Api {u:Nat} (h:u < 10000000):Lib.decNat (Lib.decDigits u)=some u:=by
 have hb:=Afo 6 u EZ;have hp:=X3 u;unfold Lib.decNat;rw [aC (by intro e;rw [List.isEmpty_iff] at e;rw [e] at hp;simp at hp),hb]
theorem Aa3 {v:Int} (h:v < 0):Lib.itoa v=45::Lib.decDigits v.natAbs:=by unfold Lib.itoa;rw [aJ h]
theorem Am7 {v:Int} (h:0<=v):Lib.itoa v=Lib.decDigits v.natAbs:=by unfold Lib.itoa;rw [aC EZ,show v.toNat=v.natAbs by omega]
theorem Ag3 {v:Int} (h0:-999999<=v) (h1:v<=999999):C3 (bz (Lib.itoa v))=(v,true):=by
 by_cases hn:v < 0
 ·have hl:=Dv 5 v.natAbs EZ;have ha:Lib.atoiAll (Lib.itoa v)=.ok v:=by
   rw [Aa3 hn,Lib.atoiAll_short _ FF];have:Lib.atoi (45::Lib.decDigits v.natAbs)=some v:=by
    rw [Lib.atoi,aJ FL,Api EZ];show some (-((v.natAbs:Nat):Int))=some v
    congr 1;omega
   rw [this];rfl
  unfold C3;rw [I1,ha];show (if E8 (-999999) v 999999 && decide (bz (Lib.itoa v)=bz (Lib.itoa v)) then (v,true) else (0,false))=(v,true);rw [av rfl,show E8 (-999999) v 999999=true by unfold E8;rw [av h0,av h1];rfl];rfl
 ·rw [Am7 EZ,Aqk v.natAbs EZ]
  congr 1;omega
theorem Aog (s:au):C3 s=(0,false)\/∃v:Int, -999999<=v/\v<=999999/\s=bz (Lib.itoa v):=by
 unfold C3
 split
 ·rename_i v _;cases h:(E8 (-999999) v 999999 && decide (bz (Lib.itoa v)=s))
  ·exact .inl rfl
  ·unfold E8 at h;simp only [aw,aF] at h;exact .inr ⟨v,h.1.1,h.1.2,h.2.symm⟩
 ·exact .inl rfl
def unS (l:Bs):Bs:=if 1 < l.length/\l.head?=some 45 then l.drop 1 else l
def Afr (l:Bs):Nat:=l.foldl (fun a c=>10 * a+(c.toNat - 48)) 0
theorem Afs (l:Bs) (c:UInt8):Afr (l++[c])=10 * Afr l+(c.toNat - 48):=by unfold Afr;rw [dF];rfl
theorem Ark:∀(n:Nat) (l:Bs),l.length=n->(∀c∈l,48<=c.toNat/\c.toNat<=57)->Afr l < 10 ^ n
 | 0,l,h,_=>by rw [bv.1 h];decide
 | n+1,l,h,hd=>by
  have hne:l≠[]:=by intro e;rw [e] at h;simp at h
  have e:=List.dropLast_concat_getLast hne;have ih:=Ark n l.dropLast FF fun c hc=>hd c (List.dropLast_subset _ hc);have hc:=hd _ (List.getLast_mem hne);rw [<-e,Afs,dZ];omega
theorem Bd6:∀d:Nat,d < 10->(UInt8.ofNat (48+d)).toNat=48+d:=by decide
theorem Amq:∀(k u:Nat),u < 10 ^ (k+1)->Afr (Lib.decDigits u)=u
 | 0,u,h=>by
  have h3:u < 10:=FJ
  rw [Lib.decDigits,ei h3];unfold Afr;simp only [dS,eZ];rw [Bd6 u h3];omega
 | k+1,u,h=>by
  by_cases h3:u < 10
  ·rw [Lib.decDigits,ei h3];unfold Afr;simp only [dS,eZ];rw [Bd6 u h3];omega
  ·rw [Lib.decDigits,dif_neg h3,Afs,Amq k (u / 10) (by rw [dZ] at h;omega),Bd6 _ EZ];omega
theorem Az6 {v:Int} (h0:-999999<=v) (h1:v<=999999):unS (Lib.itoa v)=Lib.decDigits v.natAbs/\((unS (Lib.itoa v)).length < (Lib.itoa v).length↔v < 0):=by
 have hp:=X3 v.natAbs;by_cases hn:v < 0
 ·rw [Aa3 hn];unfold unS;rw [aJ ⟨FF,rfl⟩];exact ⟨rfl,by simp [hn]⟩
 ·rw [Am7 EZ];have:¬(1 < (Lib.decDigits v.natAbs).length/\(Lib.decDigits v.natAbs).head?=some 45):=by
   rintro ⟨-,h⟩;have:=O2 _ 45 (List.mem_of_mem_head? h);revert this;decide
  unfold unS;rw [aC this];exact ⟨rfl,FF⟩
theorem U1 {s:au} (h:C3 s≠(0,false)):∃v:Int, -999999<=v/\v<=999999/\s=bz (Lib.itoa v)/\1<=(unS s.data.toList).length/\(unS s.data.toList).length<=6/\(∀c∈unS s.data.toList,48<=c.toNat/\c.toNat<=57)/\Afr (unS s.data.toList)=v.natAbs/\((unS s.data.toList).length < s.size↔v < 0):=by
 rcases Aog s with h2|⟨v,h0,h1,rfl⟩
 ·exact absurd h2 h
 ·obtain ⟨e,e2⟩:=Az6 h0 h1;have hl:=Dv 5 v.natAbs EZ;rw [I1,Gk];refine ⟨v,h0,h1,rfl,?_,?_,?_,?_,e2⟩
  ·rw [e];exact X3 _
  ·rw [e];exact hl
  ·rw [e];exact O2 _
  ·rw [e];exact Amq 5 _ EZ
structure Bhy (c:Int) (x:Ha):Prop where
 n0:0<=x.Ae
 n1:x.Ae<=65535
 f:∀f∈x.Bj,1<=f/\f<=7
 p:0 < x.Bj.length
 l:x.Bj.length<=7
 u0:c+1<=x.Co
 u1:x.Co<=c+6
structure Bhz (e:Bh) (k:Nat) (y:Bh):Prop where
 g:Ba y=true
 c:y.Ai=e.Ai+(k:Int)
 u:∀x∈y.Ah,x.Co<=e.Ai+6
theorem Ax6 (n:Int) (h0:-999999<=n) (hn:n < 0):FV 33 [aa n] [] (af (bz (Lib.itoa n))):=by
 have hz:(bz (Aph (-n))).size<=7:=by rw [Gk];exact Ba9 EZ
 have zl:(⟨#[45]⟩:au).size=1:=rfl;refine enter func33 rfl ntmps33 fun w0=>?_;refine go ?_;refine A4 rfl (fun e0=>?_) (fun e0=>?_)
 rotate_left
 ·exact absurd hn e0
 refine go ?_;refine cb (fun w st=>Ax5 (-n) EZ EZ w) ?_;refine go ?_;rw [show (⟨#[45]⟩:au)++bz (Aph (-n))=bz (Lib.itoa n) by
  rw [Aa3 hn];unfold Aph;rw [show (-n).toNat=n.natAbs by omega];apply dz;simp [bz,cF]]
 exact BC
theorem Vp (n:Int) (h0:-999999<=n) (h1:n<=999999) (w:World):Calls prog 33 #[aa n] w (RB (af (bz (Lib.itoa n))) w):=by
 by_cases hn:n < 0
 ·exact (Ax6 n h0 hn).val w (fun p hp=>by cases hp)
 ·rw [Axe EZ];exact Ax5 n EZ EZ w
theorem Az5 {s:au} (h:1 < s.size):unS s.data.toList=if s[0]=45 then (s.extract 1 s.size).data.toList else s.data.toList:=by
 have e:s.data.toList.head?=some s[0]:=by
  rw [List.head?_eq_getElem?,aD (by rw [Cp];omega)];rfl
 unfold unS;rw [Cp,e,X6,I1];by_cases h2:s[0]=45
 ·rw [aJ ⟨h,by rw [h2]⟩,aJ h2]
 ·rw [aC (fun hh=>h2 (Option.some.inj hh.2)),aC h2]
theorem Avk {s:au} (h:¬1 < s.size):unS s.data.toList=s.data.toList:=by
 unfold unS;rw [Cp,aC (fun hh=>h hh.1)]
theorem Bam {P:Program} {n:Nat} {fr:Fr} {H:List Pc} {ty:TypeId} {x y:Operand} {a b:Int} {t t':TypeId} (hx:ev fr x=some (.int .u8 a)) (hy:ev fr y=some (.int .u8 b)) (h0:0<=a - b) (h1:a - b<=255):Yd P n fr H (.binOp .sub t x y t') ty (.int .u8 (a - b)):=.mk fun c w d pos Cc gd hA _=>by
 simp [execOp,hA.ev hx,hA.ev hy,eqGuard_sub,binOp_sub,Op.intArith,IntWalk.u8_in _ ⟨h0,h1⟩]
structure Bhf (t:au) (z:Nat × Nat):Prop where
 k:z.2<=t.size
 v:z.1=Afr (t.data.toList.take z.2)
 d:∀c∈t.data.toList.take z.2,48<=c.toNat/\c.toNat<=57
theorem Axo (s:au) (hs:s.size<=1000000000):FV 137 [af s] [] (.tuple #[aa (C3 s).1,.bool (C3 s).2]):=by
 refine enter func137 rfl ntmps137 fun w0=>?_;apply Og;apply Amk
 repeat (apply wO;apply oc;rfl;exact ydE)
 apply U5;apply Ys;apply Og;apply Amk
 repeat (apply wO;apply oc;rfl;exact ydE)
 apply U5;apply Ys;apply Og;refine D0 [0,2,3] [] (fun t:au=>[(4,af t)]) (fun _=>[]) (fun t=>t.data.toList=unS s.data.toList/\t.size<=s.size) ?_ fun t hz=>?_
 ·refine go ?_;refine D6 rfl rfl (fun h1=>?_) (fun h1=>?_)
  ·have h1:1 < s.size:=EZ
   refine go ?_;refine A4 rfl (fun h2=>?_) (fun h2=>?_)
   ·have ht:(s.extract 1 s.size).data.toList=unS s.data.toList:=by rw [Az5 h1,aJ (UInt8.toNat_inj.1 (by have:((s[0]).toNat:Int)=45:=h2;show (s[0]).toNat=45;omega))]
    refine Io ?_;intros;apply wO;apply oc;rfl;exact V8 rfl rfl EZ EZ;rw [show s.extract (1:Int).toNat s.size=s.extract 1 s.size from rfl];refine go ?_;refine Bk (s.extract 1 s.size) ⟨ht,JC⟩
   ·have ht:s.data.toList=unS s.data.toList:=by rw [Az5 h1,aC (fun e=>h2 (by show ((s[0]).toNat:Int)=45;rw [e];rfl))]
    refine go ?_;refine Bk s ⟨ht,aL _⟩
  ·refine go ?_;refine Bk s ⟨(Avk EZ).symm,aL _⟩
 obtain ⟨ht,hts⟩:=hz;refine go ?_;refine ce (fun w s=>Ka _ _ _ _) ?_;cases g1:E8 1 ((t.size:Nat):Int) 6
 ·have hr:C3 s=(0,false):=by
   rcases Classical.em (C3 s=(0,false)) with h|h
   ·exact h
   ·exfalso;obtain ⟨v,h0,h1',hsv,q1,q2,q3,q4,q5⟩:=U1 h;rw [<-ht,Cp] at q1 q2;have:E8 1 ((t.size:Nat):Int) 6=true:=by unfold E8;rw [av EZ,av EZ];rfl
    rw [this] at g1;cases g1
  rw [hr];exact AA
 obtain ⟨t1,t6⟩:1<=t.size/\t.size<=6:=by unfold E8 at g1;simp only [aw,aF] at g1;omega
 refine go ?_;refine Em [0,2,3,4] (fun z:Nat × Nat=>[(5,aa (z.1:Nat)),(6,aa (z.2:Nat))]) (Bhf t) (fun z=>t.size - z.2) (0,0) ⟨aG _,rfl,FB⟩ fun z hz=>?_;obtain ⟨vv,k⟩:=z;obtain ⟨z1,z2,z3⟩:=hz;dsimp only at z1 z2 z3 ⊢;have hv6:vv<=999999:=by
  have:=Ark (t.data.toList.take k).length _ rfl z3;have hl:(t.data.toList.take k).length<=6:=by rw [aP,Cp];omega
  have:=dI (show 0 < 10 by omega) hl;omega
 refine go ?_;refine A4 rfl (fun h1=>?_) (fun h1=>?_)
 ·have hk:k < t.size:=EZ
  have hkl:k < t.data.toList.length:=by rw [Cp];exact hk
  have hm:t[k]∈unS s.data.toList:=by rw [<-ht];exact aB hkl
  refine go ?_;refine D6 rfl rfl (fun h3=>?_) (fun h3=>?_)
  ·have h3:((t[k]).toNat:Int) < 48:=h3;have hr:C3 s=(0,false):=by
    rcases Classical.em (C3 s=(0,false)) with h|h
    ·exact h
    ·exfalso;obtain ⟨v,h0,h1',hsv,q1,q2,q3,q4,q5⟩:=U1 h;have:=q3 _ hm;omega
   rw [hr];exact AA
  have h3k:¬((t[k]).toNat:Int) < 48:=h3;refine go ?_;refine A4 rfl (fun h4=>?_) (fun h4=>?_)
  ·have h4:57 < ((t[k]).toNat:Int):=h4;have hr:C3 s=(0,false):=by
    rcases Classical.em (C3 s=(0,false)) with h|h
    ·exact h
    ·exfalso;obtain ⟨v,h0,h1',hsv,q1,q2,q3,q4,q5⟩:=U1 h;have:=q3 _ hm;omega
   rw [hr];exact AA
  have h4k:¬57 < ((t[k]).toNat:Int):=h4;refine go ?_;apply wO;apply oc;rfl;exact Bam rfl rfl EZ EZ;apply wO;apply oc;rfl;exact Ao4 rfl EZ EZ;refine Io ?_;intros;have e48:∀x:Nat,48<=x->10 * ((vv:Nat):Int)+(((x:Nat):Int) - 48)=((10 * vv+(x - 48):Nat):Int):=fun x hx=>by omega
  rw [e48]
  rotate_left
  ·show 48<=(t[k]).toNat;omega
  refine go ?_;have etk:t.data.toList.take (k+1)=t.data.toList.take k++[t[k]]:=by rw [aO hkl];rfl
  refine Ca (10 * vv+((t[k]).toNat - 48),k+1) ⟨by show k+1<=t.size;omega,by show _=Afr (t.data.toList.take (k+1));rw [etk,Afs,<-z2],by
   show ∀c∈t.data.toList.take (k+1),48<=c.toNat/\c.toNat<=57;rw [etk];intro c hc;rcases aK.1 hc with hc|hc
   ·exact z3 c hc
   ·rw [aM] at hc;subst hc;omega⟩ (by show t.size - (k+1) < t.size - k;omega)
 ·have hks:k=t.size:=EZ
  have z2:vv=Afr (unS s.data.toList):=by rw [<-ht,z2,aV (by rw [Cp];omega)]
  have htz:(unS s.data.toList).length=t.size:=by rw [<-ht,Cp]
  refine go ?_;refine A4 rfl (fun h5=>?_) (fun h5=>?_)
  ·refine go ?_;refine cb (fun w st=>Vp (-((vv:Nat):Int)) EZ EZ w) ?_;refine go ?_;by_cases h6:bz (Lib.itoa (-((vv:Nat):Int)))=s
   ·have hr:C3 s=(-((vv:Nat):Int),true):=by rw [<-h6];exact Ag3 EZ EZ
    rw [ay (by simpa using h6),hr];exact AA
   ·rw [av h6];have hr:C3 s=(0,false):=by
     rcases Classical.em (C3 s=(0,false)) with h|h
     ·exact h
     ·exfalso;obtain ⟨v,h0,h1',hsv,q1,q2,q3,q4,q5⟩:=U1 h;rw [htz] at q5;have hv:v=-((vv:Nat):Int):=EZ
      exact h6 (by rw [<-hv];exact hsv.symm)
    rw [hr];exact AA
  ·refine go ?_;refine cb (fun w st=>Vp (((vv:Nat):Int)) EZ EZ w) ?_;refine go ?_;by_cases h6:bz (Lib.itoa (((vv:Nat):Int)))=s
   ·have hr:C3 s=(((vv:Nat):Int),true):=by rw [<-h6];exact Ag3 EZ EZ
    rw [ay (by simpa using h6),hr];exact AA
   ·rw [av h6];have hr:C3 s=(0,false):=by
     rcases Classical.em (C3 s=(0,false)) with h|h
     ·exact h
     ·exfalso;obtain ⟨v,h0,h1',hsv,q1,q2,q3,q4,q5⟩:=U1 h;rw [htz] at q5;have hv:v=((vv:Nat):Int):=EZ
      exact h6 (by rw [<-hv];exact hsv.symm)
    rw [hr];exact AA
end Go.Proofs.YtkoldibamfjghaaGreatDoor
namespace Go.Proofs.YtkoldibamfjghaaGreatDoor

open Go.RowKit
open Go.RowKit
end Go.Proofs.YtkoldibamfjghaaGreatDoor
namespace Go.Proofs.YtkoldibamfjghaaGreatDoor
open Go.RowKit
theorem Azg {w:World} {a:aj} {n cp:Nat} {xs:ai} {F:aq} (h:(Pc.sl A8 (ab a n cp) xs F).P w) (h0:0 < xs.length):∃b o,a=some ⟨b,o,none⟩/\n=xs.length/\xs.length<=cp/\b < w.heap.size/\∀(j:Nat) x,xs[j]?=some x->w.cell? ⟨b,o+j,none⟩=some (af x):=by
 have hlt:=h.2.lt;obtain ⟨hz,a',cap,hv,hl,h|⟨b,o,F',rfl,hne,rfl,hc⟩⟩:=h
 ·rw [h.1] at h0;simp at h0
 ·simp only [Value.slice.injEq] at hv;obtain ⟨rfl,rfl,rfl⟩:=hv;refine ⟨b,o,rfl,rfl,hl.1,hlt FA b FB,fun j x hj=>?_⟩;obtain ⟨hj1,rfl⟩:=co.1 hj;obtain ⟨cs,F1,⟨rfl, -, -⟩,h2, -⟩:=hc.get j hj1;have:=h2 0 FA;simpa [A8] using this
theorem Axj (xs:ai) (sep:au) (a:aj) (cp:Nat) (F:aq) (w:World) (h:(Pc.sl A8 (ab a xs.length cp) xs F).P w) (h0:0 < xs.length) (hN:xs.length<=100000000000000) (hlen:(Lib.join (xs.map (·.data.toList)) sep.data.toList).length<=100000000000000) :
  Calls prog 61 #[ab a xs.length cp,af sep] w (RB (af (bz (Lib.join (xs.map (·.data.toList)) sep.data.toList))) w):=by
 obtain ⟨b,o,rfl, -,hcap,hb,hc⟩:=Azg h h0;exact Tryz.strings_Join b o cp xs sep w hc hb EZ hcap EZ
theorem Bek (n:Nat):madeCells (af ⟨#[]⟩).cells (n * 1)=(List.replicate n (af ⟨#[]⟩)).toArray:=by
 rw [cV];apply Array.ext
 ·simp [madeCells]
 ·intro i h1 h2;simp [madeCells,Value.cells,Nat.mod_one]
theorem Amy (w:World):∀n:Nat,Cz A8 w (List.replicate n (af ⟨#[]⟩)) (List.replicate n ⟨#[]⟩) []
 | 0=>⟨rfl,rfl⟩
 | n+1=>⟨[.string ⟨#[]⟩],List.replicate n (Value.string ⟨#[]⟩),[],[],by simp [cU],FB,⟨rfl,aG _,rfl⟩,Amy w n⟩
def itB (f:Int):au:=bz (Lib.itoa f)
def zsJ (l:ar) (k:Nat):ai:=(l.take k).map itB++List.replicate (l.length - k) ⟨#[]⟩
theorem Bc8 {l:ar} {k:Nat} (h:k<=l.length):(zsJ l k).length=l.length:=by unfold zsJ;simp;omega
theorem Bc9 {l:ar} {k:Nat} (h:k < l.length):(zsJ l k).set k (itB l[k])=zsJ l (k+1):=by
 unfold zsJ;have e:List.replicate (l.length - k) (⟨#[]⟩:au)=⟨#[]⟩::List.replicate (l.length - (k+1)) ⟨#[]⟩:=by rw [show l.length - k=(l.length - (k+1))+1 by omega,cU]
 have hl:((l.take k).map itB).length=k:=KD
 rw [e,eH _ _ EZ,hl,Nat.sub_self,bj,aO h,bD];simp only [cB,da,aN,cj,aZ]
theorem Af9 (l:ar):(l.map itB).map (·.data.toList)=l.map Lib.itoa:=by
 rw [eK];exact dR fun x _=>by simp [itB,I1]
theorem Bbm (l:ar) (g:Nat) (F:aq) (w:World) (hf:∀f∈l,0<=f/\f.natAbs < 10 ^ (4+1)) (h0:0 < l.length) (h7:l.length<=1000) (h:(Pc.sl A8 (ab (some ⟨g,0,none⟩) l.length l.length) (l.map itB) F).P w) :
  Calls prog 61 #[ab (some ⟨g,0,none⟩) l.length l.length,af ⟨#[32]⟩] w (RB (af (bz (jn l))) w):=by
 have hml:(l.map itB).length=l.length:=bf ..;have hd:(⟨#[32]⟩:au).data.toList=[32]:=rfl;have hj:=Axg (k:=4) hf;have:=Axj (l.map itB) ⟨#[32]⟩ (some ⟨g,0,none⟩) l.length F w (by rw [hml];exact h) EZ EZ (by rw [hd,Af9];unfold jn at hj;omega);rw [hml,hd,Af9] at this;exact this
theorem Arr (l:ar) (a:aj) (c:Nat) (F FT:aq) (hf:∀f∈l,0<=f/\f.natAbs < 10 ^ (4+1)) (h0:0 < l.length) (h7:l.length<=1000):FV 28 [ab a l.length c,af ⟨#[32]⟩] [.sl Bc (ab a l.length c) l F,E4 FT] (af (bz (jn l))):=by
 refine enter func28 rfl ntmps28 fun w0=>?_;refine go ?_;apply wO;refine Aqa l.length (cs:=List.replicate l.length (af ⟨#[]⟩)) rfl rfl rfl (Bek _) EZ EZ fun g=>?_;refine Eh (E:=A8) (xs:=List.replicate l.length ⟨#[]⟩) (fun w=>Amy w _) ?_ JJ;rw [bw,show List.replicate l.length (⟨#[]⟩:au)=zsJ l 0 by unfold zsJ;simp];refine go ?_
 refine Bx [1,4,5,11,12] (fun k:Nat=>[(13,aa (k:Nat))]) (fun k=>[.ow A8 9 (ab (some ⟨g,0,none⟩) l.length l.length) (zsJ l k) [g]]) (fun k=>k<=l.length) (fun k=>l.length - k) 0 (aG _) fun k hk=>?_;have hzl:=Bc8 hk;refine go ?_;refine A4 rfl (fun h1=>?_) (fun h1=>?_)
 ·have hk1:k < l.length:=EZ
  have hfk:=hf _ (aB hk1);refine Hy (xs:=l) k ?_;rintro hi b o e1;rw [e1];refine go ?_;refine cb (fun w st=>S0 l[k] EZ EZ FT w (st.get (p:=E4 FT) FB)) ?_;refine Rf (m:=1) Hv k ?_ FE rfl EZ;rintro _ g2 A cs B e2 - hr hH;cases e2;obtain ⟨rfl, -⟩:=hr w0;refine go ?_;refine Pz (itB l[k]) hH (fun w=>⟨rfl,by rw [itB,Gk,Nc hfk.1];have:=Dv 4 l[k].natAbs hfk.2;unfold maxLen;omega,rfl⟩) ?_;rw [Bc9 hk1];refine go ?_;refine Ca (k+1) hk1 EZ
 ·have hk1:k=l.length:=EZ
  subst hk1;rw [show zsJ l l.length=l.map itB by unfold zsJ;simp];have hml:(l.map itB).length=l.length:=bf ..;refine Av (E:=A8) (xs:=l.map itB) fun F8=>?_;refine go ?_;refine cb (fun w st=>Bbm l g F8 w hf h0 h7 (st.get (p:=.sl _ _ _ _) FB)) ?_;exact AA
structure RtS where
 k:Nat
 a:aj
 c:Nat
 F:aq
end Go.Proofs.YtkoldibamfjghaaGreatDoor
namespace Go.Proofs.YtkoldibamfjghaaGreatDoor

open Go.RowKit
end Go.Proofs.YtkoldibamfjghaaGreatDoor
namespace Go.Proofs.YtkoldibamfjghaaGreatDoor
open Go.RowKit
def Q6 (ts:ai):Bool:=ts.all fun t=>(C3 t).2
def J0 (ts:ai):ar:=ts.map fun t=>(C3 t).1
def Rj (ts:ai):ar × Bool:=if Q6 ts then (J0 ts,true) else ([],false)
theorem Aye {ts:ai} {k:Nat} (h:k < ts.length) (hp:(C3 ts[k]).2=false):Q6 ts=false:=by
 unfold Q6;rw [cS];exact ⟨ts[k],aB h,HH⟩
theorem Aqb {ts:ai} {k:Nat} (h:k < ts.length) (hp:(C3 ts[k]).2=true) (ha:Q6 (ts.take k)=true):Q6 (ts.take (k+1))=true:=by
 unfold Q6 at *;rw [aO h,dV,ha];simp [hp]
theorem Aoz {ts:ai} {k:Nat} (h:k < ts.length):J0 (ts.take (k+1))=J0 (ts.take k)++[(C3 ts[k]).1]:=by
 unfold J0;rw [aO h,bD];rfl
structure PeZ where
 k:Nat
 a:aj
 c:Nat
 F:aq
theorem An6 (ts:ai) (a:aj) (c:Nat) (F FT:aq) (hs:∀t∈ts,t.size<=1000000000) (hl:ts.length<=1000):Fn prog 115 [ab a ts.length c] [.sl A8 (ab a ts.length c) ts F,E4 FT] [] (fun (_:PeZ)=>True) (fun z=>.tuple #[.slice z.a (Rj ts).1.length z.c,.bool (Rj ts).2]) (fun z=>[.ow Bc 3 (.slice z.a (Rj ts).1.length z.c) (Rj ts).1 z.F]):=by
 refine enter func115 rfl ntmps115 fun w0=>?_;refine go ?_;refine Cf Bc 3 ?_;refine Bx [2,3,9,10] (fun z:PeZ=>[(4,.slice z.a (J0 (ts.take z.k)).length z.c),(11,aa (z.k:Nat))]) (fun z=>[.ow Bc 3 (.slice z.a (J0 (ts.take z.k)).length z.c) (J0 (ts.take z.k)) z.F]) (fun z=>z.k<=ts.length/\Q6 (ts.take z.k)=true) (fun z=>ts.length - z.k) ⟨0,none,0,[]⟩ ⟨aG _,rfl⟩ fun z hz=>?_;obtain ⟨z2,z3⟩:=hz;have hvl:(J0 (ts.take z.k)).length=z.k:=by unfold J0;rw [bf,aP];omega
 refine go ?_;refine A4 rfl (fun h1=>?_) (fun h1=>?_)
 ·have hk:z.k < ts.length:=EZ
  have hx:=hs _ (aB hk);refine Jv (a:=a) (xs:=ts) z.k ?_;rintro hi b o e s1;rw [e];refine go ?_;refine cb (fun w st=>(Afe ts[z.k] FT hx).val w (Iw (st.get (p:=E4 FT) FB))) ?_;cases g:(C3 ts[z.k]).2
  ·rw [show Rj ts=([],false) by unfold Rj;rw [Aye hk g];rfl];refine Cf Bc 3 ?_;refine go ?_;refine ret ⟨0,none,0,[]⟩ trivial rfl
  refine Io ?_;intros;apply wO;refine Nb (N7 (C3 ts[z.k]).1) C6 fun a9 c9 F9=>?_;refine go ?_;rw [<-Aoz hk];refine Ca ⟨z.k+1,a9,c9,F9⟩ ⟨by show z.k+1<=ts.length;omega,Aqb hk g z3⟩ (by show ts.length - (z.k+1) < ts.length - z.k;omega)
 ·have hk:ts.take z.k=ts:=aV EZ;rw [hk] at z3 hvl ⊢;rw [show Rj ts=(J0 ts,true) by unfold Rj;rw [z3];rfl];exact CB
theorem Avm (t:Bs):(Dm 32 t).length<=t.length+1/\∀u∈Dm 32 t,u.length<=t.length:=by
 have hcb:=Lib.countB_le ⟨#[32]⟩ FA (bz t).size (bz t) (aL _);have hlen:=Lib.splitB_all ⟨#[32]⟩ FA 0 _ (bz t) rfl;rw [U3,I1,bf] at hlen;rw [Gk] at hcb;refine ⟨EZ,fun u hu=>?_⟩;have h:bz u∈(Dm 32 t).map bz:=bL.2 ⟨u,hu,rfl⟩;have e:=U3 32 (bz t);rw [I1] at e;rw [<-e] at h;have:=R7 ⟨#[32]⟩ (bz t).size _ (bz t) (aL _) (bz u) h;rw [Gk,Gk] at this;exact this
def E6 (x:A1):ar × Bool:=if Bp x then (x.Ao.map (·.Ae),true) else ([],false)
theorem Abu (x:A1) (v:Value) (F:aq):Fn prog 197 [v] [.isv B8 v x F] [] (fun (_:OwR)=>True) (fun s=>.tuple #[.slice s.a (E6 x).1.length s.c,.bool (E6 x).2]) (fun s=>[.ow Bc 3 (.slice s.a (E6 x).1.length s.c) (E6 x).1 s.F]):=by
 refine enter func197 rfl ntmps197 fun w0=>?_;refine Hf (v:=v) (x:=x) (F:=F) ?_;rintro a1 c1 F1 a2 c2 F2 rfl l1 l2;unfold maxLen at l1 l2;refine Cf Bc 3 ?_;refine go ?_;intros;refine Bf (Tp x _ F) fun _ _=>?_;cases g1:Bp x
 ·rw [show E6 x=([],false) by unfold E6;rw [g1];rfl];exact AZ
 have g5:=Ej.1 g1;have hq8:=(Dj.1 g5.q).2.1;rw [show E6 x=(x.Ao.map (·.Ae),true) by unfold E6;rw [g1];rfl];refine go ?_;refine Bx [2,3,11,12] (fun s:AwS=>[(13,aa (s.i:Nat)),(4,.slice s.a ((x.Ao.take s.i).map (·.Ae)).length s.c)]) (fun s=>[.ow Bc 3 (.slice s.a ((x.Ao.take s.i).map (·.Ae)).length s.c) ((x.Ao.take s.i).map (·.Ae)) s.F]) (fun s=>s.i<=x.Ao.length) (fun s=>x.Ao.length - s.i) ⟨0,none,0,[]⟩ (aG _) fun s hs=>?_;obtain ⟨i,a3,c3,F3⟩:=s;dsimp only at hs ⊢;have hl3:((x.Ao.take i).map (·.Ae)).length<=i:=FF
 refine go ?_;refine A4 rfl (fun h4=>?_) (fun h4=>?_)
 ·have hi:i < x.Ao.length:=EZ
  have eo:(x.Ao.take (i+1)).map (·.Ae)=(x.Ao.take i).map (·.Ae)++[x.Ao[i].Ae]:=by rw [cC,aD hi,bD];rfl
  exact CA
 have hi:i=x.Ao.length:=EZ
 subst hi;rw [bl];exact AZ
def Bgi:Bs:=[110,111,110,101]
def jnW (sep:Bs) (l:ai):au:=if l=[] then bz Bgi else bz (Lib.join (l.map fun e=>e.data.toList) sep)
def Wz (E:ai):au:=jnW [44,32] E
def Uv (l:ar):au:=if l=[] then bz Bgi else bz (jn l)
def Ahp:Bs:=[115,101,110,100]
def Akb:Bs:=[116,105,99,107]
def Ao0:Bs:=[100,111,119,110]
def wUp:Bs:=[117,112]
def Ao1:Bs:=[108,111,115,101]
def Bac:Bs:=[99,117,116]
def V1:Bs:=[100,114,97,105,110]
def Abs:Bs:=[108,101,97,100]
def V2:Bs:=[113,117,101,117,101,100]
def Xx:Bs:=[115,101,116,116,108,101,100]
def Bc0:Bs:=[121,101,115]
def wNo:Bs:=[110,111]
def wOk:Bs:=[111,107]
def Aho:Bs:=[97,119,97,105,116]
def Ahq:Bs:=[115,108,111,116,115]
def Na:Bs:=[102,97,99,101,115]
def Bcz:Bs:=[98,97,100]
def Asm:Bs:=[102,117,108,108]
def Bad:Bs:=[108,111,110,103]
def P2 (w:Bs):Int:=if w=Ao0 then 2 else if w=wUp then 5 else if w=Ao1 then 3 else if w=Bac then 6 else 0
def I3 (W:List Bs):Option Jf :=
 if atW W 0=Ahp/\W.length=1 then some ⟨1,0,⟨#[]⟩⟩
 else if atW W 0=Ahp/\W.length=2/\atW W 1≠[] then some ⟨1,0,bz (atW W 1)⟩
 else if atW W 0=Akb/\W.length=1 then some ⟨4,0,⟨#[]⟩⟩
 else if W.length≠2 then none
 else if P2 (atW W 0)≠0/\(C3 (bz (atW W 1))).2=true then some ⟨P2 (atW W 0),(C3 (bz (atW W 1))).1,⟨#[]⟩⟩ else none
abbrev NR:=Du × au
def J4 (n:Du) (s:Jf):Option NR:=if Dq s then (Bm n s).map fun y=>(y.1,if s.Cq=2\/s.Cq=4 then Wz y.2 else bz wOk) else none
def Kr (n:Du) (l:Bs):Option au :=
 if l=Abs then some (bz (Lib.itoa (Li n.Ab.Aa)))
 else if l=V2 then some (bz (Lib.itoa ((qd n.down:Nat):Int))++⟨#[32]⟩++bz (Lib.itoa ((qd n.up:Nat):Int)))
 else if l=Xx then some (if Yy n then bz Bc0 else bz wNo)
 else none
def Tb (n:Du) (i:Int):Bool:=D5 n.Al.Ac i
def Ju (n:Du) (w:Bs) (l:ar):Option au :=
 if E8 1 (l.getD 0 0) ((n.Al.Ac.length:Int) - 1) then
  if w=Aho/\l.length=1/\Tb n (l.getD 0 0)=true then some (Uv ((Px n (l.getD 0 0).toNat).Ao.map (·.Ae)))
  else if w=Ahq/\l.length=1/\Tb n (l.getD 0 0)=true/\(Px n (l.getD 0 0).toNat).Be=true then some (Tw (Px n (l.getD 0 0).toNat).Aa)
  else if w=Na/\l.length=2/\Tb n (l.getD 0 0)=false then (if Bz (l.getD 1 0) then some (Uv (K0 (Pk n (l.getD 0 0).toNat) (l.getD 1 0))) else none)
  else none
 else none
def Pu (n:Du) (r:Option au):Option NR:=r.map fun t=>(n,t)
def Fs (line:au):List Bs:=Dm 32 line.data.toList
def Om (n:Du) (line:au):Option NR :=
 match I3 (Fs line) with
 | some s=>J4 n s
 | none =>
  if line.data.toList=V1 then some ((P9 n).1,Wz (P9 n).2)
  else if (Fs line).length=1 then Pu n (Kr n line.data.toList)
  else if Q6 (((Fs line).drop 1).map bz) then Pu n (Ju n (atW (Fs line) 0) (J0 (((Fs line).drop 1).map bz)))
  else none
def Py (n:Du) (line:au):au:=match Om n line with|some r=>r.2|none=>⟨#[63]⟩
def Hl (n:Du) (line:au):Du:=match Om n line with|some r=>r.1|none=>n
def Rs (t:au):au:=if 200 < t.size then bz Bad else t
def T3 (line:au):Bool:=Lg.Bp line ⟨#[]⟩
def Rl (l:Log) (line Gj:au):Log:=⟨l.Cg,l.pending++bz (Ke l.count.toNat line.data.toList Gj.data.toList),l.count+1⟩
def Od (c:B4) (line:au):B4 × au :=
 if T3 line then
  if c.Il.count=60 then (c,bz Asm) else (⟨Hl c.Bb line,Rl c.Il line (Rs (Py c.Bb line))⟩,Rs (Py c.Bb line))
 else (c,bz Bcz)
def Ln (c:B4) (line:au):B4 × au:=if D7 c then Od c line else (c,bz wNo)
/-! what a command replies can stand in a log; the console stays valid -/
theorem Xf {l:Bs} (h:Yr l):Yr (bz l).data.toList:=by rw [I1];exact h
theorem Ye {l:Bs} (h:∀b∈l,97<=b.toNat/\b.toNat<=122):Yr l:=fun b hb=>by
 have:=h b hb;exact CJ
theorem Axi {sep:Bs} (hs:Yr sep):∀{l:List Bs},(∀x∈l,Yr x)->Yr (Lib.join l sep)
 | [],_=>fun b hb=>by simp [Lib.join] at hb
 | x::r,h=>by
  rw [Lib.join_cons];refine (h x FB).app ?_;unfold Lib.joinTail;intro b hb;obtain ⟨y,hy,hb⟩:=List.mem_flatten.1 hb;obtain ⟨z,hz,rfl⟩:=bL.1 hy;exact hs.app (h z IW) b hb
theorem Bgb {sep:Bs} (hs:Yr sep) {l:ai} (h:∀x∈l,Yr x.data.toList):Yr (jnW sep l).data.toList:=by
 unfold jnW
 split
 ·exact Xf (Ye FA)
 ·exact Xf (Axi hs fun x hx=>by obtain ⟨y,hy,rfl⟩:=bL.1 hx;exact h y hy)
theorem Arl {E:ai} (h:∀e∈E,evN e):Yr (Wz E).data.toList:=Bgb (fun b hb=>by
 rcases aH.1 hb with rfl|hb
 ·decide
 ·rw [aM.1 hb];decide) fun x hx=>(X4 (h x hx)).1
theorem Akw {n:Int} (h:0<=n):Yr (Lib.itoa n):=fun b hb=>by
 rw [Nc h] at hb;have:=O2 n.natAbs b hb;exact CJ
theorem Bhp {l:ar} (h:∀x∈l,0<=x):Yr (jn l):=Axi (fun b hb=>by rw [aM.1 hb];decide) fun x hx=>by
 obtain ⟨y,hy,rfl⟩:=bL.1 hx;exact Akw (h y hy)
theorem Ary {l:ar} (h:∀x∈l,0<=x):Yr (Uv l).data.toList:=by
 unfold Uv
 split
 ·exact Xf (Ye FA)
 ·exact Xf (Bhp h)
theorem Aqc {s:Ic} (h:Hc s=true):∀c∈s.Dn.data.toList,97<=c.toNat/\c.toNat<=122:=by
 unfold Hc Pe T4 at h;simp only [aw,bZ,aF,aW] at h;intro c hc;have h2:=h.1.2 c hc;unfold low E8 at h2;simp only [aw,aF] at h2;omega
theorem Bcp {w:Aj} (h:Cv w=true):Yr (Tw w).data.toList:=by
 have hok:∀s∈w.Ap,Hc s=true:=by
  unfold Cv at h;simp only [aw] at h;exact aW.1 h.1.2
 have hw:=Ie h;have key:∀k,Yr (slT w k).data.toList:=by
  intro k;unfold slT;have h0:Yr (bz (Lib.decDigits w.next.toNat)++⟨#[58]⟩:au).data.toList:=by
   rw [Hx,I1];refine Yr.app (fun b hb=>?_) fun b hb=>by rw [aM.1 (show b∈[58] from hb)];decide
   have:=O2 w.next.toNat b hb
   exact CJ
  have hm:∀s∈w.Ap.take k,Hc s=true:=fun s hs=>hok s (bO hs);clear hok h;revert hm;generalize w.Ap.take k=L;intro hm;generalize (bz (Lib.decDigits w.next.toNat)++⟨#[58]⟩:au)=a at h0
  induction L generalizing a with
  | nil=>exact h0
  | cons s r ih =>
   refine ih (fun x hx=>hm x (aQ _ hx)) (a++(⟨#[32]⟩++Abm s)) ?_;rw [Hx,Hx];refine h0.app (Yr.app (fun b hb=>by rw [aM.1 (show b∈[32] from hb)];decide) ?_);unfold Abm
   split
   ·split
    ·exact fun b hb=>by rw [aM.1 (show b∈[46] from hb)];decide
    ·exact Ye (Aqc (hm s FB))
   ·exact fun b hb=>by rw [aM.1 (show b∈[63] from hb)];decide
 exact key _
theorem Bby {n:Du} {s:Jf} {r:NR} (hg:At n=true) (h:J4 n s=some r):At r.1=true/\Yr r.2.data.toList:=by
 unfold J4 at h
 split at h
 ·rename_i hs;cases e:Bm n s with
  | none=>rw [e] at h;cases h
  | some y =>
   rw [e] at h;cases h;refine ⟨Mh hg hs e,?_⟩;dsimp only
   split
   ·exact Arl (Aqw hg hs e)
   ·exact Xf (Ye FA)
 ·cases h
theorem Bb9 {n:Du} {l:Bs} {t:au} (h:Kr n l=some t):Yr t.data.toList:=by
 unfold Kr at h
 split at h
 ·cases h;exact Xf (Akw (Aa5 _).1)
 ·split at h
  ·cases h;rw [Hx,Hx,I1,I1];exact ((Akw (dB _)).app fun b hb=>by rw [aM.1 (show b∈[32] from hb)];decide).app (Akw (dB _))
  ·split at h
   ·cases h
    split <;> exact Xf (Ye FA)
   ·cases h
theorem Bes {n:Du} (hg:At n=true) (i:Nat):Lu (Px n i):=by
 by_cases hi:i < n.Ad.length
 ·rw [Gp hi];exact Ej.1 ((Hz hg).2.1 _ (aB hi))
 ·unfold Px;rw [bn,br EZ];exact Ej.1 FA
theorem Bf6 {n:Du} (hg:At n=true) (i:Nat):Ba (Pk n i)=true:=by
 by_cases hi:i < n.Af.length
 ·rw [Jq hi];exact (Hz hg).1 _ (aB hi)
 ·unfold Pk;rw [bn,br EZ];decide
theorem Ba2 {n:Du} {w:Bs} {l:ar} {t:au} (hg:At n=true) (hf:∀i k,∀x∈K0 (Pk n i) k,0<=x) (h:Ju n w l=some t):Yr t.data.toList:=by
 unfold Ju at h;have hr:=Bes hg (l.getD 0 0).toNat
 split at h
 ·split at h
  ·cases h;refine Ary fun x hx=>?_;obtain ⟨q,hq,rfl⟩:=bL.1 hx;exact (A9.1 (Xp hr hq).1).1
  ·split at h
   ·cases h;exact Bcp hr.w
   ·split at h
    ·split at h
     ·cases h;exact Ary (hf _ _)
     ·cases h
    ·cases h
 ·cases h
theorem Aiq {e:Bh} {k:Int} (hg:Ba e=true):∀x∈K0 e k,1<=x/\x<=7:=by
 intro x hx;unfold K0 at hx
 split at hx
 ·rename_i y hy;have h2:=(Hb.1 hg).2.2.1 y (cg hy);unfold Kv at h2;simp only [aw] at h2;exact (Yj h2.2.2.1).2 x hx
 ·cases hx
theorem Atd {n:Du} (hg:At n=true) (i:Nat) (k:Int):∀x∈K0 (Pk n i) k,1<=x/\x<=7:=fun x hx=>Aiq (Bf6 hg i) x hx
theorem Ay6 {n:Du} {line:au} {r:NR} (hg:At n=true) (h:Om n line=some r):At r.1=true/\Yr r.2.data.toList:=by
 unfold Om at h
 split at h
 ·exact Bby hg h
 ·split at h
  ·cases h;exact ⟨(Awt hg).1,Arl (Bd7 hg)⟩
  ·split at h
   ·unfold Pu at h;cases e:Kr n line.data.toList with
    | none=>rw [e] at h;cases h
    | some t=>rw [e] at h;cases h;exact ⟨hg,Bb9 e⟩
   ·split at h
    ·unfold Pu at h;cases e:Ju n (atW (Fs line) 0) (J0 (((Fs line).drop 1).map bz)) with
     | none=>rw [e] at h;cases h
     | some t=>rw [e] at h;cases h;exact ⟨hg,Ba2 hg (fun i k x hx=>by have:=Atd hg i k x hx;omega) e⟩
    ·cases h
theorem Ajy {n:Du} {line:au} (hg:At n=true):At (Hl n line)=true:=by
 unfold Hl;cases e:Om n line with
 | none=>exact hg
 | some r=>exact (Ay6 hg e).1
theorem Alf {n:Du} {line:au} (hg:At n=true):Yr (Py n line).data.toList:=by
 unfold Py;cases e:Om n line with
 | none=>exact fun b hb=>by rw [aM.1 (show b∈[63] from hb)];decide
 | some r=>exact (Ay6 hg e).2
theorem Akr {t:au} (h:Yr t.data.toList):Yr (Rs t).data.toList/\(Rs t).size<=200:=by
 unfold Rs
 split
 ·exact ⟨Xf (Ye FA),FA⟩
 ·exact ⟨h,EZ⟩
theorem Zs {line Gj:au} (h:T3 line=true) (h2:Yr Gj.data.toList) (h3:Gj.size<=200):Lg.Bp line Gj=true:=by
 unfold T3 at h;unfold Lg.Bp at h ⊢;simp only [aw] at h ⊢;refine ⟨⟨⟨⟨h.1.1.1.1,av EZ⟩,h.1.1.2⟩,?_⟩,h.2⟩;unfold Ip;rw [aW];exact fun b hb=>Adw.2 (h2 b hb)
theorem Anp {l:Log} {line Gj:au} (hv:Gt l.Cg.data.toList l.pending.data.toList l.count=true) (hc:¬l.count=60) (hr:Lg.Bp line Gj=true) :
  Gt (Rl l line Gj).Cg.data.toList (Rl l line Gj).pending.data.toList (Rl l line Gj).count=true /\
  Bn ((Rl l line Gj).Cg.data.toList++(Rl l line Gj).pending.data.toList)=Bn (l.Cg.data.toList++l.pending.data.toList)++[Ke l.count.toNat line.data.toList Gj.data.toList]:=by
 have hV:=Lg.Abq hv;have hk:=(Lk (l.Cg.data.toList++l.pending.data.toList)).2;have hcn:=hV.cnt;have hx:Yt (Bn (l.Cg.data.toList++l.pending.data.toList)).length (Ke l.count.toNat line.data.toList Gj.data.toList)=true:=Tt.2 ⟨line.data.toList,Gj.data.toList,EZ,by rw [<-Lg.N0];exact hr,by rw [hcn];rfl⟩;obtain ⟨h1,h2⟩:=hV.append hx;have e:(Rl l line Gj).pending.data.toList=l.pending.data.toList++Ke l.count.toNat line.data.toList Gj.data.toList:=by unfold Rl;rw [Hx,I1]
 rw [e];exact ⟨h1.bool,h2⟩
theorem Afx {c:B4} {line:au} (h:D7 c=true):D7 (Od c line).1=true:=by
 unfold Od
 split
 ·rename_i hl
  split
  ·exact h
  ·rename_i hc;unfold D7 at h ⊢;rw [aw] at h ⊢;have ht:=Akr (Alf (line:=line) h.1);exact ⟨Ajy h.1,(Anp h.2 hc (Zs hl ht.1 ht.2)).1⟩
 ·exact h
end Go.Proofs.YtkoldibamfjghaaGreatDoor
