/- Part 8 of the proof: 33 texts, one behind the other. -/
import Derived.Test.YtmppejmafbfhlaaGreatDoorShelf
import Derived.Deep.RegionHeld3
import Derived.Lib.Strings
import Derived.Lib.LaidTab
import Derived.Lib.ItoaMem
import Derived.RangeFuncCalls
import Derived.RangeFuncFrom
import Derived.RangeFuncLeaves
import Derived.TacticsInMore
import Derived.OrdersIn
import Derived.WalkKit
import Derived.LoopNIn
import Derived.LoopIn
import Derived.OwnWalkIn
import Derived.Test.YtmppejmafbfhlaaGreatDoorM7
open _root_.Go.Proofs.Tryz
set_option maxRecDepth 100000
set_option maxHeartbeats 8000000
set_option linter.all false
set_option linter.unusedVariables false
set_option linter.unusedSimpArgs false
namespace Go.Proofs.YtmppejmafbfhlaaGreatDoor
theorem CA{p:Prop}(h:p:=by refine Iq (xs:=x.An) i ?_;rintro hi2 b o e;rw [e];refine go ?_;intros;apply wO;refine N9 (Tc _) C7 fun a7 c7 F7=>?_;refine go ?_;rw [<-eo];refine Ce (⟨i+1,_,_,_⟩:AwS) (by show i+1<=x.An.length;omega) (by show x.An.length - (i+1) < x.An.length - i;omega)):p:=h
theorem CI{p:Prop}(h:p:=by exact ⟨by omega,fun e=>by rw [e] at this;exact absurd this.1 (by decide)⟩):p:=h
theorem DD{p:Prop}(h:p:=by refine go ?_;intros;rw [hop];refine ret (z.a,z.c,z.F) trivial rfl):p:=h
theorem FQ{p:Prop}(h:p:=by exact fun _ _ _ h=>h):p:=h
theorem GI{p:Prop}(h:p:=by simp only [aN,sz1];omega):p:=h
theorem IB{p:Prop}(h:p:=by rw [hj];exact Eu (Below.refl _ _) _):p:=h
theorem II{p:Prop}(h:p:=by rw [cg];omega):p:=h
theorem JQ{p:Prop}(h:p:=by have:=run_endLoop (P:=P) hl (by rw [hrec];simp);rw [hrec] at this;exact this):p:=h
theorem KP{p:Prop}(h:p:=by rw [Ju];exact Ea 1 _ (by omega)):p:=h
end Go.Proofs.YtmppejmafbfhlaaGreatDoor
namespace Go.Proofs.YtmppejmafbfhlaaGreatDoor
open Go.RowKit
def Aue:Px [-1,0]:=⟨EZ,EZ,fun _=>rfl,fun i h h0=>by
 have:i=1:=by simp at h;omega
 subst this;simp⟩
def Aqr {l:ar} (h:Px l) (h7:l.length<=7) {x:Nat} (hx:x < l.length):Px (l++[(x:Int)]):=by
 have h0:=h.n0;refine ⟨FF,FF,fun _=>?_,fun i hi hi0=>?_⟩
 ·rw [fS EY];exact h.z EY
 ·by_cases e:i < l.length
  ·rw [fS e];exact h.p i e hi0
  ·have:i=l.length:=by simp at hi;omega
   subst this;rw [List.getElem_append_right (aK _)];simp;omega
def An2 {t:Nf} (h:Px t.Ad):Gb t=true:=by
 have h0:=h.n0;have h1:=h.n1;unfold Gb;rw [aw];refine ⟨by unfold Ff;rw [av EY,av EY];rfl,Ks fun i hi=>?_⟩;by_cases e:i=0
 ·subst e;rw [Q8 hi,av (h.z hi)]
 ·rw [Tr hi EY];obtain ⟨a,b⟩:=h.p i hi EY;unfold Ff;rw [av EY,av EY];rfl
def Ae1 {t:Nf} {f y:Int} (ht:Gb t=true) (hs:Cp ⟨⟨f,y,[]⟩,0,0,[]⟩=true):At (S8 t f y)=true:=by
 refine Ax.2 ⟨ht,hs,Bn.2 ⟨by simp [S8],by simp [S8],by simp [S8],by simp [S8]⟩,fun i h1 h2 h3 h4=>?_⟩;refine Ol.2 ?_;simp only [S8,List.getElem_replicate];exact ⟨rfl,rfl,rfl,fun _=>⟨rfl,rfl,rfl,rfl⟩,fun _ _=>⟨rfl,rfl,rfl⟩,fun _ _=>⟨rfl,rfl,rfl⟩⟩
def Ahn {t:Nf} {f y:Int} (ht:Px t.Ad) (h0:0<=f) (h1:f<=65535) (z0:1<=y) (z6:y<=6):Em t f y=(S8 t f y,true)/\At (S8 t f y)=true:=by
 have hg:Cp ⟨⟨f,y,[]⟩,0,0,[]⟩=true:=Ep.2 ⟨Du.2 ⟨⟨h0,h1⟩,⟨z0,z6⟩,FF,rfl⟩,rfl,rfl,FA,List.Pairwise.nil⟩;have hT:=An2 ht;refine ⟨?_,Ae1 hT hg⟩;unfold Em;rw [hT,hg];rfl
def Bjd (e:au):Int:=((e.data.toList.getD 0 0).toNat:Int) - 48
def Bjj (i:Nat) (E:ai):ai:=(E.filter fun e=>decide (Bjd e=((i:Nat):Int))).map fun e=>e.extract 2 e.size
def EvW (E:ai):Prop:=∀e∈E,∃i x,1<=i/\i<=7/\e=Ni i x
def Ba4 {i:Nat} (h:i<=7) (x:au):Ni i x=bz (UInt8.ofNat (48+i)::32::x.data.toList):=by
 have e:bz (Lib.itoa ((i:Nat):Int))=bz [UInt8.ofNat (48+i)]:=by
  rw [Ps (dB i),Int.natAbs_natCast,Lib.decDigits,ei EY]
 unfold Ni;rw [e,<-Vd (_++_),Gp,Gp];rfl
def EvW.app {a b:ai} (h:EvW a) (h2:EvW b):EvW (a++b):=fun e he=>by
 rcases aJ.1 he with he|he
 ·exact h e he
 ·exact h2 e he
def EvW.U3 {i:Nat} (h1:1<=i) (h7:i<=7) (es:ai):EvW (U3 i es):=fun e he=>by
 obtain ⟨x, -,rfl⟩:=bL.1 he;exact ⟨i,x,h1,h7,rfl⟩
def EvW.nil:EvW []:=fun e he=>by cases he
structure SrI (S:ai) (f:Int) (w:Aw):Prop where
 h:∃i,i+w.Al.length=S.length/\w.Am=Cf f ((i:Nat):Int)/\w.Al=S.drop i
structure NtJ (S:ai) (f:Int) (n:Dx) (E:ai):Prop where
 s:SrI S f n.Ab.Aa
 d:∀q∈n.down,∀p∈q,PkI S f p
 r:∀i (h:i < n.Ac.length),RcI S f n.Ac[i] (Bjj i E)
 e:EvW E
section
variable {S:ai} {f:Int} {n:Dx} {E:ai}
def SrI.Es {w:Aw} (h:SrI S f w):Lw w=Cf f ((S.length:Nat):Int):=by
 obtain ⟨i,h1,h2, -⟩:=h.h;unfold Lw;rw [h2,Afs,h1]
def SrI.Am {w:Aw} (h:SrI S f w):∃i,i<=S.length/\w.Am=Cf f ((i:Nat):Int):=by
 obtain ⟨i,h1,h2, -⟩:=h.h;exact ⟨i,EY,h2⟩
def SrI.Df {w:Aw} (h:SrI S f w) (hs:1<=w.size):SrI S f (Df w):=by
 obtain ⟨i,h1,h2,h3⟩:=h.h;unfold Go.Proofs.YtmppejmafbfhlaaGreatDoor.Df
 split
 ·rename_i e;refine ⟨i+1,?_,?_,?_⟩
  ·show i+1+(w.Al.drop 1).length=_;rw [aX];omega
  ·show Cf w.Am 1=_;rw [h2,show Cf (Cf f (i:Nat)) 1=Cf (Cf f (i:Nat)) ((1:Nat):Int) from rfl,Afs]
  ·show w.Al.drop 1=_;rw [h3,cw]
 ·exact h
def SrI.push {w:Aw} (h:SrI S f w) (hs:1<=w.size) (t:au):SrI (S++[t]) f (Di w t):=by
 obtain ⟨i,h1,h2,h3⟩:=(h.Df hs).h;refine ⟨i,?_,h2,?_⟩
 ·show i+((Go.Proofs.YtmppejmafbfhlaaGreatDoor.Df w).Al++[t]).length=_;rw [aA,aA,dL];omega
 ·show (Go.Proofs.YtmppejmafbfhlaaGreatDoor.Df w).Al++[t]=_;rw [h3,List.drop_append_of_le_length EY]
def NtJ.mono {S2:ai} (h:NtJ S f n E) (hs:SrI (S++S2) f n.Ab.Aa):NtJ (S++S2) f n E:=⟨hs,fun q hq p hp=>(h.d q hq p hp).mono,fun i hi=>(h.r i hi).mono,h.e⟩
def Axz {P:NE->Prop} (hP:∀(x y:NE) (s:Js),P x->At x.1=true->Dq s=true->s.Ct≠1->Bo x.1 s=some y->P (y.1,x.2++y.2)) {x:NE} (hg:At x.1=true) (h:P x):P (drE x):=by
 have ht:∀(x:NE) (s:Js),P x->At x.1=true->Dq s=true->s.Ct≠1->P (Nd x s):=fun x s hx hg hs hk=>by
  cases e:Bo x.1 s with
  | none=>rw [Kd e];exact hx
  | some y=>rw [Zv e];exact hP x y s hx hg hs hk e
 have hr:∀(x:NE),P x->At x.1=true->∀k,k+1<=x.1.Ap.Ad.length->P (Ib x k):=fun x hx hg k=>by
  have hn8:=(Hl (Ax.1 hg).t).n1
  induction k with
  | zero=>intro _;exact hx
  | succ k ih =>
   intro hk;have f1:=(Pv hg k EY).1;have hk1:k+1 < (Ib x k).1.Ap.Ad.length:=by rw [f1.t];omega
   have f2:=(Apt f1.g EY hk1).1;have p2:=ht _ (Jg (k+1)) (ih EY) f1.g (Bdj EY EY) (by show (2:Int)≠1;decide);exact ht _ (Mn (k+1)) p2 f2.g (Azn EY EY) (by show (5:Int)≠1;decide)
 unfold drE;generalize wN x.1=m
 induction m generalizing x with
 | zero=>exact h
 | succ m ih =>
  unfold Tx
  split
  ·exact h
  ·have h2:=(Hl (Ax.1 hg).t).n0;exact ih (M6 hg).1.g (hr x h hg _ EY)
end
def lgB (b:UInt8):Prop:=(32<=b.toNat/\b.toNat<=126)/\b≠35
instance (b:UInt8):Decidable (lgB b):=by unfold lgB;infer_instance
def Zy (l:Bs):Prop:=∀b∈l,lgB b
def Zy.app {a b:Bs} (h:Zy a) (k:Zy b):Zy (a++b):=fun x hx=>by
 rcases aJ.1 hx with h1|h1
 ·exact h x h1
 ·exact k x h1
def Aup {s:au} (h:P9 s=true):∀c∈s.data.toList,97<=c.toNat/\c.toNat<=122:=by
 unfold P9 U0 low Ff at h;simp only [aw,aW,aF] at h;exact fun c hc=>by have:=h.2 c hc;omega
def evK (e:au):Prop:=e=Aon\/e=Yf\/∃t,P9 t=true/\e=Ahv t
def slK (l:List Ig):Prop:=∀s∈l,s.Uz=true->P9 s.Dk=true
def slK.drop {l:List Ig} (h:slK l) (k:Nat):slK (l.drop k):=fun s hs=>h s (br hs)
def Aic {w:Aj} (h:Cz w=true):slK w.Ao:=fun s hs _=>by
 unfold Cz at h;simp only [aw] at h;have:=aW.1 h.1.2 s hs;unfold Hq at this;simp only [aw] at this;exact this.1
def Az0:∀(l:List Ig) (n:Int),slK l->∀e∈(rel n l).2.2,evK e
 | [],_,_,e,he=>by cases he
 | s::r,n,h,e,he=>by
  unfold rel at he
  split at he
  ·rename_i hs;rcases aG.1 he with rfl|he
   ·exact .inr (.inr ⟨_,h s FA hs,rfl⟩)
   ·exact Az0 r _ (fun x hx=>h x IJ) e he
  ·cases he
def Aye:∀(m:Nat) (w:Aj),slK w.Ao->∀e∈O1 m w,evK e
 | 0,_,_,e,he=>by cases he
 | m+1,w,h,e,he=>by
  unfold O1 at he;rcases aG.1 he with rfl|he
  ·cases hw:w.Ao with
   | nil=>exact .inl rfl
   | cons s r =>
    by_cases hs:s.Uz=true
    ·exact .inr (.inr ⟨s.Dk,h s (by rw [hw];simp) hs,by simp [Gt,hs]⟩)
    ·exact .inl (by simp [Gt,hs])
  ·exact Aye m (Z4 w) (by rw [show (Z4 w).Ao=w.Ao.drop 1 by simp [Z4]];exact h.drop 1) e he
def Asr {w:Aj} {t:Int} (h:slK w.Ao):∀e∈Jp w t,evK e:=fun e he=>by
 unfold Jp at he;rcases aJ.1 he with he|he
 ·exact Aye _ _ h e he
 ·exact Az0 _ _ (by rw [Tz];exact h.drop _) e he
def Bib {w:Aj} {n:Int} {t:au} (h:slK w.Ao) (ht:P9 t=true):slK (Z3 w n t).Ao:=fun s hs hv=>by
 unfold Z3 Mp at hs;rcases bC hs with hs|rfl
 ·unfold Mw at hs;rcases aJ.1 hs with hs|hs
  ·exact h s hs hv
  ·rw [(fv.1 hs).2] at hv;cases hv
 ·exact ht
def Bf1 {r:A8} {p:As} (hg:Mk r) (hp:Br p=true):∀e∈Is r p,evK e:=fun e he=>by
 unfold Is at he
 split at he
 ·unfold M4 at he;have hs:=Aic (Rf hg hp).1;have hd:P9 p.data=true:=by have h:=hp;unfold Br at h;simp only [aw] at h;exact h.1.1.2
  rcases aJ.1 he with he|he
  ·unfold Lh L9 at he
   split at he
   ·cases he
   ·split at he
    ·cases he
    ·exact Az0 _ _ (Bib hs hd) e he
  ·unfold Pn at he
   split at he
   ·split at he
    ·exact Asr (Aic (Ue hg hp).1) e he
    ·rw [aL] at he;exact .inr (.inl he)
   ·cases he
 ·cases he
def Bgu {r:A8} (hg:Mk r):∀e∈Hv r,evK e:=fun e he=>by
 unfold Hv at he
 split at he
 ·cases he
 ·exact Asr (Aic hg.w) e he
def evN (e:au):Prop:=∃i x,i<=7/\evK x/\e=Ni i x
def Ba5 {i:Nat} (h:i<=7) {es:ai} (he:∀e∈es,evK e):∀e∈U3 i es,evN e:=fun e hm=>by
 obtain ⟨x,hx,rfl⟩:=bL.1 hm;exact ⟨i,x,h,he x hx,rfl⟩
def Ba8 {n:Dx} (hg:At n=true) (hc:n.Ab.Ai < 9999):∀k,k+1<=n.Ap.Ad.length->∀e∈(Bf n k).2,evN e
 | 0,_,e,he=>by cases he
 | k+1,hk,e,he=>by
  obtain ⟨hG,ht, -⟩:=P6 hg hc k EY;have hn8:=(Hl hG.t).n1;have hi:k+1 < (Bf n k).1.Ap.Ad.length:=by rw [ht];omega
  obtain ⟨g1,g2,g3,g4,r⟩:=hG.rn hi;rcases aJ.1 (show e∈(Bf n k).2++(N1 (Bf n k).1 (k+1)).2 from he) with he|he
  ·exact Ba8 hg hc k EY e he
  ·unfold N1 at he;cases hl:Et (Bf n k).1.Ap.Ad ((k+1:Nat):Int)
   ·rw [hl,aC EZ] at he;cases he
   ·rw [hl,aH rfl,Hf g2] at he;exact Ba5 EY (Bgu (El.1 (r.hf EY hl).2.1)) e he
def Arr {n:Dx} {s:Js} {y:NE} (hg:At n=true) (hs:Dq s=true) (e:Bo n s=some y):∀z∈y.2,evN z:=by
 have hG:=Ax.1 hg;unfold Bo at e
 split at e
 ·cases e;exact fun z hz=>by cases hz
 ·rename_i h1
  split at e
  ·split at e
   ·cases e
   ·cases e;have:=Yy hG.s;exact Ba8 hg EY _ (by have:=(Hl hG.t).n0;omega)
  ·rename_i h4;unfold Dq at hs;rw [aC h1,aC h4] at hs;simp only [aw] at hs;have hf:=Nt.1 hs.1.2;have hpg:=Lz (s:=s) hg;have hq:=Mx (s:=s) hg;have htl:(Hb n s).Ap=n.Ap:=JZ
   unfold C6 at e
   split at e
   ·cases e
   ·rename_i hb
    split at e
    ·cases e
    ·rename_i h2;have hpk:=Np hq.1 (Pl (q:=U1 n s) EY)
     split at e
     ·cases e;have hi:s.node.toNat < (Hb n s).Ap.Ad.length:=by rw [htl];omega
      obtain ⟨i1,i2,i3,i4,hrn⟩:=(Ax.1 hpg).rn hi;unfold C9;cases hl:Et (Hb n s).Ap.Ad ((s.node.toNat:Nat):Int)
      ·rw [aC EZ];exact fun z hz=>by cases hz
      ·rw [aH rfl,Hf i2];exact Ba5 EY (Bf1 (El.1 (hrn.hf EY hl).2.1) hpk)
     ·split at e
      ·cases e;exact fun z hz=>by cases hz
      ·cases e;exact fun z hz=>by cases hz
def Bfu {n:Dx} (hg:At n=true):∀z∈(Q2 n).2,evN z :=
 Axz (P:=fun x=>∀z∈x.2,evN z) (fun x y s hx hgx hs _ e z hz=>by
  rcases aJ.1 hz with hz|hz
  ·exact hx z hz
  ·exact Arr hgx hs e z hz) (x:=(n,[])) hg fun z hz=>by cases hz
def At5 {e:au} (h:evK e):Zy e.data.toList/\e.size<=9:=by
 rcases h with rfl|rfl|⟨t,ht,rfl⟩
 ·exact ⟨fun b hb=>by rw [aL.1 (show b∈[45] from hb)];decide,EZ⟩
 ·exact ⟨fun b hb=>by rw [aL.1 (show b∈[33] from hb)];decide,EZ⟩
 ·have h8:=Vn ht;refine ⟨?_,by unfold Ahv;rw [aN];show 1+_<=9;omega⟩;unfold Ahv;rw [Gp];refine Zy.app (fun b hb=>by rw [aL.1 (show b∈[43] from hb)];decide) fun b hb=>?_;have:=Aup ht b hb;exact CI
def Zf {e:au} (h:evN e):Zy e.data.toList/\e.size<=11:=by
 obtain ⟨i,x,hi,hx,rfl⟩:=h;obtain ⟨h1,h2⟩:=At5 hx;rw [Ba4 hi,Hn,Ho];refine ⟨fun b hb=>?_,by simp only [aU,Co];omega⟩;rcases aG.1 hb with rfl|hb
 ·have e:(UInt8.ofNat (48+i)).toNat=48+i:=by rw [UInt8.toNat_ofNat'];omega
  exact ⟨EY,fun h=>by have:=congrArg UInt8.toNat h;rw [e] at this;have:(35:UInt8).toNat=35:=rfl;omega⟩
 ·rcases aG.1 hb with rfl|hb
  ·decide
  ·exact h1 b hb
def Acp (s:Ig):au:=if s.Uz then (if s.Dk=⟨#[]⟩ then ⟨#[46]⟩ else s.Dk) else ⟨#[63]⟩
def slT (x:Aj) (k:Nat):au:=(x.Ao.take k).foldl (fun a s=>a++(⟨#[32]⟩++Acp s)) (bz (Lib.decDigits x.next.toNat)++⟨#[58]⟩)
def Aaf (x:Aj):au:=slT x x.Ao.length
def Acl {x:Aj} {k:Nat} (hk:k < x.Ao.length):slT x (k+1)=slT x k++(⟨#[32]⟩++Acp x.Ao[k]):=by
 unfold slT;rw [<-List.take_append_getElem hk,eC];rfl
def Bfc {x:Aj} {k:Nat} (hk:k < x.Ao.length) (h:x.Ao[k].Uz=false):slT x k++⟨#[32,63]⟩=slT x (k+1):=by
 rw [Acl hk,Acp,h];rfl
def Bfb {x:Aj} {k:Nat} (hk:k < x.Ao.length) (h:x.Ao[k].Uz=true) (h2:x.Ao[k].Dk=⟨#[]⟩):slT x k++⟨#[32,46]⟩=slT x (k+1):=by
 rw [Acl hk,Acp,h,aH rfl,aH h2];rfl
def Bfd {x:Aj} {k:Nat} (hk:k < x.Ao.length) (h:x.Ao[k].Uz=true) (h2:¬x.Ao[k].Dk=⟨#[]⟩):slT x k++(⟨#[32]⟩++x.Ao[k].Dk)=slT x (k+1):=by
 rw [Acl hk,Acp,h,aH rfl,aC h2]
def Ars {s:Ig} (h:s.Dk.size<=8):(Acp s).size<=8:=by
 unfold Acp;split
 ·split
  ·decide
  ·exact h
 ·decide
def Ack {x:Aj} (hg:Cz x=true):∀k,(slT x k).size<=6+9 * k
 | 0=>by
  obtain ⟨n0,n1,hl,hit⟩:=Sz hg;unfold slT;rw [fl,fm,aN,Ho];have:=Ea 4 x.next.toNat EY
  have:(⟨#[58]⟩:au).size=1:=rfl;omega
 | k+1=>by
  have ih:=Ack hg k;obtain ⟨n0,n1,hl,hit⟩:=Sz hg;by_cases hk:k < x.Ao.length
  ·rw [Acl hk,aN,aN];have:=Ars (hit _ (aB hk));have:(⟨#[32]⟩:au).size=1:=rfl;omega
  ·have e:slT x (k+1)=slT x k:=by unfold slT;rw [aV EY,aV EY]
   rw [e];omega
def Apf (x:Aj) (v:Value) (F FT:aq) (hg:Cz x=true):FV 161 [v] [.isv Bx v x F,Ga FT] (af (Aaf x)):=by
 obtain ⟨n0,n1,hl,hit⟩:=Sz hg;have hzd:(bz (Lib.decDigits x.next.toNat)).size<=5:=by rw [Ho];exact Ea 4 _ EY
 have z58:(⟨#[58]⟩:au).size=1:=rfl;refine enter func161 rfl ntmps161 fun w0=>?_;refine Cq ?_;rintro a1 c1 F1 rfl l1;unfold maxLen at l1;refine go ?_;intros;refine cb (fun w st=>Aaz x.next EY EY FT w (st.get (p:=Ga FT) FA)) ?_;rw [show Lib.itoa x.next=Lib.decDigits x.next.toNat by unfold Lib.itoa;rw [aC EY]];refine go ?_;refine Dl [2,11,12] (fun k:Nat=>[(3,af (slT x k)),(13,aa k)]) (fun k=>k<=x.Ao.length) (fun k=>x.Ao.length - k) 0 (aD _) fun k hk=>?_;have hz:=Ack hg k;have z2:(⟨#[32,63]⟩:au).size=2:=rfl
 have z3:(⟨#[32,46]⟩:au).size=2:=rfl;have z1:(⟨#[32]⟩:au).size=1:=rfl;refine go ?_;refine Ay rfl (fun h=>?_) (fun h=>?_)
 ·have hk3:k < x.Ao.length:=EY
  have hs8:=hit _ (aB hk3);refine O9 (xs:=x.Ao) k ?_;rintro hi b o e s1;rw [e];refine go ?_;intros;cases g2:x.Ao[k].Uz
  ·refine go ?_;rw [Bfc hk3 g2];exact BE
  ·
   refine go ?_;by_cases g3:x.Ao[k].Dk=⟨#[]⟩
   ·rw [av g3];refine go ?_;rw [Bfb hk3 g2 g3];exact BE
   ·rw [ay g3];have z9:=aN (a:=⟨#[32]⟩) (b:=x.Ao[k].Dk);refine go ?_;rw [Bfd hk3 g2 g3];exact BE
 ·obtain rfl:k=x.Ao.length:=EY
  refine go ?_;refine ret () trivial ?_;unfold Aaf;rfl
def Auv (x:Aj) (v:Value) (F FT:aq) (hg:Cz x=true):FV 203 [v] [.isv Bx v x F,Ga FT] (af (Aaf x)):=by
 obtain ⟨n0,n1,hl,hit⟩:=Sz hg;have hzd:(bz (Lib.decDigits x.next.toNat)).size<=5:=by rw [Ho];exact Ea 4 _ EY
 have z58:(⟨#[58]⟩:au).size=1:=rfl;refine enter func203 rfl ntmps203 fun w0=>?_;refine Cq ?_;rintro a1 c1 F1 rfl l1;unfold maxLen at l1;refine go ?_;intros;refine cb (fun w st=>(by rw [show x.next=((x.next.toNat:Nat):Int) by omega];exact Be7 _ EY w)) ?_;refine go ?_;refine Dl [1,2] (fun k:Nat=>[(3,af (slT x k)),(4,aa k)]) (fun k=>k<=x.Ao.length) (fun k=>x.Ao.length - k) 0 (aD _) fun k hk=>?_;have hz:=Ack hg k;have z2:(⟨#[32,63]⟩:au).size=2:=rfl;have z3:(⟨#[32,46]⟩:au).size=2:=rfl;have z1:(⟨#[32]⟩:au).size=1:=rfl;refine go ?_
 refine Ay rfl (fun h=>?_) (fun h=>?_)
 ·have hk3:k < x.Ao.length:=EY
  have hs8:=hit _ (aB hk3);refine O9 (xs:=x.Ao) k ?_;rintro hi b o e s1;rw [e];refine go ?_;cases g2:x.Ao[k].Uz
  ·refine go ?_;rw [Bfc hk3 g2];exact BE
  ·
   refine go ?_;by_cases g3:x.Ao[k].Dk=⟨#[]⟩
   ·rw [av g3];refine go ?_;rw [Bfb hk3 g2 g3];exact BE
   ·rw [ay g3];have z9:=aN (a:=slT x k) (b:=⟨#[32]⟩);refine go ?_;rw [ByteArray.append_assoc,Bfd hk3 g2 g3];exact BE
 ·obtain rfl:k=x.Ao.length:=EY
  refine go ?_;refine ret () trivial ?_;unfold Aaf;rfl
def Auq (xs:List Bs) (x sep:Bs) (h:0 < xs.length):Lib.join (xs++[x]) sep=Lib.join xs sep++(sep++x):=by
 cases xs with
 | nil=>cases h
 | cons a r =>
  rw [bY,Lib.join_cons,Lib.join_cons];unfold Lib.joinTail;simp
def Ab3 {sep:Bs} {m:Nat}:∀{xs:List Bs},(∀x∈xs,x.length<=m)->(Lib.joinTail sep xs).length<=(sep.length+m) * xs.length
 | [],_=>by unfold Lib.joinTail;simp
 | x::r,h=>by
  have ih:=Ab3 (sep:=sep) (m:=m) (xs:=r) fun y hy=>h y KT;have hx:=h x FA;unfold Lib.joinTail at ih ⊢;simp only [cI,bP,aA,aU] at ih ⊢;rw [gN];omega
def Aoa {sep:Bs} {m:Nat} {xs:List Bs} (h:∀x∈xs,x.length<=m):(Lib.join xs sep).length<=(sep.length+m) * xs.length:=by
 cases xs with
 | nil=>simp [Lib.join]
 | cons a r =>
  have hr:=Ab3 (sep:=sep) (m:=m) (xs:=r) fun y hy=>h y KT;have ha:=h a FA;rw [Lib.join_cons,aA,aU,gN];omega
def jn (l:ar):Bs:=Lib.join (l.map Lib.itoa) [32]
def Bf5 {l:ar} {k:Nat} (h:∀x∈l,0<=x/\x.natAbs < 10 ^ (k+1)):(jn l).length<=(k+2) * l.length:=by
 have:=Aoa (sep:=[32]) (m:=k+1) (xs:=l.map Lib.itoa) fun y hy=>by
  obtain ⟨x,hx,rfl⟩:=bL.1 hy;rw [Ps (h x hx).1];exact Ea k _ (h x hx).2
 unfold jn;rw [bf] at this;simp only [aU,aY] at this;rw [show (k+2)=(0+1+(k+1)) by omega];exact this
def slB (r:A8):au:=if r.Bg then Aaf r.Aa else ⟨#[45]⟩
def Be5 (r:A8) (f:Int):au:=bz (Lib.itoa f)++⟨#[32]⟩++slB r++⟨#[10]⟩
def Bdg {n:Dx} (hg:At n=true) {i:Nat} (hi:i < n.Ac.length):Bw n.Ac[i]=true:=by
 obtain ⟨-, -,hl,ha⟩:=Uo.1 hg;obtain ⟨q1,q2,q3,q4⟩:=Bn.1 hl;have h:=ha i EY;rw [Vc EY hi EY EY,<-Ad4] at h;unfold Ah6 at h;simp only [aw] at h;exact h.1.1.1.2
def Bgh {r:A8} (hg:Bw r=true) (hs:r.Bg=true):Cz r.Aa=true:=by
 unfold Bw at hg;rw [hs] at hg;simp only [aw,if_true] at hg;exact hg.2.1.1
def Bao {r:A8} (hg:Bw r=true):(slB r).size<=100:=by
 unfold slB
 split
 ·rename_i hs;have h:=Bgh hg hs;obtain ⟨-, -,hl, -⟩:=Sz h;have:=Ack h r.Aa.Ao.length;unfold Aaf;omega
 ·decide
def Bcx {n:Int} {k:Nat} (h0:0<=n) (h1:n.natAbs < 10 ^ (k+1)):(bz (Lib.itoa n)).size<=k+1:=by rw [Ho,Ps h0];exact Ea k _ h1
def Akj {c:Cj} (hn:At c.Bh=true) {i:Nat} (hi:i < c.Bh.Ac.length) (h8:i < 8):(Be5 c.Bh.Ac[i] ((i:Nat):Int)).size<=103:=by
 have e1:(bz (Lib.itoa ((i:Nat):Int))).size<=1:=Bcx (k:=0) EY (by show _ < 10;omega);have e2:=Bao (Bdg hn hi);have e3:(⟨#[32]⟩:au).size=1:=rfl;have e4:(⟨#[10]⟩:au).size=1:=rfl;unfold Be5;simp only [aN];omega
end Go.Proofs.YtmppejmafbfhlaaGreatDoor
namespace Go.Proofs.YtmppejmafbfhlaaGreatDoor.Lg
open Go.RowKit
def Adi (c:UInt8):∀l:List UInt8,decide (0<=Lib.indexByte l c)=Ki c l:=by
 intro l;have h1:∀l:List UInt8, -1<=Lib.indexByte l c:=by
  intro l
  induction l with
  | nil=>simp [Lib.indexByte]
  | cons b l ih=>simp only [Lib.indexByte];split <;> (try split) <;> omega
 have h2:∀l:List UInt8,(0<=Lib.indexByte l c)↔Ki c l=true:=by
  intro l
  induction l with
  | nil=>simp [Lib.indexByte,Ki]
  | cons b l ih =>
   have h2:=h1 l;rw [show Ki c (b::l)=(b == c || Ki c l) from rfl,bX,<-ih];simp only [Lib.indexByte];by_cases hb:(b == c)=true
   ·simp [hb]
   ·rw [aC hb];simp only [hb]
    split
    ·rename_i h3;simp at h3;simp [h3]
    ·rename_i h3;simp at h3;omega
 rw [cD,fw];exact h2 l
def Ago (s:au) (c:UInt8) (w:World):Calls prog 89 #[af s,af ⟨#[c]⟩] w fun e w'=>e=.returned (.bool (Ki c s.data.toList))/\w=w' :=
 (Tryz.strings_Contains_one s c w).mono fun _ _ ⟨he,hw⟩=>⟨by rw [he,Adi],hw.symm⟩
def Bw (c r:au):Bool:=Ff 1 c.size 160 && decide ((r.size:Int)<=200) && I7 c.data.toList && I7 r.data.toList && !Ki 64 c.data.toList
def Xo (c r:au) (w:World) (hc:c.size<=maxLen) (hr:r.size<=maxLen) :
  Calls prog 51 #[.agg #[af c,af r]] w (RB (.bool (Bw c r)) w):=by
 go_enter func51,ntmps51
 go_wp2_with (first
  | (go_at_call 37;refine (Hw _ _ _ _).mono ?_;rintro e w' ⟨rfl,rfl⟩)
  | (go_at_call 88;refine (An6 _ _ FR).mono ?_;rintro e w' ⟨rfl,rfl⟩)
  | (go_at_call 89;refine (Ago _ _ _).mono ?_;rintro e w' ⟨rfl,rfl⟩))
 all_goals go_ret
 all_goals refine ⟨Cs ?_,(Below.refl _ _).alloc (aK _) _⟩
 all_goals simp [Bw, *]
 all_goals omega
def Aqq (c r:au):Bw c r=(!c.data.toList.isEmpty && (I7 c.data.toList && decide ((c.size:Int)<=160)) && !Ki 64 c.data.toList && (I7 r.data.toList && decide ((r.size:Int)<=200))):=by
 have h0:(!c.data.toList.isEmpty)=decide ((1:Int)<=c.size):=by
  have e:c.data.toList.length=c.size:=FA
  cases h:c.data.toList with
  | nil=>rw [h] at e;simp at e;simp [<-e]
  | cons b l=>rw [h] at e;simp at e;simp;omega
 rw [h0,Bw,Ff];cases decide ((1:Int)<=c.size) <;> cases decide ((c.size:Int)<=160) <;> cases decide ((r.size:Int)<=200) <;> cases I7 c.data.toList <;> cases I7 r.data.toList <;> simp
def To (c r:au) (w:World) (hc:c.size<=maxLen) (hr:r.size<=maxLen) :
  Calls prog 44 #[.agg #[af c,af r]] w (RB (.bool (Bw c r)) w):=by
 go_enter func44,ntmps44
 go_wp2_with (first
  | (go_at_call 77;refine (Aq2 _ _ _ FR).mono ?_;rintro e w' ⟨rfl,rfl⟩)
  | (go_at_call 78;refine (Aq1 _ 64 _ FR).mono ?_;rintro e w' ⟨rfl,rfl⟩))
 all_goals go_ret
 all_goals refine ⟨Cs ?_,(Below.refl _ _).alloc (aK _) _⟩
 all_goals simp only [ByteArray.toList_eq] at *
 all_goals rw [Aqq]
 ·have h:c.data.toList=[]:=FR
  simp [h]
 ·have h:Ki 64 c.data.toList=true:=FR
  simp [h]
 ·have h1:¬c.data.toList=[]:=FR
  have h2:I7 c.data.toList=true/\(c.size:Int)<=160:=FR
  have h3:¬Ki 64 c.data.toList=true:=FR
  simp [h2,h3, -List.isEmpty_iff,List.isEmpty_eq_false_iff.2 h1]
 ·have h2:¬(I7 c.data.toList=true/\(c.size:Int)<=160):=FR
  have h3:(I7 c.data.toList && decide ((c.size:Int)<=160))=false:=by
   rw [Bool.eq_false_iff];intro h;simp only [aw,fw] at h;exact h2 h
  rw [h3];simp
def bs (l:Bs):au:=⟨l.toArray⟩
def Jt (l:Bs):(bs l).data.toList=l:=by simp [bs]
def Aek (s:au):bs s.data.toList=s:=by simp [bs]
def Ju (l:Bs):(bs l).size=l.length:=by simp [bs,ByteArray.size]
def Co (s:au):s.data.toList.length=s.size:=FA
def Gp (s t:au):(s++t).data.toList=s.data.toList++t.data.toList:=by simp [dp]
def Ac6 (s t:au):s++t=bs (s.data.toList++t.data.toList):=by rw [<-Gp,Aek]
def Zq {a b:au} (h:a=b):Ending.returned (af a)=.returned (af b):=by rw [h]
def Acz:B8 Unit where
 sz:=0
 Mj w cs _ F:=cs=[]/\Lib.TabIs prog w "internal/strconv.uint64pow10" .u64 Lib.pow10Tab/\F=[1]/\1 < w.heap.size
 len h:=IX
 lt h:=by intro b hb;rw [h.2.2.1] at hb;simp at hb;rw [hb];exact h.2.2.2
 frame h hF:=by
  obtain ⟨h1,h2,rfl,h4⟩:=h;have e:=hF 1 FA;refine ⟨h1,?_,rfl,?_⟩
  ·unfold Lib.TabIs World.var? at h2 ⊢;rw [show prog.globalNamed "internal/strconv.uint64pow10" = some 1 by kernel_rfl] at h2 ⊢;simp only [dg] at h2 ⊢;rw [e];exact h2
  ·rw [dz h4] at e;exact (bJ.1 e).1
def Acz.tab {w:World} {F:aq} (h:Su Acz w (.agg #[]) () F):Lib.TabIs prog w "internal/strconv.uint64pow10" .u64 Lib.pow10Tab:=by
 obtain ⟨cs,_,h⟩:=h;exact h.2.1
def Aaq (w:World) (k:Nat) (os:Array Obj):Below w.heap.size w (Go.Sort.grow (w.drewN k) os):=by
 refine ⟨rfl,rfl,rfl,?_,fun i hi=>?_⟩
 ·simp [Go.Sort.grow,World.drewN]
 ·simp [Go.Sort.grow,World.drewN,dW hi]
def Aw7 (n:Nat) (hn:n<=9223372036854775807) (F:aq) (w:World) (hT:Su Acz w (.agg #[]) () F) :
  Calls prog 104 #[aa (n:Int)] w (RB (af (bs (Lib.decDigits n))) w):=by
 refine (Tryz.strconv_Itoa (n:Int) EY EY w (Acz.tab hT)).mono ?_;rintro e w' ⟨rfl,k,os,rfl⟩;refine ⟨Zq ?_,Aaq w k os⟩;unfold bs;rw [show Lib.itoa (n:Int)=Lib.decDigits n from by unfold Lib.itoa;rw [aC EY];simp]
def Ak6 (l:Bs) (c:UInt8):((Tg (l++[c]):Nat):Int)=(41 * (Tg l:Int)+(c.toNat:Int)+1) % 999979:=by
 rw [Awe];unfold Aco;omega
def Aqd (s:au) (w:World) (hs:s.size<=maxLen) :
  Calls prog 163 #[af s] w fun e w'=>e=.returned (aa (Tg s.data.toList))/\w=w':=by
 unfold maxLen at hs
 go_enter func163,ntmps163
 go_wp2
 go_loop [3,7] (fun h i=>∃k:Nat,k<=s.size/\i=aa k/\h=aa (Tg (s.data.toList.take k))) (fun _ i=>s.size - (intOf i).toNat)
 case atStart=>exact ⟨0,aD _,rfl,rfl⟩
 case round =>
  obtain ⟨k,hk,rfl,rfl⟩:=hrel;by_cases hlt:k < s.size
  ·have hb:(s[k].toNat:Int)<=255:=IE
   have hS:=Lib.hid (Ak6 (s.data.toList.take k) s[k]);rw [<-Ak8 s k hlt] at hS;have hl:=Acn (s.data.toList.take k);generalize Tg (s.data.toList.take k)=n at *
   go_wp2
   go_round
   case rel=>exact ⟨k+1,EY,HT,by rw [hS.out]⟩
   case measure=>simp [intOf];omega
  ·go_wp2
   go_ret
   exact ⟨L8 (by rw [Apo s k hlt]),rfl⟩
def Bc8 (s:au) (w:World) (hs:s.size<=maxLen) :
  Calls prog 137 #[af s] w fun e w'=>e=.returned (aa (Tg s.data.toList))/\w=w':=by
 unfold maxLen at hs
 go_enter func137,ntmps137
 go_wp2
 go_loop [3,4] (fun h i=>∃k:Nat,k<=s.size/\i=aa k/\h=aa (Tg (s.data.toList.take k))) (fun _ i=>s.size - (intOf i).toNat)
 case atStart=>exact ⟨0,aD _,rfl,rfl⟩
 case round =>
  obtain ⟨k,hk,rfl,rfl⟩:=hrel;by_cases hlt:k < s.size
  ·have hb:(s[k].toNat:Int)<=255:=IE
   have hS:=Lib.hid (Ak6 (s.data.toList.take k) s[k]);rw [<-Ak8 s k hlt] at hS;have hl:=Acn (s.data.toList.take k);generalize Tg (s.data.toList.take k)=n at *
   go_wp2
   go_round
   case rel=>exact ⟨k+1,EY,HT,by rw [hS.out]⟩
   case measure=>simp [intOf];omega
  ·go_wp2
   go_ret
   exact ⟨L8 (by rw [Apo s k hlt]),rfl⟩
def Ws:∀(k n:Nat) (w:World),n < 10 ^ (k+1)->n<=999999999999999999 ->
  Calls prog 46 #[aa (n:Int)] w fun e w'=>e=.returned (af (bs (Lib.decDigits n)))/\∃j,w'=w.drewN j:=_root_.Go.Proofs.YtmppejmafbfhlaaGreatDoor.Ws
def Ayv (s:au) (w:World) (hs0:s.size<=4294967296) :
  Calls prog 87 #[af s] w fun e w'=>e=.returned (af (bs (O5 s.data.toList)))/\∃j,w'=w.drewN j:=by
 have hl:=Acn s.data.toList;have hn:=fun w=>Ws 5 (Tg s.data.toList) w EY EY;have hS:Hid (s++⟨#[35]⟩++bs (Lib.decDigits (Tg s.data.toList))=bs (O5 s.data.toList)):=by
  refine Lib.hid ?_;rw [Ac6,Gp,Jt];congr 1;simp [O5]
 have hD:(bs (Lib.decDigits (Tg s.data.toList))).size<=6:=by rw [Ju];exact Ea 5 _ EY
 generalize bs (Lib.decDigits (Tg s.data.toList))=D at *;have hs:s.size<=maxLen:=FE
 go_enter func87,ntmps87
 go_wp2_with (first
  | (go_at_call 137;refine (Bc8 _ _ FR).mono ?_;rintro e w' ⟨rfl,rfl⟩)
  | (go_at_call 46;refine (hn _).mono ?_;rintro e w' ⟨rfl,j,rfl⟩))
 go_ret
 exact ⟨Zq hS.out,_,rfl⟩
def Qh (c:UInt8):∀l:Bs,(c∈l->Lib.indexByte l c=(Eh c l).length)/\(c ∉ l->Lib.indexByte l c=-1)
 | []=>by simp [Lib.indexByte]
 | b::l=>by
  obtain ⟨h1,h2⟩:=Qh c l;unfold Lib.indexByte Eh;by_cases hb:b=c
  ·subst hb;simp
  ·have hb':(b == c)=false:=JD
   rw [hb'];have hm:c∈b::l↔c∈l:=by
    rw [aG];exact ⟨fun h=>h.resolve_left (fun e=>hb e.symm),.inr⟩
   rw [hm];refine ⟨fun h=>?_,fun h=>?_⟩
   ·rw [h1 h];have:((Eh c l).length:Int)≠-1:=EY
    simp [Eh,hb] at this ⊢
   ·rw [h2 h];simp
def Acr (c:UInt8) (l:Bs):(Eh c l).length<=l.length:=by
 unfold Eh;exact (List.takeWhile_sublist _).length_le
def Atc {c:UInt8} {l:Bs} (h:c∈l):(Eh c l).length < l.length:=by
 rcases Po c l with ⟨_,h2⟩|⟨h2,_⟩
 ·have:=congrArg List.length h2;simp at this;omega
 ·exact absurd h h2
def Q1 (c:UInt8) (s:au):au:=bs (Eh c s.data.toList)
def Sg (c:UInt8) (s:au):au:=bs (Mt c s.data.toList)
def Asd {c:UInt8} {s:au} (h:c∈s.data.toList):s.extract 0 (Eh c s.data.toList).length=Q1 c s/\s.extract ((Eh c s.data.toList).length+1) s.size=Sg c s:=by
 rcases Po c s.data.toList with ⟨_,h2⟩|⟨h2,_⟩
 ·constructor
  ·rw [Lib.extract_eq];unfold Q1 bs;congr 2;rw [dh,fT];exact (congrArg (List.take _) h2).trans gi
  ·rw [Lib.extract_eq];unfold Sg bs;congr 2;rw [aV FA];refine (congrArg (List.drop _) h2).trans ?_;rw [<-cw,ej];rfl
 ·exact absurd h h2
def Avg (s:au) (c:UInt8) (w:World) (hs:s.size<=maxLen) :
  Calls prog 122 #[af s,af ⟨#[c]⟩] w fun e w'=>e=.returned (.tuple #[af (Q1 c s),af (Sg c s),.bool (Ki c s.data.toList)])/\∃j,w'=w.drewN j:=by
 unfold maxLen at hs;have hi:=fun w=>Tryz.stringslite_Index_one s c w;by_cases h:c∈s.data.toList
 ·have hc:=Asd h;have hl:=Atc h;rw [Co] at hl;have hst:Ki c s.data.toList=true:=by unfold Ki;rw [cG];exact ⟨c,h,FA⟩
  have hst:=Lib.hid hst;rw [(Qh c _).1 h] at hi;generalize (Eh c s.data.toList).length=n at *;have hc1:=Lib.hid hc.1;have hc2:=Lib.hid hc.2;clear hc
  go_enter func122,ntmps122
  go_wp2_with (go_at_call 197;refine (hi _).mono ?_;rintro e w' ⟨rfl,rfl⟩)
  go_quiet (fail)
  go_wp2_with fail;refine bodyPost_ret (v:=.tuple #[af (Q1 c s),af (Sg c s),.bool true]) ?_ rfl ?_
  ·simp [results,results122,go_sem,hc1.out,hc2.out]
  ·exact ⟨by rw [hst.out],_,rfl⟩
 ·have hst:Ki c s.data.toList=false:=by unfold Ki;rw [cB];intro x hx;simp;rintro rfl;exact h hx
  have h1:Q1 c s=s:=by unfold Q1;rw [Atd (fun x hx e=>h (by rw [<-e];exact hx)),Aek]
  have h2:Sg c s=⟨#[]⟩:=by unfold Sg;rw [Aji (fun x hx e=>h (by rw [<-e];exact hx))];rfl
  rw [(Qh c _).2 h] at hi;replace hst:=Lib.hid hst;replace h1:=Lib.hid h1;replace h2:=Lib.hid h2
  go_enter func122,ntmps122
  go_wp2_with (go_at_call 197;refine (hi _).mono ?_;rintro e w' ⟨rfl,rfl⟩);refine bodyPost_ret (v:=.tuple #[af s,af ⟨#[]⟩,.bool false]) ?_ rfl ?_
  ·simp [results,results122,go_sem]
  ·exact ⟨by rw [hst.out,h1.out,h2.out],0,rfl⟩
def Nq (c r:au):Bw c r=Aeo c.data.toList r.data.toList:=by
 unfold Bw Aeo;rw [Co,Co]
def Az8 {a b:au} {x y:Bool} (h:a=b) (h2:x=y):Ending.returned (.tuple #[af a,.bool x])=.returned (.tuple #[af b,.bool y]):=by rw [h,h2]
def Awy (s:au) (c:UInt8) (w:World) (hs:s.size<=maxLen) :
  Calls prog 72 #[af s,af ⟨#[c]⟩] w fun e w'=>e=.returned (.tuple #[af (Q1 c s),af (Sg c s),.bool (Ki c s.data.toList)])/\∃j,w'=w.drewN j:=by
 go_enter func72,ntmps72
 go_wp2_with (go_at_call 122;refine (Avg _ _ _ hs).mono ?_;rintro e w' ⟨rfl,j,rfl⟩);refine bodyPost_ret (v:=.tuple #[af (Q1 c s),af (Sg c s),.bool (Ki c s.data.toList)]) ?_ rfl ⟨rfl,_,rfl⟩;simp [results,results72,go_sem]
def Te {s:au} {n:Nat} (h:s.data.toList.length<=n):s.size<=n:=by rwa [Co] at h
def Abg (s:au) (F:aq) (w:World) (hs0:s.size<=3000) (h35:∀b∈s.data.toList,b≠35) (hT:Su Acz w (.agg #[]) () F) :
  Calls prog 103 #[af s] w (RB (.tuple #[af (bs (O5 s.data.toList)),.bool true]) w):=by
 have hl:=Acn s.data.toList;have hD:(bs (Lib.decDigits (Tg s.data.toList))).size<=6:=by rw [Ju];exact Ea 5 _ EY
 have hS:Hid (s++⟨#[35]⟩++bs (Lib.decDigits (Tg s.data.toList))=bs (O5 s.data.toList)):=by
  refine Lib.hid ?_;rw [Ac6,Gp,Jt];congr 1;simp [O5]
 have hI:=fun w F hT=>Aw7 (Tg s.data.toList) EY F w hT;have hs:s.size<=maxLen:=FE
 have hst:Ki 35 s.data.toList=false:=by unfold Ki;rw [cB];intro x hx;simp;exact h35 x hx
 have hct:=fun w=>Ago s 35 w;rw [hst] at hct;generalize bs (Lib.decDigits (Tg s.data.toList))=D at *;clear hst h35
 go_enter func103,ntmps103
 go_wp2_with (first
  | (go_at_call 89;refine (hct _).mono ?_;rintro e w' ⟨rfl,rfl⟩)
  | (go_at_call 163;refine (Aqd _ _ FR).mono ?_;rintro e w' ⟨rfl,rfl⟩)
  | (go_at_call 104;refine (hI _ _ hT).mono ?_;rintro e w' ⟨rfl,hb⟩))
 refine bodyPost_ret (v:=.tuple #[af (s++⟨#[35]⟩++D),.bool true]) ?_ rfl ⟨Az8 hS.out rfl,hb⟩;simp [results,results103,go_sem]
def Bfy (s:au) (f k:Nat):s.extract f k=bs ((s.data.toList.drop f).take (k - f)):=Lib.extract_eq s f k
def Zh (s:au) (f:Nat):s.extract f s.size=bs (s.data.toList.drop f):=by
 rw [Lib.extract_eq];unfold bs;rw [aV FA]
def Adq (s:au) (c:UInt8) (w:World) (hs:s.size<=16777216) :
  Calls prog 33 #[af s,.int .u8 (c.toNat:Int)] w (X4 A9 9 ((Ds c s.data.toList).map bs) w) :=
 ((Adr s c hs).made w (fun _ h=>by cases h) (fun _=>rfl)).mono fun e w1 ⟨z,_,he,hH,hn,hF,hB⟩=>⟨_,z.2.2,he,(hH _ (aL.2 rfl)).2,by simpa [fp,Pc.F] using hn,by simpa [fp,Pc.F] using hF,hB⟩
def Ani (k:Nat) (c r:au):bs (Lib.decDigits k)++⟨#[32]⟩++c++⟨#[64]⟩++r=bs (Lk k c.data.toList r.data.toList):=by
 rw [Ac6 (_++_) r,Gp,Gp,Gp,Jt];congr 1;simp [Lk]
def Axq (l:Bs):bs l++⟨#[10]⟩=bs (l++[10]):=by rw [Ac6,Jt]
def Agk {P:Program} {f:FuncId} {a:Array Value} {w:World} {v:Value} (h:Calls P f a w fun e w1=>e=.returned v/\∃j,w1=w.drewN j):Calls P f a w (RB v w):=h.mono fun e w1 ⟨he,j,hj⟩=>⟨he,IB⟩
def sz1 (x:UInt8):(⟨#[x]⟩:au).size=1:=rfl
def Agu (k:Nat) (c r:au) (F:aq) (hk:k<=59) (hg:X0 c.data.toList r.data.toList):FV 54 [aa (k:Int),.agg #[af c,af r]] [.isv Acz (.agg #[]) () F] (af (bs (Kl k c.data.toList r.data.toList))):=by
 have hb0:=Ac7 hk hg;have hm:=Tl (k:=k) hg;have hX:=Ani k c r;have hc1:c.size<=160:=Te hg.c1;have hr1:r.size<=200:=Te hg.r1;have hD:(bs (Lib.decDigits k)).size<=2:=KP
 have hE:(bs (O5 (Lk k c.data.toList r.data.toList))).size<=400:=by rw [Ju];have:=Ad5 (Lk k c.data.toList r.data.toList);omega
 have hN:=Axq (O5 (Lk k c.data.toList r.data.toList));have hI:=fun w hT=>Aw7 k EY F w hT;have hA:=fun w hT=>Abg (bs (Lk k c.data.toList r.data.toList)) F w (by rw [Ju];omega) (by rw [Jt];exact fun b hb=>(hm b hb).2) hT;rw [Jt,<-hX] at hA;rw [show bs (Kl k c.data.toList r.data.toList)=bs (O5 (Lk k c.data.toList r.data.toList)++[10]) from rfl];generalize bs (Lib.decDigits k)=D at *;generalize bs (O5 (Lk k c.data.toList r.data.toList))=E at *;refine enter func54 rfl ntmps54 fun w0=>?_;refine go ?_;intros;refine Ar [0] [] ?_;refine C4 0 3 4 7 ?_;refine dt 8 ?_;refine dN 1 ?_;refine oC ?_
 refine cb (fun w st=>hI w (st.get (p:=.isv Acz (.agg #[]) () F) FD)) ?_;refine dk ?_;refine dt 2 ?_ (hy:=Hh rfl rfl GI);refine dt 5 ?_ (hy:=Hh rfl rfl GI);refine dt 6 ?_ (hy:=Hh rfl rfl GI);refine dt 9 ?_ (hy:=Hh rfl rfl GI);refine dN 10 ?_;refine oC ?_;refine cb (fun w st=>hA w (st.get (p:=.isv Acz (.agg #[]) () F) FD)) ?_;refine dk ?_;refine C4 11 12 13 14 ?_;refine dt 15 ?_;refine dd ?_
 refine go ?_;intros;apply wO;apply oc;rfl;exact Hh rfl rfl (by rw [sz1];omega);refine go ?_;intros;refine ret () trivial ?_;rw [<-hN];rfl
def X7 (k:Nat) (c r:au) (F:aq) (w:World) (hk:k<=59) (hg:X0 c.data.toList r.data.toList) (hT:Su Acz w (.agg #[]) () F) :
  Calls prog 54 #[aa (k:Int),.agg #[af c,af r]] w (RB (af (bs (Kl k c.data.toList r.data.toList))) w):=(Agu k c r F hk hg).val w (I6 hT)
def Akf (k:Nat) (c r:au) (hk:k<=59) (hg:X0 c.data.toList r.data.toList):FV 50 [aa (k:Int),.agg #[af c,af r]] [] (af (bs (Kl k c.data.toList r.data.toList))):=by
 have hb0:=Ac7 hk hg;have hm:=Tl (k:=k) hg;have hX:=Ani k c r;have hc1:c.size<=160:=Te hg.c1;have hr1:r.size<=200:=Te hg.r1;have hD:(bs (Lib.decDigits k)).size<=2:=KP
 have hE:(bs (O5 (Lk k c.data.toList r.data.toList))).size<=400:=by rw [Ju];have:=Ad5 (Lk k c.data.toList r.data.toList);omega
 have hN:=Axq (O5 (Lk k c.data.toList r.data.toList));have hI:=fun w=>Agk (Ws 1 k w EY EY);have hA:=fun w=>Agk (Ayv (bs (Lk k c.data.toList r.data.toList)) w (by rw [Ju];omega));rw [Jt,<-hX] at hA;rw [show bs (Kl k c.data.toList r.data.toList)=bs (O5 (Lk k c.data.toList r.data.toList)++[10]) from rfl];generalize bs (Lib.decDigits k)=D at *;generalize bs (O5 (Lk k c.data.toList r.data.toList))=E at *;refine enter func50 rfl ntmps50 fun w0=>?_;refine go ?_;intros;refine Ar [0] [] ?_;refine C4 0 3 4 7 ?_;refine dt 8 ?_;refine dN 1 ?_;refine oC ?_;refine cb (fun w st=>hI w) ?_
 refine dk ?_;refine dt 2 ?_ (hy:=Hh rfl rfl GI);refine dt 5 ?_ (hy:=Hh rfl rfl GI);refine dt 6 ?_ (hy:=Hh rfl rfl GI);refine dt 9 ?_ (hy:=Hh rfl rfl GI);refine dN 10 ?_;refine oC ?_;refine cb (fun w st=>hA w) ?_;refine dk ?_;refine dt 11 ?_ (hy:=Hh rfl rfl GI);refine dt 12 ?_;refine dd ?_;refine go ?_;intros;refine ret () trivial ?_;rw [<-hN];rfl
def Au7 (k:Nat) (c r:au) (w:World) (hk:k<=59) (hg:X0 c.data.toList r.data.toList) :
  Calls prog 50 #[aa (k:Int),.agg #[af c,af r]] w (RB (af (bs (Kl k c.data.toList r.data.toList))) w):=(Akf k c r hk hg).val w nofun
def Bct {a b:au} (h:Bw a b=true):X0 a.data.toList b.data.toList:=I5 (by rw [<-Nq];exact h)
def As1 {l:Bs} {k:Nat} (h:(Eh 35 l).length < (Hx k).length\/(Eh 35 l).take (Hx k).length≠Hx k):Ua l k=(([],[]),false):=by
 unfold Ua;rw [aH h]
def Bdu {l:Bs} {k:Nat} {rest:Bs} (h:¬((Eh 35 l).length < (Hx k).length\/(Eh 35 l).take (Hx k).length≠Hx k)) (hr:rest=(Eh 35 l).drop (Hx k).length) (h2:(Eh 64 rest).length=rest.length):Ua l k=(([],[]),false):=by
 subst hr;unfold Ua;rw [aC h];simp only [];rw [aH h2]
def Bdv {l:Bs} {k:Nat} {rest:Bs} (h:¬((Eh 35 l).length < (Hx k).length\/(Eh 35 l).take (Hx k).length≠Hx k)) (hr:rest=(Eh 35 l).drop (Hx k).length) (h2:¬(Eh 64 rest).length=rest.length) :
  Ua l k=((Eh 64 rest,rest.drop ((Eh 64 rest).length+1)),Aeo (Eh 64 rest) (rest.drop ((Eh 64 rest).length+1)) && (Kl k (Eh 64 rest) (rest.drop ((Eh 64 rest).length+1)) == l++[10])):=by
 subst hr;unfold Ua;rw [aC h];simp only [];rw [aC h2]
def Ax8 (l:Bs) (n:Nat):(bs l).extract 0 n=bs (l.take n):=by rw [Bfy,Jt];simp
def Ax7 (l:Bs) (n:Nat):(bs l).extract n (bs l).size=bs (l.drop n):=by rw [Zh,Jt]
def Axt {a b:Bs}:bs a=bs b↔a=b:=⟨fun h=>by have:=congrArg (fun x=>x.data.toList) h;simpa [Jt] using this,fun h=>by rw [h]⟩
def Ami {c:UInt8} {l:Bs} (h:0 < ((Ds c l).map bs).length):((Ds c l).map bs)[0]=bs (Eh c l):=by
 obtain ⟨r,hr,_⟩:=Se c l;simp [hr]
def Amj (c:UInt8) (l:Bs):0 < ((Ds c l).map bs).length:=by
 obtain ⟨r,hr,_⟩:=Se c l;simp [hr]
def Au8 (s:au) (k:Nat) (hk:k<=59) (hs:s.size<=16777216):FV 105 [af s,aa (k:Int)] [] (.tuple #[.agg #[af (bs (Ua s.data.toList k).1.1),af (bs (Ua s.data.toList k).1.2)],.bool (Ua s.data.toList k).2]):=by
 have hI:=fun w=>Agk (Ws 1 k w EY EY);have hah:bs (Lib.decDigits k)++⟨#[32]⟩=bs (Hx k):=by rw [Ac6,Jt];rfl
 have hD:(bs (Lib.decDigits k)).size<=2:=KP
 have hT0:=Acr 35 s.data.toList;rw [Co] at hT0;have e0:=Ju (Hx k);have hA:(Hx k).length<=3:=by have:=Ea 1 k EY;simp [Hx];omega
 have e1:=Ju (Eh 35 s.data.toList);have e2:=Ax8 (Eh 35 s.data.toList) (Hx k).length;have e3:=Ax7 (Eh 35 s.data.toList) (Hx k).length;refine enter func105 rfl ntmps105 fun w0=>?_;refine go ?_;intros;refine cb (fun w st=>hI w) ?_;apply wO;apply oc;rfl;exact Hh rfl rfl (by rw [sz1];omega);rw [hah];refine go ?_;intros;refine cn (fun w st=>Adq s 35 w hs) fun a2 c2 F2=>?_;refine Av (E:=A9) (xs:=(Ds 35 s.data.toList).map bs) fun F3=>?_;have hi7:=Amj 35 s.data.toList;refine Me (xs:=(Ds 35 s.data.toList).map bs) 0 ?_;rintro hi0 b0 o0 rfl q0;rw [Ami];rw [<-e0] at e2 e3
 have e4:(Eh 35 s.data.toList).take (bs (Hx k)).size=Hx k↔(bs (Eh 35 s.data.toList)).extract 0 (bs (Hx k)).size=bs (Hx k):=by rw [e2,Axt]
 rw [e0] at e4;have hr3:((bs (Eh 35 s.data.toList)).extract (bs (Hx k)).size (bs (Eh 35 s.data.toList)).size).data.toList=(Eh 35 s.data.toList).drop (Hx k).length:=by rw [e3,Jt,e0]
 generalize bs (Eh 35 s.data.toList)=tx at *;rw [<-e0] at e4;generalize bs (Hx k)=ah at *;refine go ?_;intros;by_cases hlt:tx.size < ah.size
 ·rw [As1 (.inl EY),show decide ((tx.size:Int) < (ah.size:Int))=true from av EY];refine go ?_;intros;exact BA
 rw [show decide ((tx.size:Int) < (ah.size:Int))=false from ay EY];refine go ?_;intros;apply wO;apply oc;rfl;exact Y9 rfl rfl EY EY;refine go ?_;intros;refine Ay rfl (fun h4=>?_) (fun h4=>?_)
 ·rw [As1 (.inr (fun e=>h4 (e4.1 (by rw [e0];exact e))))];refine go ?_;intros;exact BA
 have h4:tx.extract 0 ah.size=ah:=cL.1 h4;have hyes:¬((Eh 35 s.data.toList).length < (Hx k).length\/(Eh 35 s.data.toList).take (Hx k).length≠Hx k):=by
  rintro (h|h)
  ·omega
  ·exact h (by rw [<-e0];exact e4.2 h4)
 refine go ?_;intros;apply wO;apply oc;rfl;exact Xk rfl rfl EY EY;rw [show tx.extract ((ah.size:Nat):Int).toNat tx.size=tx.extract ah.size tx.size from rfl];have hrz:(tx.extract ah.size tx.size).size<=16777216:=II
 generalize tx.extract ah.size tx.size=rs at *;refine go ?_;intros;refine cn (fun w st=>Adq rs 64 w hrz) fun a4 c4 F4=>?_;refine Av (E:=A9) (xs:=(Ds 64 rs.data.toList).map bs) fun F5=>?_;have hi8:=Amj 64 rs.data.toList;refine Me (xs:=(Ds 64 rs.data.toList).map bs) 0 ?_;rintro hi1 b1 o1 rfl q1;rw [Ami];have e5:=Ju (Eh 64 rs.data.toList);have e6:=Acr 64 rs.data.toList;have e7:=Zh rs ((Eh 64 rs.data.toList).length+1);have e8:=Co rs;have e9:=Jt (Eh 64 rs.data.toList);have hnb:=fun h=>Bdu (l:=s.data.toList) (k:=k) hyes hr3 h;have hnc:=fun h=>Bdv (l:=s.data.toList) (k:=k) hyes hr3 h;rw [<-e5] at e7
 generalize bs (Eh 64 rs.data.toList)=ak at *;refine go ?_;intros;refine Ay rfl (fun h5=>?_) (fun h5=>?_)
 ·rw [hnb EY];refine go ?_;intros;exact BA
 have hno:=hnc EY;refine go ?_;intros;apply wO;apply oc;rfl;exact Xk rfl rfl EY EY;rw [show rs.extract ((ak.size:Int)+1).toNat rs.size=rs.extract (ak.size+1) rs.size from rfl];have hrp:(rs.extract (ak.size+1) rs.size).size<=16777216:=II
 have p1:(rs.extract (ak.size+1) rs.size).data.toList=rs.data.toList.drop ((Eh 64 rs.data.toList).length+1):=by rw [e7,Jt,e5]
 generalize rs.extract (ak.size+1) rs.size=rp at *;rw [<-p1,<-e9,<-Nq] at hno;refine go ?_;intros;rw [hno];cases hg:Bw ak rp
 ·skip
  refine Ar [0] [] ?_;refine Dh 0 1 ?_;refine dN 2 ?_;refine oC ?_;refine cb (fun w st=>To ak rp w FE FE) ?_;rw [hg];refine dk ?_;refine dt 3 ?_;refine ds 4 ?_;refine ds 5 ?_;refine ds 6 ?_;refine ds 7 ?_;refine ds 8 ?_;refine ds 9 ?_;refine dt 10 ?_;refine dN 11 ?_;refine oS ?_;refine dk ?_;refine dt 12 ?_;refine dd ?_;refine go ?_;intros;refine ret () trivial ?_;dsimp only;rw [Aek,Aek];rw [cJ];rfl
 ·skip
  refine Ar [0] [] ?_;refine Dh 0 1 ?_;refine dN 2 ?_;refine oC ?_;refine cb (fun w st=>To ak rp w FE FE) ?_;rw [hg];refine dk ?_;refine dt 3 ?_;refine Dg 4 ?_;refine Dg 5 ?_;refine Dg 7 ?_;refine Dg 8 ?_ (hy:=Hh rfl rfl (by rw [sz1];omega));refine d1g 6 ?_;apply On.h;refine oC ?_;refine Be (Akf k ak rp hk (Bct hg)) fun _ _=>?_;refine dk ?_;refine Dg 9 ?_;refine dt 10 ?_;refine dN 11 ?_;refine oS ?_;refine dk ?_;refine dt 12 ?_;refine dd ?_;refine go ?_;intros;refine ret () trivial ?_;dsimp only;rw [Aek,Aek]
  rw [bQ,show (decide (bs (Kl k ak.data.toList rp.data.toList)=s++⟨#[10]⟩))=(Kl k ak.data.toList rp.data.toList == s.data.toList++[10]) from by
   rw [Ac6,cD];simp [Axt]]
  rfl
end Go.Proofs.YtmppejmafbfhlaaGreatDoor.Lg
namespace Go.Proofs.YtmppejmafbfhlaaGreatDoor
open Go.RowKit
def Av4 {n:Nat} {P:Program} {row:String} {args:Array Value} {w:World} {R:Value->World->Prop} (h:Rows P row args w R):RowsIn Fence.wide n P row args w R:=fun c cs _=>by
 obtain ⟨v,w',r,s⟩:=h c cs;exact ⟨v,w',r,stepsIn_wide.2 s⟩
def Ahr {l n:Nat} {P:Program} {o:Oper} {a:Act} {w:World} {K:Act->World->Prop} {Q:Exit->Act->World->Prop} (hd:∀c,o.op≠.defer c) (h:o.wp P a w K Q) :
  o.wpIn (Fence.wide.inRound l) n P a w K Q:=by
 refine ⟨fun f _=>trivial,?_⟩;rw [Fence.inRound_round,Oper.semAt_some l _ _ hd];unfold Oper.wp at h;generalize (execOp a.eval o).run P w=r at *;cases r with
 | ok x w' =>
  cases x <;> simp only [Oper.upon,Oper.uponIn] at h ⊢ <;>
   first
    | exact h
    | exact ⟨(fun e=>by cases e),CallsIn.inRound l (callsIn_wide.2 h)⟩
    | exact ⟨(fun e=>by cases e),Av4 h⟩
 | halt x w'=>cases x <;> simp only [Oper.upon,Oper.uponIn] at h ⊢ <;> exact h
def Wz (o:Oper):Bool:=match o.op with
 | .defer _=>false
 | _=>true
def Aht {o:Oper} (h:Wz o=true):∀c,o.op≠.defer c:=fun c e=>by simp [Wz,e] at h
def Aa5 {l n:Nat} {P:Program} {ops:Array Oper} {Q:Exit->Act->World->Prop} (hQ:∀a w,¬Q .outgrown a w):∀{lst:List Oper} {a:Act} {w:World},
  (∀o∈lst,Wz o=true)->wpList P ops Q lst a w->wpListIn (Fence.wide.inRound l) n P ops Q lst a w
 | [],_,_,_,h=>h
 | o::rest,a,w,hp,h=>by
  unfold wpList at h;unfold wpListIn
  split
  ·rename_i hw;rw [aH hw] at h;rcases h with h|⟨_,a',w',h⟩
   ·refine Ahr (Aht (hp o FA)) (Oper.wp_mono (fun a w h=>?_) h);exact Aa5 hQ (fun o ho=>hp o (by simp [ho])) h
   ·exact absurd h (hQ a' w')
  ·rename_i hw;rw [aC hw] at h;exact ⟨fun f _=>trivial,Aa5 hQ (fun o ho=>hp o (by simp [ho])) h⟩
def Ii {l n id:Nat} {P:Program} {ops:List Oper} {Q:Exit->Act->World->Prop} {a:Act} {w:World} (hQ:∀a w,¬Q .outgrown a w) (hp:(ops.all Wz)=true)
  (h:wpList P ops.toArray Q ops a w):(Code.region id ops.toArray false).wpIn (Fence.wide.inRound l) n P Q a w :=
 wpIn_region_lit (Aa5 hQ (fun o ho=>aW.1 hp o ho) h)
def Zb {l n:Nat} {P:Program} {md:Region.Mode} {ops:Array Oper} {Q:Exit->Act->World->Prop} (hQ:∀a w,¬Q .outgrown a w) (hp:(ops.toList.all Wz)=true):∀(f:Nat) (listed:Array Bool) (a:Act) (w:World),
  wpAny P md ops Q f listed a w->wpAnyIn (Fence.wide.inRound l) n P md ops Q f listed a w
 | 0,_,_,_,h=>h
 | f+1,listed,a,w,h=>by
  refine ⟨h.1,fun i hi=>?_⟩;have h1:=h.2 i hi;unfold wpOp at h1;unfold wpOpIn;cases ho:ops[i]? with
  | none=>rw [ho] at h1;exact Zb hQ hp f _ _ _ h1
  | some o =>
   rw [ho] at h1;have hpo:Wz o=true:=aW.1 hp o (by rw [<-Array.getElem?_toList] at ho;exact ci ho);dsimp only at h1 ⊢
   split
   ·rename_i hw;rw [aH hw] at h1;rcases h1 with h1|⟨_,a',w',h1⟩
    ·exact Ahr (Aht hpo) (Oper.wp_mono (fun a w h=>Zb hQ hp f _ a w h) h1)
    ·exact absurd h1 (hQ a' w')
   ·rename_i hw;rw [aC hw] at h1;exact ⟨fun f _=>trivial,Zb hQ hp f _ _ _ h1⟩
def AbB {β:Type} (b:aq) (J:β->World->Prop):Prop:=∀s W W',J s W->Ek b W W'->J s W'
def Am9 (ks:aq) (W W':World):Prop:=∀k∈ks,W'.heap[k]?=W.heap[k]?
def Axg (P:Program) (gf:Nat) (lb:Array Value) (b:Nat) (xs:ai) (W0:World):Prop :=
 ∀(n l:Nat) (J Jx:ai->World->Prop),AbB [b] J->AbB [b] Jx ->
  (∀m pre x post W1,xs=pre++x::post->J pre W1->YieldAt Fence.wide m P l #[af x] W1 fun e W' =>
   (e=.returned (.bool true)/\J (pre++[x]) W'/\W'.heap[b]?=W1.heap[b]?)\/(e=.returned (.bool false)/\Jx (pre++[x]) W')) ->
  J [] W0->CallsIn Fence.wide n P gf (#[.func (.yield l) #[] #[]]++lb) W0 fun e W'=>(∃v,e=.returned v)/\(J xs W'\/∃pre x post,xs=pre++x::post/\Jx (pre++[x]) W')
def Bcg (ks:aq) (I:ai->World->Prop) (Ix:Code->ai->World->Prop) (ys:ai) (W:World):Exit->Act->World->Prop
 | .normal,_,W'=>Am9 ks W W'/\I ys W'
 | .ret,_,W'=>Am9 ks W W'/\Ix .ret ys W'
 | .exit id,_,W'=>Am9 ks W W'/\Ix (.exit id) ys W'
 | .goto t,_,W'=>Am9 ks W W'/\Ix (.goto t) ys W'
 | .panic _,_,_=>False
 | .outgrown,_,_=>False
def Of (W:World) (l:Nat) (o:Obj):Ek [l] W (W.putObj l o) :=
 ⟨rfl,rfl,rfl,FA,fun k _ hk=>World.putObj_heap_other (fun e=>hk (by simp [e]))⟩
def Amt {P:Program} {g:Operand} {ps:Array Tmp} {assign body:Code} {Q:Exit->Act->World->Prop} {a:Act} {w:World} {n gf b:Nat} {lb:Array Value} {xs:ai}
  (hg:a.eval g=.func (.func gf) #[] lb) (eg:∀args w,(callFunc gf args).run P w=.ok (.enter gf args) w) (hps:ps.size=1) (hb:b < w.heap.size)
  (hseq:∀W0,W0.heap[b]?=w.heap[b]?->Axg P gf lb b xs W0)
  (I:ai->World->Prop) (Ix:Code->ai->World->Prop) (hI:AbB [b,w.heap.size+1] I) (hIx:∀c,AbB [b,w.heap.size+1] (Ix c)) (h0:I [] w) (a₁:au->Act)
  (hassign:∀(m:Nat) (x:au) (W:World) (K:Act->World->Prop),K (a₁ x) W ->
   assign.wpIn (Fence.wide.inRound (w.heap.size+1)) m P (Exit.then K (fun _ _ _=>False)) { tmps:=(ps.zip #[af x]).foldl (fun t (p,v)=>t.setIfInBounds p v) a.tmps,defers:=[] } W)
  (hbody:∀(m:Nat) (pre post:ai) (x:au) (W:World),xs=pre++x::post->w.heap.size+2<=W.heap.size->I pre W ->
   body.wpIn (Fence.wide.inRound (w.heap.size+1)) m P (Bcg [b,w.heap.size,w.heap.size+1] I Ix (pre++[x]) W) (a₁ x) W)
  (hdone:∀(W:World),I xs W->W.heap[w.heap.size]?=some (.deferred (some []))->Q .normal { a with defers:={ target:=.collected w.heap.size,args:=#[] }::a.defers } W)
  (hstop:∀(c:Code) (pre post:ai) (x:au) (W:World),xs=pre++x::post->Ix c (pre++[x]) W->W.heap[w.heap.size]?=some (.deferred (some [])) ->
   c.wpIn Fence.wide n P Q { a with defers:={ target:=.collected w.heap.size,args:=#[] }::a.defers } W) :
  (Code.rangeFunc g ps assign body).wpIn Fence.wide n P Q a w:=by
 refine wpIn_rangeFunc ?_;intro fn hfn;rw [Fence.wide_round];obtain ⟨rec,hrec⟩:∃rec:LoopState->Option Code->Loop,rec=fun st pe=>{ state:=st,pending:=pe,fn,tmps:=a.tmps,params:=ps,assign,body,defers:=w.heap.size }:=⟨_,rfl⟩;obtain ⟨W1,hW1⟩:∃W1,(w.alloc (.deferred (some []))).alloc (.loop (rec .ready none))=W1:=⟨_,rfl⟩;have hL1:W1.heap[w.heap.size+1]?=some (.loop (rec .ready none)):=by
  rw [<-hW1];have:=World.alloc_heap_new (w.alloc (.deferred (some []))) (.loop (rec .ready none));rwa [World.size_alloc] at this
 have hK1:W1.heap[w.heap.size]?=some (.deferred (some [])):=by
  rw [<-hW1];exact (Below.heap_alloc _ _ _ FA).trans (World.alloc_heap_new w _)
 have hk1:Ek [b,w.heap.size+1] w W1:=by rw [<-hW1];exact ((Ek.refl _ _).alloc _).alloc _
 have hb1:W1.heap[b]?=w.heap[b]?:=by
  rw [<-hW1];exact (Below.heap_alloc _ _ _ FF).trans (Below.heap_alloc _ _ _ hb)
 refine ⟨w.heap.size+1,[{ target:=.collected w.heap.size,args:=#[] }],W1,{ target:=.fn (.func gf) lb,args:=#[.func (.yield (w.heap.size+1)) #[] #[]] },W1,gf,
  #[.func (.yield (w.heap.size+1)) #[] #[]]++lb,W1,?_,?_,?_,?_,(fun e=>by cases e),?_⟩
 ·rw [<-hW1,hrec];exact run_enterLoop_outer _ _ _ _ _
 ·simp only [resolve,hg];simp [go_sem]
 ·intro f' hf';trivial
 ·simp [invoke,go_sem,eg]
 have far:∀{W W':World} {k:Nat} {o:Obj},Ek [b] W W'->b < w.heap.size->w.heap.size<=k->W.heap[k]?=some o->W'.heap[k]?=some o:=fun {W W' k o} hk h1 h2 h3 =>
  (hk.block k (bJ.1 h3).1 FF).trans h3
 have wider:∀{W W':World},Ek [b] W W'->Ek [b,w.heap.size+1] W W':=fun h=>h.mono fun x hx _=>by simp at hx ⊢;omega
 have wider2:∀{W W':World},Ek [w.heap.size+1] W W'->Ek [b,w.heap.size+1] W W':=fun h=>h.mono fun x hx _=>by simp at hx ⊢;omega
 refine (hseq W1 hb1 (n - 1) (w.heap.size+1)
  (fun pre W=>I pre W/\W.heap[w.heap.size+1]?=some (.loop (rec .ready none))/\W.heap[w.heap.size]?=some (.deferred (some [])))
  (fun pre W=>∃c,Ix c pre W/\W.heap[w.heap.size+1]?=some (.loop (rec .done (some c)))/\W.heap[w.heap.size]?=some (.deferred (some [])))
  (fun s A B hs hk=>⟨hI s A B hs.1 (wider hk),far hk hb EY hs.2.1,far hk hb EY hs.2.2⟩)
  (fun s A B hs hk=>by
   obtain ⟨c,hc,hl,hd⟩:=hs;exact ⟨c,hIx c s A B hc (wider hk),far hk hb EY hl,far hk hb EY hd⟩)
  ?_ ⟨hI _ _ _ h0 hk1,hL1,hK1⟩).mono ?_
 ·rintro m pre x post W hxs ⟨hi,hl,hk⟩;have hlt:w.heap.size+1 < W.heap.size:=(bJ.1 hl).1;have hy:=run_yield (P:=P) (args:=#[af x]) hl (by rw [hrec];exact hps.symm);rw [hrec] at hy;refine ⟨fn,_,assign,body,hy,roundIn_of_wpIn hfn (hassign m x W _ ⟨_,run_beginRound hl (by rw [hrec]),?_⟩)⟩;obtain ⟨W2,hW2⟩:∃W2,W.putObj (w.heap.size+1) (.loop { rec .ready none with state:=.busy })=W2:=⟨_,rfl⟩;rw [hW2];have hl2:W2.heap[w.heap.size+1]?=some (.loop { rec .ready none with state:=.busy }):=by rw [<-hW2];exact World.putObj_heap_same hlt
  have hk2:W2.heap[w.heap.size]?=some (.deferred (some [])):=by rw [<-hW2];exact (World.putObj_heap_other EY).trans hk
  have hb2:W2.heap[b]?=W.heap[b]?:=by rw [<-hW2];exact World.putObj_heap_other EY
  have hi2:I pre W2:=hI _ _ _ hi (by rw [<-hW2];exact wider2 (Of _ _ _));have hs2:w.heap.size+2<=W2.heap.size:=by rw [<-hW2];simp;omega
  refine wpIn_mono (hbody m pre post x _ hxs hs2 hi2) ?_
  have fin:∀(Yf:Option Code) (W3:World),Am9 [b,w.heap.size,w.heap.size+1] W2 W3 ->
    (Instr.endRound (w.heap.size+1) Yf).run P W3=.ok (.bool Yf.isNone) (W3.putObj (w.heap.size+1) (.loop (rec (if Yf.isNone then .ready else .done) Yf))) /\
    (W3.putObj (w.heap.size+1) (.loop (rec (if Yf.isNone then .ready else .done) Yf))).heap[w.heap.size+1]?=some (.loop (rec (if Yf.isNone then .ready else .done) Yf)) /\
    (W3.putObj (w.heap.size+1) (.loop (rec (if Yf.isNone then .ready else .done) Yf))).heap[w.heap.size]?=some (.deferred (some [])) /\
    (W3.putObj (w.heap.size+1) (.loop (rec (if Yf.isNone then .ready else .done) Yf))).heap[b]?=W.heap[b]?:=fun Yf W3 hk3=>by
   have hl3:=(hk3 (w.heap.size+1) FA).trans hl2;have h4:=run_endRound (P:=P) Yf hl3;rw [hrec] at h4 ⊢;exact ⟨h4,World.putObj_heap_same (bJ.1 hl3).1,(World.putObj_heap_other EY).trans ((hk3 w.heap.size FA).trans hk2),(World.putObj_heap_other EY).trans ((hk3 b FA).trans hb2)⟩
  rintro e a3 W3 hp;cases e with
  | normal =>
   obtain ⟨hk3,hi3⟩:=hp;obtain ⟨hr,hl4,hd4,hb4⟩:=fin none W3 hk3;exact ⟨_,_,hr,.inl ⟨rfl,⟨hI _ _ _ hi3 (wider2 (Of _ _ _)),hl4,hd4⟩,hb4⟩⟩
  | ret =>
   obtain ⟨hk3,hi3⟩:=hp;obtain ⟨hr,hl4,hd4,hb4⟩:=fin (some .ret) W3 hk3;exact ⟨_,_,hr,.inr ⟨rfl,.ret,hIx _ _ _ _ hi3 (wider2 (Of _ _ _)),hl4,hd4⟩⟩
  | exit id =>
   obtain ⟨hk3,hi3⟩:=hp;obtain ⟨hr,hl4,hd4,hb4⟩:=fin (some (.exit id)) W3 hk3;exact ⟨_,_,hr,.inr ⟨rfl,.exit id,hIx _ _ _ _ hi3 (wider2 (Of _ _ _)),hl4,hd4⟩⟩
  | goto t =>
   obtain ⟨hk3,hi3⟩:=hp;obtain ⟨hr,hl4,hd4,hb4⟩:=fin (some (.goto t)) W3 hk3;exact ⟨_,_,hr,.inr ⟨rfl,.goto t,hIx _ _ _ _ hi3 (wider2 (Of _ _ _)),hl4,hd4⟩⟩
  | panic ch=>exact hp.elim
  | outgrown=>exact hp.elim
 ·rintro e W2 ⟨⟨v,rfl⟩,(⟨hi,hl,hk⟩|⟨pre,x,post,hxs,c,hi,hl,hk⟩)⟩
  ·exact ⟨none,_,JQ,hdone _ (hI _ _ _ hi (wider2 (Of _ _ _))) ((World.putObj_heap_other EY).trans hk)⟩
  ·exact ⟨some c,_,JQ,hstop c pre post x _ hxs (hIx _ _ _ _ hi (wider2 (Of _ _ _))) ((World.putObj_heap_other EY).trans hk)⟩
end Go.Proofs.YtmppejmafbfhlaaGreatDoor
namespace Go.Proofs.YtmppejmafbfhlaaGreatDoor.Lg
open Go.RowKit
def Am3 (s:au) (c:UInt8) (w:World):Calls prog 121 #[af s,.int .u8 (c.toNat:Int)] w fun e w'=>e=.returned (aa (Lib.indexByte s.data.toList c))/\w=w':=by
 refine (Tryz.strings_IndexByte s c.toNat w).mono ?_;rintro e w' ⟨rfl,rfl⟩;exact ⟨FA,rfl⟩
def Jo (s:au):ai:=(Cy s.data.toList).map bs
def Aq5 {s:au} (h:¬0 < s.size):Jo s=[]:=by
 have:s.data.toList=[]:=bD (by rw [Co];omega);unfold Jo;rw [this];rfl
def Aq4 {s:au} (h:10∈s.data.toList):Jo s=bs (Eh 10 s.data.toList++[10])::Jo (bs (Mt 10 s.data.toList)) /\
  s.extract 0 ((Eh 10 s.data.toList).length+1)=bs (Eh 10 s.data.toList++[10])/\s.extract ((Eh 10 s.data.toList).length+1) s.size=bs (Mt 10 s.data.toList):=by
 refine ⟨?_,?_,(Asd h).2⟩
 ·rcases Po 10 s.data.toList with ⟨_,h2⟩|⟨h2,_⟩
  ·unfold Jo;rw [Jt]
   conv=>lhs;rw [h2]
   rw [T8 _ Acs];rfl
  ·exact absurd h h2
 ·rcases Po 10 s.data.toList with ⟨_,h2⟩|⟨h2,_⟩
  ·rw [Lib.extract_eq];unfold bs;congr 2;rw [dh,fT];refine (congrArg (List.take _) h2).trans ?_;rw [eJ,aV EY];simp
  ·exact absurd h h2
def Aom {s:au} (h0:0 < s.size) (h:10 ∉ s.data.toList):Jo s=[s]:=by
 unfold Jo;rw [S0 (fun e=>by have:=Co s;rw [e] at this;simp at this;omega) (fun c hc e=>h (by rw [<-e];exact hc))];simp [Aek]
def Atx {s:au} (h:10∈s.data.toList):(bs (Mt 10 s.data.toList)).size < s.size:=by
 rcases Po 10 s.data.toList with ⟨_,h2⟩|⟨h2,_⟩
 ·have:=congrArg List.length h2;rw [Ju];rw [Co] at this;simp at this;omega
 ·exact absurd h h2
def Alp (b:Nat) (w:World):Nat:=match w.cell? ⟨b,0,none⟩ with
 | some (.string r)=>r.size
 | _=>0
def Aar {b:Nat} {t:TypeId} {w:World} {r:au} (h:Ip w b t [af r]):Alp b w=r.size:=by
 unfold Alp;rw [h.cell];rfl
def Bb2 (s:au) (w:World):Calls prog 71 #[af s] w fun e w'=>e=.returned (.func (.func 120) #[] #[.pointer (some ⟨w.heap.size,0,none⟩)])/\w'=w.alloc (.cells #[af s] 9):=by
 go_enter func71,ntmps71
 go_wp2_with fail;refine bodyPost_ret (v:=.func (.func 120) #[] #[.pointer (some ⟨w.heap.size,0,none⟩)]) ?_ rfl ⟨rfl,rfl⟩;simp [results,results71,go_sem]
def Avf (s:au) (b:Nat) (W0:World) (hs:s.size<=4294967296) (hr:Ip W0 b 9 [af s]):Axg prog 120 #[.pointer (some ⟨b,0,none⟩)] b (Jo s) W0:=by
 intro n l J Jx hJ hJx hY h0;refine callsIn_of_wp func120 rfl trivial ?_ rfl;simp only [ntmps120,fM,aU,aY,Nat.reduceAdd,Nat.reduceSub,gy,gx,fK,gF,bY,aZ];have c0:=hr.cells
 gi_wp2
 gi_loopw [3] (fun _ wr=>∃(pre:ai) (r:au),Hid (Jo s=pre++Jo r)/\r.size<=4294967296/\Ip wr b 9 [af r]/\J pre wr) (fun _ wr=>Alp b wr)
 case atStart=>exact ⟨[],s,rfl,hs,hr,h0⟩
 case round =>
  obtain ⟨pre,r,hx,hrs,hrow,hj⟩:=hrel;have hm:=Lib.hid (Aar hrow);have hi:=fun w=>Am3 r 10 w;by_cases hz:0 < r.size
  ·by_cases hn:10∈r.data.toList
   ·obtain ⟨hl,hx1,hx2⟩:=Aq4 hn;have hbl:=Atx hn;have hlt:=Atc hn;rw [Co] at hlt;rw [(Qh 10 _).1 hn] at hi;generalize (Eh 10 r.data.toList).length=i at *;generalize bs (Eh 10 r.data.toList++[10])=x at *;generalize bs (Mt 10 r.data.toList)=rest at *;have hx3:Hid (Jo s=pre++x::Jo rest):=by have:=hx.out;rw [hl] at this;exact Lib.hid this
    replace hx1:=Lib.hid hx1;replace hx2:=Lib.hid hx2;replace hi:=Lib.hid hi;replace hY:=Lib.hid hY;have hw:=Lib.hid (show IntKind.i64.wrap ((i:Int)+1)=(i:Int)+1 from by rw [IntKind.wrap_i64];omega);have hn1:=Lib.hid (show ((i:Int)+1).toNat=i+1 from by omega);clear hx hl hn;have c1:=hrow.cells;have f1:=hrow.frozens
    gi_wp2_with (refine ⟨trivial,(fun e=>by cases e),?_⟩;refine (callsIn_wide.2 (hi.out _)).mono ?_;rintro e w' ⟨rfl,rfl⟩)
    refine wpIn_wide.2 ?_;clear c1 f1;refine E7.start (S:=(fun w'=>w'.cell? ⟨b,0,none⟩=some (af r))) (X:=(fun i=>i == 9)) FB ?_;have al:Below wr.heap.size wr wr.drew:=Eu (Below.refl _ _) 1;have hs_w1:=al.size;replace hrow:=hrow.below al;have hB:=al;generalize wr.drew=w1 at *;clear al;have hS:(fun w'=>w'.cell? ⟨b,0,none⟩=some (af r)) w1:=hrow.cells 0;refine E7.take (i:=0) (oi:=_) (v:=?_) FJ FB FB FB FB FB FQ (Or.inl ⟨FL,?_⟩) hS ?_
    rotate_left
    ·(intro wS hSw;(try dsimp only at hSw);go_simp;try with_reducible rfl)
    try simp only [Act.put,bg,bm,bq]
    refine E7.take (i:=1) (oi:=_) (v:=?_) FJ FB FB FB FB FB FQ (Or.inl ⟨FL,?_⟩) hS ?_
    rotate_left
    ·(intro wS hSw;(try dsimp only at hSw);go_simp;try with_reducible rfl)
    try simp only [Act.put,bg,bm,bq]
    refine E7.take (i:=2) (oi:=_) (v:=?_) FJ FB FB FB FB FB FQ (Or.inl ⟨FL,?_⟩) hS ?_
    rotate_left
    ·(intro wS hSw;(try dsimp only at hSw);go_simp;rw [hw.out];try with_reducible rfl)
    try simp only [Act.put,bg,bm,bq]
    refine E7.take (i:=3) (oi:=_) (v:=?_) FJ FB FB FB FB FB FQ (Or.inl ⟨FL,?_⟩) hS ?_
    rotate_left
    ·(intro wS hSw;(try dsimp only at hSw);go_simp;rw [aH EY,hx1.out];try with_reducible rfl)
    try simp only [Act.put,bg,bm,bq]
    refine E7.take (i:=4) (oi:=_) (v:=?_) FJ FB FB FB FB FB FQ (Or.inl ⟨FL,?_⟩) hS ?_
    rotate_left
    ·(intro wS hSw;(try dsimp only at hSw);go_simp;try with_reducible rfl)
    try simp only [Act.put,bg,bm,bq]
    refine E7.take (i:=5) (oi:=_) (v:=?_) FJ FB FB FB FB FB FQ (Or.inl ⟨FL,?_⟩) hS ?_
    rotate_left
    ·(intro wS hSw;(try dsimp only at hSw);go_simp;try with_reducible rfl)
    try simp only [Act.put,bg,bm,bq]
    refine E7.take (i:=6) (oi:=_) (v:=?_) FJ FB FB FB FB FB FQ (Or.inl ⟨FL,?_⟩) hS ?_
    rotate_left
    ·(intro wS hSw;(try dsimp only at hSw);go_simp;rw [hw.out];try with_reducible rfl)
    try simp only [Act.put,bg,bm,bq]
    refine E7.take (i:=7) (oi:=_) (v:=?_) FJ FB FB FB FB FB FQ (Or.inl ⟨FL,?_⟩) hS ?_
    rotate_left
    ·(intro wS hSw;(try dsimp only at hSw);go_simp;rw [aH EY,hx2.out];try with_reducible rfl)
    try simp only [Act.put,bg,bm,bq]
    refine E7.only (i:=8) (o:=_) FB FJ (fun K hK=>?_)
    try go_simp
    clear hS;have hS:(fun w'=>w'.cell? ⟨b,0,none⟩=some (af r)) w1:=hrow.cells 0;refine hK.out _ _ (fun _=>hS) ?_;clear hK K
    try simp only [Act.put,bg,bm,bq]
    refine E7.only (i:=9) (o:=_) FB FJ (fun K hK=>?_);have c_hrow:=hrow.cells;have f_hrow:=hrow.frozens
    go_simp
    clear c_hrow f_hrow;refine hK.out _ _ (fun h=>by cases h) ?_;clear hK K
    try simp only [Act.put,bg,bm,bq]
    refine E7.done FB ?_ _
    (try clear hS)
    have hrow2:Ip (w1.setCell ⟨b,0,none⟩ (af rest)) b 9 [af rest]:=hrow.set 0 (af rest);have hj2:J pre (w1.setCell ⟨b,0,none⟩ (af rest)):=hJ _ _ _ hj ((Ek.ofBelow hB).setCell FA _);clear hrow hj hB;generalize (w1.setCell ⟨b,0,none⟩ (af rest))=w9 at *;obtain ⟨fn,tmps,assign,body,hy,hR⟩:=hY.out (n - 1) pre x (Jo rest) w9 hx3.out hj2;replace hR:=Lib.hid hR
    gi_wp2
    refine ⟨(fun e=>by cases e),?_⟩;refine hR.out.mono ?_;rintro e W3 (⟨rfl,hJ3,hk3⟩|⟨rfl,hJx3⟩)
    ·have hrow3:=hrow2.Je hk3;have hm3:=Aar hrow3
     gi_wp2
     go_roundw
     case rel=>exact ⟨pre++[x],rest,by refine Lib.hid ?_;rw [hx3.out];simp,EY,hrow3,hJ3⟩
     case measure=>have:=hm.out;omega
    ·gi_wp2
     refine bodyPost_ret (results_none rfl _ _ _) rfl ?_;exact ⟨⟨_,rfl⟩,.inr ⟨pre,x,Jo rest,hx3.out,hJx3⟩⟩
   ·have hl:=Aom hz hn;rw [(Qh 10 _).2 hn] at hi;have hx3:Hid (Jo s=pre++r::[]):=by have:=hx.out;rw [hl] at this;exact Lib.hid this
    replace hi:=Lib.hid hi;have c1:=hrow.cells;have f1:=hrow.frozens;have hrow2:Ip (wr.setCell ⟨b,0,none⟩ (af ⟨#[]⟩)) b 9 [af ⟨#[]⟩]:=hrow.set 0 (af ⟨#[]⟩);have hj2:J pre (wr.setCell ⟨b,0,none⟩ (af ⟨#[]⟩)):=hJ _ _ _ hj ((Ek.refl _ _).setCell FA _);obtain ⟨fn,tmps,assign,body,hy,hR⟩:=hY (n - 1) pre r [] _ hx3.out hj2;replace hR:=Lib.hid hR;replace hrow2:=Lib.hid hrow2;clear hx hl hn hY
    gi_wp2_with (refine ⟨trivial,(fun e=>by cases e),?_⟩;refine (callsIn_wide.2 (hi.out _)).mono ?_;rintro e w' ⟨rfl,rfl⟩)
    refine ⟨(fun e=>by cases e),?_⟩;refine hR.out.mono ?_;rintro e W3 (⟨rfl,hJ3,hk3⟩|⟨rfl,hJx3⟩)
    ·have hrow3:=hrow2.out.Je hk3;have hm3:=Aar hrow3
     gi_wp2
     go_roundw
     case rel=>exact ⟨pre++[r],⟨#[]⟩,by refine Lib.hid ?_;rw [hx3.out];simp [Jo,Cy],aD _,hrow3,hJ3⟩
     case measure=>have h7:=hm.out;have h8:(⟨#[]⟩:au).size=0:=rfl;omega
    ·gi_wp2
     refine bodyPost_ret (results_none rfl _ _ _) rfl ?_;exact ⟨⟨_,rfl⟩,.inr ⟨pre,r,[],hx3.out,hJx3⟩⟩
  ·have c1:=hrow.cells;have f1:=hrow.frozens
   gi_wp2
   go_end0
   refine ⟨⟨_,rfl⟩,.inl ?_⟩;have h1:=hx.out;rw [Aq5 hz,bc] at h1;rw [h1];exact hj
def Kh (k:Int) (x:Gz):au × Bool:=(bs ((Afi k x.Ev.data.toList x.Fv.data.toList).getD []),(Afi k x.Ev.data.toList x.Fv.data.toList).isSome)
def Aff:au × Bool->World->Ending->World->Prop:=fun (r0,r1) w e w'=>e=.returned (.tuple #[af r0,.bool r1])/\Below w.heap.size w w'
def Akv {k:Int} {x:Gz} (h:(Ff 0 k 59 && Bw x.Ev x.Fv)=false):Kh k x=(bs [],false):=by
 rw [Nq] at h;unfold Kh Afi;rw [aC (by rw [h];simp)];rfl
def Arg {k:Nat} {x:Gz} (hk:k<=59) (h:Bw x.Ev x.Fv=true):Kh (k:Int) x=(bs (Kl k x.Ev.data.toList x.Fv.data.toList),true):=by
 rw [Nq] at h;unfold Kh Afi;rw [aH (by rw [h];simp [Ff];omega)];rfl
def Af9 (x0:Int) (v1:Value) (x1:Gz) (F1:aq) (FT:aq) (w:World) (h1:Su Il w v1 x1 F1) (hT:Su Acz w (.agg #[]) () FT) :
  Calls prog 73 #[aa x0,v1] w (Aff (Kh x0 x1) w):=by
 obtain ⟨_,rfl,rfl,s1,s2,rfl⟩:=h1;have hin:=fun w=>Hw x0 0 59 w;have hgd:=fun w=>Xo x1.Ev x1.Fv w s1 s2;have hB0:∀A:Obj,Below w.heap.size w (w.alloc A):=fun A=>(Below.refl _ _).alloc (aK _) _;cases hb:Ff 0 x0 59 with
 | false =>
  rw [Akv (by rw [hb];rfl)];rw [hb] at hin;clear hb
  go_enter func73,ntmps73
  go_wp2_with (first|(go_at_call 37;refine (hin _).mono ?_;rintro e w' ⟨rfl,rfl⟩));refine bodyPost_ret (v:=.tuple #[af ⟨#[]⟩,.bool false]) ?_ rfl ⟨rfl,hB0 _⟩;simp [results,results73,go_sem]
 | true =>
  have hk:0<=x0/\x0<=59:=by simpa [Ff] using hb
  cases hg:Bw x1.Ev x1.Fv with
  | false =>
   rw [Akv (by rw [hg];simp)];rw [hb] at hin;rw [hg] at hgd;clear hb hg
   go_enter func73,ntmps73
   go_wp2_with (first|(go_at_call 37;refine (hin _).mono ?_;rintro e w' ⟨rfl,rfl⟩)|(go_at_call 51;refine (hgd _).mono ?_;rintro e w1 ⟨rfl,hb1⟩));refine bodyPost_ret (v:=.tuple #[af ⟨#[]⟩,.bool false]) ?_ rfl ⟨rfl,(hB0 _).trans (hb1.mono FA)⟩;simp [results,results73,go_sem]
  | true =>
   obtain ⟨k,rfl⟩:=Int.eq_ofNat_of_zero_le hk.1;have hk9:k<=59:=EY
   rw [Arg hk9 hg];rw [hb] at hin;rw [hg] at hgd;have hl:=Lib.hid (fun w hT=>X7 k x1.Ev x1.Fv FT w hk9 (I5 (by rw [<-Nq];exact hg)) hT);clear hb hg hk;have R:=fun (w1:World) (hb1:Below (w.alloc (.cells #[af x1.Ev,af x1.Fv] 71)).heap.size (w.alloc (.cells #[af x1.Ev,af x1.Fv] 71)) w1)=>(Ip.made w 71 [af x1.Ev,af x1.Fv]).below hb1;replace R:=Lib.hid R;have hT1:=hT.below (hB0 (.cells #[af x1.Ev,af x1.Fv] 71))
   go_enter func73,ntmps73
   go_wp2_with (first|(go_at_call 37;refine (hin _).mono ?_;rintro e w' ⟨rfl,rfl⟩)|(go_at_call 51;refine (hgd _).mono ?_;rintro e w1 ⟨rfl,hb1⟩;have c_R:=(R.out _ hb1).cells)|(go_at_call 54;refine (hl.out _ (hT1.below hb1)).mono ?_;rintro e w2 ⟨rfl,hb2⟩));refine bodyPost_ret (v:=.tuple #[af (bs (Kl k x1.Ev.data.toList x1.Fv.data.toList)),.bool true]) ?_ rfl ⟨rfl,((hB0 _).trans (hb1.mono FA)).trans (hb2.mono (by have:=hb1.size;simp at this;omega))⟩;simp [results,results73,go_sem]
def Ad0 {k:Nat} {x:Bs} (h:Zo k x=true):∃y,x=y++[10]/\∀b∈y,32<=b.toNat/\b.toNat<=126:=by
 obtain ⟨c,r,_,hg,rfl⟩:=Ur.1 h;have hG:=I5 hg;refine ⟨O5 (Lk k c r),rfl,fun b hb=>?_⟩;unfold O5 at hb;simp only [aJ,aG] at hb;rcases hb with hb|rfl|hb
 ·exact (Tl hG b hb).1
 ·decide
 ·have:=Pz _ b hb;omega
def Azj {k:Nat} {z:Bs} (h:∀b∈z,b≠10):Zo k z=false:=by
 cases hk:Zo k z with
 | false=>rfl
 | true =>
  obtain ⟨y,rfl,_⟩:=Ad0 hk;exact absurd rfl (h 10 FA)
def Axi {k:Nat} {z:Bs} (h:∀b∈z,b≠10):acc k (Cy z)=[]:=by
 by_cases hz:z=[]
 ·subst hz;rfl
 ·rw [S0 hz h];simp [acc,Azj h]
def Ana {k:Nat} {x:Bs} {xs:List Bs} (h:acc k (x::xs)=x::xs):Zo k x=true/\acc (k+1) xs=xs:=by
 unfold acc at h
 split at h
 ·rename_i h1;exact ⟨h1,FI⟩
 ·cases h
def Ac4 {k:Nat} {x:Bs} (h:Zo k x=true) (r:Bs):acc k (Cy (x++r))=x::acc (k+1) (Cy r):=by
 obtain ⟨y,rfl,hy⟩:=Akn h;rw [aM,dr,T8 _ hy];simp [acc,h]
def Ar9:∀(xs:List Bs) (k m:Nat),acc k xs=xs->∃j,acc k (Cy (xs.flatten.take m))=xs.take j
 | [],k,m,_=>⟨0,by simp [Cy,acc]⟩
 | x::xs,k,m,h=>by
  obtain ⟨hx,hr⟩:=Ana h;by_cases hm:x.length<=m
  ·obtain ⟨j,hj⟩:=Ar9 xs (k+1) (m - x.length) hr;refine ⟨j+1,?_⟩;rw [bP,eJ,aV hm,Ac4 hx,hj];rfl
  ·refine ⟨0,?_⟩;rw [bP,cZ EY];obtain ⟨y,rfl,hy⟩:=Ad0 hx;rw [cZ (by simp at hm;omega)];rw [Axi fun b hb e=>by have:=hy b (bK hb);subst e;simp at this];rfl
def Aja:Bs->Bs
 | []=>[]
 | [b]=>[255 - b]
 | b::c::r=>b::Aja (c::r)
def Y0:∀(x:Bs) {r:Bs},r≠[]->Aja (x++r)=x++Aja r
 | [],_,_=>rfl
 | [b],c::r,_=>rfl
 | b::c::x,r,h=>by
  have:=Y0 (c::x) h;simp only [bY] at this ⊢;simp only [Aja,this]
def Ala (l:Bs) (b:UInt8):Aja (l++[b])=l++[255 - b]:=Y0 l (r:=[b]) FA
def Bcq {b:UInt8} (h:32<=b.toNat/\b.toNat<=126):(255 - b)≠10:=by
 have h2:(255 - b).toNat=255 - b.toNat:=by rw [UInt8.toNat_sub_of_le];rfl;exact UInt8.le_iff_toNat_le.2 (by have:=b.toNat_lt;simp;omega)
 exact R6 (by rw [h2];simp;omega)
def Bef {z:Bs} (h:∀b∈z,32<=b.toNat/\b.toNat<=126):∀b∈Aja z,b≠10:=by
 rcases List.eq_nil_or_concat z with rfl|⟨y,c,rfl⟩
 ·intro b hb;simp [Aja] at hb
 ·rw [List.concat_eq_append] at h ⊢;rw [Ala];intro b hb;rcases aJ.1 hb with hb|hb
  ·have:=h b FG;exact R6 FF
  ·simp only [aL] at hb;subst hb;exact Bcq (h c FA)
def Anc:∀(xs:List Bs) (k m:Nat),acc k xs=xs->∃j,acc k (Cy (Aja (xs.flatten.take m)))=xs.take j
 | [],k,m,_=>⟨0,by simp [Cy,acc,Aja]⟩
 | x::xs,k,m,h=>by
  obtain ⟨hx,hr⟩:=Ana h;obtain ⟨y,rfl,hy⟩:=Ad0 hx;by_cases hm:(y++[10]).length < m/\xs.flatten.take (m - (y++[10]).length)≠[]
  ·obtain ⟨j,hj⟩:=Anc xs (k+1) (m - (y++[10]).length) hr;refine ⟨j+1,?_⟩;rw [bP,eJ,aV EY,Y0 _ hm.2,Ac4 hx,hj];rfl
  ·refine ⟨0,?_⟩;have e:∃i,(List.flatten ((y++[10])::xs)).take m=(y++[10]).take i:=by
    rw [bP,eJ];by_cases h2:(y++[10]).length < m
    ·have h3:xs.flatten.take (m - (y++[10]).length)=[]:=Classical.byContradiction fun h3=>hm ⟨h2,h3⟩;exact ⟨m,by rw [h3,bc]⟩
    ·have h4:m - (y++[10]).length=0:=EY
     exact ⟨m,by rw [h4];simp⟩
   obtain ⟨i,hi⟩:=e;rw [hi];rw [Axi ?_]
   ·rfl
   by_cases h2:i<=y.length
   ·rw [cZ h2];exact Bef fun b hb=>hy b (bK hb)
   ·rw [aV FF,Ala];intro b hb;rcases aJ.1 hb with hb|hb
    ·have:=hy b hb;exact R6 FF
    ·simp only [aL] at hb;subst hb;decide
def Ta {d:Bs} (hd:(A1 d).flatten.length=d.length) (q:Bs):A1 (d++q)=A1 d++acc (A1 d).length (Cy q):=by
 have hf:=Yp hd;have h2:=Qm (xs:=A1 d) (by rw [hf];exact hf) q;rw [Vw hd] at h2;exact h2
def Axh (s:Bs):acc 0 (A1 s)=A1 s:=by
 have h:=Afr 0 (Cy s) (A1 s).length;have e:(acc 0 (Cy s)).take (A1 s).length=A1 s:=bj
 rwa [e] at h
def Aca (s:Bs):A1 (A1 s).flatten=A1 s:=by
 have h:=Qm (xs:=A1 s) (Axh s) [];simpa [Cy,acc] using h
structure Uk (d p:Bs) (n:Int):Prop where
 all:(A1 (d++p)).flatten=d++p
 dur:(A1 d).flatten=d
 cnt:n=(A1 (d++p)).length
def Y3 {d p:Bs} {n:Int} (h:E4 d p n=true):Uk d p n:=by
 unfold E4 at h;simp only [aw,aF] at h;exact ⟨Vw (by simp [h.2.1.1]),Vw h.2.1.2,h.2.2.symm⟩
def Uk.bool {d p:Bs} {n:Int} (h:Uk d p n):E4 d p n=true:=by
 unfold E4;have h1:=I8 (d++p);have h2:=congrArg List.length h.all;have h3:=congrArg List.length h.dur;rw [aA] at h2;simp only [aw,aF];exact ⟨EY,⟨h2,h3⟩,h.cnt.symm⟩
def Uk.recovered (s:Bs):Uk (A1 s).flatten [] (A1 s).length:=by
 refine ⟨?_,?_,?_⟩ <;> simp only [bc,Aca]
def Uk.append {d p x:Bs} {n:Int} (h:Uk d p n) (hx:Zo (A1 (d++p)).length x=true):Uk d (p++x) (n+1)/\A1 (d++(p++x))=A1 (d++p)++[x]:=by
 have h1:=Ta (d:=d++p) (by rw [h.all]) x;have h2:=Ac4 hx [];simp only [bc,Cy,acc] at h2;rw [h2,aM] at h1;refine ⟨⟨?_,h.dur,?_⟩,h1⟩
 ·rw [h1,cN,h.all];simp
 ·rw [h1,aA,h.cnt];simp
def Uk.sync {d p:Bs} {n:Int} (h:Uk d p n):Uk (d++p) [] n:=by
 refine ⟨?_,?_,?_⟩
 ·rw [bc];exact h.all
 ·exact h.all
 ·rw [bc];exact h.cnt
def Uk.crash {d p:Bs} {n:Int} (h:Uk d p n) (m:Nat) (t:Bool):∃j,A1 (d++(if t then Aja (p.take m) else p.take m))=A1 d++((A1 (d++p)).drop (A1 d).length).take j:=by
 have hp:=Ta (d:=d) (by rw [h.dur]) p;have hd:(A1 (d++p)).drop (A1 d).length=acc (A1 d).length (Cy p):=by rw [hp];simp
 have hf:(acc (A1 d).length (Cy p)).flatten=p:=by
  have:=h.all;rw [hp,cN,h.dur] at this;exact fZ this
 have hi:acc (A1 d).length (acc (A1 d).length (Cy p))=acc (A1 d).length (Cy p):=by
  have:=Afr (A1 d).length (Cy p) (acc (A1 d).length (Cy p)).length
  rwa [bj] at this
 rw [hd,Ta (d:=d) (by rw [h.dur])];cases t with
 | false =>
  obtain ⟨j,hj⟩:=Ar9 _ _ m hi;rw [hf] at hj;exact ⟨j,HE⟩
 | true =>
  obtain ⟨j,hj⟩:=Anc _ _ m hi;rw [hf] at hj;exact ⟨j,HE⟩
def N6 (l:Bs):Gz:=⟨bs (Afg l),bs (Afm l)⟩
def Ae5 (x:au):Gz:=N6 x.data.toList
def Av0 (x:au):Ae5 x=⟨Q1 64 (Sg 32 (Q1 35 x)),Sg 64 (Sg 32 (Q1 35 x))⟩:=by
 simp only [Ae5,N6,Q1,Sg,Jt,Afg,Afm,Aim]
def E6 (pre:ai):List Bs:=pre.map fun x=>x.data.toList
def Wu (pre:ai) (x:au):E6 (pre++[x])=E6 pre++[x.data.toList]:=by simp [E6]
def Rz (pre:ai):(E6 pre).length=pre.length:=by simp [E6]
def Rk (s:au):E6 (Jo s)=Cy s.data.toList:=by
 unfold E6 Jo;rw [eZ];have:(fun x:au=>x.data.toList) ∘ bs=id:=by funext l;simp [bs]
 rw [this,f9]
def Xq (pre:ai):ar:=(Kc 0 (E6 pre)).map Int.ofNat
def Vf (pre:ai):(Xq pre).length=pre.length+1:=by simp [Xq,Oq,Rz]
def Pq (pre:ai):Nat:=(E6 pre).flatten.length
def Aqm (pre:ai) (x:au):Xq (pre++[x])=Xq pre++[(Pq pre:Int)+(x.size:Int)]:=by
 unfold Xq Pq;rw [Wu,Agv];simp
def Agw (pre:ai):(Xq pre)[pre.length]?=some (Pq pre:Int):=by
 have h:=Wh (n:=0) (xs:=E6 pre);have hl:=Vf pre;rw [dw,Oq,Rz] at h;unfold Xq;rw [List.getElem?_map,show pre.length=pre.length+1 - 1 from rfl,h];simp [Pq]
def Aps {s:au} {pre post:ai} (h:Jo s=pre++post):Pq pre<=s.size:=by
 have h1:=congrArg (fun l=>(E6 l).flatten.length) h;simp only [Rk,Qj] at h1;rw [Co] at h1;have:E6 (pre++post)=E6 pre++E6 post:=by simp [E6]
 rw [this,cN,aA] at h1;unfold Pq;omega
def Axy {s:au} {pre post:ai} (h:Jo s=pre++post):pre.length<=s.size:=by
 have h1:=Aps h;have h2:∀xs:List Bs,(∀x∈xs,x≠[])->xs.length<=xs.flatten.length:=by
  intro xs
  induction xs with
  | nil=>simp
  | cons x xs ih =>
   intro hx;have h3:=ih fun y hy=>hx y KT;have h4:1<=x.length:=by
    have:=hx x FA;cases x with
    | nil=>exact absurd rfl this
    | cons=>simp
   simp only [aU,bP,aA];omega
 have h5:=h2 (E6 pre) fun x hx=>by
  refine Wt (l:=s.data.toList) ?_;rw [<-Rk,h];simp only [E6,bB,aJ];exact .inl hx
 rw [Rz] at h5;unfold Pq at h1;omega
def Bda {s:au} {pre post:ai} {x:au} (h:Jo s=pre++x::post):Pq pre+x.size<=s.size:=by
 have h1:Jo s=(pre++[x])++post:=by rw [h];simp
 have h2:=Aps h1;unfold Pq at h2 ⊢;rw [Wu] at h2;simp at h2 ⊢;omega
def E7.startIn {P:Program} {ops:Array Oper} {Q:Exit->Act->World->Prop} {S:World->Prop} {X:Nat->Bool} {l n id:Nat} {a:Act} {w:World} (hm:P.follows .mixedOrders=true) (hQ:∀a w,¬Q .outgrown a w) (hp:(ops.toList.all Wz)=true)
  (h:E7 P .any ops Q S X ops.size (Array.replicate ops.size false) a w.drew):(Code.region id ops true).wpIn (Fence.wide.inRound l) n P Q a w :=
 wpIn_region_any hm (Zb hQ hp _ _ _ _ (E7.any _ _ _ _ h))
def Ajn (c:UInt8) (s:au):(Q1 c s).size<=s.size:=by
 unfold Q1;rw [Ju];have:=Acr c s.data.toList;rw [Co] at this;exact this
def Ajm (c:UInt8) (s:au):(Sg c s).size<=s.size:=by
 unfold Sg;rw [Ju];rcases Po c s.data.toList with ⟨_,h2⟩|⟨_,_,h2⟩
 ·have:=congrArg List.length h2;rw [Co] at this;simp at this;omega
 ·rw [h2];simp
def Bac {w:World} {g:Nat} {t:TypeId} {cs:am} (h:Ip w g t cs):∀j u,cs[j]?=some u->w.cell? ((⟨g,0,none⟩:Addr).add j)=some u:=fun j u hu=>by
 rw [<-hu,<-h.cell j];by_cases hj:j=0
 ·subst hj;rfl
 ·simp [Addr.add,hj]
def Ajq {w:World} {t:TypeId} {pre:ai} {gb off ec:Nat} {F:aq} (h:Ow Bc t w (ab (some ⟨gb,off,none⟩) (pre.length+1) ec) (Xq pre) F):w.cell? ⟨gb,off+pre.length,none⟩=some (aa (Pq pre:Int)):=by
 obtain ⟨F',_,hs⟩:=h.read;have hl:=Vf pre;obtain ⟨b,o,e,hc⟩:=hs.int.2.2 pre.length EY;cases e;rw [hc];have:=Agw pre;rw [aE EY] at this;rw [Option.some.inj this]
def At3 {w:World} {t:TypeId} {pre:ai} {eo:aj} {ec:Nat} {F:aq} (h:Ow Bc t w (ab eo (pre.length+1) ec) (Xq pre) F):∃gb off,eo=some ⟨gb,off,none⟩:=by
 obtain ⟨F',_,hs⟩:=h.read;have hl:=Vf pre;obtain ⟨b,o,e,hc⟩:=hs.int.2.2 pre.length EY;exact ⟨b,o,e⟩
def Aan (k:Nat) (W0 W:World):Prop:=W.heap[k]?=W0.heap[k]?/\k < W.heap.size
def Aan.below {k W0 W w'} (h:Aan k W0 W) (hb:Below W.heap.size W w'):Aan k W0 w':=⟨(hb.block k h.2).trans h.1,dI h.2 hb.size⟩
def Aan.keepK {k W0 W w' F} (h:Aan k W0 W) (hk:Ek F W w') (hn:k ∉ F):Aan k W0 w':=⟨(hk.block k h.2 hn).trans h.1,dI h.2 hk.size⟩
def Aan.alloc {k W0 W} (h:Aan k W0 W) (o:Obj):Aan k W0 (W.alloc o):=h.below ((Below.refl _ _).alloc (aK _) _)
def Aan.Je {k W0 W w'} (h:Aan k W0 W) (e:w'.heap[k]?=W.heap[k]?):Aan k W0 w':=by
 refine ⟨e.trans h.1,?_⟩;rw [dz h.2] at e;exact (bJ.1 e).1
def RdI (w w1:World) (FT:aq) (pre:ai) (W:World):Prop :=
 ∃lo lc F1 eo ec F2,Ip W w.heap.size 73 [ab lo pre.length lc]/\Ip W (w.heap.size+1+1) 24 [ab eo (pre.length+1) ec] /\
  Ow Il 71 W (ab lo pre.length lc) (pre.map Ae5) F1/\F1.Nodup/\Ow Bc 3 W (ab eo (pre.length+1) ec) (Xq pre) F2/\F2.Nodup /\
  (∀b∈F1,w1.heap.size+1 < b)/\(∀b∈F2,b=w.heap.size+1\/w1.heap.size+1 < b)/\(∀b∈F1,b ∉ F2)/\Su Acz W (.agg #[]) () FT/\Below w.heap.size w W /\
  Hid (acc 0 (E6 pre)=E6 pre)
def RdI.Je {w w1:World} {FT:aq} {g4:Nat} (h4:w.heap.size+1+1 < g4) (h5:g4 < w1.heap.size) (hFT:∀b∈FT,b < w.heap.size):AbB [g4,w1.heap.size+1] (RdI w w1 FT):=by
 rintro pre W W' ⟨lo,lc,F1,eo,ec,F2,r1,r3,o1,n1,o2,n2,f1,f2,d,hT,hB,ha⟩ hk;refine ⟨lo,lc,F1,eo,ec,F2,r1.keepK hk FF,r3.keepK hk FF,o1.Je hk (fun b hb hm=>?_),n1,o2.Je hk (fun b hb hm=>?_),n2,f1,f2,d,hT.Je hk (fun b hb hm=>?_),hB.trans (hk.below hB.size (fun b hb=>?_)),ha⟩
 ·have:=f1 b hb;simp at hm;omega
 ·have:=f2 b hb;simp at hm;omega
 ·have:=hFT b hb;simp at hm;omega
 ·simp at hb;omega
def RdX (w w1:World) (FT:aq) (c:Code) (ys:ai) (W:World):Prop :=
 c=.exit 0/\∃pre x,ys=pre++[x]/\RdI w w1 FT pre W/\Zo pre.length x.data.toList=false
def Bex (s:au) (w:World) (e:Ending) (w':World):Prop :=
 ∃u0 G0 u1 G1,e=.returned (.tuple #[u0,u1])/\Ow Il 71 w' u0 ((A1 s.data.toList).map N6) G0/\G0.Nodup/\Ow Bc 3 w' u1 ((Kc 0 (A1 s.data.toList)).map Int.ofNat) G1/\G1.Nodup /\
  (∀b∈G0,w.heap.size<=b)/\(∀b∈G1,w.heap.size<=b)/\(∀b∈G0,b ∉ G1)/\Below w.heap.size w w'
def Anb {k:Nat} {xs:List Bs} {x:Bs} (h:acc k xs=xs) (hx:Zo (k+xs.length) x=true):acc k (xs++[x])=xs++[x]:=by
 rw [Wd k xs _ h];simp [acc,hx]
def Axk {k:Nat} {xs:List Bs} {x:Bs} (post:List Bs) (h:acc k xs=xs) (hx:Zo (k+xs.length) x=false):acc k (xs++x::post)=xs:=by
 rw [Wd k xs _ h];simp [acc,hx]
def Aq9 {s:au} (h:acc 0 (E6 (Jo s))=E6 (Jo s)):E6 (Jo s)=A1 s.data.toList:=by
 rw [Rk] at h ⊢;exact h.symm
def Aow {s:au} {pre post:ai} {x:au} (hs:Jo s=pre++x::post) (h:acc 0 (E6 pre)=E6 pre) (hx:Zo pre.length x.data.toList=false):E6 pre=A1 s.data.toList:=by
 unfold A1;rw [<-Rk,hs];have:E6 (pre++x::post)=E6 pre++x.data.toList::E6 post:=by simp [E6]
 rw [this,Axk _ h (by rw [Rz,cH];exact hx)]
def RdI.post {s:au} {w w1:World} {FT:aq} {pre:ai} {W:World} (h1:w.heap.size+1 < w1.heap.size) (ho:E6 pre=A1 s.data.toList)
  (h:RdI w w1 FT pre W):∃lo lc eo ec,Ip W w.heap.size 73 [ab lo pre.length lc]/\Ip W (w.heap.size+1+1) 24 [ab eo (pre.length+1) ec] /\
   ∀W',Ek [w1.heap.size] W W'->Bex s w (.returned (.tuple #[ab lo pre.length lc,ab eo (pre.length+1) ec])) W':=by
 obtain ⟨lo,lc,F1,eo,ec,F2,r1,r3,o1,n1,o2,n2,f1,f2,d,hT,hB,ha⟩:=h;refine ⟨lo,lc,eo,ec,r1,r3,fun W' hk=>⟨_,F1,_,F2,rfl,?_,n1,?_,n2,fun b hb=>by have:=f1 b hb;omega,fun b hb=>by have:=f2 b hb;omega,d,hB.trans (hk.below hB.size (fun b hb=>by simp at hb;omega))⟩⟩
 ·have e:(A1 s.data.toList).map N6=pre.map Ae5:=by rw [<-ho];simp [E6,Ae5]
  rw [e];exact o1.Je hk (fun b hb hm=>by have:=f1 b hb;simp at hm;omega)
 ·have e:(Kc 0 (A1 s.data.toList)).map Int.ofNat=Xq pre:=by rw [<-ho];rfl
  rw [e];exact o2.Je hk (fun b hb hm=>by have:=f2 b hb;simp at hm;omega)
def RdI.acc {w w1:World} {FT:aq} {pre:ai} {W:World} (h:RdI w w1 FT pre W):acc 0 (E6 pre)=E6 pre:=by
 obtain ⟨_,_,_,_,_,_,_,_,_,_,_,_,_,_,_,_,_,h⟩:=h;exact h.out
def Ai6 (s:au) (FT:aq) (w:World) (hs:s.size<=16777216) (hT:Su Acz w (.agg #[]) () FT) :
  Calls prog 38 #[af s] w (Bex s w):=by
 have hFT:=hT.lt;refine (callsIn_wide (n:=9)).1 (callsIn_of_wp_marks func38 rfl trivial ?_ rfl);simp only [ntmps38,fM,aU,aY,Nat.reduceAdd,Nat.reduceSub,gy,gx,fK,gF,bY,aZ];refine wpIn_wide.2 ?_;go_wp2_with (go_at_call 71;refine (Bb2 _ _).mono ?_;rintro e w' ⟨rfl,rfl⟩)
 have al:Below w.heap.size w ((((w.alloc (.cells #[ab none 0 0] 73)).alloc (.cells #[aa 0] 3)).alloc (.cells #[ab (some ⟨w.heap.size+1,0,none⟩) 1 1] 24)).alloc (.cells #[af s] 9)):=by
  repeat refine Below.alloc ?_ GP _
  exact Below.refl _ _
 have n_R1:Ip ((((w.alloc (.cells #[ab none 0 0] 73)).alloc (.cells #[aa 0] 3)).alloc (.cells #[ab (some ⟨w.heap.size+1,0,none⟩) 1 1] 24)).alloc (.cells #[af s] 9)) (w.heap.size) 73 [ab none 0 0]:=GM
 have n_R2:Ip ((((w.alloc (.cells #[ab none 0 0] 73)).alloc (.cells #[aa 0] 3)).alloc (.cells #[ab (some ⟨w.heap.size+1,0,none⟩) 1 1] 24)).alloc (.cells #[af s] 9)) (w.heap.size+1) 3 [aa 0]:=GM
 have n_R3:Ip ((((w.alloc (.cells #[ab none 0 0] 73)).alloc (.cells #[aa 0] 3)).alloc (.cells #[ab (some ⟨w.heap.size+1,0,none⟩) 1 1] 24)).alloc (.cells #[af s] 9)) (w.heap.size+1+1) 24 [ab (some ⟨w.heap.size+1,0,none⟩) 1 1]:=GM
 have n_R4:Ip ((((w.alloc (.cells #[ab none 0 0] 73)).alloc (.cells #[aa 0] 3)).alloc (.cells #[ab (some ⟨w.heap.size+1,0,none⟩) 1 1] 24)).alloc (.cells #[af s] 9)) (w.heap.size+1+1+1) 9 [af s]:=GM
 have hs_w1:w.heap.size+1+1+1 < ((((w.alloc (.cells #[ab none 0 0] 73)).alloc (.cells #[aa 0] 3)).alloc (.cells #[ab (some ⟨w.heap.size+1,0,none⟩) 1 1] 24)).alloc (.cells #[af s] 9)).heap.size:=GP
 replace hT:=hT.below al;have hB:=al;generalize ((((w.alloc (.cells #[ab none 0 0] 73)).alloc (.cells #[aa 0] 3)).alloc (.cells #[ab (some ⟨w.heap.size+1,0,none⟩) 1 1] 24)).alloc (.cells #[af s] 9))=w1 at *;have R1:=n_R1;clear n_R1;have R2:=n_R2;clear n_R2;have R3:=n_R3;clear n_R3;have R4:=n_R4;clear n_R4;clear al;have h0:RdI w w1 FT [] w1:=by
  refine ⟨none,0,[],some ⟨w.heap.size+1,0,none⟩,1,[w.heap.size+1],R1,R3,.inl ⟨rfl,rfl,rfl⟩,FA,?_,FA,FA,FA,FA,hT,hB,Lib.hid rfl⟩;exact .inr ⟨w.heap.size+1,1,[aa 0],[],[],rfl,by simpa using R2,by rw [Vf];simp,FE,rfl,⟨[aa 0],[],[],[],rfl,rfl,⟨rfl,rfl⟩,rfl,rfl⟩,rfl⟩
 refine (wpIn_wide (n:=9)).1 ?_
 apply Amt (b:=w.heap.size+1+1+1) (xs:=Jo s) (gf:=120) (lb:=#[.pointer (some ⟨w.heap.size+1+1+1,0,none⟩)]) rfl (enters_of func120 FB rfl) rfl EY
  (fun W0 hW0=>Avf s _ W0 EY (R4.Je hW0)) (RdI w w1 FT) (RdX w w1 FT) (RdI.Je EY EY hFT)
  (by
   rintro c ys W W' ⟨hc,pre,x,hy,hi,hk2⟩ hk;exact ⟨hc,pre,x,hy,RdI.Je EY EY hFT _ _ _ hi hk,hk2⟩) h0
 case hassign =>
  intro m x W K hK;refine Ii (fun _ _ h=>h) FB ?_;simp only [List.zip_toArray,List.foldl_toArray,List.zip_cons_cons,List.zip_nil_right,dZ,fm,bg,bm,bq];go_wp2_with fail;exact hK
 case hbody =>
  intro m pre post x W hxs hsz hI;clear R1 R2 R3 R4 hT hB h0;have hxl:=Bda hxs;have hcl:=Axy hxs;have hends:=Agw pre;have hel:=Vf pre;have hT0:=hFT;obtain ⟨lo,lc,F1,eo,ec,F2,G1,G3,o1,n1,o2,n2,f1,f2,dd,hT,hB,ha⟩:=hI;have S4:Aan (w.heap.size+1+1+1) W W:=⟨rfl,EY⟩;have S5:Aan w1.heap.size W W:=⟨rfl,EY⟩;have S6:Aan (w1.heap.size+1) W W:=⟨rfl,EY⟩;have z1:=Ajn 35 x;have z2:=Ajm 32 (Q1 35 x);have z3:=Ajn 64 (Sg 32 (Q1 35 x));have z4:=Ajm 64 (Sg 32 (Q1 35 x));have hk1:=Lib.hid (fun w=>Awy x 35 w FE)
  have hk2:=Lib.hid (fun w=>Awy (Q1 35 x) 32 w FE);have hk3:=Lib.hid (fun w=>Awy (Sg 32 (Q1 35 x)) 64 w FE);have hrec:=Av0 x;have hcm:(Q1 64 (Sg 32 (Q1 35 x))).data.toList=Afg x.data.toList:=by simp only [Q1,Sg,Jt,Afg,Aim]
  have hrp:(Sg 64 (Sg 32 (Q1 35 x))).data.toList=Afm x.data.toList:=by simp only [Q1,Sg,Jt,Afm,Aim]
  generalize Q1 35 x=y1 at *;generalize Sg 32 y1=y2 at *;generalize Q1 64 y2=cc at *;generalize Sg 64 y2=rr at *;generalize hy1f:Sg 35 x=y3 at *;generalize hy2f:Q1 32 y1=y4 at *;clear hy1f hy2f;have sc:cc.size<=maxLen:=FE
  have sr:rr.size<=maxLen:=FE
  have hE:=Lib.hid (fun w v hv hT=>Af9 (pre.length:Int) v ⟨cc,rr⟩ [] FT w hv hT);have hres:Kh (pre.length:Int) ⟨cc,rr⟩=(bs ((Afi (pre.length:Int) (Afg x.data.toList) (Afm x.data.toList)).getD []),(Afi (pre.length:Int) (Afg x.data.toList) (Afm x.data.toList)).isSome):=by unfold Kh;rw [hcm,hrp]
  replace hres:=Lib.hid hres;replace hrec:=Lib.hid hrec;replace hends:=Lib.hid hends;replace hel:=Lib.hid hel;replace hxs:=Lib.hid hxs;clear hcm hrp;refine wpIn_block ?_;refine wpIn_seq_k (fun _ _=>?_);refine Ii (fun _ _ h=>h) FB ?_;go_wp2_with fail;refine (hk1.out _).mono ?_;rintro e w21 ⟨rfl,j,hj⟩;have hb:Below W.heap.size W w21:=IB
  clear hj;have hs_w21:=hb.size;replace G1:=G1.below hb;replace G3:=G3.below hb;replace o1:=o1.below hb;replace o2:=o2.below hb;replace hT:=hT.below hb;replace S4:=S4.below hb;replace S5:=S5.below hb;replace S6:=S6.below hb;replace hB:=tr hB hb (aK _);clear hb;go_wp2_with fail;refine wpIn_seq_k (fun _ _=>?_);refine Ii (fun _ _ h=>h) FB ?_;go_wp2_with fail;refine (hk2.out _).mono ?_;rintro e w22 ⟨rfl,j,hj⟩;have hb:Below w21.heap.size w21 w22:=IB
  clear hj;have hs_w22:=hb.size;replace G1:=G1.below hb;replace G3:=G3.below hb;replace o1:=o1.below hb;replace o2:=o2.below hb;replace hT:=hT.below hb;replace S4:=S4.below hb;replace S5:=S5.below hb;replace S6:=S6.below hb;replace hB:=tr hB hb (aK _);clear hb;go_wp2_with fail;refine wpIn_seq_k (fun _ _=>?_);refine Ii (fun _ _ h=>h) FB ?_;go_wp2_with fail;refine (hk3.out _).mono ?_;rintro e w23 ⟨rfl,j,hj⟩;have hb:Below w22.heap.size w22 w23:=IB
  clear hj;have hs_w23:=hb.size;replace G1:=G1.below hb;replace G3:=G3.below hb;replace o1:=o1.below hb;replace o2:=o2.below hb;replace hT:=hT.below hb;replace S4:=S4.below hb;replace S5:=S5.below hb;replace S6:=S6.below hb;replace hB:=tr hB hb (aK _);clear hb;go_wp2_with fail;clear hk1 hk2 hk3;refine wpIn_seq_k (fun _ _=>?_);refine Ii (fun _ _ h=>h) FB ?_;go_wp2_with fail;have al:Below w23.heap.size w23 (w23.alloc (.cells #[af cc,af rr] 71)):=by
   repeat refine Below.alloc ?_ GP _
   exact Below.refl _ _
  have n_R8:=Ip.made w23 71 [af cc,af rr];have hs_w24:w23.heap.size < (w23.alloc (.cells #[af cc,af rr] 71)).heap.size:=FA
  replace G1:=G1.below al;replace G3:=G3.below al;replace o1:=o1.below al;replace o2:=o2.below al;replace hT:=hT.below al;replace S4:=S4.below al;replace S5:=S5.below al;replace S6:=S6.below al;replace hB:=tr hB al (aK _);generalize (w23.alloc (.cells #[af cc,af rr] 71))=w24 at *;have R8:=n_R8;clear n_R8;clear al;cases henc:Afi (pre.length:Int) (Afg x.data.toList) (Afm x.data.toList) with
  | none =>
   have hno:Zo pre.length x.data.toList=false:=by unfold Zo;rw [henc];rfl
   have hE2:=hE.out;rw [hres.out,henc] at hE2;replace hE2:=Lib.hid hE2;refine wpIn_seq_k (fun _ _=>?_);refine wpIn_seq_k (fun _ _=>?_);refine Ii (fun _ _ h=>h) FB ?_;have c_G1:=G1.cells;have f_G1:=G1.frozens;have c_R8:=R8.cells;have f_R8:=R8.frozens;go_wp2_with fail;clear c_G1 f_G1 c_R8 f_R8;refine (hE2.out _ _ ⟨_,rfl,rfl,sc,sr,rfl⟩ hT).mono ?_;rintro e w25 ⟨rfl,hb⟩;have hs_w25:=hb.size;clear hE hE2;replace G1:=G1.below hb;replace G3:=G3.below hb;replace R8:=R8.below hb;replace o1:=o1.below hb;replace o2:=o2.below hb;replace hT:=hT.below hb;replace S4:=S4.below hb
   replace S5:=S5.below hb;replace S6:=S6.below hb;replace hB:=tr hB hb (aK _);clear hb;go_wp2_with fail;refine wpIn_seq_k (fun _ _=>?_);refine Ii (fun _ _ h=>h) FB ?_;go_wp2_with fail;refine wpIn_cond_true rfl ?_;refine wpIn_exit ?_;refine ⟨fun k hk=>?_,rfl,pre,x,rfl,⟨lo,lc,F1,eo,ec,F2,G1,G3,o1,n1,o2,n2,f1,f2,dd,hT,hB,ha⟩,hno⟩;simp only [aG,aT,bn] at hk;rcases hk with rfl|rfl|rfl
   ·exact S4.1
   ·exact S5.1
   ·exact S6.1
  | some y =>
   by_cases hyx:y=x.data.toList
   ·have hok:Zo pre.length x.data.toList=true:=by unfold Zo;rw [henc,hyx];simp
    rw [hyx] at henc;have hE2:=hE.out;rw [hres.out,henc] at hE2;simp only [fQ,Aek,Option.isSome_some] at hE2;replace hE2:=Lib.hid hE2;refine wpIn_seq_k (fun _ _=>?_);refine wpIn_seq_k (fun _ _=>?_);refine Ii (fun _ _ h=>h) FB ?_;have c_G1:=G1.cells;have f_G1:=G1.frozens;have c_R8:=R8.cells;have f_R8:=R8.frozens;go_wp2_with fail;clear c_G1 f_G1 c_R8 f_R8;refine (hE2.out _ _ ⟨_,rfl,rfl,sc,sr,rfl⟩ hT).mono ?_;rintro e w26 ⟨rfl,hb⟩;have hs_w26:=hb.size;clear hE hE2;replace G1:=G1.below hb;replace G3:=G3.below hb;replace R8:=R8.below hb;replace o1:=o1.below hb
    replace o2:=o2.below hb;replace hT:=hT.below hb;replace S4:=S4.below hb;replace S5:=S5.below hb;replace S6:=S6.below hb;replace hB:=tr hB hb (aK _);clear hb;go_wp2_with fail;refine wpIn_seq_k (fun _ _=>?_);refine Ii (fun _ _ h=>h) FB ?_;go_wp2_with fail;refine wpIn_cond_false rfl ?_;refine wpIn_skip ?_;go_wp2_with fail;have lF1:=o1.lt;have lF2:=o2.lt;have hnd:∀b∈FT,b < w.heap.size:=hT0;clear henc hres;refine wpIn_seq_k (fun _ _=>?_);refine Ii (fun _ _ h=>h) FB ?_
    have c_G1:=G1.cells;have f_G1:=G1.frozens;have d_G1:=fun o=>(G1.alloc o).cells;have e_G1:=fun o=>(G1.alloc o).frozens;have c_R8:=R8.cells;have f_R8:=R8.frozens;have d_R8:=fun o=>(R8.alloc o).cells;have e_R8:=fun o=>(R8.alloc o).frozens
    go_wp2_with (at_builtin;refine Pw Yn EZ FL _ _ _ FL 71 (.agg #[af ⟨#[]⟩,af ⟨#[]⟩]) 32 underlying73 Ag6 rfl (ab lo pre.length lc) (pre.map Ae5) F1 FL (o1.below ((Below.refl _ _).alloc (aK _) _)) (Hd.of n1) (some ⟨w26.heap.size,0,none⟩) [⟨cc,rr⟩] 1 FL [af cc,af rr] [] (Cw.one ⟨rfl,sc,sr,rfl⟩) (.inr ⟨_,rfl,World.news_of_block (heap_alloc_new w26 _)⟩) FA (by simp;unfold maxLen;omega) FF ?_);clear c_G1 f_G1 d_G1 e_G1 c_R8 f_R8 d_R8 e_R8;intro v6 w27 F6 hA
    have o6:=hA.ow;have n6:=hA.Aza n1 FA FA;have m6:=hA.mem;have K6:=hA.Je;obtain ⟨a6,c6,hv6⟩:=hA.val;clear hA;have hv7:v6=ab a6 (pre.length+1) c6:=by simpa using hv6
    subst hv7;clear hv6;have al:=(Below.refl w26.heap.size w26).alloc (aK _) (.cells #[af cc,af rr] 71);have hs_w27:w26.heap.size+1<=w27.heap.size:=by have:=K6.size;simpa using this
    have f6:∀b∈F6,w1.heap.size+1 < b:=fun b hb=>by
     rcases m6 b hb with h7|h7|h7
     ·exact f1 b h7
     ·simp at h7
     ·simp at h7;omega
    have d6:∀b∈F6,b ∉ F2:=fun b hb hm=>by
     rcases m6 b hb with h7|h7|h7
     ·exact dd b h7 hm
     ·simp at h7
     ·have:=lF2 b hm;simp at h7;omega
    replace G1:=(G1.below al).keepK K6 (fun hm=>by have:=f1 _ hm;omega);replace G3:=(G3.below al).keepK K6 (fun hm=>by have:=f1 _ hm;omega);replace o2:=(o2.below al).Je K6 (fun b hb hm=>dd b hm hb);replace hT:=(hT.below al).Je K6 (fun b hb hm=>by have:=f1 b hm;have:=hnd b hb;omega);replace S4:=(S4.below al).keepK K6 (fun hm=>by have:=f1 _ hm;omega);replace S5:=(S5.below al).keepK K6 (fun hm=>by have:=f1 _ hm;omega);replace S6:=(S6.below al).keepK K6 (fun hm=>by have:=f1 _ hm;omega)
    replace hB:=(tr hB al (aK _)).trans (K6.below (B:=w.heap.size) (by have:=hB.size;simp;omega) (fun b hb=>by have:=f1 b hb;omega));clear K6 m6 al o1 n1 dd lF1 lF2 R8;have c_G1:=G1.cells;have f_G1:=G1.frozens;go_wp2_with fail;clear c_G1 f_G1;have K7:Ek [w.heap.size] w27 (w27.setCell ⟨w.heap.size,0,none⟩ (ab a6 (pre.length+1) c6)):=(Ek.refl _ _).setCell FA _;have G1b:Ip (w27.setCell ⟨w.heap.size,0,none⟩ (ab a6 (pre.length+1) c6)) w.heap.size 73 [(ab a6 (pre.length+1) c6)]:=G1.set 0 (ab a6 (pre.length+1) c6);replace G3:=G3.keepK K7 FF
    replace o2:=o2.Je K7 (fun b hb hm=>by have:=f2 b hb;simp at hm;omega);replace o6:=o6.Je K7 (fun b hb hm=>by have:=f6 b hb;simp at hm;omega);replace hT:=hT.Je K7 (fun b hb hm=>by have:=hnd b hb;simp at hm;omega);replace S4:=S4.keepK K7 FF;replace S5:=S5.keepK K7 FF;replace S6:=S6.keepK K7 FF;replace hB:=hB.trans (K7.below (B:=w.heap.size) (by have:=hB.size;omega) (fun b hb=>by simp at hb;omega));have hs_w28:w27.heap.size<=(w27.setCell ⟨w.heap.size,0,none⟩ (ab a6 (pre.length+1) c6)).heap.size:=K7.size;clear K7 G1
    generalize (w27.setCell ⟨w.heap.size,0,none⟩ (ab a6 (pre.length+1) c6))=w28 at *;have G1:=G1b;clear G1b;obtain ⟨gb,off,rfl⟩:=At3 o2;have hw4:=Lib.hid (show IntKind.i64.wrap (pre.length:Int)=(pre.length:Int) from by rw [IntKind.wrap_i64];omega);have hw9:=Lib.hid (show IntKind.i64.wrap ((Pq pre:Int)+(x.size:Int))=(Pq pre:Int)+(x.size:Int) from by rw [IntKind.wrap_i64];omega)
    refine E7.startIn (S:=(fun w'=>w'.cell? ⟨w.heap.size+1+1,0,none⟩=some (ab (some ⟨gb,off,none⟩) (pre.length+1) ec)/\w'.cell? ⟨gb,off+pre.length,none⟩=some (aa (Pq pre:Int)))) (X:=(fun i=>i == 11 || i == 12)) FB (fun _ _ h=>h) FB ?_;have al:Below w28.heap.size w28 w28.drew:=Eu (Below.refl _ _) 1;have hs_w29:=al.size;replace G1:=G1.below al;replace G3:=G3.below al;replace o2:=o2.below al;replace hT:=hT.below al;replace S4:=S4.below al;replace S5:=S5.below al;replace S6:=S6.below al;replace o6:=o6.below al;replace hB:=tr hB al (aK _)
    generalize w28.drew=w29 at *;clear al;have hS:(fun w'=>w'.cell? ⟨w.heap.size+1+1,0,none⟩=some (ab (some ⟨gb,off,none⟩) (pre.length+1) ec)/\w'.cell? ⟨gb,off+pre.length,none⟩=some (aa (Pq pre:Int))) w29:=⟨G3.cells 0,Ajq o2⟩;refine E7.take (i:=0) (oi:=_) (v:=?_) FJ FB FB FB FB FB FQ (Or.inl ⟨FL,?_⟩) hS ?_
    rotate_left
    ·(intro wS hSw;(try dsimp only at hSw);go_simp;try with_reducible rfl)
    try simp only [Act.put,bg,bm,bq]
    refine E7.take (i:=1) (oi:=_) (v:=?_) FJ FB FB FB FB FB FQ (Or.inl ⟨FL,?_⟩) hS ?_
    rotate_left
    ·(intro wS hSw;(try dsimp only at hSw);go_simp;try with_reducible rfl)
    try simp only [Act.put,bg,bm,bq]
    refine E7.take (i:=2) (oi:=_) (v:=?_) FJ FB FB FB FB FB FQ (Or.inl ⟨FL,?_⟩) hS ?_
    rotate_left
    ·(intro wS hSw;(try dsimp only at hSw);go_simp;try with_reducible rfl)
    try simp only [Act.put,bg,bm,bq]
    refine E7.take (i:=3) (oi:=_) (v:=?_) FJ FB FB FB FB FB FQ (Or.inl ⟨FL,?_⟩) hS ?_
    rotate_left
    ·(intro wS hSw;(try dsimp only at hSw);go_simp;try with_reducible rfl)
    try simp only [Act.put,bg,bm,bq]
    refine E7.take (i:=4) (oi:=_) (v:=?_) FJ FB FB FB FB FB FQ (Or.inl ⟨FL,?_⟩) hS ?_
    rotate_left
    ·(intro wS hSw;(try dsimp only at hSw);go_simp;rw [hw4.out];try with_reducible rfl)
    try simp only [Act.put,bg,bm,bq]
    refine E7.take (i:=5) (oi:=_) (v:=?_) FJ FB FB FB FB FB FQ (Or.inl ⟨FL,?_⟩) hS ?_
    rotate_left
    ·(intro wS hSw;(try dsimp only at hSw);go_simp;rw [aH EY];try with_reducible rfl)
    try simp only [Act.put,bg,bm,bq]
    refine E7.take (i:=6) (oi:=_) (v:=?_) FJ FB FB FB FB FB FQ (Or.inl ⟨FL,?_⟩) hS ?_
    rotate_left
    ·(intro wS hSw;(try dsimp only at hSw);go_simp;try with_reducible rfl)
    try simp only [Act.put,bg,bm,bq]
    refine E7.take (i:=7) (oi:=_) (v:=?_) FJ FB FB FB FB FB FQ (Or.inl ⟨FL,?_⟩) hS ?_
    rotate_left
    ·(intro wS hSw;(try dsimp only at hSw);go_simp;try with_reducible rfl)
    try simp only [Act.put,bg,bm,bq]
    refine E7.take (i:=8) (oi:=_) (v:=?_) FJ FB FB FB FB FB FQ (Or.inl ⟨FL,?_⟩) hS ?_
    rotate_left
    ·(intro wS hSw;(try dsimp only at hSw);go_simp;try with_reducible rfl)
    try simp only [Act.put,bg,bm,bq]
    refine E7.take (i:=9) (oi:=_) (v:=?_) FJ FB FB FB FB FB FQ (Or.inl ⟨FL,?_⟩) hS ?_
    rotate_left
    ·(intro wS hSw;(try dsimp only at hSw);go_simp;rw [hw9.out];try with_reducible rfl)
    try simp only [Act.put,bg,bm,bq]
    refine E7.only (i:=10) (o:=_) FB FJ (fun K hK=>?_)
    go_simp
    have al:Below w29.heap.size w29 (w29.alloc (.cells #[aa ((Pq pre:Int)+(x.size:Int))] 3)):=by
     repeat refine Below.alloc ?_ GP _
     exact Below.refl _ _
    have n_R9:=Ip.made w29 3 [aa ((Pq pre:Int)+(x.size:Int))];have hs_w30:w29.heap.size < (w29.alloc (.cells #[aa ((Pq pre:Int)+(x.size:Int))] 3)).heap.size:=FA
    replace G1:=G1.below al;replace G3:=G3.below al;replace o2:=o2.below al;replace hT:=hT.below al;replace S4:=S4.below al;replace S5:=S5.below al;replace S6:=S6.below al;replace o6:=o6.below al;replace hB:=tr hB al (aK _);generalize (w29.alloc (.cells #[aa ((Pq pre:Int)+(x.size:Int))] 3))=w30 at *;have R9:=n_R9;clear n_R9;clear al;clear hS;have hS:(fun w'=>w'.cell? ⟨w.heap.size+1+1,0,none⟩=some (ab (some ⟨gb,off,none⟩) (pre.length+1) ec)/\w'.cell? ⟨gb,off+pre.length,none⟩=some (aa (Pq pre:Int))) w30:=⟨G3.cells 0,Ajq o2⟩;refine hK.out _ _ (fun _=>hS) ?_;clear hK K
    try simp only [Act.put,bg,bm,bq]
    refine E7.only (i:=11) (o:=_) FB FJ (fun K hK=>?_);have lF2:=o2.lt;have lF6:=o6.lt;refine Apk C7 EZ FL _ _ _ FL 3 (aa 0) 8 underlying24 Ag7 rfl (ab (some ⟨gb,off,none⟩) (pre.length+1) ec) (Xq pre) F2 FL o2 (Hd.of n2) (some ⟨w29.heap.size,0,none⟩) [(Pq pre:Int)+(x.size:Int)] 1 FL [aa ((Pq pre:Int)+(x.size:Int))] [] (Cw.one ⟨rfl,rfl⟩) (.inr ⟨_,rfl,(Bac R9)⟩) FA (by have:=hel.out;simp;unfold maxLen;omega) (by have:=hel.out;simp;omega) ?_;intro v8 w31 F8 hA
    have o8:=hA.ow;have n8:=hA.Aza n2 FA FA;have m8:=hA.mem;have K8:=hA.Je;obtain ⟨a8,c8,hv8⟩:=hA.val;clear hA;have hv9:v8=ab a8 (pre.length+1+1) c8:=by rw [hv8,hel.out];rfl
    subst hv9;clear hv8;have hs_w31:=K8.size;have f8:∀b∈F8,b=w.heap.size+1\/w1.heap.size+1 < b:=fun b hb=>by
     rcases m8 b hb with h7|h7|h7
     ·exact f2 b h7
     ·simp at h7
     ·omega
    have d8:∀b∈F6,b ∉ F8:=fun b hb hm=>by
     rcases m8 b hm with h7|h7|h7
     ·exact d6 b hb h7
     ·simp at h7
     ·have:=lF6 b hb;omega
    replace G1:=G1.keepK K8 (fun hm=>by have:=f2 _ hm;omega);replace G3:=G3.keepK K8 (fun hm=>by have:=f2 _ hm;omega);replace o6:=o6.Je K8 (fun b hb hm=>d6 b hb hm);replace hT:=hT.Je K8 (fun b hb hm=>by have:=f2 b hm;have:=hnd b hb;omega);replace S4:=S4.keepK K8 (fun hm=>by have:=f2 _ hm;omega);replace S5:=S5.keepK K8 (fun hm=>by have:=f2 _ hm;omega);replace S6:=S6.keepK K8 (fun hm=>by have:=f2 _ hm;omega);replace hB:=hB.trans (K8.below (B:=w.heap.size) (by have:=hB.size;omega) (fun b hb=>by have:=f2 b hb;omega));clear K8 m8 lF2 lF6 R9 o2;refine hK.out _ _ (fun h=>by cases h) ?_;clear hK K
    try simp only [Act.put,bg,bm,bq]
    refine E7.only (i:=12) (o:=_) FB FJ (fun K hK=>?_);have c_G3:=G3.cells;have f_G3:=G3.frozens
    go_simp
    clear c_G3 f_G3;refine hK.out _ _ (fun h=>by cases h) ?_;clear hK K
    try simp only [Act.put,bg,bm,bq]
    refine E7.done FB ?_ _
    (try clear hS)
    have K9:Ek [w.heap.size+1+1] w31 (w31.setCell ⟨w.heap.size+1+1,0,none⟩ (ab a8 (pre.length+1+1) c8)):=(Ek.refl _ _).setCell FA _;have G3b:Ip (w31.setCell ⟨w.heap.size+1+1,0,none⟩ (ab a8 (pre.length+1+1) c8)) (w.heap.size+1+1) 24 [(ab a8 (pre.length+1+1) c8)]:=G3.set 0 (ab a8 (pre.length+1+1) c8);replace G1:=G1.keepK K9 GP;replace o6:=o6.Je K9 (fun b hb hm=>by have:=f6 b hb;simp at hm;omega);replace o8:=o8.Je K9 (fun b hb hm=>by have:=f8 b hb;simp at hm;omega);replace hT:=hT.Je K9 (fun b hb hm=>by have:=hnd b hb;simp at hm;omega)
    replace S4:=S4.keepK K9 GP;replace S5:=S5.keepK K9 GP;replace S6:=S6.keepK K9 GP;replace hB:=hB.trans (K9.below (B:=w.heap.size) (by have:=hB.size;omega) (fun b hb=>by simp at hb;omega));have hlen:(pre++[x]).length=pre.length+1:=FA
    have hmap:(pre++[x]).map Ae5=pre.map Ae5++[⟨cc,rr⟩]:=by rw [bB,<-hrec.out];rfl
    refine ⟨fun k hk=>?_,?_⟩
    ·simp only [aG,aT,bn] at hk;rcases hk with rfl|rfl|rfl
     ·exact S4.1
     ·exact S5.1
     ·exact S6.1
    ·unfold RdI;rw [hlen,hmap,Aqm,Wu];exact ⟨a6,c6,F6,a8,c8,F8,G1,G3b,o6,n6,o8,n8,f6,f8,d8,hT,hB,Lib.hid (Anb ha.out (by rw [Rz,cH];exact hok))⟩
   ·have hno:Zo pre.length x.data.toList=false:=by unfold Zo;rw [henc];simpa using hyx
    have hne:((bs y).toList == x.toList)=false:=by rw [ByteArray.toList_eq,ByteArray.toList_eq,Jt];simpa using hyx
    have hE2:=hE.out;rw [hres.out,henc] at hE2;replace hE2:=Lib.hid hE2;refine wpIn_seq_k (fun _ _=>?_);refine wpIn_seq_k (fun _ _=>?_);refine Ii (fun _ _ h=>h) FB ?_;have c_G1:=G1.cells;have f_G1:=G1.frozens;have c_R8:=R8.cells;have f_R8:=R8.frozens;go_wp2_with fail;clear c_G1 f_G1 c_R8 f_R8;refine (hE2.out _ _ ⟨_,rfl,rfl,sc,sr,rfl⟩ hT).mono ?_;rintro e w32 ⟨rfl,hb⟩;have hs_w32:=hb.size;clear hE hE2;replace G1:=G1.below hb;replace G3:=G3.below hb;replace R8:=R8.below hb;replace o1:=o1.below hb;replace o2:=o2.below hb;replace hT:=hT.below hb;replace S4:=S4.below hb
    replace S5:=S5.below hb;replace S6:=S6.below hb;replace hB:=tr hB hb (aK _);clear hb;go_wp2_with fail;refine wpIn_seq_k (fun _ _=>?_);refine Ii (fun _ _ h=>h) FB ?_;go_wp2_with fail;refine wpIn_cond_true rfl ?_;refine wpIn_exit ?_;refine ⟨fun k hk=>?_,rfl,pre,x,rfl,⟨lo,lc,F1,eo,ec,F2,G1,G3,o1,n1,o2,n2,f1,f2,dd,hT,hB,ha⟩,hno⟩;simp only [aG,aT,bn] at hk;rcases hk with rfl|rfl|rfl
    ·exact S4.1
    ·exact S5.1
    ·exact S6.1
 case hdone =>
  intro W hi hD;obtain ⟨lo,lc,eo,ec,r1,r3,hp⟩:=RdI.post (s:=s) EY (Aq9 hi.acc) hi;replace hp:=Lib.hid hp;clear R1 R2 R3 R4 hT hB h0 hi;have c1:=r1.cells;have c3:=r3.cells;go_wp2_with fail
  go_quiet (fail)
  go_wp2_with fail;refine ⟨FA,.inl ⟨_,_,rfl,run_takeDeferred (show (World.drewN W nq).heap[w1.heap.size]?=_ from hD),?_⟩⟩;refine ⟨_,?_,hp.out _ ⟨rfl,rfl,rfl,by simp [World.drewN],fun k hk hm=>World.putObj_heap_other IY⟩⟩;simp [results,results38,go_sem]
 case hstop =>
  intro c pre post x W hxs hix hD;obtain ⟨rfl,pre',x',hy,hi,hok⟩:=hix;obtain ⟨rfl,hxx⟩:=List.append_inj' hy rfl;simp only [List.cons.injEq,cO] at hxx;subst hxx;obtain ⟨lo,lc,eo,ec,r1,r3,hp⟩:=RdI.post (s:=s) EY (Aow hxs hi.acc hok) hi;replace hp:=Lib.hid hp;clear R1 R2 R3 R4 hT hB h0 hi hxs hy;refine wpIn_exit ?_;have c1:=r1.cells;have c3:=r3.cells;go_wp2_with fail
  go_quiet (fail)
  go_wp2_with fail;refine ⟨FA,.inl ⟨_,_,rfl,run_takeDeferred (show (World.drewN W nq).heap[w1.heap.size]?=_ from hD),?_⟩⟩;refine ⟨_,?_,hp.out _ ⟨rfl,rfl,rfl,by simp [World.drewN],fun k hk hm=>World.putObj_heap_other IY⟩⟩;simp [results,results38,go_sem]
def Atr (xs:List Bs):acc 60 xs=[]:=by
 cases xs with
 | nil=>rfl
 | cons x r =>
  have:Zo 60 x=false:=by
   cases h:Zo 60 x with
   | false=>rfl
   | true=>obtain ⟨c,r,hk,_⟩:=Ur.1 h;omega
  simp [acc,this]
def Akp {l rest:Bs} {pre:List Bs} (hl:l=pre.flatten++rest) (h:acc 0 pre=pre):A1 l=pre++acc pre.length (Cy rest):=by rw [hl];exact Qm h rest
def Aqo {rest:Bs} (h:rest≠[]):∃x post,Cy rest=x::post/\(10∈rest->x=Eh 10 rest++[10]/\post=Cy (Mt 10 rest))/\(10 ∉ rest->x=rest):=by
 rcases Po 10 rest with ⟨h1,h2⟩|⟨h1,h2,_⟩
 ·refine ⟨Eh 10 rest++[10],Cy (Mt 10 rest),?_,fun _=>⟨rfl,rfl⟩,fun e=>absurd h1 e⟩
  conv=>lhs;rw [h2]
  exact T8 _ Acs
 ·exact ⟨rest,[],S0 h fun c hc e=>h1 (by rw [<-e];exact hc),fun e=>absurd e h1,fun _=>rfl⟩
def Ae2 {l rest:Bs} {pre:List Bs} (hl:l=pre.flatten++rest) (h:acc 0 pre=pre) (hr:rest=[]\/pre.length=60):A1 l=pre:=by
 rw [Akp hl h];rcases hr with rfl|hr
 ·simp [Cy,acc]
 ·rw [hr,Atr];simp
def Ahp {l rest:Bs} {pre:List Bs} (hl:l=pre.flatten++rest) (h:acc 0 pre=pre) (hr:rest≠[]) (hb:10 ∉ rest\/Zo pre.length (Eh 10 rest++[10])=false):A1 l=pre:=by
 rw [Akp hl h];obtain ⟨x,post,hx,h1,h2⟩:=Aqo hr;have:Zo pre.length x=false:=by
  by_cases hm:10∈rest
  ·rw [(h1 hm).1];exact hb.resolve_left (fun e=>e hm)
  ·rw [h2 hm];exact Azj fun b hb e=>hm (by rw [<-e];exact hb)
 rw [hx];simp [acc,this]
def Aov {l rest:Bs} {pre:List Bs} (hl:l=pre.flatten++rest) (h:acc 0 pre=pre) (hm:10∈rest) (hok:Zo pre.length (Eh 10 rest++[10])=true) :
  acc 0 (pre++[Eh 10 rest++[10]])=pre++[Eh 10 rest++[10]]/\l=(pre++[Eh 10 rest++[10]]).flatten++Mt 10 rest:=by
 refine ⟨Anb h (by rw [cH];exact hok),?_⟩;rcases Po 10 rest with ⟨_,h2⟩|⟨h2,_⟩
 ·rw [hl];conv=>lhs;rw [h2]
  simp
 ·exact absurd hm h2
def Av9 (c:UInt8) (l:Bs):(Ds c l).length < 2↔c ∉ l:=by
 obtain ⟨r,hr,he⟩:=Se c l;rw [hr,<-he];cases r <;> simp
def Bgi {k:Nat} {x:Bs} (h:Zo k x=true):(N6 x).Ev.size<=maxLen/\(N6 x).Fv.size<=maxLen:=by
 obtain ⟨c,r,_,hg,e⟩:=Ur.1 h;have hG:=I5 hg;rw [e];unfold N6;rw [Abp hG,Ace hG];have:=hG.c1;have:=hG.r1;show (bs c).size<=_/\(bs r).size<=_;rw [Ju,Ju];unfold maxLen;omega
structure OpS where
 pre:List Bs
 rest:Bs
 a:aj
 c:Nat
 F:aq
structure Bi3 (l:Bs) (z:OpS):Prop where
 l:l=z.pre.flatten++z.rest
 a:acc 0 z.pre=z.pre
 p:z.pre.length<=60
def Ads (s:au) (hs:s.size<=16777216):Fn prog 55 [af s] [] [] (fun (_:aj × Nat × aq)=>True) (fun z=>.tuple #[.slice z.1 ((A1 s.data.toList).map N6).length z.2.1,aa ((A1 s.data.toList).flatten.length:Nat)]) (fun z=>[.ow Il 71 (.slice z.1 ((A1 s.data.toList).map N6).length z.2.1) ((A1 s.data.toList).map N6) z.2.2]):=by
 refine enter func55 rfl ntmps55 fun w0=>?_;refine go ?_;intros;refine C3 Il ?_;refine go ?_;intros;refine Ca [0,2,3] (fun z:OpS=>[(4,.slice z.a (z.pre.map N6).length z.c),(5,aa (z.pre.flatten.length:Nat))]) (fun z=>[.ow Il 71 (.slice z.a (z.pre.map N6).length z.c) (z.pre.map N6) z.F]) (Bi3 s.data.toList) (fun z=>z.rest.length) ⟨[],s.data.toList,_,_,_⟩ ⟨rfl,rfl,aD _⟩ fun z hz=>?_;have hsz:=congrArg List.length hz.l;rw [Co,aA] at hsz;have hp:=hz.p;have hml:(z.pre.map N6).length=z.pre.length:=bf ..
 have hend:A1 s.data.toList=z.pre->z.pre=A1 s.data.toList:=Eq.symm;refine go ?_;intros;by_cases hr:z.rest=[]
 ·have hop:=Ae2 hz.l hz.a (.inl hr);rw [show decide (((z.pre.flatten.length:Nat):Int) < (s.size:Int))=false from ay (by rw [hr,aY] at hsz;omega)];exact DD
 have hr1:0 < z.rest.length:=cT.2 hr;rw [show decide (((z.pre.flatten.length:Nat):Int) < (s.size:Int))=true from av EY];refine go ?_;intros;refine Ay rfl (fun h6=>?_) (fun h6=>?_)
 rotate_left
 ·have hop:=Ae2 hz.l hz.a (.inr EY);exact DD
 have hp9:z.pre.length<=59:=EY
 refine go ?_;intros;apply wO;apply oc;rfl;exact Xk rfl rfl EY EY;rw [show s.extract ((z.pre.flatten.length:Nat):Int).toNat s.size=bs z.rest by rw [show ((z.pre.flatten.length:Nat):Int).toNat=z.pre.flatten.length from rfl,Zh,hz.l,ej]];have hrz:(bs z.rest).size<=16777216:=by rw [Ju];omega
 refine go ?_;intros;refine cn (fun w st=>Adq (bs z.rest) 10 w hrz) fun a2 c2 F2=>?_;rw [Jt];refine Av (E:=A9) (xs:=(Ds 10 z.rest).map bs) fun F3=>?_;have hi8:=Amj 10 z.rest;refine Me (xs:=(Ds 10 z.rest).map bs) 0 ?_;rintro hi0 b0 o0 rfl q0;rw [Ami];have hus:=Acr 10 z.rest;have hus2:=Ju (Eh 10 z.rest);have hls:=Av9 10 z.rest
 obtain ⟨cc,rr,hRf,hrec⟩:∃cc rr,FV 105 [af (bs (Eh 10 z.rest)),aa ((z.pre.map N6).length:Int)] [] (.tuple #[.agg #[af cc,af rr],.bool (Zo z.pre.length (Eh 10 z.rest++[10]))])/\(Zo z.pre.length (Eh 10 z.rest++[10])=true->(⟨cc,rr⟩:Gz)=N6 (Eh 10 z.rest++[10])):=by
  have hRf:=Au8 (bs (Eh 10 z.rest)) z.pre.length hp9 EY;rw [Jt,Ao5 hp9] at hRf;rw [hml];refine ⟨_,_,hRf,fun h=>?_⟩;rw [Avz (by rw [Ao5 hp9];exact h)];rfl
 have hsl:((Ds 10 z.rest).map bs).length=(Ds 10 z.rest).length:=bf ..;refine go ?_;intros;refine Be hRf fun _ _=>?_;refine go ?_;intros;by_cases hm:10∈z.rest
 ·rw [show decide ((((Ds 10 z.rest).map bs).length:Int) < 2)=false from ay (by have:=mt hls.1 (fun h=>h hm);omega)];cases hok:Zo z.pre.length (Eh 10 z.rest++[10])
  ·have hop:=Ahp hz.l hz.a hr (.inr hok);exact DD
  obtain ⟨hg1,hg2⟩:=Aov hz.l hz.a hm hok;have hq:=Bgi hok;have hbl:=congrArg List.length hg2;rw [Co,aA] at hbl;have e9:∀x,x=N6 (Eh 10 z.rest++[10])->z.pre.map N6++[x]=(z.pre++[Eh 10 z.rest++[10]]).map N6:=fun x h=>by rw [h,bB];rfl
  have e9:=e9 ⟨cc,rr⟩ (hrec hok);rw [<-hrec hok] at hq;refine Hy ?_;intros;apply wO;refine N9 (Ai4 ⟨cc,rr⟩ hq.1 hq.2) Yn fun a9 c9 F9=>?_;rw [e9];have hfl:(z.pre++[Eh 10 z.rest++[10]]).flatten.length=z.pre.flatten.length+(Eh 10 z.rest).length+1:=FF
  refine go ?_;intros;rw [show ((z.pre.flatten.length:Nat):Int)+((bs (Eh 10 z.rest)).size:Int)+1=(((z.pre++[Eh 10 z.rest++[10]]).flatten.length:Nat):Int) by rw [hfl];omega];refine Ce ⟨z.pre++[Eh 10 z.rest++[10]],Mt 10 z.rest,a9,c9,F9⟩ ⟨hg2,hg1,by show (z.pre++[_]).length<=60;simp;omega⟩ (by show (Mt 10 z.rest).length < z.rest.length;omega)
 ·have hop:=Ahp hz.l hz.a hr (.inl hm);rw [show decide ((((Ds 10 z.rest).map bs).length:Int) < 2)=true from av (by have:=hls.2 hm;omega)];exact DD
def Uv {d p:Bs} {n:Int} (h:E4 d p n=true):0<=n/\n<=60:=by
 have h1:=(Y3 h).cnt;have h2:=(I8 (d++p)).2;omega
def Akj {k:Nat} {c r:au} (hk:k<=59) (h:Bw c r=true):(bs (Kl k c.data.toList r.data.toList)).size<=372:=by
 rw [Ju];exact Adv hk (I5 (by rw [<-Nq];exact h))
def Nu (x0:Log):(List Gz) × Bool:=if E4 x0.Bd.data.toList x0.pending.data.toList x0.count then ((A1 (x0.Bd.data.toList++x0.pending.data.toList)).map N6,true) else ([],false)
def Atm (v:Value) (xs:ar) (F:aq) (z:Int) (w:World) (h:Sl Bc w v xs F) :
  Calls prog 119 #[v,aa z] w fun e w'=>e=.returned (aa (Si (fun x=>z == x) xs))/\w=w':=by
 obtain ⟨a,cap,rfl⟩:=h.slice;obtain ⟨-,hl,hc⟩:=h.int;unfold maxLen at hl
 go_enter func119,ntmps119
 go_wp2
 go_loop [5,8] (fun _ i=>∃k:Nat,k<=xs.length/\i=aa k/\Hid (∀j,j < k->∀hj:j < xs.length,(z == xs[j])=false)) (fun _ i=>xs.length - (intOf i).toNat)
 case atStart=>exact ⟨0,aD _,rfl,fun j hj=>by omega⟩
 case round =>
  obtain ⟨k,hk,rfl,hz⟩:=hrel;by_cases hlt:k < xs.length
  ·obtain ⟨b,off,rfl,c0⟩:=hc k hlt;clear hc;cases hp:(z == xs[k])
   ·have hp2:=Lib.hid hp
    go_wp2
    exact ⟨⟨k+1,EY,HT,Lib.hid fun j hj hl=>by rcases be (cK hj) with h|h;exact hz.out j h hl;subst h;exact hp2.out⟩,GJ⟩
   ·have hp2:=Lib.hid hp
    go_wp2
    go_ret
    exact ⟨L8 (Pi hlt hz.out hp2.out).symm,rfl⟩
  ·go_wp2
   go_ret
   exact ⟨L8 (No (fun j hj=>hz.out j EY hj)).symm,rfl⟩
def Abj (v:Value) (xs:ar) (F:aq) (z:Int) (w:World) (h:Sl Bc w v xs F) :
  Calls prog 70 #[v,aa z] w fun e w'=>e=.returned (.bool (xs.any fun x=>z == x))/\w=w':=by
 go_enter func70,ntmps70
 go_wp2_with fail;refine (Atm v xs F z _ h).mono ?_;rintro e w1 ⟨rfl,rfl⟩;go_wp2_with fail
 go_ret
 exact ⟨Cs (Ty _ xs),rfl⟩
def Axn (A:List Bs) (n:Nat):(((Kc 0 A).map Int.ofNat).any fun x=>(n:Int) == x)=(Kc 0 A).contains n:=by
 generalize Kc 0 A=l
 induction l with
 | nil=>rfl
 | cons a l ih =>
  rw [cI,List.any_cons,ih,List.contains_cons]
  congr 1
  rw [cD];simp;constructor <;> intro h <;> omega
end Go.Proofs.YtmppejmafbfhlaaGreatDoor.Lg
namespace Go.Proofs.YtmppejmafbfhlaaGreatDoor
open Go.RowKit
def Atb {FT:aq} {w:World} (h:(Ga FT).P w):Su Lg.Acz w (.agg #[]) () [1]:=by
 have ht:=(Ga.env h).1;have hc:=Lib.TabIs.cell ht (g:=1) FB 0 (by rw [Lib.pow10Tab_length];omega);exact ⟨[],rfl,rfl,ht,rfl,World.block_lt_of_cell? w ⟨1,0,none⟩ hc⟩
def Bjl {p q:Pc} (h:Aeg p q):Ti [p,q]:=⟨JT,FA,trivial⟩
def U2 (s:au) (hs:s.size<=16777216) (FT:aq):Fn prog 38 [af s] [Ga FT] [] (fun (_:(aj × Nat × aq) × (aj × Nat × aq))=>True) (fun z=>.tuple #[.slice z.1.1 ((A1 s.data.toList).map Lg.N6).length z.1.2.1,.slice z.2.1 ((Kc 0 (A1 s.data.toList)).map Int.ofNat).length z.2.2.1]) (fun z=>[.ow Il 71 (.slice z.1.1 ((A1 s.data.toList).map Lg.N6).length z.1.2.1) ((A1 s.data.toList).map Lg.N6) z.1.2.2,.ow Bc 3 (.slice z.2.1 ((Kc 0 (A1 s.data.toList)).map Int.ofNat).length z.2.2.1) ((Kc 0 (A1 s.data.toList)).map Int.ofNat) z.2.2.2]):=fun w hA _=>by
 refine (Lg.Ai6 s _ w hs (Atb (hA (Ga FT) FA))).mono ?_;rintro e w' ⟨u0,G0,u1,G1,rfl,o0,n0,o1,n1,b0,b1,dj,hB⟩;obtain ⟨a,c,rfl⟩:=o0.slice;obtain ⟨b,k,rfl⟩:=o1.slice;refine ⟨((a,c,G0),(b,k,G1)),trivial,rfl,Vj ⟨n0,o0⟩ ⟨n1,o1⟩,Bjl ?_,Ek.ofBelow hB,fun p hp q hq=>?_⟩
 ·exact fun _ q hq hp=>dj q hq hp
 ·simp only [aG,aT,bn] at hp;rcases hp with rfl|rfl
  ·exact .inl (b0 q hq)
  ·exact .inl (b1 q hq)
def Wc (d p:au) (n:Int) (FT:aq) (hz:d.size+p.size<=1048576):FV 36 [.agg #[af d,af p,aa n]] [Ga FT] (.bool (E4 d.data.toList p.data.toList n)):=by
 have hsm:=I8 (d.data.toList++p.data.toList);have hvp:E4 d.data.toList p.data.toList n=(decide ((A1 (d.data.toList++p.data.toList)).flatten.length=d.size+p.size) && (Kc 0 (A1 (d.data.toList++p.data.toList))).contains d.size && decide (n=((A1 (d.data.toList++p.data.toList)).length:Int))):=by rw [<-Bbk];unfold Ar1;rw [Co,Co]
 have hR:=U2 (d++p) (by rw [aN];omega) FT;rw [Lg.Gp] at hR;have hL:=Wh (n:=0) (xs:=A1 (d.data.toList++p.data.toList));have hc:=Lg.Axn (A1 (d.data.toList++p.data.toList)) d.size;have hE:((Kc 0 (A1 (d.data.toList++p.data.toList))).map Int.ofNat).length=(A1 (d.data.toList++p.data.toList)).length+1:=by simp [Oq]
 rw [<-hc] at hvp;have hL:∀h:(A1 (d.data.toList++p.data.toList)).length < ((Kc 0 (A1 (d.data.toList++p.data.toList))).map Int.ofNat).length,((Kc 0 (A1 (d.data.toList++p.data.toList))).map Int.ofNat)[(A1 (d.data.toList++p.data.toList)).length]=((A1 (d.data.toList++p.data.toList)).flatten.length:Int):=fun h=>by
  rw [dw,Oq,dG,aE (by rw [Oq];omega)] at hL;have:=Option.some.inj hL;simp only [eK,this];simp
 have hRl:((A1 (d.data.toList++p.data.toList)).map Lg.N6).length=(A1 (d.data.toList++p.data.toList)).length:=FA
 generalize (A1 (d.data.toList++p.data.toList)).map Lg.N6=R at *;generalize (Kc 0 (A1 (d.data.toList++p.data.toList))).map Int.ofNat=E at *;generalize (A1 (d.data.toList++p.data.toList)).flatten.length=T at *;generalize (A1 (d.data.toList++p.data.toList)).length=K at *;replace hL:=hL EY;refine enter func36 rfl ntmps36 fun w0=>?_;refine go ?_;intros;refine Be hR fun z _=>?_;obtain ⟨⟨a,c,G⟩,⟨b,e,J⟩⟩:=z;dsimp only;refine Av (E:=Bc) (xs:=E) fun F8=>?_;refine Im (xs:=E) K ?_;rintro hi0 b0 o0 rfl
 repeat (first|apply Pg|(apply wO;apply oc;rfl;exact ydE)|apply V8|apply Zz|(apply Ar3;rfl;rfl)|(apply Ar2;rfl;rfl;rfl;rfl)|(apply Ar4;rfl;rfl;rfl)|(apply c_t;rfl)|(apply c_f;rfl)|apply X5|apply Un|apply Ahl)
 by_cases h1:T=d.size+p.size
 ·cases h2:E.any fun x=>(d.size:Int) == x
  ·have hQ:E4 d.data.toList p.data.toList n=false:=by rw [hvp,h2];simp
   refine Ar [0,3] [] ?_;refine C4 0 1 2 3 ?_;rw [show ((E.length:Nat):Int) - 1=((K:Nat):Int) by omega];refine C4 4 5 6 7 ?_;refine C4 8 9 10 11 ?_;refine Dh 12 13 ?_;rw [hL,show decide ((T:Int)=(d.size:Int)+(p.size:Int))=true from av EY];refine dt 14 ?_;refine Dg 15 ?_;refine Dg 16 ?_;refine Dg 17 ?_;refine Dg 18 ?_;refine d1g 19 ?_;apply On.h;refine oC ?_;refine ce (fun w st=>Lg.Abj _ _ _ _ w (st.get (p:=.sl _ _ _ _) FD).2) ?_;rw [h2];refine dk ?_;refine Dh 20 21 ?_;refine ds 22 ?_;refine ds 23 ?_;refine ds 24 ?_;refine ds 25 ?_;refine ds 26 ?_
   refine Dh 27 28 ?_;refine dd ?_;refine go ?_;refine ret () trivial ?_;rw [hQ]
   first|rfl|(rw [hRl];rfl)
  ·have hQ:E4 d.data.toList p.data.toList n=decide (n=(K:Int)):=by rw [hvp,h2,av h1];simp
   refine Ar [0,3] [] ?_;refine C4 0 1 2 3 ?_;rw [show ((E.length:Nat):Int) - 1=((K:Nat):Int) by omega];refine C4 4 5 6 7 ?_;refine C4 8 9 10 11 ?_;refine Dh 12 13 ?_;rw [hL,show decide ((T:Int)=(d.size:Int)+(p.size:Int))=true from av EY];refine dt 14 ?_;refine Dg 15 ?_;refine Dg 16 ?_;refine Dg 17 ?_;refine Dg 18 ?_;refine d1g 19 ?_;apply On.h;refine oC ?_;refine ce (fun w st=>Lg.Abj _ _ _ _ w (st.get (p:=.sl _ _ _ _) FD).2) ?_;rw [h2];refine dk ?_;refine Dh 20 21 ?_;refine Dg 22 ?_;refine Dg 23 ?_;refine Dg 24 ?_;refine Dg 25 ?_;refine Dg 26 ?_
   refine Dh 27 28 ?_;refine dd ?_;refine go ?_;refine ret () trivial ?_;rw [hQ]
   first|rfl|(rw [hRl];rfl)
 ·have hQ:E4 d.data.toList p.data.toList n=false:=by rw [hvp,ay h1];simp
  refine Ar [0,3] [] ?_;refine C4 0 1 2 3 ?_;rw [show ((E.length:Nat):Int) - 1=((K:Nat):Int) by omega];refine C4 4 5 6 7 ?_;refine C4 8 9 10 11 ?_;refine Dh 12 13 ?_;rw [hL,show decide ((T:Int)=(d.size:Int)+(p.size:Int))=false from ay EY];refine dt 14 ?_;refine ds 15 ?_;refine ds 16 ?_;refine ds 17 ?_;refine ds 18 ?_;refine ds 19 ?_;refine Dh 20 21 ?_;refine ds 22 ?_;refine ds 23 ?_;refine ds 24 ?_;refine ds 25 ?_;refine ds 26 ?_;refine Dh 27 28 ?_;refine dd ?_;refine go ?_;refine ret () trivial ?_;rw [hQ]
  first|rfl|(rw [hRl];rfl)
def T5 (d p:au) (n:Int) (hz:d.size+p.size<=1048576):FV 27 [.agg #[af d,af p,aa n]] [] (.bool (E4 d.data.toList p.data.toList n)):=by
 have hsm:=I8 (d.data.toList++p.data.toList);have hsm2:=I8 d.data.toList;have hvp:E4 d.data.toList p.data.toList n=(decide (d.size+p.size<=30000) && (decide ((A1 (d.data.toList++p.data.toList)).flatten.length=d.size+p.size) && decide ((A1 d.data.toList).flatten.length=d.size) && decide (((A1 (d.data.toList++p.data.toList)).length:Int)=n))):=by
  unfold E4;simp only [Co]
 have h1:=Lg.Ads (d++p) (by rw [aN];omega);rw [Lg.Gp] at h1;have h2:=Lg.Ads d EY;have hRl:((A1 (d.data.toList++p.data.toList)).map Lg.N6).length=(A1 (d.data.toList++p.data.toList)).length:=FA
 generalize (A1 (d.data.toList++p.data.toList)).map Lg.N6=R at *;generalize (A1 (d.data.toList++p.data.toList)).flatten.length=T at *;generalize (A1 (d.data.toList++p.data.toList)).length=K at *;generalize (A1 d.data.toList).map Lg.N6=R2 at *;generalize (A1 d.data.toList).flatten.length=T2 at *;rw [hvp];refine enter func27 rfl ntmps27 fun w0=>?_;refine go ?_;intros;refine Ay rfl (fun h3=>?_) (fun h3=>?_)
 ·refine go ?_;refine ret () trivial ?_;rw [ay EY];rfl
 rw [av (show d.size+p.size<=30000 by omega)];refine go ?_;refine Be h1 fun z _=>?_;refine go ?_;refine Be h2 fun y _=>?_;by_cases h4:T=d.size+p.size
 ·have e4:decide ((T:Int)=(d.size:Int)+(p.size:Int))=true:=av EY;rw [av h4];refine go ?_;rw [e4];by_cases h5:T2=d.size
  ·have e5:decide ((T2:Int)=(d.size:Int))=true:=av EY;rw [av h5];refine go ?_;rw [e5];refine go ?_;refine ret () trivial ?_;rw [hRl];rfl
  ·have e5:decide ((T2:Int)=(d.size:Int))=false:=ay EY;rw [ay h5];refine go ?_;rw [e5];exact AA
 ·have e4:decide ((T:Int)=(d.size:Int)+(p.size:Int))=false:=ay EY;rw [ay h4];refine go ?_;rw [e4];exact AA
def Ak1 (d p c r:au) (k:Nat) (hv:E4 d.data.toList p.data.toList k=true) (hk:k<=59) (hr:Lg.Bw c r=true) (hz:d.size+p.size<=30000) (hc1:c.size<=160) (hr1:r.size<=200):FV 23 [.agg #[af d,af p,aa (k:Int)],.agg #[af c,af r]] [] (.tuple #[.agg #[af d,af (p++Lg.bs (Kl k c.data.toList r.data.toList)),aa ((k:Int)+1)],aa 0]):=by
 have hln:=Lg.Akj hk hr;have hG:X0 c.data.toList r.data.toList:=I5 (by rw [<-Lg.Nq];exact hr);have hL:=fun w=>Lg.Au7 k c r w hk hG;generalize Lg.bs (Kl k c.data.toList r.data.toList)=ln at *;refine enter func23 rfl ntmps23 fun w0=>?_;refine go ?_;intros;refine Be (T5 d p k EY) fun _ _=>?_;rw [hv];refine go ?_;refine cb (fun w st=>Lg.To c r w FE FE) ?_;rw [hr];refine go ?_;refine Ay rfl (fun h3=>?_) (fun h3=>?_)
 ·exact absurd h3 EY
 repeat (first|apply Pg|(apply wO;apply oc;rfl;exact ydE)|apply V8|apply Zz|(apply Ar3;rfl;rfl)|(apply Ar2;rfl;rfl;rfl;rfl)|(apply Ar4;rfl;rfl;rfl)|(apply c_t;rfl)|(apply c_f;rfl)|apply X5|apply Un|apply Ahl)
 refine Ar [1,2] [8] ?_;refine C4 0 1 2 3 ?_;refine dt 4 ?_;refine dN 5 ?_;refine oC ?_;refine cb (fun w st=>hL w) ?_;refine dk ?_;refine Dh 6 7 ?_;refine dN 8 ?_;refine oS ?_;refine Nm ?_;exact CR
def Eo (x:Cj):Bool:=At x.Bh && E4 x.Gm.Bd.data.toList x.Gm.pending.data.toList x.Gm.count
def Ac2 (x:Cj) (v:Value) (F FT:aq) (hz:x.Gm.Bd.size+x.Gm.pending.size<=1048576):FV 35 [v] [.isv Ec v x F,Ga FT] (.bool (Eo x)):=by
 refine enter func35 rfl ntmps35 fun w0=>?_;refine B9 ?_;rintro a1 c1 F1 a2 c2 F2 a3 c3 F3 a4 c4 F4 a5 c5 F5 a6 c6 F6 a7 c7 F7 rfl s1 s2 l1 l2 l3 l4 l5 l6 l7;refine E8 x.Bh ?_;generalize hFN:F1++F2++F3++F4++F5++F6++F7=FN;refine go ?_;intros;refine Be (Abk x.Bh _ FN) fun _ _=>?_;unfold Eo;cases g1:At x.Bh
 ·exact AA
 refine go ?_;refine Be (Wc x.Gm.Bd x.Gm.pending x.Gm.count FT hz) fun _ _=>?_;exact AA
def Akg (x:Cj) (v:Value) (F:aq) (hz:x.Gm.Bd.size+x.Gm.pending.size<=1048576):FV 43 [v] [.isv Ec v x F] (.bool (Eo x)):=by
 refine enter func43 rfl ntmps43 fun w0=>?_;refine B9 ?_;rintro a1 c1 F1 a2 c2 F2 a3 c3 F3 a4 c4 F4 a5 c5 F5 a6 c6 F6 a7 c7 F7 rfl s1 s2 l1 l2 l3 l4 l5 l6 l7;refine E8 x.Bh ?_;generalize hFN:F1++F2++F3++F4++F5++F6++F7=FN;refine go ?_;intros;refine Be (Adp x.Bh _ FN) fun _ _=>?_;unfold Eo;cases g1:At x.Bh
 ·exact AA
 refine go ?_;refine Be (T5 x.Gm.Bd x.Gm.pending x.Gm.count hz) fun _ _=>?_;exact AA
def Aqh {u:Nat} (h:u < 10000000):Lib.decNat (Lib.decDigits u)=some u:=by
 have hb:=Agp 6 u EY;have hp:=Zd u;unfold Lib.decNat;rw [aC (by intro e;rw [List.isEmpty_iff] at e;rw [e] at hp;simp at hp),hb]
def Ab2 {v:Int} (h:v < 0):Lib.itoa v=45::Lib.decDigits v.natAbs:=by unfold Lib.itoa;rw [aH h]
def An7 {v:Int} (h:0<=v):Lib.itoa v=Lib.decDigits v.natAbs:=KL
def Ah5 {v:Int} (h0:-999999<=v) (h1:v<=999999):C5 (bz (Lib.itoa v))=(v,true):=by
 by_cases hn:v < 0
 ·have hl:=Ea 5 v.natAbs EY;have ha:Lib.atoiAll (Lib.itoa v)=.ok v:=by
   rw [Ab2 hn,Lib.atoiAll_short _ FF];have:Lib.atoi (45::Lib.decDigits v.natAbs)=some v:=by
    rw [Lib.atoi,aH FL,Aqh EY];show some (-((v.natAbs:Nat):Int))=some v
    congr 1;omega
   rw [this];rfl
  unfold C5;rw [Hn,ha];show (if Ff (-999999) v 999999 && decide (bz (Lib.itoa v)=bz (Lib.itoa v)) then (v,true) else (0,false))=(v,true);rw [av rfl,show Ff (-999999) v 999999=true by unfold Ff;rw [av h0,av h1];rfl];rfl
 ·rw [An7 EY,Arh v.natAbs EY]
  congr 1;omega
def Ao9 (s:au):C5 s=(0,false)\/∃v:Int, -999999<=v/\v<=999999/\s=bz (Lib.itoa v):=by
 unfold C5
 split
 ·rename_i v _;cases h:(Ff (-999999) v 999999 && decide (bz (Lib.itoa v)=s))
  ·exact .inl rfl
  ·unfold Ff at h;simp only [aw,aF] at h;exact .inr ⟨v,h.1.1,h.1.2,h.2.symm⟩
 ·exact .inl rfl
def unS (l:Bs):Bs:=if 1 < l.length/\l.head?=some 45 then l.drop 1 else l
def Ags (l:Bs):Nat:=l.foldl (fun a c=>10 * a+(c.toNat - 48)) 0
def Agt (l:Bs) (c:UInt8):Ags (l++[c])=10 * Ags l+(c.toNat - 48):=by unfold Ags;rw [eC];rfl
def Asf:∀(n:Nat) (l:Bs),l.length=n->(∀c∈l,48<=c.toNat/\c.toNat<=57)->Ags l < 10 ^ n
 | 0,l,h,_=>by rw [bu.1 h];decide
 | n+1,l,h,hd=>by
  have hne:l≠[]:=by intro e;rw [e] at h;simp at h
  have e:=List.dropLast_concat_getLast hne;have ih:=Asf n l.dropLast FF fun c hc=>hd c (List.dropLast_subset _ hc);have hc:=hd _ (List.getLast_mem hne);rw [<-e,Agt,ed];omega
def Bft:∀d:Nat,d < 10->(UInt8.ofNat (48+d)).toNat=48+d:=EZ
def Anq:∀(k u:Nat),u < 10 ^ (k+1)->Ags (Lib.decDigits u)=u
 | 0,u,h=>by
  have h3:u < 10:=FI
  rw [Lib.decDigits,ei h3];unfold Ags;simp only [dZ,fm];rw [Bft u h3];omega
 | k+1,u,h=>by
  by_cases h3:u < 10
  ·rw [Lib.decDigits,ei h3];unfold Ags;simp only [dZ,fm];rw [Bft u h3];omega
  ·rw [Lib.decDigits,dif_neg h3,Agt,Anq k (u / 10) (by rw [ed] at h;omega),Bft _ EY];omega
def Bbf {v:Int} (h0:-999999<=v) (h1:v<=999999):unS (Lib.itoa v)=Lib.decDigits v.natAbs/\((unS (Lib.itoa v)).length < (Lib.itoa v).length↔v < 0):=by
 have hp:=Zd v.natAbs;by_cases hn:v < 0
 ·rw [Ab2 hn];unfold unS;rw [aH ⟨FF,rfl⟩];exact ⟨rfl,by simp [hn]⟩
 ·rw [An7 EY];have:¬(1 < (Lib.decDigits v.natAbs).length/\(Lib.decDigits v.natAbs).head?=some 45):=by
   rintro ⟨-,h⟩;have:=Pz _ 45 (List.mem_of_mem_head? h);revert this;decide
  unfold unS;rw [aC this];exact ⟨rfl,FF⟩
def V0 {s:au} (h:C5 s≠(0,false)):∃v:Int, -999999<=v/\v<=999999/\s=bz (Lib.itoa v)/\1<=(unS s.data.toList).length/\(unS s.data.toList).length<=6/\(∀c∈unS s.data.toList,48<=c.toNat/\c.toNat<=57)/\Ags (unS s.data.toList)=v.natAbs/\((unS s.data.toList).length < s.size↔v < 0):=by
 rcases Ao9 s with h2|⟨v,h0,h1,rfl⟩
 ·exact absurd h2 h
 ·obtain ⟨e,e2⟩:=Bbf h0 h1;have hl:=Ea 5 v.natAbs EY;rw [Hn,Ho];refine ⟨v,h0,h1,rfl,?_,?_,?_,?_,e2⟩
  ·rw [e];exact Zd _
  ·rw [e];exact hl
  ·rw [e];exact Pz _
  ·rw [e];exact Anq 5 _ EY
structure Bjp (c:Int) (x:Hk):Prop where
 n0:0<=x.Ae
 n1:x.Ae<=65535
 f:∀f∈x.Bl,1<=f/\f<=7
 p:0 < x.Bl.length
 l:x.Bl.length<=7
 u0:c+1<=x.Cm
 u1:x.Cm<=c+6
structure Bjq (e:Bj) (k:Nat) (y:Bj):Prop where
 g:Bb y=true
 c:y.Ai=e.Ai+(k:Int)
 u:∀x∈y.Ah,x.Cm<=e.Ai+6
def Azc (n:Int) (h0:-999999<=n) (hn:n < 0):FV 46 [aa n] [] (af (bz (Lib.itoa n))):=by
 have hz:(bz (Aqg (-n))).size<=7:=by rw [Ho];exact Bck EY
 have zl:(⟨#[45]⟩:au).size=1:=rfl;refine enter func46 rfl ntmps46 fun w0=>?_;refine go ?_;refine Ay rfl (fun e0=>?_) (fun e0=>?_)
 rotate_left
 ·exact absurd hn e0
 refine go ?_;refine cb (fun w st=>Azb (-n) EY EY w) ?_;refine go ?_;rw [show (⟨#[45]⟩:au)++bz (Aqg (-n))=bz (Lib.itoa n) by
  rw [Ab2 hn];unfold Aqg;rw [show (-n).toNat=n.natAbs by omega];apply fz;simp [bz,dp]]
 exact BA
def Ww (n:Int) (h0:-999999<=n) (h1:n<=999999) (w:World):Calls prog 46 #[aa n] w (RB (af (bz (Lib.itoa n))) w):=by
 by_cases hn:n < 0
 ·exact (Azc n h0 hn).val w (fun p hp=>by cases hp)
 ·rw [Aym EY];exact Azb n EY EY w
def Bbe {s:au} (h:1 < s.size):unS s.data.toList=if s[0]=45 then (s.extract 1 s.size).data.toList else s.data.toList:=by
 have e:s.data.toList.head?=some s[0]:=by
  rw [List.head?_eq_getElem?,aE (by rw [Co];omega)];rfl
 unfold unS;rw [Co,e,Zh,Hn];by_cases h2:s[0]=45
 ·rw [aH ⟨h,by rw [h2]⟩,aH h2]
 ·rw [aC (fun hh=>h2 (Option.some.inj hh.2)),aC h2]
def Awj {s:au} (h:¬1 < s.size):unS s.data.toList=s.data.toList:=by
 unfold unS;rw [Co,aC (fun hh=>h hh.1)]
def Bbx {P:Program} {n:Nat} {fr:Fr} {H:List Pc} {ty:TypeId} {x y:Operand} {a b:Int} {t t':TypeId} (hx:ev fr x=some (.int .u8 a)) (hy:ev fr y=some (.int .u8 b)) (h0:0<=a - b) (h1:a - b<=255):Yd P n fr H (.binOp .sub t x y t') ty (.int .u8 (a - b)):=.mk fun c w d pos Cf gd hA _=>by
 simp [execOp,hA.ev hx,hA.ev hy,eqGuard_sub,binOp_sub,Op.intArith,IntWalk.u8_in _ ⟨h0,h1⟩]
structure Bi5 (t:au) (z:Nat × Nat):Prop where
 k:z.2<=t.size
 v:z.1=Ags (t.data.toList.take z.2)
 d:∀c∈t.data.toList.take z.2,48<=c.toNat/\c.toNat<=57
def Ayu (s:au) (hs:s.size<=1000000000):FV 132 [af s] [] (.tuple #[aa (C5 s).1,.bool (C5 s).2]):=by
 refine enter func132 rfl ntmps132 fun w0=>?_;apply Pg;apply Anm
 repeat (apply wO;apply oc;rfl;exact ydE)
 apply V8;apply Zz;apply Pg;apply Anm
 repeat (apply wO;apply oc;rfl;exact ydE)
 apply V8;apply Zz;apply Pg;refine Dv [0,2,3] [] (fun t:au=>[(4,af t)]) (fun _=>[]) (fun t=>t.data.toList=unS s.data.toList/\t.size<=s.size) ?_ fun t hz=>?_
 ·refine go ?_;refine Dd rfl rfl (fun h1=>?_) (fun h1=>?_)
  ·have h1:1 < s.size:=EY
   refine go ?_;refine Ay rfl (fun h2=>?_) (fun h2=>?_)
   ·have ht:(s.extract 1 s.size).data.toList=unS s.data.toList:=by rw [Bbe h1,aH (UInt8.toNat_inj.1 (by have:((s[0]).toNat:Int)=45:=h2;show (s[0]).toNat=45;omega))]
    refine Hy ?_;intros;apply wO;apply oc;rfl;exact Xk rfl rfl EY EY;rw [show s.extract (1:Int).toNat s.size=s.extract 1 s.size from rfl];refine go ?_;refine Bk (s.extract 1 s.size) ⟨ht,II⟩
   ·have ht:s.data.toList=unS s.data.toList:=by rw [Bbe h1,aC (fun e=>h2 (by show ((s[0]).toNat:Int)=45;rw [e];rfl))]
    refine go ?_;refine Bk s ⟨ht,aK _⟩
  ·refine go ?_;refine Bk s ⟨(Awj EY).symm,aK _⟩
 obtain ⟨ht,hts⟩:=hz;refine go ?_;refine ce (fun w s=>Kq _ _ _ _) ?_;cases g1:Ff 1 ((t.size:Nat):Int) 6
 ·have hr:C5 s=(0,false):=by
   rcases Classical.em (C5 s=(0,false)) with h|h
   ·exact h
   ·exfalso;obtain ⟨v,h0,h1',hsv,q1,q2,q3,q4,q5⟩:=V0 h;rw [<-ht,Co] at q1 q2;have:Ff 1 ((t.size:Nat):Int) 6=true:=by unfold Ff;rw [av EY,av EY];rfl
    rw [this] at g1;cases g1
  rw [hr];exact AA
 obtain ⟨t1,t6⟩:1<=t.size/\t.size<=6:=by unfold Ff at g1;simp only [aw,aF] at g1;omega
 refine go ?_;refine Dl [0,2,3,4] (fun z:Nat × Nat=>[(5,aa (z.1:Nat)),(6,aa (z.2:Nat))]) (Bi5 t) (fun z=>t.size - z.2) (0,0) ⟨aD _,rfl,FA⟩ fun z hz=>?_;obtain ⟨vv,k⟩:=z;obtain ⟨z1,z2,z3⟩:=hz;dsimp only at z1 z2 z3 ⊢;have hv6:vv<=999999:=by
  have:=Asf (t.data.toList.take k).length _ rfl z3;have hl:(t.data.toList.take k).length<=6:=by rw [aP,Co];omega
  have:=dR (show 0 < 10 by omega) hl;omega
 refine go ?_;refine Ay rfl (fun h1=>?_) (fun h1=>?_)
 ·have hk:k < t.size:=EY
  have hkl:k < t.data.toList.length:=by rw [Co];exact hk
  have hm:t[k]∈unS s.data.toList:=by rw [<-ht];exact aB hkl
  refine go ?_;refine Dd rfl rfl (fun h3=>?_) (fun h3=>?_)
  ·have h3:((t[k]).toNat:Int) < 48:=h3;have hr:C5 s=(0,false):=by
    rcases Classical.em (C5 s=(0,false)) with h|h
    ·exact h
    ·exfalso;obtain ⟨v,h0,h1',hsv,q1,q2,q3,q4,q5⟩:=V0 h;have:=q3 _ hm;omega
   rw [hr];exact AA
  have h3k:¬((t[k]).toNat:Int) < 48:=h3;refine go ?_;refine Ay rfl (fun h4=>?_) (fun h4=>?_)
  ·have h4:57 < ((t[k]).toNat:Int):=h4;have hr:C5 s=(0,false):=by
    rcases Classical.em (C5 s=(0,false)) with h|h
    ·exact h
    ·exfalso;obtain ⟨v,h0,h1',hsv,q1,q2,q3,q4,q5⟩:=V0 h;have:=q3 _ hm;omega
   rw [hr];exact AA
  have h4k:¬57 < ((t[k]).toNat:Int):=h4;refine go ?_;apply wO;apply oc;rfl;exact Bbx rfl rfl EY EY;apply wO;apply oc;rfl;exact Ap1 rfl EY EY;refine Hy ?_;intros;have e48:∀x:Nat,48<=x->10 * ((vv:Nat):Int)+(((x:Nat):Int) - 48)=((10 * vv+(x - 48):Nat):Int):=fun x hx=>by omega
  rw [e48]
  rotate_left
  ·show 48<=(t[k]).toNat;omega
  refine go ?_;have etk:t.data.toList.take (k+1)=t.data.toList.take k++[t[k]]:=by rw [aR hkl];rfl
  refine Ce (10 * vv+((t[k]).toNat - 48),k+1) ⟨by show k+1<=t.size;omega,by show _=Ags (t.data.toList.take (k+1));rw [etk,Agt,<-z2],by
   show ∀c∈t.data.toList.take (k+1),48<=c.toNat/\c.toNat<=57;rw [etk];intro c hc;rcases aJ.1 hc with hc|hc
   ·exact z3 c hc
   ·rw [aL] at hc;subst hc;omega⟩ (by show t.size - (k+1) < t.size - k;omega)
 ·have hks:k=t.size:=EY
  have z2:vv=Ags (unS s.data.toList):=by rw [<-ht,z2,aV (by rw [Co];omega)]
  have htz:(unS s.data.toList).length=t.size:=by rw [<-ht,Co]
  refine go ?_;refine Ay rfl (fun h5=>?_) (fun h5=>?_)
  ·refine go ?_;refine cb (fun w st=>Ww (-((vv:Nat):Int)) EY EY w) ?_;refine go ?_;by_cases h6:bz (Lib.itoa (-((vv:Nat):Int)))=s
   ·have hr:C5 s=(-((vv:Nat):Int),true):=by rw [<-h6];exact Ah5 EY EY
    rw [ay (by simpa using h6),hr];exact AA
   ·rw [av h6];have hr:C5 s=(0,false):=by
     rcases Classical.em (C5 s=(0,false)) with h|h
     ·exact h
     ·exfalso;obtain ⟨v,h0,h1',hsv,q1,q2,q3,q4,q5⟩:=V0 h;rw [htz] at q5;have hv:v=-((vv:Nat):Int):=EY
      exact h6 (by rw [<-hv];exact hsv.symm)
    rw [hr];exact AA
  ·refine go ?_;refine cb (fun w st=>Ww (((vv:Nat):Int)) EY EY w) ?_;refine go ?_;by_cases h6:bz (Lib.itoa (((vv:Nat):Int)))=s
   ·have hr:C5 s=(((vv:Nat):Int),true):=by rw [<-h6];exact Ah5 EY EY
    rw [ay (by simpa using h6),hr];exact AA
   ·rw [av h6];have hr:C5 s=(0,false):=by
     rcases Classical.em (C5 s=(0,false)) with h|h
     ·exact h
     ·exfalso;obtain ⟨v,h0,h1',hsv,q1,q2,q3,q4,q5⟩:=V0 h;rw [htz] at q5;have hv:v=((vv:Nat):Int):=EY
      exact h6 (by rw [<-hv];exact hsv.symm)
    rw [hr];exact AA
end Go.Proofs.YtmppejmafbfhlaaGreatDoor
namespace Go.Proofs.YtmppejmafbfhlaaGreatDoor

open Go.RowKit
open Go.RowKit
end Go.Proofs.YtmppejmafbfhlaaGreatDoor
namespace Go.Proofs.YtmppejmafbfhlaaGreatDoor
open Go.RowKit
def Bap {w:World} {a:aj} {n cp:Nat} {xs:ai} {F:aq} (h:(Pc.sl A9 (ab a n cp) xs F).P w) (h0:0 < xs.length):∃b o,a=some ⟨b,o,none⟩/\n=xs.length/\xs.length<=cp/\b < w.heap.size/\∀(j:Nat) x,xs[j]?=some x->w.cell? ⟨b,o+j,none⟩=some (af x):=by
 have hlt:=h.2.lt;obtain ⟨hz,a',cap,hv,hl,h|⟨b,o,F',rfl,hne,rfl,hc⟩⟩:=h
 ·rw [h.1] at h0;simp at h0
 ·simp only [Value.slice.injEq] at hv;obtain ⟨rfl,rfl,rfl⟩:=hv;refine ⟨b,o,rfl,rfl,hl.1,hlt EZ b FA,fun j x hj=>?_⟩;obtain ⟨hj1,rfl⟩:=cm.1 hj;obtain ⟨cs,F1,⟨rfl, -, -⟩,h2, -⟩:=hc.get j hj1;have:=h2 0 EZ;simpa [A9] using this
def Ayp (xs:ai) (sep:au) (a:aj) (cp:Nat) (F:aq) (w:World) (h:(Pc.sl A9 (ab a xs.length cp) xs F).P w) (h0:0 < xs.length) (hN:xs.length<=100000000000000) (hlen:(Lib.join (xs.map (·.data.toList)) sep.data.toList).length<=100000000000000) :
  Calls prog 154 #[ab a xs.length cp,af sep] w (RB (af (bz (Lib.join (xs.map (·.data.toList)) sep.data.toList))) w):=by
 obtain ⟨b,o,rfl, -,hcap,hb,hc⟩:=Bap h h0;exact Tryz.strings_Join b o cp xs sep w hc hb EY hcap EY
def Bf9 (n:Nat):madeCells (af ⟨#[]⟩).cells (n * 1)=(List.replicate n (af ⟨#[]⟩)).toArray:=by
 rw [cV];apply Array.ext
 ·simp [madeCells]
 ·intro i h1 h2;simp [madeCells,Value.cells,Nat.mod_one]
def Anz (w:World):∀n:Nat,Cw A9 w (List.replicate n (af ⟨#[]⟩)) (List.replicate n ⟨#[]⟩) []
 | 0=>⟨rfl,rfl⟩
 | n+1=>⟨[.string ⟨#[]⟩],List.replicate n (Value.string ⟨#[]⟩),[],[],by simp [cU],FA,⟨rfl,aD _,rfl⟩,Anz w n⟩
def itB (f:Int):au:=bz (Lib.itoa f)
def zsJ (l:ar) (k:Nat):ai:=(l.take k).map itB++List.replicate (l.length - k) ⟨#[]⟩
def Bet {l:ar} {k:Nat} (h:k<=l.length):(zsJ l k).length=l.length:=by unfold zsJ;simp;omega
def Beu {l:ar} {k:Nat} (h:k < l.length):(zsJ l k).set k (itB l[k])=zsJ l (k+1):=by
 unfold zsJ;have e:List.replicate (l.length - k) (⟨#[]⟩:au)=⟨#[]⟩::List.replicate (l.length - (k+1)) ⟨#[]⟩:=by rw [show l.length - k=(l.length - (k+1))+1 by omega,cU]
 have hl:((l.take k).map itB).length=k:=by rw [bf,aP];omega
 rw [e,eO _ _ EY,hl,Nat.sub_self,bm,aR h,bB];simp only [cI,di,aM,bY,aZ]
def Ag8 (l:ar):(l.map itB).map (·.data.toList)=l.map Lib.itoa:=by
 rw [eZ];exact dX fun x _=>by simp [itB,Hn]
def Bcz (l:ar) (g:Nat) (F:aq) (w:World) (hf:∀f∈l,0<=f/\f.natAbs < 10 ^ (4+1)) (h0:0 < l.length) (h7:l.length<=1000) (h:(Pc.sl A9 (ab (some ⟨g,0,none⟩) l.length l.length) (l.map itB) F).P w) :
  Calls prog 154 #[ab (some ⟨g,0,none⟩) l.length l.length,af ⟨#[32]⟩] w (RB (af (bz (jn l))) w):=by
 have hml:(l.map itB).length=l.length:=bf ..;have hd:(⟨#[32]⟩:au).data.toList=[32]:=rfl;have hj:=Bf5 (k:=4) hf;have:=Ayp (l.map itB) ⟨#[32]⟩ (some ⟨g,0,none⟩) l.length F w (by rw [hml];exact h) EY EY (by rw [hd,Ag8];unfold jn at hj;omega);rw [hml,hd,Ag8] at this;exact this
def Bc0 (l:ar) (a:aj) (c:Nat) (F FT:aq) (hf:∀f∈l,0<=f/\f.natAbs < 10 ^ (4+1)) (h0:0 < l.length) (h7:l.length<=1000):FV 228 [ab a l.length c,af ⟨#[32]⟩] [.sl Bc (ab a l.length c) l F,Ga FT] (af (bz (jn l))):=by
 refine enter func228 rfl ntmps228 fun w0=>?_;refine go ?_;apply wO;refine Aho l.length (cs:=List.replicate l.length (af ⟨#[]⟩)) rfl rfl rfl (Bf9 _) EY EY fun g=>?_;refine Dy (E:=A9) (xs:=List.replicate l.length ⟨#[]⟩) (fun w=>Anz w _) ?_ HB;rw [bi,show List.replicate l.length (⟨#[]⟩:au)=zsJ l 0 by unfold zsJ;simp];refine go ?_
 refine Ca [1,4,5,11,12] (fun k:Nat=>[(13,aa (k:Nat))]) (fun k=>[.ow A9 9 (ab (some ⟨g,0,none⟩) l.length l.length) (zsJ l k) [g]]) (fun k=>k<=l.length) (fun k=>l.length - k) 0 (aD _) fun k hk=>?_;have hzl:=Bet hk;refine go ?_;refine Ay rfl (fun h1=>?_) (fun h1=>?_)
 ·have hk1:k < l.length:=EY
  have hfk:=hf _ (aB hk1);refine Im (xs:=l) k ?_;rintro hi b o e1;rw [e1];refine go ?_;refine cb (fun w st=>Aaz l[k] EY EY FT w (st.get (p:=Ga FT) FA)) ?_;refine Q4 (m:=1) Ie k ?_ FC rfl EY;rintro _ g2 A cs B e2 - hr hH;cases e2;obtain ⟨rfl, -⟩:=hr w0;refine go ?_;refine P8 (itB l[k]) hH (fun w=>⟨rfl,by rw [itB,Ho,Ps hfk.1];have:=Ea 4 l[k].natAbs hfk.2;unfold maxLen;omega,rfl⟩) ?_;rw [Beu hk1];refine go ?_;refine Ce (k+1) hk1 EY
 ·have hk1:k=l.length:=EY
  subst hk1;rw [show zsJ l l.length=l.map itB by unfold zsJ;simp];have hml:(l.map itB).length=l.length:=bf ..;refine Av (E:=A9) (xs:=l.map itB) fun F8=>?_;refine go ?_;refine cb (fun w st=>Bcz l g F8 w hf h0 h7 (st.get (p:=.sl _ _ _ _) FA)) ?_;exact AA
structure RtS where
 k:Nat
 a:aj
 c:Nat
 F:aq
end Go.Proofs.YtmppejmafbfhlaaGreatDoor
namespace Go.Proofs.YtmppejmafbfhlaaGreatDoor

open Go.RowKit
end Go.Proofs.YtmppejmafbfhlaaGreatDoor
namespace Go.Proofs.YtmppejmafbfhlaaGreatDoor
open Go.RowKit
def R7 (ts:ai):Bool:=ts.all fun t=>(C5 t).2
def Kj (ts:ai):ar:=ts.map fun t=>(C5 t).1
def Sn (ts:ai):ar × Bool:=if R7 ts then (Kj ts,true) else ([],false)
def Azk {ts:ai} {k:Nat} (h:k < ts.length) (hp:(C5 ts[k]).2=false):R7 ts=false:=by
 unfold R7;rw [cS];exact ⟨ts[k],aB h,HK⟩
def Aq7 {ts:ai} {k:Nat} (h:k < ts.length) (hp:(C5 ts[k]).2=true) (ha:R7 (ts.take k)=true):R7 (ts.take (k+1))=true:=by
 unfold R7 at *;rw [aR h,dY,ha];simp [hp]
def Apw {ts:ai} {k:Nat} (h:k < ts.length):Kj (ts.take (k+1))=Kj (ts.take k)++[(C5 ts[k]).1]:=by
 unfold Kj;rw [aR h,bB];rfl
structure PeZ where
 k:Nat
 a:aj
 c:Nat
 F:aq
def Aoy (ts:ai) (a:aj) (c:Nat) (F FT:aq) (hs:∀t∈ts,t.size<=1000000000) (hl:ts.length<=1000):Fn prog 101 [ab a ts.length c] [.sl A9 (ab a ts.length c) ts F,Ga FT] [] (fun (_:PeZ)=>True) (fun z=>.tuple #[.slice z.a (Sn ts).1.length z.c,.bool (Sn ts).2]) (fun z=>[.ow Bc 3 (.slice z.a (Sn ts).1.length z.c) (Sn ts).1 z.F]):=by
 refine enter func101 rfl ntmps101 fun w0=>?_;refine go ?_;refine Bt Bc 3 ?_;refine Ca [2,3,9,10] (fun z:PeZ=>[(4,.slice z.a (Kj (ts.take z.k)).length z.c),(11,aa (z.k:Nat))]) (fun z=>[.ow Bc 3 (.slice z.a (Kj (ts.take z.k)).length z.c) (Kj (ts.take z.k)) z.F]) (fun z=>z.k<=ts.length/\R7 (ts.take z.k)=true) (fun z=>ts.length - z.k) ⟨0,none,0,[]⟩ ⟨aD _,rfl⟩ fun z hz=>?_;obtain ⟨z2,z3⟩:=hz;have hvl:(Kj (ts.take z.k)).length=z.k:=by unfold Kj;rw [bf,aP];omega
 refine go ?_;refine Ay rfl (fun h1=>?_) (fun h1=>?_)
 ·have hk:z.k < ts.length:=EY
  have hx:=hs _ (aB hk);refine Me (a:=a) (xs:=ts) z.k ?_;rintro hi b o e s1;rw [e];refine go ?_;refine cb (fun w st=>(Agd ts[z.k] FT hx).val w (I6 (st.get (p:=Ga FT) FA))) ?_;cases g:(C5 ts[z.k]).2
  ·rw [show Sn ts=([],false) by unfold Sn;rw [Azk hk g];rfl];refine Bt Bc 3 ?_;refine go ?_;refine ret ⟨0,none,0,[]⟩ trivial rfl
  refine Hy ?_;intros;apply wO;refine N9 (O3 (C5 ts[z.k]).1) C7 fun a9 c9 F9=>?_;refine go ?_;rw [<-Apw hk];refine Ce ⟨z.k+1,a9,c9,F9⟩ ⟨by show z.k+1<=ts.length;omega,Aq7 hk g z3⟩ (by show ts.length - (z.k+1) < ts.length - z.k;omega)
 ·have hk:ts.take z.k=ts:=aV EY;rw [hk] at z3 hvl ⊢;rw [show Sn ts=(Kj ts,true) by unfold Sn;rw [z3];rfl];exact CB
def Awn (t:Bs):(Ds 32 t).length<=t.length+1/\∀u∈Ds 32 t,u.length<=t.length:=by
 have hcb:=Lib.countB_le ⟨#[32]⟩ EZ (bz t).size (bz t) (aK _);have hlen:=Lib.splitB_all ⟨#[32]⟩ EZ 0 _ (bz t) rfl;rw [Yx,Hn,bf] at hlen;rw [Ho] at hcb;refine ⟨EY,fun u hu=>?_⟩;have h:bz u∈(Ds 32 t).map bz:=bL.2 ⟨u,hu,rfl⟩;have e:=Yx 32 (bz t);rw [Hn] at e;rw [<-e] at h;have:=Tf ⟨#[32]⟩ (bz t).size _ (bz t) (aK _) (bz u) h;rw [Ho,Ho] at this;exact this
def Fb (x:A8):ar × Bool:=if Bw x then (x.An.map (·.Ae),true) else ([],false)
def Acw (x:A8) (v:Value) (F:aq):Fn prog 159 [v] [.isv Cb v x F] [] (fun (_:OwR)=>True) (fun s=>.tuple #[.slice s.a (Fb x).1.length s.c,.bool (Fb x).2]) (fun s=>[.ow Bc 3 (.slice s.a (Fb x).1.length s.c) (Fb x).1 s.F]):=by
 refine enter func159 rfl ntmps159 fun w0=>?_;refine Fm (v:=v) (x:=x) (F:=F) ?_;rintro a1 c1 F1 a2 c2 F2 rfl l1 l2;unfold maxLen at l1 l2;refine Bt Bc 3 ?_;refine go ?_;intros;refine Be (Uj x _ F) fun _ _=>?_;cases g1:Bw x
 ·rw [show Fb x=([],false) by unfold Fb;rw [g1];rfl];exact BC
 have g5:=El.1 g1;have hq8:=(Dj.1 g5.q).2.1;rw [show Fb x=(x.An.map (·.Ae),true) by unfold Fb;rw [g1];rfl];refine go ?_;refine Ca [2,3,11,12] (fun s:AwS=>[(13,aa (s.i:Nat)),(4,.slice s.a ((x.An.take s.i).map (·.Ae)).length s.c)]) (fun s=>[.ow Bc 3 (.slice s.a ((x.An.take s.i).map (·.Ae)).length s.c) ((x.An.take s.i).map (·.Ae)) s.F]) (fun s=>s.i<=x.An.length) (fun s=>x.An.length - s.i) ⟨0,none,0,[]⟩ (aD _) fun s hs=>?_;obtain ⟨i,a3,c3,F3⟩:=s;dsimp only at hs ⊢;have hl3:((x.An.take i).map (·.Ae)).length<=i:=FF
 refine go ?_;refine Ay rfl (fun h4=>?_) (fun h4=>?_)
 ·have hi:i < x.An.length:=EY
  have eo:(x.An.take (i+1)).map (·.Ae)=(x.An.take i).map (·.Ae)++[x.An[i].Ae]:=by rw [cy,aE hi,bB];rfl
  exact CA
 have hi:i=x.An.length:=EY
 subst hi;rw [bj];exact BC
def Bh8:Bs:=[110,111,110,101]
def jnW (sep:Bs) (l:ai):au:=if l=[] then bz Bh8 else bz (Lib.join (l.map fun e=>e.data.toList) sep)
def X8 (E:ai):au:=jnW [44,32] E
def Vt (l:ar):au:=if l=[] then bz Bh8 else bz (jn l)
def Ait:Bs:=[115,101,110,100]
def Alb:Bs:=[116,105,99,107]
def Apx:Bs:=[100,111,119,110]
def wUp:Bs:=[117,112]
def Apy:Bs:=[108,111,115,101]
def Bbn:Bs:=[99,117,116]
def Xh:Bs:=[100,114,97,105,110]
def Acu:Bs:=[108,101,97,100]
def Xi:Bs:=[113,117,101,117,101,100]
def Y5:Bs:=[115,101,116,116,108,101,100]
def Bek:Bs:=[121,101,115]
def wNo:Bs:=[110,111]
def wOk:Bs:=[111,107]
def Ais:Bs:=[97,119,97,105,116]
def Aiu:Bs:=[115,108,111,116,115]
def Ny:Bs:=[102,97,99,101,115]
def Bej:Bs:=[98,97,100]
def Ate:Bs:=[102,117,108,108]
def Bbo:Bs:=[108,111,110,103]
def Qw (w:Bs):Int:=if w=Apx then 2 else if w=wUp then 5 else if w=Apy then 3 else if w=Bbn then 6 else 0
def Jf (W:List Bs):Option Js :=
 if atW W 0=Ait/\W.length=1 then some ⟨1,0,⟨#[]⟩⟩
 else if atW W 0=Ait/\W.length=2/\atW W 1≠[] then some ⟨1,0,bz (atW W 1)⟩
 else if atW W 0=Alb/\W.length=1 then some ⟨4,0,⟨#[]⟩⟩
 else if W.length≠2 then none
 else if Qw (atW W 0)≠0/\(C5 (bz (atW W 1))).2=true then some ⟨Qw (atW W 0),(C5 (bz (atW W 1))).1,⟨#[]⟩⟩ else none
abbrev NR:=Dx × au
def Km (n:Dx) (s:Js):Option NR:=if Dq s then (Bo n s).map fun y=>(y.1,if s.Ct=2\/s.Ct=4 then X8 y.2 else bz wOk) else none
def Le (n:Dx) (l:Bs):Option au :=
 if l=Acu then some (bz (Lib.itoa (Lw n.Ab.Aa)))
 else if l=Xi then some (bz (Lib.itoa ((qd n.down:Nat):Int))++⟨#[32]⟩++bz (Lib.itoa ((qd n.up:Nat):Int)))
 else if l=Y5 then some (if Z5 n then bz Bek else bz wNo)
 else none
def T7 (n:Dx) (i:Int):Bool:=Et n.Ap.Ad i
def Ke (n:Dx) (w:Bs) (l:ar):Option au :=
 if Ff 1 (l.getD 0 0) ((n.Ap.Ad.length:Int) - 1) then
  if w=Ais/\l.length=1/\T7 n (l.getD 0 0)=true then some (Vt ((Qt n (l.getD 0 0).toNat).An.map (·.Ae)))
  else if w=Aiu/\l.length=1/\T7 n (l.getD 0 0)=true/\(Qt n (l.getD 0 0).toNat).Bg=true then some (Aaf (Qt n (l.getD 0 0).toNat).Aa)
  else if w=Ny/\l.length=2/\T7 n (l.getD 0 0)=false then (if Cd (l.getD 1 0) then some (Vt (Lo (Qf n (l.getD 0 0).toNat) (l.getD 1 0))) else none)
  else none
 else none
def Qs (n:Dx) (r:Option au):Option NR:=r.map fun t=>(n,t)
def Gh (line:au):List Bs:=Ds 32 line.data.toList
def Pm (n:Dx) (line:au):Option NR :=
 match Jf (Gh line) with
 | some s=>Km n s
 | none =>
  if line.data.toList=Xh then some ((Q2 n).1,X8 (Q2 n).2)
  else if (Gh line).length=1 then Qs n (Le n line.data.toList)
  else if R7 (((Gh line).drop 1).map bz) then Qs n (Ke n (atW (Gh line) 0) (Kj (((Gh line).drop 1).map bz)))
  else none
def Qo (n:Dx) (line:au):au:=match Pm n line with|some r=>r.2|none=>⟨#[63]⟩
def Hz (n:Dx) (line:au):Dx:=match Pm n line with|some r=>r.1|none=>n
def Sh (t:au):au:=if 200 < t.size then bz Bbo else t
def Pu (line:au):Bool:=Lg.Bw line ⟨#[]⟩
def Sp (l:Log) (line Fv:au):Log:=⟨l.Bd,l.pending++bz (Kl l.count.toNat line.data.toList Fv.data.toList),l.count+1⟩
def Mg (c:Cj) (line:au):Cj × au :=
 if Pu line then
  if c.Gm.count=60 then (c,bz Ate) else (⟨Hz c.Bh line,Sp c.Gm line (Sh (Qo c.Bh line))⟩,Sh (Qo c.Bh line))
 else (c,bz Bej)
def Ia (c:Cj) (line:au):Cj × au:=if Eo c then Mg c line else (c,bz wNo)
/-! what a command replies can stand in a log; the console stays valid -/
def Yk {l:Bs} (h:Zy l):Zy (bz l).data.toList:=by rw [Hn];exact h
def Zm {l:Bs} (h:∀b∈l,97<=b.toNat/\b.toNat<=122):Zy l:=fun b hb=>by
 have:=h b hb;exact CI
def Ayo {sep:Bs} (hs:Zy sep):∀{l:List Bs},(∀x∈l,Zy x)->Zy (Lib.join l sep)
 | [],_=>fun b hb=>by simp [Lib.join] at hb
 | x::r,h=>by
  rw [Lib.join_cons];refine (h x FA).app ?_;unfold Lib.joinTail;intro b hb;obtain ⟨y,hy,hb⟩:=List.mem_flatten.1 hb;obtain ⟨z,hz,rfl⟩:=bL.1 hy;exact hs.app (h z JB) b hb
def Bh2 {sep:Bs} (hs:Zy sep) {l:ai} (h:∀x∈l,Zy x.data.toList):Zy (jnW sep l).data.toList:=by
 unfold jnW
 split
 ·exact Yk (Zm EZ)
 ·exact Yk (Ayo hs fun x hx=>by obtain ⟨y,hy,rfl⟩:=bL.1 hx;exact h y hy)
def Asg {E:ai} (h:∀e∈E,evN e):Zy (X8 E).data.toList:=Bh2 (fun b hb=>by
 rcases aG.1 hb with rfl|hb
 ·decide
 ·rw [aL.1 hb];decide) fun x hx=>(Zf (h x hx)).1
def Aly {n:Int} (h:0<=n):Zy (Lib.itoa n):=fun b hb=>by
 rw [Ps h] at hb;have:=Pz n.natAbs b hb;exact CI
def Bjg {l:ar} (h:∀x∈l,0<=x):Zy (jn l):=Ayo (fun b hb=>by rw [aL.1 hb];decide) fun x hx=>by
 obtain ⟨y,hy,rfl⟩:=bL.1 hx;exact Aly (h y hy)
def Ass {l:ar} (h:∀x∈l,0<=x):Zy (Vt l).data.toList:=by
 unfold Vt
 split
 ·exact Yk (Zm EZ)
 ·exact Yk (Bjg h)
def Aq8 {s:Ig} (h:Hq s=true):∀c∈s.Dk.data.toList,97<=c.toNat/\c.toNat<=122:=by
 unfold Hq P9 U0 at h;simp only [aw,bX,aF,aW] at h;intro c hc;have h2:=h.1.2 c hc;unfold low Ff at h2;simp only [aw,aF] at h2;omega
def Bd6 {w:Aj} (h:Cz w=true):Zy (Aaf w).data.toList:=by
 have hok:∀s∈w.Ao,Hq s=true:=by
  unfold Cz at h;simp only [aw] at h;exact aW.1 h.1.2
 have hw:=Iu h;have key:∀k,Zy (slT w k).data.toList:=by
  intro k;unfold slT;have h0:Zy (bz (Lib.decDigits w.next.toNat)++⟨#[58]⟩:au).data.toList:=by
   rw [Gp,Hn];refine Zy.app (fun b hb=>?_) fun b hb=>by rw [aL.1 (show b∈[58] from hb)];decide
   have:=Pz w.next.toNat b hb
   exact CI
  have hm:∀s∈w.Ao.take k,Hq s=true:=fun s hs=>hok s (bK hs);clear hok h;revert hm;generalize w.Ao.take k=L;intro hm;generalize (bz (Lib.decDigits w.next.toNat)++⟨#[58]⟩:au)=a at h0
  induction L generalizing a with
  | nil=>exact h0
  | cons s r ih =>
   refine ih (fun x hx=>hm x (aQ _ hx)) (a++(⟨#[32]⟩++Acp s)) ?_;rw [Gp,Gp];refine h0.app (Zy.app (fun b hb=>by rw [aL.1 (show b∈[32] from hb)];decide) ?_);unfold Acp
   split
   ·split
    ·exact fun b hb=>by rw [aL.1 (show b∈[46] from hb)];decide
    ·exact Zm (Aq8 (hm s FA))
   ·exact fun b hb=>by rw [aL.1 (show b∈[63] from hb)];decide
 exact key _
def Bdb {n:Dx} {s:Js} {r:NR} (hg:At n=true) (h:Km n s=some r):At r.1=true/\Zy r.2.data.toList:=by
 unfold Km at h
 split at h
 ·rename_i hs;cases e:Bo n s with
  | none=>rw [e] at h;cases h
  | some y =>
   rw [e] at h;cases h;refine ⟨M0 hg hs e,?_⟩;dsimp only
   split
   ·exact Asg (Arr hg hs e)
   ·exact Yk (Zm EZ)
 ·cases h
def Bdo {n:Dx} {l:Bs} {t:au} (h:Le n l=some t):Zy t.data.toList:=by
 unfold Le at h
 split at h
 ·cases h;exact Yk (Aly (Ab4 _).1)
 ·split at h
  ·cases h;rw [Gp,Gp,Hn,Hn];exact ((Aly (dB _)).app fun b hb=>by rw [aL.1 (show b∈[32] from hb)];decide).app (Aly (dB _))
  ·split at h
   ·cases h
    split <;> exact Yk (Zm EZ)
   ·cases h
def Bgg {n:Dx} (hg:At n=true) (i:Nat):Mk (Qt n i):=by
 by_cases hi:i < n.Ac.length
 ·rw [Hf hi];exact El.1 ((If hg).2.1 _ (aB hi))
 ·unfold Qt;rw [bt,bp EY];exact El.1 EZ
def Bhx {n:Dx} (hg:At n=true) (i:Nat):Bb (Qf n i)=true:=by
 by_cases hi:i < n.Af.length
 ·rw [J9 hi];exact (If hg).1 _ (aB hi)
 ·unfold Qf;rw [bt,bp EY];decide
def Bcd {n:Dx} {w:Bs} {l:ar} {t:au} (hg:At n=true) (hf:∀i k,∀x∈Lo (Qf n i) k,0<=x) (h:Ke n w l=some t):Zy t.data.toList:=by
 unfold Ke at h;have hr:=Bgg hg (l.getD 0 0).toNat
 split at h
 ·split at h
  ·cases h;refine Ass fun x hx=>?_;obtain ⟨q,hq,rfl⟩:=bL.1 hx;exact (Ba.1 (Yv hr hq).1).1
  ·split at h
   ·cases h;exact Bd6 hr.w
   ·split at h
    ·split at h
     ·cases h;exact Ass (hf _ _)
     ·cases h
    ·cases h
 ·cases h
def Ajt {e:Bj} {k:Int} (hg:Bb e=true):∀x∈Lo e k,1<=x/\x<=7:=by
 intro x hx;unfold Lo at hx
 split at hx
 ·rename_i y hy;have h2:=(Hp.1 hg).2.2.1 y (ci hy);unfold Lj at h2;simp only [aw] at h2;exact (Zr h2.2.2.1).2 x hx
 ·cases hx
def At7 {n:Dx} (hg:At n=true) (i:Nat) (k:Int):∀x∈Lo (Qf n i) k,1<=x/\x<=7:=fun x hx=>Ajt (Bhx hg i) x hx
def Baf {n:Dx} {line:au} {r:NR} (hg:At n=true) (h:Pm n line=some r):At r.1=true/\Zy r.2.data.toList:=by
 unfold Pm at h
 split at h
 ·exact Bdb hg h
 ·split at h
  ·cases h;exact ⟨(Ax0 hg).1,Asg (Bfu hg)⟩
  ·split at h
   ·unfold Qs at h;cases e:Le n line.data.toList with
    | none=>rw [e] at h;cases h
    | some t=>rw [e] at h;cases h;exact ⟨hg,Bdo e⟩
   ·split at h
    ·unfold Qs at h;cases e:Ke n (atW (Gh line) 0) (Kj (((Gh line).drop 1).map bz)) with
     | none=>rw [e] at h;cases h
     | some t=>rw [e] at h;cases h;exact ⟨hg,Bcd hg (fun i k x hx=>by have:=At7 hg i k x hx;omega) e⟩
    ·cases h
def Akx {n:Dx} {line:au} (hg:At n=true):At (Hz n line)=true:=by
 unfold Hz;cases e:Pm n line with
 | none=>exact hg
 | some r=>exact (Baf hg e).1
def Ame {n:Dx} {line:au} (hg:At n=true):Zy (Qo n line).data.toList:=by
 unfold Qo;cases e:Pm n line with
 | none=>exact fun b hb=>by rw [aL.1 (show b∈[63] from hb)];decide
 | some r=>exact (Baf hg e).2
def Als {t:au} (h:Zy t.data.toList):Zy (Sh t).data.toList/\(Sh t).size<=200:=by
 unfold Sh
 split
 ·exact ⟨Yk (Zm EZ),EZ⟩
 ·exact ⟨h,EY⟩
def Wl {line Fv:au} (h:Pu line=true) (h2:Zy Fv.data.toList) (h3:Fv.size<=200):Lg.Bw line Fv=true:=by
 unfold Pu at h;unfold Lg.Bw at h ⊢;simp only [aw] at h ⊢;refine ⟨⟨⟨⟨h.1.1.1.1,av EY⟩,h.1.1.2⟩,?_⟩,h.2⟩;unfold I7;rw [aW];exact fun b hb=>Aex.2 (h2 b hb)
def Ahi {l:Log} {line Fv:au} (hv:E4 l.Bd.data.toList l.pending.data.toList l.count=true) (hc:¬l.count=60) (hr:Lg.Bw line Fv=true) :
  E4 (Sp l line Fv).Bd.data.toList (Sp l line Fv).pending.data.toList (Sp l line Fv).count=true /\
  A1 ((Sp l line Fv).Bd.data.toList++(Sp l line Fv).pending.data.toList)=A1 (l.Bd.data.toList++l.pending.data.toList)++[Kl l.count.toNat line.data.toList Fv.data.toList]:=by
 have hV:=Lg.Y3 hv;have hk:=(I8 (l.Bd.data.toList++l.pending.data.toList)).2;have hcn:=hV.cnt;have hx:Zo (A1 (l.Bd.data.toList++l.pending.data.toList)).length (Kl l.count.toNat line.data.toList Fv.data.toList)=true:=Ur.2 ⟨line.data.toList,Fv.data.toList,EY,by rw [<-Lg.Nq];exact hr,by rw [hcn];rfl⟩;obtain ⟨h1,h2⟩:=hV.append hx;have e:(Sp l line Fv).pending.data.toList=l.pending.data.toList++Kl l.count.toNat line.data.toList Fv.data.toList:=by unfold Sp;rw [Gp,Hn]
 rw [e];exact ⟨h1.bool,h2⟩
def Ru {c:Cj} {line:au} (h:Eo c=true):Eo (Mg c line).1=true:=by
 unfold Mg
 split
 ·rename_i hl
  split
  ·exact h
  ·rename_i hc;unfold Eo at h ⊢;rw [aw] at h ⊢;have ht:=Als (Ame (line:=line) h.1);exact ⟨Akx h.1,(Ahi h.2 hc (Wl hl ht.1 ht.2)).1⟩
 ·exact h
end Go.Proofs.YtmppejmafbfhlaaGreatDoor
