/- Part 8 of the proof: 22 texts, one behind the other. -/
import Derived.Test.YtkoldibamfjghaaGreatDoorM7
open _root_.Go.Proofs.Tryz
set_option maxRecDepth 100000
set_option maxHeartbeats 8000000
set_option linter.all false
set_option linter.unusedVariables false
set_option linter.unusedSimpArgs false
namespace Go.Proofs.YtkoldibamfjghaaGreatDoor
theorem BN{p:Prop}(h:p:=by refine go ?_;refine Be (Ss _ g F s6 3 h6 (by omega) (by omega) (by omega)) fun l hl=>?_;obtain ⟨hl1,hl2⟩:=hl;refine go ?_;refine ret ⟨⟨1,0,l.1⟩,l.2⟩ ⟨by show (decide ((0:Int)=0) && Pk l.1)=true;rw [Aps (by omega) hl1.2.2];rfl,by show l.1.size<=maxLen;unfold maxLen;omega,hl2.mono (by omega)⟩ rfl):p:=h
theorem BQ{p:Prop}(h:p:=by refine go ?_;refine ret ⟨⟨2,((z.n:Nat):Int),⟨#[]⟩⟩,s6⟩ ⟨okq (by decide) z1 z2,by show (0:Nat)<=maxLen;exact aE _,h6.mono (by omega)⟩ rfl):p:=h
theorem BZ{p:Prop}(h:p:=by refine Ig (xs:=x.An) i ?_;rintro hi2 b o e;rw [e];refine go ?_;intros;apply wO;refine Np (Sc _) Da fun a7 c7 F7=>?_;refine go ?_;rw [<-eo];refine Cb (⟨i+1,_,_,_⟩:AwS) (by show i+1<=x.An.length;omega) (by show x.An.length - (i+1) < x.An.length - i;omega)):p:=h
theorem CG{p:Prop}(h:p:=by exact ⟨by omega,fun e=>by rw [e] at this;exact absurd this.1 (by decide)⟩):p:=h
theorem EU{p:Prop}(h:p:=by refine go ?_;refine ret ⟨⟨4,0,⟨#[]⟩⟩,s6⟩ ⟨rfl,by show (0:Nat)<=maxLen;exact aE _,h6.mono (by omega)⟩ rfl):p:=h
theorem GJ{p:Prop}(h:p:=by show z.i - 1 < z.i;omega):p:=h
end Go.Proofs.YtkoldibamfjghaaGreatDoor
namespace Go.Proofs.YtkoldibamfjghaaGreatDoor
open Go.RowKit
theorem Atc:O9 [-1,0]:=⟨EW,EW,fun _=>rfl,fun i h h0=>by
 have:i=1:=by simp at h;omega
 subst this;simp⟩
theorem App {l:ar} (h:O9 l) (h7:l.length<=7) {x:Nat} (hx:x < l.length):O9 (l++[(x:Int)]):=by
 have h0:=h.n0;refine ⟨FB,FB,fun _=>?_,fun i hi hi0=>?_⟩
 ·rw [fM EV];exact h.z EV
 ·by_cases e:i < l.length
  ·rw [fM e];exact h.p i e hi0
  ·have:i=l.length:=by simp at hi;omega
   subst this;rw [List.getElem_append_right (aK _)];simp;omega
theorem Amt {t:Q0} (h:O9 t.Ad):Hj t=true:=by
 have h0:=h.n0;have h1:=h.n1;unfold Hj;rw [aw];refine ⟨by unfold Ff;rw [av EV,av EV];rfl,Ki fun i hi=>?_⟩;by_cases e:i=0
 ·subst e;rw [Qk hi,av (h.z hi)]
 ·rw [Su hi EV];obtain ⟨a,b⟩:=h.p i hi EV;unfold Ff;rw [av EV,av EV];rfl
theorem Ank {t:Q0} {f y:Int} (ht:Hj t=true) (hs:Cr ⟨⟨f,y,[]⟩,0,0,[]⟩=true):At (Wv t f y)=true:=by
 refine Ax.2 ⟨ht,hs,Bk.2 ⟨by simp [Wv],by simp [Wv],by simp [Wv],by simp [Wv]⟩,fun i h1 h2 h3 h4=>?_⟩;refine N0.2 ?_;simp only [Wv,List.getElem_replicate];exact ⟨rfl,rfl,rfl,fun _=>⟨rfl,rfl,rfl,rfl⟩,fun _ _=>⟨rfl,rfl,rfl⟩,fun _ _=>⟨rfl,rfl,rfl⟩⟩
theorem Agl {t:Q0} {f y:Int} (ht:O9 t.Ad) (h0:0<=f) (h1:f<=65535) (z0:1<=y) (z6:y<=6):Kk t f y=(Wv t f y,true)/\At (Wv t f y)=true:=by
 have hg:Cr ⟨⟨f,y,[]⟩,0,0,[]⟩=true:=Eo.2 ⟨Dq.2 ⟨⟨h0,h1⟩,⟨z0,z6⟩,FB,rfl⟩,rfl,rfl,EX,List.Pairwise.nil⟩;have hT:=Amt ht;refine ⟨?_,Ank hT hg⟩;unfold Kk;rw [hT,hg];rfl
def Bhz (e:au):Int:=((e.data.toList.getD 0 0).toNat:Int) - 48
def Bh5 (i:Nat) (E:ai):ai:=(E.filter fun e=>decide (Bhz e=((i:Nat):Int))).map fun e=>e.extract 2 e.size
def EvW (E:ai):Prop:=∀e∈E,∃i x,1<=i/\i<=7/\e=M2 i x
theorem Azs {i:Nat} (h:i<=7) (x:au):M2 i x=bz (UInt8.ofNat (48+i)::32::x.data.toList):=by
 have e:bz (Lib.itoa ((i:Nat):Int))=bz [UInt8.ofNat (48+i)]:=by
  rw [Ps (dB i),Int.natAbs_natCast,Lib.decDigits,ef EV]
 unfold M2;rw [e,<-Uj (_++_),Hh,Hh];rfl
theorem EvW.app {a b:ai} (h:EvW a) (h2:EvW b):EvW (a++b):=fun e he=>by
 rcases aJ.1 he with he|he
 ·exact h e he
 ·exact h2 e he
theorem EvW.T9 {i:Nat} (h1:1<=i) (h7:i<=7) (es:ai):EvW (T9 i es):=fun e he=>by
 obtain ⟨x, -,rfl⟩:=bO.1 he;exact ⟨i,x,h1,h7,rfl⟩
theorem EvW.nil:EvW []:=fun e he=>by cases he
structure SrI (S:ai) (f:Int) (w:Aw):Prop where
 h:∃i,i+w.Ak.length=S.length/\w.Am=Cd f ((i:Nat):Int)/\w.Ak=S.drop i
structure NtJ (S:ai) (f:Int) (n:Dt) (E:ai):Prop where
 s:SrI S f n.Ab.Aa
 d:∀q∈n.down,∀p∈q,PkI S f p
 r:∀i (h:i < n.Ac.length),RcI S f n.Ac[i] (Bh5 i E)
 e:EvW E
section
variable {S:ai} {f:Int} {n:Dt} {E:ai}
theorem SrI.Er {w:Aw} (h:SrI S f w):Lo w=Cd f ((S.length:Nat):Int):=by
 obtain ⟨i,h1,h2, -⟩:=h.h;unfold Lo;rw [h2,Aeu,h1]
theorem SrI.Am {w:Aw} (h:SrI S f w):∃i,i<=S.length/\w.Am=Cd f ((i:Nat):Int):=by
 obtain ⟨i,h1,h2, -⟩:=h.h;exact ⟨i,EV,h2⟩
theorem SrI.Df {w:Aw} (h:SrI S f w) (hs:1<=w.size):SrI S f (Df w):=by
 obtain ⟨i,h1,h2,h3⟩:=h.h;unfold Go.Proofs.YtkoldibamfjghaaGreatDoor.Df
 split
 ·rename_i e;refine ⟨i+1,?_,?_,?_⟩
  ·show i+1+(w.Ak.drop 1).length=_;rw [aX];omega
  ·show Cd w.Am 1=_;rw [h2,show Cd (Cd f (i:Nat)) 1=Cd (Cd f (i:Nat)) ((1:Nat):Int) from rfl,Aeu]
  ·show w.Ak.drop 1=_;rw [h3,cw]
 ·exact h
theorem SrI.push {w:Aw} (h:SrI S f w) (hs:1<=w.size) (t:au):SrI (S++[t]) f (Dh w t):=by
 obtain ⟨i,h1,h2,h3⟩:=(h.Df hs).h;refine ⟨i,?_,h2,?_⟩
 ·show i+((Go.Proofs.YtkoldibamfjghaaGreatDoor.Df w).Ak++[t]).length=_;rw [aA,aA,dF];omega
 ·show (Go.Proofs.YtkoldibamfjghaaGreatDoor.Df w).Ak++[t]=_;rw [h3,List.drop_append_of_le_length EV]
theorem NtJ.mono {S2:ai} (h:NtJ S f n E) (hs:SrI (S++S2) f n.Ab.Aa):NtJ (S++S2) f n E:=⟨hs,fun q hq p hp=>(h.d q hq p hp).mono,fun i hi=>(h.r i hi).mono,h.e⟩
theorem Aww {P:NE->Prop} (hP:∀(x y:NE) (s:Jh),P x->At x.1=true->Do s=true->s.Cq≠1->Bl x.1 s=some y->P (y.1,x.2++y.2)) {x:NE} (hg:At x.1=true) (h:P x):P (drE x):=by
 have ht:∀(x:NE) (s:Jh),P x->At x.1=true->Do s=true->s.Cq≠1->P (My x s):=fun x s hx hg hs hk=>by
  cases e:Bl x.1 s with
  | none=>rw [Jy e];exact hx
  | some y=>rw [Yz e];exact hP x y s hx hg hs hk e
 have hr:∀(x:NE),P x->At x.1=true->∀k,k+1<=x.1.Ap.Ad.length->P (Hp x k):=fun x hx hg k=>by
  have hn8:=(Hi (Ax.1 hg).t).n1
  induction k with
  | zero=>intro _;exact hx
  | succ k ih =>
   intro hk;have f1:=(O6 hg k EV).1;have hk1:k+1 < (Hp x k).1.Ap.Ad.length:=by rw [f1.t];omega
   have f2:=(Aol f1.g EV hk1).1;have p2:=ht _ (I7 (k+1)) (ih EV) f1.g (Bb6 EV EV) (by show (2:Int)≠1;decide);exact ht _ (L9 (k+1)) p2 f2.g (Ayf EV EV) (by show (5:Int)≠1;decide)
 unfold drE;generalize wN x.1=m
 induction m generalizing x with
 | zero=>exact h
 | succ m ih =>
  unfold S0
  split
  ·exact h
  ·have h2:=(Hi (Ax.1 hg).t).n0;exact ih (Mr hg).1.g (hr x h hg _ EV)
end
def lgB (b:UInt8):Prop:=(32<=b.toNat/\b.toNat<=126)/\b≠35
instance (b:UInt8):Decidable (lgB b):=by unfold lgB;infer_instance
def Y2 (l:Bs):Prop:=∀b∈l,lgB b
theorem Y2.app {a b:Bs} (h:Y2 a) (k:Y2 b):Y2 (a++b):=fun x hx=>by
 rcases aJ.1 hx with h1|h1
 ·exact h x h1
 ·exact k x h1
theorem Atn {s:au} (h:Pk s=true):∀c∈s.data.toList,97<=c.toNat/\c.toNat<=122:=by
 unfold Pk T7 low Ff at h;simp only [aw,aV,aF] at h;exact fun c hc=>by have:=h.2 c hc;omega
def evK (e:au):Prop:=e=Anf\/e=Xo\/∃t,Pk t=true/\e=Agr t
def slK (l:List Hz):Prop:=∀s∈l,s.T6=true->Pk s.Dj=true
theorem slK.drop {l:List Hz} (h:slK l) (k:Nat):slK (l.drop k):=fun s hs=>h s (bq hs)
theorem Ag6 {w:Aj} (h:Cy w=true):slK w.Ao:=fun s hs _=>by
 unfold Cy at h;simp only [aw] at h;have:=aV.1 h.1.2 s hs;unfold Hc at this;simp only [aw] at this;exact this.1
theorem Ayq:∀(l:List Hz) (n:Int),slK l->∀e∈(rel n l).2.2,evK e
 | [],_,_,e,he=>by cases he
 | s::r,n,h,e,he=>by
  unfold rel at he
  split at he
  ·rename_i hs;rcases aG.1 he with rfl|he
   ·exact .inr (.inr ⟨_,h s EX hs,rfl⟩)
   ·exact Ayq r _ (fun x hx=>h x IA) e he
  ·cases he
theorem Axa:∀(m:Nat) (w:Aj),slK w.Ao->∀e∈N8 m w,evK e
 | 0,_,_,e,he=>by cases he
 | m+1,w,h,e,he=>by
  unfold N8 at he;rcases aG.1 he with rfl|he
  ·cases hw:w.Ao with
   | nil=>exact .inl rfl
   | cons s r =>
    by_cases hs:s.T6=true
    ·exact .inr (.inr ⟨s.Dj,h s (by rw [hw];simp) hs,by simp [Gh,hs]⟩)
    ·exact .inl (by simp [Gh,hs])
  ·exact Axa m (Y6 w) (by rw [show (Y6 w).Ao=w.Ao.drop 1 by simp [Y6]];exact h.drop 1) e he
theorem Arq {w:Aj} {t:Int} (h:slK w.Ao):∀e∈Je w t,evK e:=fun e he=>by
 unfold Je at he;rcases aJ.1 he with he|he
 ·exact Axa _ _ h e he
 ·exact Ayq _ _ (by rw [S9];exact h.drop _) e he
theorem Bgx {w:Aj} {n:Int} {t:au} (h:slK w.Ao) (ht:Pk t=true):slK (Y5 w n t).Ao:=fun s hs hv=>by
 unfold Y5 Md at hs;rcases bC hs with hs|rfl
 ·unfold Mi at hs;rcases aJ.1 hs with hs|hs
  ·exact h s hs hv
  ·rw [(fm.1 hs).2] at hv;cases hv
 ·exact ht
theorem Bel {r:A9} {p:As} (hg:Lz r) (hp:Bo p=true):∀e∈Ii r p,evK e:=fun e he=>by
 unfold Ii at he
 split at he
 ·unfold Mp at he;have hs:=Ag6 (Qr hg hp).1;have hd:Pk p.data=true:=by have h:=hp;unfold Bo at h;simp only [aw] at h;exact h.1.1.2
  rcases aJ.1 he with he|he
  ·unfold Kw Lu at he
   split at he
   ·cases he
   ·split at he
    ·cases he
    ·exact Ayq _ _ (Bgx hs hd) e he
  ·unfold Ov at he
   split at he
   ·split at he
    ·exact Arq (Ag6 (Tm hg hp).1) e he
    ·rw [aL] at he;exact .inr (.inl he)
   ·cases he
 ·cases he
theorem Bfh {r:A9} (hg:Lz r):∀e∈Hg r,evK e:=fun e he=>by
 unfold Hg at he
 split at he
 ·cases he
 ·exact Arq (Ag6 hg.w) e he
def evN (e:au):Prop:=∃i x,i<=7/\evK x/\e=M2 i x
theorem Azt {i:Nat} (h:i<=7) {es:ai} (he:∀e∈es,evK e):∀e∈T9 i es,evN e:=fun e hm=>by
 obtain ⟨x,hx,rfl⟩:=bO.1 hm;exact ⟨i,x,h,he x hx,rfl⟩
theorem Azw {n:Dt} (hg:At n=true) (hc:n.Ab.Ai < 9999):∀k,k+1<=n.Ap.Ad.length->∀e∈(Bc n k).2,evN e
 | 0,_,e,he=>by cases he
 | k+1,hk,e,he=>by
  obtain ⟨hG,ht, -⟩:=Pi hg hc k EV;have hn8:=(Hi hG.t).n1;have hi:k+1 < (Bc n k).1.Ap.Ad.length:=by rw [ht];omega
  obtain ⟨g1,g2,g3,g4,r⟩:=hG.rn hi;rcases aJ.1 (show e∈(Bc n k).2++(Nj (Bc n k).1 (k+1)).2 from he) with he|he
  ·exact Azw hg hc k EV e he
  ·unfold Nj at he;cases hl:Es (Bc n k).1.Ap.Ad ((k+1:Nat):Int)
   ·rw [hl,aC EW] at he;cases he
   ·rw [hl,aH rfl,Gp g2] at he;exact Azt EV (Bfh (Ej.1 (r.hf EV hl).2.1)) e he
theorem Aqs {n:Dt} {s:Jh} {y:NE} (hg:At n=true) (hs:Do s=true) (e:Bl n s=some y):∀z∈y.2,evN z:=by
 have hG:=Ax.1 hg;unfold Bl at e
 split at e
 ·cases e;exact fun z hz=>by cases hz
 ·rename_i h1
  split at e
  ·split at e
   ·cases e
   ·cases e;have:=X7 hG.s;exact Azw hg EV _ (by have:=(Hi hG.t).n0;omega)
  ·rename_i h4;unfold Do at hs;rw [aC h1,aC h4] at hs;simp only [aw] at hs;have hf:=Nb.1 hs.1.2;have hpg:=Lr (s:=s) hg;have hq:=Mj (s:=s) hg;have htl:(Gm n s).Ap=n.Ap:=JS
   unfold C4 at e
   split at e
   ·cases e
   ·rename_i hb
    split at e
    ·cases e
    ·rename_i h2;have hpk:=M7 hq.1 (Oo (q:=T8 n s) EV)
     split at e
     ·cases e;have hi:s.node.toNat < (Gm n s).Ap.Ad.length:=by rw [htl];omega
      obtain ⟨i1,i2,i3,i4,hrn⟩:=(Ax.1 hpg).rn hi;unfold C6;cases hl:Es (Gm n s).Ap.Ad ((s.node.toNat:Nat):Int)
      ·rw [aC EW];exact fun z hz=>by cases hz
      ·rw [aH rfl,Gp i2];exact Azt EV (Bel (Ej.1 (hrn.hf EV hl).2.1) hpk)
     ·split at e
      ·cases e;exact fun z hz=>by cases hz
      ·cases e;exact fun z hz=>by cases hz
theorem Bec {n:Dt} (hg:At n=true):∀z∈(Qf n).2,evN z :=
 Aww (P:=fun x=>∀z∈x.2,evN z) (fun x y s hx hgx hs _ e z hz=>by
  rcases aJ.1 hz with hz|hz
  ·exact hx z hz
  ·exact Aqs hgx hs e z hz) (x:=(n,[])) hg fun z hz=>by cases hz
theorem As1 {e:au} (h:evK e):Y2 e.data.toList/\e.size<=9:=by
 rcases h with rfl|rfl|⟨t,ht,rfl⟩
 ·exact ⟨fun b hb=>by rw [aL.1 (show b∈[45] from hb)];decide,EW⟩
 ·exact ⟨fun b hb=>by rw [aL.1 (show b∈[33] from hb)];decide,EW⟩
 ·have h8:=Ut ht;refine ⟨?_,by unfold Agr;rw [aQ];show 1+_<=9;omega⟩;unfold Agr;rw [Hh];refine Y2.app (fun b hb=>by rw [aL.1 (show b∈[43] from hb)];decide) fun b hb=>?_;have:=Atn ht b hb;exact CG
theorem Yk {e:au} (h:evN e):Y2 e.data.toList/\e.size<=11:=by
 obtain ⟨i,x,hi,hx,rfl⟩:=h;obtain ⟨h1,h2⟩:=As1 hx;rw [Azs hi,Kd,Jv];refine ⟨fun b hb=>?_,by simp only [aU,C0];omega⟩;rcases aG.1 hb with rfl|hb
 ·have e:(UInt8.ofNat (48+i)).toNat=48+i:=by rw [UInt8.toNat_ofNat'];omega
  exact ⟨EV,fun h=>by have:=congrArg UInt8.toNat h;rw [e] at this;have:(35:UInt8).toNat=35:=rfl;omega⟩
 ·rcases aG.1 hb with rfl|hb
  ·decide
  ·exact h1 b hb
def Abr (s:Hz):au:=if s.T6 then (if s.Dj=⟨#[]⟩ then ⟨#[46]⟩ else s.Dj) else ⟨#[63]⟩
def slT (x:Aj) (k:Nat):au:=(x.Ao.take k).foldl (fun a s=>a++(⟨#[32]⟩++Abr s)) (bz (Lib.decDigits x.next.toNat)++⟨#[58]⟩)
def Aea (x:Aj):au:=slT x x.Ao.length
theorem Abn {x:Aj} {k:Nat} (hk:k < x.Ao.length):slT x (k+1)=slT x k++(⟨#[32]⟩++Abr x.Ao[k]):=by
 unfold slT;rw [<-List.take_append_getElem hk,ej];rfl
theorem Bdt {x:Aj} {k:Nat} (hk:k < x.Ao.length) (h:x.Ao[k].T6=false):slT x k++⟨#[32,63]⟩=slT x (k+1):=by
 rw [Abn hk,Abr,h];rfl
theorem Bds {x:Aj} {k:Nat} (hk:k < x.Ao.length) (h:x.Ao[k].T6=true) (h2:x.Ao[k].Dj=⟨#[]⟩):slT x k++⟨#[32,46]⟩=slT x (k+1):=by
 rw [Abn hk,Abr,h,aH rfl,aH h2];rfl
theorem Bdu {x:Aj} {k:Nat} (hk:k < x.Ao.length) (h:x.Ao[k].T6=true) (h2:¬x.Ao[k].Dj=⟨#[]⟩):slT x k++(⟨#[32]⟩++x.Ao[k].Dj)=slT x (k+1):=by
 rw [Abn hk,Abr,h,aH rfl,aC h2]
theorem Aqt {s:Hz} (h:s.Dj.size<=8):(Abr s).size<=8:=by
 unfold Abr;split
 ·split
  ·decide
  ·exact h
 ·decide
theorem Ag7 {x:Aj} (hg:Cy x=true):∀k,(slT x k).size<=6+9 * k
 | 0=>by
  obtain ⟨n0,n1,hl,hit⟩:=Tt hg;unfold slT;rw [fe,eZ,aQ,Jv];have:=D8 4 x.next.toNat EV
  have:(⟨#[58]⟩:au).size=1:=rfl;omega
 | k+1=>by
  have ih:=Ag7 hg k;obtain ⟨n0,n1,hl,hit⟩:=Tt hg;by_cases hk:k < x.Ao.length
  ·rw [Abn hk,aQ,aQ];have:=Aqt (hit _ (aB hk));have:(⟨#[32]⟩:au).size=1:=rfl;omega
  ·have e:slT x (k+1)=slT x k:=by unfold slT;rw [aW EV,aW EV]
   rw [e];omega
theorem An7 (x:Aj) (v:Value) (F FT:aq) (hg:Cy x=true):FV 31 [v] [.isv Br v x F,Gk FT] (af (Aea x)):=by
 obtain ⟨n0,n1,hl,hit⟩:=Tt hg;have hzd:(bz (Lib.decDigits x.next.toNat)).size<=5:=by rw [Jv];exact D8 4 _ EV
 have z58:(⟨#[58]⟩:au).size=1:=rfl;refine enter func31 rfl ntmps31 fun w0=>?_;refine Ck ?_;rintro a1 c1 F1 rfl l1;unfold maxLen at l1;refine go ?_;intros;refine cb (fun w st=>Z3 x.next EV EV FT w (st.get (p:=Gk FT) EX)) ?_;rw [show Lib.itoa x.next=Lib.decDigits x.next.toNat by unfold Lib.itoa;rw [aC EV]];refine go ?_;refine Dk [2,11,12] (fun k:Nat=>[(3,af (slT x k)),(13,aa k)]) (fun k=>k<=x.Ao.length) (fun k=>x.Ao.length - k) 0 (aE _) fun k hk=>?_;have hz:=Ag7 hg k;have z2:(⟨#[32,63]⟩:au).size=2:=rfl
 have z3:(⟨#[32,46]⟩:au).size=2:=rfl;have z1:(⟨#[32]⟩:au).size=1:=rfl;refine go ?_;refine A1 rfl (fun h=>?_) (fun h=>?_)
 ·have hk3:k < x.Ao.length:=EV
  have hs8:=hit _ (aB hk3);refine Oe (xs:=x.Ao) k ?_;rintro hi b o e s1;rw [e];refine go ?_;intros;cases g2:x.Ao[k].T6
  ·refine go ?_;rw [Bdt hk3 g2];exact BE
  ·
   refine go ?_;by_cases g3:x.Ao[k].Dj=⟨#[]⟩
   ·rw [av g3];refine go ?_;rw [Bds hk3 g2 g3];exact BE
   ·rw [ay g3];have z9:=aQ (a:=⟨#[32]⟩) (b:=x.Ao[k].Dj);refine go ?_;rw [Bdu hk3 g2 g3];exact BE
 ·obtain rfl:k=x.Ao.length:=EV
  refine go ?_;refine ret () trivial ?_;unfold Aea;rfl
theorem Att (x:Aj) (v:Value) (F FT:aq) (hg:Cy x=true):FV 35 [v] [.isv Br v x F,Gk FT] (af (Aea x)):=by
 obtain ⟨n0,n1,hl,hit⟩:=Tt hg;have hzd:(bz (Lib.decDigits x.next.toNat)).size<=5:=by rw [Jv];exact D8 4 _ EV
 have z58:(⟨#[58]⟩:au).size=1:=rfl;refine enter func35 rfl ntmps35 fun w0=>?_;refine Ck ?_;rintro a1 c1 F1 rfl l1;unfold maxLen at l1;refine go ?_;intros;refine cb (fun w st=>(by rw [show x.next=((x.next.toNat:Nat):Int) by omega];exact Bdo _ EV w)) ?_;refine go ?_;refine Dk [1,2] (fun k:Nat=>[(3,af (slT x k)),(4,aa k)]) (fun k=>k<=x.Ao.length) (fun k=>x.Ao.length - k) 0 (aE _) fun k hk=>?_;have hz:=Ag7 hg k;have z2:(⟨#[32,63]⟩:au).size=2:=rfl;have z3:(⟨#[32,46]⟩:au).size=2:=rfl;have z1:(⟨#[32]⟩:au).size=1:=rfl;refine go ?_
 refine A1 rfl (fun h=>?_) (fun h=>?_)
 ·have hk3:k < x.Ao.length:=EV
  have hs8:=hit _ (aB hk3);refine Oe (xs:=x.Ao) k ?_;rintro hi b o e s1;rw [e];refine go ?_;cases g2:x.Ao[k].T6
  ·refine go ?_;rw [Bdt hk3 g2];exact BE
  ·
   refine go ?_;by_cases g3:x.Ao[k].Dj=⟨#[]⟩
   ·rw [av g3];refine go ?_;rw [Bds hk3 g2 g3];exact BE
   ·rw [ay g3];have z9:=aQ (a:=slT x k) (b:=⟨#[32]⟩);refine go ?_;rw [ByteArray.append_assoc,Bdu hk3 g2 g3];exact BE
 ·obtain rfl:k=x.Ao.length:=EV
  refine go ?_;refine ret () trivial ?_;unfold Aea;rfl
theorem Ato (xs:List Bs) (x sep:Bs) (h:0 < xs.length):Lib.join (xs++[x]) sep=Lib.join xs sep++(sep++x):=by
 cases xs with
 | nil=>cases h
 | cons a r =>
  rw [cg,Lib.join_cons,Lib.join_cons];unfold Lib.joinTail;simp
theorem Aba {sep:Bs} {m:Nat}:∀{xs:List Bs},(∀x∈xs,x.length<=m)->(Lib.joinTail sep xs).length<=(sep.length+m) * xs.length
 | [],_=>by unfold Lib.joinTail;simp
 | x::r,h=>by
  have ih:=Aba (sep:=sep) (m:=m) (xs:=r) fun y hy=>h y KM;have hx:=h x EX;unfold Lib.joinTail at ih ⊢;simp only [cH,ci,aA,aU] at ih ⊢;rw [gF];omega
theorem Am0 {sep:Bs} {m:Nat} {xs:List Bs} (h:∀x∈xs,x.length<=m):(Lib.join xs sep).length<=(sep.length+m) * xs.length:=by
 cases xs with
 | nil=>simp [Lib.join]
 | cons a r =>
  have hr:=Aba (sep:=sep) (m:=m) (xs:=r) fun y hy=>h y KM;have ha:=h a EX;rw [Lib.join_cons,aA,aU,gF];omega
def jn (l:ar):Bs:=Lib.join (l.map Lib.itoa) [32]
theorem Bep {l:ar} {k:Nat} (h:∀x∈l,0<=x/\x.natAbs < 10 ^ (k+1)):(jn l).length<=(k+2) * l.length:=by
 have:=Am0 (sep:=[32]) (m:=k+1) (xs:=l.map Lib.itoa) fun y hy=>by
  obtain ⟨x,hx,rfl⟩:=bO.1 hy;rw [Ps (h x hx).1];exact D8 k _ (h x hx).2
 unfold jn;rw [bf] at this;simp only [aU,aY] at this;rw [show (k+2)=(0+1+(k+1)) by omega];exact this
end Go.Proofs.YtkoldibamfjghaaGreatDoor
namespace Go.Proofs.YtkoldibamfjghaaGreatDoor

open Go.RowKit
end Go.Proofs.YtkoldibamfjghaaGreatDoor
namespace Go.Proofs.YtkoldibamfjghaaGreatDoor
open Go.RowKit
def E9 (x:Cu):Bool:=At x.Bt && Fs x.Im.Bj.data.toList x.Im.pending.data.toList x.Im.count
theorem Qc (x:Cu) (v:Value) (F FT:aq) (hz:x.Im.Bj.size+x.Im.pending.size<=1048576):FV 16 [v] [.isv Dw v x F,Gk FT] (.bool (E9 x)):=by
 refine enter func16 rfl ntmps16 fun w0=>?_;refine Cc ?_;rintro a1 c1 F1 a2 c2 F2 a3 c3 F3 a4 c4 F4 a5 c5 F5 a6 c6 F6 a7 c7 F7 rfl s1 s2 l1 l2 l3 l4 l5 l6 l7;refine E5 x.Bt ?_;generalize hFN:F1++F2++F3++F4++F5++F6++F7=FN;refine go ?_;intros;refine Be (Aap x.Bt _ FN) fun _ _=>?_;unfold E9;cases g1:At x.Bt
 ·exact AA
 refine go ?_;refine Be (Aao x.Im.Bj x.Im.pending x.Im.count FT hz) fun _ _=>?_;exact AA
theorem Acu (x:Cu) (v:Value) (F:aq) (hz:x.Im.Bj.size+x.Im.pending.size<=1048576):FV 27 [v] [.isv Dw v x F] (.bool (E9 x)):=by
 refine enter func27 rfl ntmps27 fun w0=>?_;refine Cc ?_;rintro a1 c1 F1 a2 c2 F2 a3 c3 F3 a4 c4 F4 a5 c5 F5 a6 c6 F6 a7 c7 F7 rfl s1 s2 l1 l2 l3 l4 l5 l6 l7;refine E5 x.Bt ?_;generalize hFN:F1++F2++F3++F4++F5++F6++F7=FN;refine go ?_;intros;refine Be (Acr x.Bt _ FN) fun _ _=>?_;unfold E9;cases g1:At x.Bt
 ·exact AA
 refine go ?_;refine Be (Xr x.Im.Bj x.Im.pending x.Im.count hz) fun _ _=>?_;exact AA
theorem X5 (x:Cu) (v:Value) (F:aq) (hz:x.Im.Bj.size+x.Im.pending.size<=1048576):FV 17 [v] [.isv Dw v x F] (.bool (E9 x)):=by
 refine enter func17 rfl ntmps17 fun w0=>?_;refine Bfg (E:=Dw) (v:=v) (x:=x) (F:=F) Ak3 ?_;rintro cs rfl hl ho;refine goL ?_;intros;refine Be (Acu x _ F hz) fun _ _=>?_;exact AA
theorem Apc {u:Nat} (h:u < 10000000):Lib.decNat (Lib.decDigits u)=some u:=by
 have hb:=Afn 6 u EV;have hp:=Yj u;unfold Lib.decNat;rw [aC (by intro e;rw [List.isEmpty_iff] at e;rw [e] at hp;simp at hp),hb]
theorem Aa9 {v:Int} (h:v < 0):Lib.itoa v=45::Lib.decDigits v.natAbs:=by unfold Lib.itoa;rw [aH h]
theorem Amy {v:Int} (h:0<=v):Lib.itoa v=Lib.decDigits v.natAbs:=by unfold Lib.itoa;rw [aC EV,show v.toNat=v.natAbs by omega]
theorem Agz {v:Int} (h0:-999999<=v) (h1:v<=999999):C3 (bz (Lib.itoa v))=(v,true):=by
 by_cases hn:v < 0
 ·have hl:=D8 5 v.natAbs EV;have ha:Lib.atoiAll (Lib.itoa v)=.ok v:=by
   rw [Aa9 hn,Lib.atoiAll_short _ FB];have:Lib.atoi (45::Lib.decDigits v.natAbs)=some v:=by
    rw [Lib.atoi,aH FH,Apc EV];show some (-((v.natAbs:Nat):Int))=some v
    congr 1;omega
   rw [this];rfl
  unfold C3;rw [Kd,ha];show (if Ff (-999999) v 999999 && decide (bz (Lib.itoa v)=bz (Lib.itoa v)) then (v,true) else (0,false))=(v,true);rw [av rfl,show Ff (-999999) v 999999=true by unfold Ff;rw [av h0,av h1];rfl];rfl
 ·rw [Amy EV,Aqi v.natAbs EV]
  congr 1;omega
theorem An2 (s:au):C3 s=(0,false)\/∃v:Int, -999999<=v/\v<=999999/\s=bz (Lib.itoa v):=by
 unfold C3
 split
 ·rename_i v _;cases h:(Ff (-999999) v 999999 && decide (bz (Lib.itoa v)=s))
  ·exact .inl rfl
  ·unfold Ff at h;simp only [aw,aF] at h;exact .inr ⟨v,h.1.1,h.1.2,h.2.symm⟩
 ·exact .inl rfl
def unS (l:Bs):Bs:=if 1 < l.length/\l.head?=some 45 then l.drop 1 else l
def Afq (l:Bs):Nat:=l.foldl (fun a c=>10 * a+(c.toNat - 48)) 0
theorem Afr (l:Bs) (c:UInt8):Afq (l++[c])=10 * Afq l+(c.toNat - 48):=by unfold Afq;rw [ej];rfl
theorem Are:∀(n:Nat) (l:Bs),l.length=n->(∀c∈l,48<=c.toNat/\c.toNat<=57)->Afq l < 10 ^ n
 | 0,l,h,_=>by rw [bt.1 h];decide
 | n+1,l,h,hd=>by
  have hne:l≠[]:=by intro e;rw [e] at h;simp at h
  have e:=List.dropLast_concat_getLast hne;have ih:=Are n l.dropLast FB fun c hc=>hd c (List.dropLast_subset _ hc);have hc:=hd _ (List.getLast_mem hne);rw [<-e,Afr,ed];omega
theorem Beb:∀d:Nat,d < 10->(UInt8.ofNat (48+d)).toNat=48+d:=by decide
theorem Amj:∀(k u:Nat),u < 10 ^ (k+1)->Afq (Lib.decDigits u)=u
 | 0,u,h=>by
  have h3:u < 10:=FF
  rw [Lib.decDigits,ef h3];unfold Afq;simp only [dU,eZ];rw [Beb u h3];omega
 | k+1,u,h=>by
  by_cases h3:u < 10
  ·rw [Lib.decDigits,ef h3];unfold Afq;simp only [dU,eZ];rw [Beb u h3];omega
  ·rw [Lib.decDigits,dif_neg h3,Afr,Amj k (u / 10) (by rw [ed] at h;omega),Beb _ EV];omega
theorem Az2 {v:Int} (h0:-999999<=v) (h1:v<=999999):unS (Lib.itoa v)=Lib.decDigits v.natAbs/\((unS (Lib.itoa v)).length < (Lib.itoa v).length↔v < 0):=by
 have hp:=Yj v.natAbs;by_cases hn:v < 0
 ·rw [Aa9 hn];unfold unS;rw [aH ⟨FB,rfl⟩];exact ⟨rfl,by simp [hn]⟩
 ·rw [Amy EV];have:¬(1 < (Lib.decDigits v.natAbs).length/\(Lib.decDigits v.natAbs).head?=some 45):=by
   rintro ⟨-,h⟩;have:=Pb _ 45 (List.mem_of_mem_head? h);revert this;decide
  unfold unS;rw [aC this];exact ⟨rfl,FB⟩
theorem U5 {s:au} (h:C3 s≠(0,false)):∃v:Int, -999999<=v/\v<=999999/\s=bz (Lib.itoa v)/\1<=(unS s.data.toList).length/\(unS s.data.toList).length<=6/\(∀c∈unS s.data.toList,48<=c.toNat/\c.toNat<=57)/\Afq (unS s.data.toList)=v.natAbs/\((unS s.data.toList).length < s.size↔v < 0):=by
 rcases An2 s with h2|⟨v,h0,h1,rfl⟩
 ·exact absurd h2 h
 ·obtain ⟨e,e2⟩:=Az2 h0 h1;have hl:=D8 5 v.natAbs EV;rw [Kd,Jv];refine ⟨v,h0,h1,rfl,?_,?_,?_,?_,e2⟩
  ·rw [e];exact Yj _
  ·rw [e];exact hl
  ·rw [e];exact Pb _
  ·rw [e];exact Amj 5 _ EV
structure Bib (c:Int) (x:Gz):Prop where
 n0:0<=x.Ae
 n1:x.Ae<=65535
 f:∀f∈x.Bg,1<=f/\f<=7
 p:0 < x.Bg.length
 l:x.Bg.length<=7
 u0:c+1<=x.Cg
 u1:x.Cg<=c+6
structure Bic (e:Bf) (k:Nat) (y:Bf):Prop where
 g:Ba y=true
 c:y.Ai=e.Ai+(k:Int)
 u:∀x∈y.Ah,x.Cg<=e.Ai+6
theorem Ax7 (n:Int) (h0:-999999<=n) (hn:n < 0):FV 33 [aa n] [] (af (bz (Lib.itoa n))):=by
 have hz:(bz (Apb (-n))).size<=7:=by rw [Jv];exact Ba9 EV
 have zl:(⟨#[45]⟩:au).size=1:=rfl;refine enter func33 rfl ntmps33 fun w0=>?_;refine go ?_;refine A1 rfl (fun e0=>?_) (fun e0=>?_)
 rotate_left
 ·exact absurd hn e0
 refine go ?_;refine cb (fun w st=>Ax6 (-n) EV EV w) ?_;refine go ?_;rw [show (⟨#[45]⟩:au)++bz (Apb (-n))=bz (Lib.itoa n) by
  rw [Aa9 hn];unfold Apb;rw [show (-n).toNat=n.natAbs by omega];apply fq;simp [bz,di]]
 exact BC
theorem Vu (n:Int) (h0:-999999<=n) (h1:n<=999999) (w:World):Calls prog 33 #[aa n] w (RB (af (bz (Lib.itoa n))) w):=by
 by_cases hn:n < 0
 ·exact (Ax7 n h0 hn).val w (fun p hp=>by cases hp)
 ·rw [Axj EV];exact Ax6 n EV EV w
theorem Az1 {s:au} (h:1 < s.size):unS s.data.toList=if s[0]=45 then (s.extract 1 s.size).data.toList else s.data.toList:=by
 have e:s.data.toList.head?=some s[0]:=by
  rw [List.head?_eq_getElem?,aD (by rw [C0];omega)];rfl
 unfold unS;rw [C0,e,Yl,Kd];by_cases h2:s[0]=45
 ·rw [aH ⟨h,by rw [h2]⟩,aH h2]
 ·rw [aC (fun hh=>h2 (Option.some.inj hh.2)),aC h2]
theorem Avg {s:au} (h:¬1 < s.size):unS s.data.toList=s.data.toList:=by
 unfold unS;rw [C0,aC (fun hh=>h hh.1)]
theorem Bam {P:Program} {n:Nat} {fr:Fr} {H:List Pc} {ty:TypeId} {x y:Operand} {a b:Int} {t t':TypeId} (hx:ev fr x=some (.int .u8 a)) (hy:ev fr y=some (.int .u8 b)) (h0:0<=a - b) (h1:a - b<=255):Yd P n fr H (.binOp .sub t x y t') ty (.int .u8 (a - b)):=.mk fun c w d pos Cd gd hA _=>by
 simp [execOp,hA.ev hx,hA.ev hy,eqGuard_sub,binOp_sub,Op.intArith,IntWalk.u8_in _ ⟨h0,h1⟩]
structure Bhs (t:au) (z:Nat × Nat):Prop where
 k:z.2<=t.size
 v:z.1=Afq (t.data.toList.take z.2)
 d:∀c∈t.data.toList.take z.2,48<=c.toNat/\c.toNat<=57
theorem Axr (s:au) (hs:s.size<=1000000000):FV 137 [af s] [] (.tuple #[aa (C3 s).1,.bool (C3 s).2]):=by
 refine enter func137 rfl ntmps137 fun w0=>?_;apply N7;apply Aif
 repeat (apply wO;apply oc;rfl;exact ydE)
 apply T3;apply Xu;apply N7;apply Aif
 repeat (apply wO;apply oc;rfl;exact ydE)
 apply T3;apply Xu;apply N7;refine Du [0,2,3] [] (fun t:au=>[(4,af t)]) (fun _=>[]) (fun t=>t.data.toList=unS s.data.toList/\t.size<=s.size) ?_ fun t hz=>?_
 ·refine go ?_;refine Dc rfl rfl (fun h1=>?_) (fun h1=>?_)
  ·have h1:1 < s.size:=EV
   refine go ?_;refine A1 rfl (fun h2=>?_) (fun h2=>?_)
   ·have ht:(s.extract 1 s.size).data.toList=unS s.data.toList:=by rw [Az1 h1,aH (UInt8.toNat_inj.1 (by have:((s[0]).toNat:Int)=45:=h2;show (s[0]).toNat=45;omega))]
    refine Ih ?_;intros;apply wO;apply oc;rfl;exact We rfl rfl EV EV;rw [show s.extract (1:Int).toNat s.size=s.extract 1 s.size from rfl];refine go ?_;refine Bh (s.extract 1 s.size) ⟨ht,IX⟩
   ·have ht:s.data.toList=unS s.data.toList:=by rw [Az1 h1,aC (fun e=>h2 (by show ((s[0]).toNat:Int)=45;rw [e];rfl))]
    refine go ?_;refine Bh s ⟨ht,aK _⟩
  ·refine go ?_;refine Bh s ⟨(Avg EV).symm,aK _⟩
 obtain ⟨ht,hts⟩:=hz;refine go ?_;refine ce (fun w s=>Kg _ _ _ _) ?_;cases g1:Ff 1 ((t.size:Nat):Int) 6
 ·have hr:C3 s=(0,false):=by
   rcases Classical.em (C3 s=(0,false)) with h|h
   ·exact h
   ·exfalso;obtain ⟨v,h0,h1',hsv,q1,q2,q3,q4,q5⟩:=U5 h;rw [<-ht,C0] at q1 q2;have:Ff 1 ((t.size:Nat):Int) 6=true:=by unfold Ff;rw [av EV,av EV];rfl
    rw [this] at g1;cases g1
  rw [hr];exact AA
 obtain ⟨t1,t6⟩:1<=t.size/\t.size<=6:=by unfold Ff at g1;simp only [aw,aF] at g1;omega
 refine go ?_;refine Dk [0,2,3,4] (fun z:Nat × Nat=>[(5,aa (z.1:Nat)),(6,aa (z.2:Nat))]) (Bhs t) (fun z=>t.size - z.2) (0,0) ⟨aE _,rfl,EX⟩ fun z hz=>?_;obtain ⟨vv,k⟩:=z;obtain ⟨z1,z2,z3⟩:=hz;dsimp only at z1 z2 z3 ⊢;have hv6:vv<=999999:=by
  have:=Are (t.data.toList.take k).length _ rfl z3;have hl:(t.data.toList.take k).length<=6:=by rw [aO,C0];omega
  have:=dJ (show 0 < 10 by omega) hl;omega
 refine go ?_;refine A1 rfl (fun h1=>?_) (fun h1=>?_)
 ·have hk:k < t.size:=EV
  have hkl:k < t.data.toList.length:=by rw [C0];exact hk
  have hm:t[k]∈unS s.data.toList:=by rw [<-ht];exact aB hkl
  refine go ?_;refine Dc rfl rfl (fun h3=>?_) (fun h3=>?_)
  ·have h3:((t[k]).toNat:Int) < 48:=h3;have hr:C3 s=(0,false):=by
    rcases Classical.em (C3 s=(0,false)) with h|h
    ·exact h
    ·exfalso;obtain ⟨v,h0,h1',hsv,q1,q2,q3,q4,q5⟩:=U5 h;have:=q3 _ hm;omega
   rw [hr];exact AA
  have h3k:¬((t[k]).toNat:Int) < 48:=h3;refine go ?_;refine A1 rfl (fun h4=>?_) (fun h4=>?_)
  ·have h4:57 < ((t[k]).toNat:Int):=h4;have hr:C3 s=(0,false):=by
    rcases Classical.em (C3 s=(0,false)) with h|h
    ·exact h
    ·exfalso;obtain ⟨v,h0,h1',hsv,q1,q2,q3,q4,q5⟩:=U5 h;have:=q3 _ hm;omega
   rw [hr];exact AA
  have h4k:¬57 < ((t[k]).toNat:Int):=h4;refine go ?_;apply wO;apply oc;rfl;exact Bam rfl rfl EV EV;apply wO;apply oc;rfl;exact Aox rfl EV EV;refine Ih ?_;intros;have e48:∀x:Nat,48<=x->10 * ((vv:Nat):Int)+(((x:Nat):Int) - 48)=((10 * vv+(x - 48):Nat):Int):=fun x hx=>by omega
  rw [e48]
  rotate_left
  ·show 48<=(t[k]).toNat;omega
  refine go ?_;have etk:t.data.toList.take (k+1)=t.data.toList.take k++[t[k]]:=by rw [aR hkl];rfl
  refine Cb (10 * vv+((t[k]).toNat - 48),k+1) ⟨by show k+1<=t.size;omega,by show _=Afq (t.data.toList.take (k+1));rw [etk,Afr,<-z2],by
   show ∀c∈t.data.toList.take (k+1),48<=c.toNat/\c.toNat<=57;rw [etk];intro c hc;rcases aJ.1 hc with hc|hc
   ·exact z3 c hc
   ·rw [aL] at hc;subst hc;omega⟩ (by show t.size - (k+1) < t.size - k;omega)
 ·have hks:k=t.size:=EV
  have z2:vv=Afq (unS s.data.toList):=by rw [<-ht,z2,aW (by rw [C0];omega)]
  have htz:(unS s.data.toList).length=t.size:=by rw [<-ht,C0]
  refine go ?_;refine A1 rfl (fun h5=>?_) (fun h5=>?_)
  ·refine go ?_;refine cb (fun w st=>Vu (-((vv:Nat):Int)) EV EV w) ?_;refine go ?_;by_cases h6:bz (Lib.itoa (-((vv:Nat):Int)))=s
   ·have hr:C3 s=(-((vv:Nat):Int),true):=by rw [<-h6];exact Agz EV EV
    rw [ay (by simpa using h6),hr];exact AA
   ·rw [av h6];have hr:C3 s=(0,false):=by
     rcases Classical.em (C3 s=(0,false)) with h|h
     ·exact h
     ·exfalso;obtain ⟨v,h0,h1',hsv,q1,q2,q3,q4,q5⟩:=U5 h;rw [htz] at q5;have hv:v=-((vv:Nat):Int):=EV
      exact h6 (by rw [<-hv];exact hsv.symm)
    rw [hr];exact AA
  ·refine go ?_;refine cb (fun w st=>Vu (((vv:Nat):Int)) EV EV w) ?_;refine go ?_;by_cases h6:bz (Lib.itoa (((vv:Nat):Int)))=s
   ·have hr:C3 s=(((vv:Nat):Int),true):=by rw [<-h6];exact Agz EV EV
    rw [ay (by simpa using h6),hr];exact AA
   ·rw [av h6];have hr:C3 s=(0,false):=by
     rcases Classical.em (C3 s=(0,false)) with h|h
     ·exact h
     ·exfalso;obtain ⟨v,h0,h1',hsv,q1,q2,q3,q4,q5⟩:=U5 h;rw [htz] at q5;have hv:v=((vv:Nat):Int):=EV
      exact h6 (by rw [<-hv];exact hsv.symm)
    rw [hr];exact AA
end Go.Proofs.YtkoldibamfjghaaGreatDoor
namespace Go.Proofs.YtkoldibamfjghaaGreatDoor

open Go.RowKit
open Go.RowKit
end Go.Proofs.YtkoldibamfjghaaGreatDoor
namespace Go.Proofs.YtkoldibamfjghaaGreatDoor
open Go.RowKit
theorem Azd {w:World} {a:aj} {n cp:Nat} {xs:ai} {F:aq} (h:(Pc.sl A8 (ab a n cp) xs F).P w) (h0:0 < xs.length):∃b o,a=some ⟨b,o,none⟩/\n=xs.length/\xs.length<=cp/\b < w.heap.size/\∀(j:Nat) x,xs[j]?=some x->w.cell? ⟨b,o+j,none⟩=some (af x):=by
 have hlt:=h.2.lt;obtain ⟨hz,a',cap,hv,hl,h|⟨b,o,F',rfl,hne,rfl,hc⟩⟩:=h
 ·rw [h.1] at h0;simp at h0
 ·simp only [Value.slice.injEq] at hv;obtain ⟨rfl,rfl,rfl⟩:=hv;refine ⟨b,o,rfl,rfl,hl.1,hlt EW b EX,fun j x hj=>?_⟩;obtain ⟨hj1,rfl⟩:=cj.1 hj;obtain ⟨cs,F1,⟨rfl, -, -⟩,h2, -⟩:=hc.get j hj1;have:=h2 0 EW;simpa [A8] using this
theorem Axm (xs:ai) (sep:au) (a:aj) (cp:Nat) (F:aq) (w:World) (h:(Pc.sl A8 (ab a xs.length cp) xs F).P w) (h0:0 < xs.length) (hN:xs.length<=100000000000000) (hlen:(Lib.join (xs.map (·.data.toList)) sep.data.toList).length<=100000000000000) :
  Calls prog 61 #[ab a xs.length cp,af sep] w (RB (af (bz (Lib.join (xs.map (·.data.toList)) sep.data.toList))) w):=by
 obtain ⟨b,o,rfl, -,hcap,hb,hc⟩:=Azd h h0;exact Tryz.strings_Join b o cp xs sep w hc hb EV hcap EV
theorem Beu (n:Nat):madeCells (af ⟨#[]⟩).cells (n * 1)=(List.replicate n (af ⟨#[]⟩)).toArray:=by
 rw [cS];apply Array.ext
 ·simp [madeCells]
 ·intro i h1 h2;simp [madeCells,Value.cells,Nat.mod_one]
theorem Amq (w:World):∀n:Nat,Cw A8 w (List.replicate n (af ⟨#[]⟩)) (List.replicate n ⟨#[]⟩) []
 | 0=>⟨rfl,rfl⟩
 | n+1=>⟨[.string ⟨#[]⟩],List.replicate n (Value.string ⟨#[]⟩),[],[],by simp [cQ],EX,⟨rfl,aE _,rfl⟩,Amq w n⟩
def itB (f:Int):au:=bz (Lib.itoa f)
def zsJ (l:ar) (k:Nat):ai:=(l.take k).map itB++List.replicate (l.length - k) ⟨#[]⟩
theorem Bde {l:ar} {k:Nat} (h:k<=l.length):(zsJ l k).length=l.length:=by unfold zsJ;simp;omega
theorem Bdf {l:ar} {k:Nat} (h:k < l.length):(zsJ l k).set k (itB l[k])=zsJ l (k+1):=by
 unfold zsJ;have e:List.replicate (l.length - k) (⟨#[]⟩:au)=⟨#[]⟩::List.replicate (l.length - (k+1)) ⟨#[]⟩:=by rw [show l.length - k=(l.length - (k+1))+1 by omega,cQ]
 have hl:((l.take k).map itB).length=k:=by rw [bf,aO];omega
 rw [e,eG _ _ EV,hl,Nat.sub_self,bj,aR h,bB];simp only [cH,dg,aM,cg,aZ]
theorem Af6 (l:ar):(l.map itB).map (·.data.toList)=l.map Lib.itoa:=by
 rw [eS];exact dQ fun x _=>by simp [itB,Kd]
theorem Bbn (l:ar) (g:Nat) (F:aq) (w:World) (hf:∀f∈l,0<=f/\f.natAbs < 10 ^ (4+1)) (h0:0 < l.length) (h7:l.length<=1000) (h:(Pc.sl A8 (ab (some ⟨g,0,none⟩) l.length l.length) (l.map itB) F).P w) :
  Calls prog 61 #[ab (some ⟨g,0,none⟩) l.length l.length,af ⟨#[32]⟩] w (RB (af (bz (jn l))) w):=by
 have hml:(l.map itB).length=l.length:=bf ..;have hd:(⟨#[32]⟩:au).data.toList=[32]:=rfl;have hj:=Bep (k:=4) hf;have:=Axm (l.map itB) ⟨#[32]⟩ (some ⟨g,0,none⟩) l.length F w (by rw [hml];exact h) EV EV (by rw [hd,Af6];unfold jn at hj;omega);rw [hml,hd,Af6] at this;exact this
theorem Bbo (l:ar) (a:aj) (c:Nat) (F FT:aq) (hf:∀f∈l,0<=f/\f.natAbs < 10 ^ (4+1)) (h0:0 < l.length) (h7:l.length<=1000):FV 28 [ab a l.length c,af ⟨#[32]⟩] [.sl Bb (ab a l.length c) l F,Gk FT] (af (bz (jn l))):=by
 refine enter func28 rfl ntmps28 fun w0=>?_;refine go ?_;apply wO;refine Ap6 l.length (cs:=List.replicate l.length (af ⟨#[]⟩)) rfl rfl rfl (Beu _) EV EV fun g=>?_;refine Eh (E:=A8) (xs:=List.replicate l.length ⟨#[]⟩) (fun w=>Amq w _) ?_ JD;rw [bw,show List.replicate l.length (⟨#[]⟩:au)=zsJ l 0 by unfold zsJ;simp];refine go ?_
 refine Ca [1,4,5,11,12] (fun k:Nat=>[(13,aa (k:Nat))]) (fun k=>[.ow A8 9 (ab (some ⟨g,0,none⟩) l.length l.length) (zsJ l k) [g]]) (fun k=>k<=l.length) (fun k=>l.length - k) 0 (aE _) fun k hk=>?_;have hzl:=Bde hk;refine go ?_;refine A1 rfl (fun h1=>?_) (fun h1=>?_)
 ·have hk1:k < l.length:=EV
  have hfk:=hf _ (aB hk1);refine In (xs:=l) k ?_;rintro hi b o e1;rw [e1];refine go ?_;refine cb (fun w st=>Z3 l[k] EV EV FT w (st.get (p:=Gk FT) EX)) ?_;refine Rm (m:=1) Hv k ?_ EZ rfl EV;rintro _ g2 A cs B e2 - hr hH;cases e2;obtain ⟨rfl, -⟩:=hr w0;refine go ?_;refine P5 (itB l[k]) hH (fun w=>⟨rfl,by rw [itB,Jv,Ps hfk.1];have:=D8 4 l[k].natAbs hfk.2;unfold maxLen;omega,rfl⟩) ?_;rw [Bdf hk1];refine go ?_;refine Cb (k+1) hk1 EV
 ·have hk1:k=l.length:=EV
  subst hk1;rw [show zsJ l l.length=l.map itB by unfold zsJ;simp];have hml:(l.map itB).length=l.length:=bf ..;refine Av (E:=A8) (xs:=l.map itB) fun F8=>?_;refine go ?_;refine cb (fun w st=>Bbn l g F8 w hf h0 h7 (st.get (p:=.sl _ _ _ _) EX)) ?_;exact AA
structure RtS where
 k:Nat
 a:aj
 c:Nat
 F:aq
end Go.Proofs.YtkoldibamfjghaaGreatDoor
namespace Go.Proofs.YtkoldibamfjghaaGreatDoor

open Go.RowKit
end Go.Proofs.YtkoldibamfjghaaGreatDoor
namespace Go.Proofs.YtkoldibamfjghaaGreatDoor
open Go.RowKit
def Ra (ts:ai):Bool:=ts.all fun t=>(C3 t).2
def J8 (ts:ai):ar:=ts.map fun t=>(C3 t).1
def Rq (ts:ai):ar × Bool:=if Ra ts then (J8 ts,true) else ([],false)
theorem Ayc {ts:ai} {k:Nat} (h:k < ts.length) (hp:(C3 ts[k]).2=false):Ra ts=false:=by
 unfold Ra;rw [cP];exact ⟨ts[k],aB h,HD⟩
theorem Ap8 {ts:ai} {k:Nat} (h:k < ts.length) (hp:(C3 ts[k]).2=true) (ha:Ra (ts.take k)=true):Ra (ts.take (k+1))=true:=by
 unfold Ra at *;rw [aR h,dV,ha];simp [hp]
theorem Aoo {ts:ai} {k:Nat} (h:k < ts.length):J8 (ts.take (k+1))=J8 (ts.take k)++[(C3 ts[k]).1]:=by
 unfold J8;rw [aR h,bB];rfl
structure PeZ where
 k:Nat
 a:aj
 c:Nat
 F:aq
theorem Anr (ts:ai) (a:aj) (c:Nat) (F FT:aq) (hs:∀t∈ts,t.size<=1000000000) (hl:ts.length<=1000):Fn prog 115 [ab a ts.length c] [.sl A8 (ab a ts.length c) ts F,Gk FT] [] (fun (_:PeZ)=>True) (fun z=>.tuple #[.slice z.a (Rq ts).1.length z.c,.bool (Rq ts).2]) (fun z=>[.ow Bb 3 (.slice z.a (Rq ts).1.length z.c) (Rq ts).1 z.F]):=by
 refine enter func115 rfl ntmps115 fun w0=>?_;refine go ?_;refine Cj Bb 3 ?_;refine Ca [2,3,9,10] (fun z:PeZ=>[(4,.slice z.a (J8 (ts.take z.k)).length z.c),(11,aa (z.k:Nat))]) (fun z=>[.ow Bb 3 (.slice z.a (J8 (ts.take z.k)).length z.c) (J8 (ts.take z.k)) z.F]) (fun z=>z.k<=ts.length/\Ra (ts.take z.k)=true) (fun z=>ts.length - z.k) ⟨0,none,0,[]⟩ ⟨aE _,rfl⟩ fun z hz=>?_;obtain ⟨z2,z3⟩:=hz;have hvl:(J8 (ts.take z.k)).length=z.k:=by unfold J8;rw [bf,aO];omega
 refine go ?_;refine A1 rfl (fun h1=>?_) (fun h1=>?_)
 ·have hk:z.k < ts.length:=EV
  have hx:=hs _ (aB hk);refine Mg (a:=a) (xs:=ts) z.k ?_;rintro hi b o e s1;rw [e];refine go ?_;refine cb (fun w st=>(Afe ts[z.k] FT hx).val w (I4 (st.get (p:=Gk FT) EX))) ?_;cases g:(C3 ts[z.k]).2
  ·rw [show Rq ts=([],false) by unfold Rq;rw [Ayc hk g];rfl];refine Cj Bb 3 ?_;refine go ?_;refine ret ⟨0,none,0,[]⟩ trivial rfl
  refine Ih ?_;intros;apply wO;refine Np (Oq (C3 ts[z.k]).1) Da fun a9 c9 F9=>?_;refine go ?_;rw [<-Aoo hk];refine Cb ⟨z.k+1,a9,c9,F9⟩ ⟨by show z.k+1<=ts.length;omega,Ap8 hk g z3⟩ (by show ts.length - (z.k+1) < ts.length - z.k;omega)
 ·have hk:ts.take z.k=ts:=aW EV;rw [hk] at z3 hvl ⊢;rw [show Rq ts=(J8 ts,true) by unfold Rq;rw [z3];rfl];exact CI
theorem Avk (t:Bs):(Ea 32 t).length<=t.length+1/\∀u∈Ea 32 t,u.length<=t.length:=by
 have hcb:=Lib.countB_le ⟨#[32]⟩ EW (bz t).size (bz t) (aK _);have hlen:=Lib.splitB_all ⟨#[32]⟩ EW 0 _ (bz t) rfl;rw [Ahc,Kd,bf] at hlen;rw [Jv] at hcb;refine ⟨EV,fun u hu=>?_⟩;have h:bz u∈(Ea 32 t).map bz:=bO.2 ⟨u,hu,rfl⟩;have e:=Ahc 32 (bz t);rw [Kd] at e;rw [<-e] at h;have:=V1 ⟨#[32]⟩ (bz t).size _ (bz t) (aK _) (bz u) h;rw [Jv,Jv] at this;exact this
def E7 (x:A9):ar × Bool:=if By x then (x.An.map (·.Ae),true) else ([],false)
theorem Abz (x:A9) (v:Value) (F:aq):Fn prog 197 [v] [.isv Bz v x F] [] (fun (_:OwR)=>True) (fun s=>.tuple #[.slice s.a (E7 x).1.length s.c,.bool (E7 x).2]) (fun s=>[.ow Bb 3 (.slice s.a (E7 x).1.length s.c) (E7 x).1 s.F]):=by
 refine enter func197 rfl ntmps197 fun w0=>?_;refine Fj (v:=v) (x:=x) (F:=F) ?_;rintro a1 c1 F1 a2 c2 F2 rfl l1 l2;unfold maxLen at l1 l2;refine Cj Bb 3 ?_;refine go ?_;intros;refine Be (Ts x _ F) fun _ _=>?_;cases g1:By x
 ·rw [show E7 x=([],false) by unfold E7;rw [g1];rfl];exact BB
 have g5:=Ej.1 g1;have hq8:=(Di.1 g5.q).2.1;rw [show E7 x=(x.An.map (·.Ae),true) by unfold E7;rw [g1];rfl];refine go ?_;refine Ca [2,3,11,12] (fun s:AwS=>[(13,aa (s.i:Nat)),(4,.slice s.a ((x.An.take s.i).map (·.Ae)).length s.c)]) (fun s=>[.ow Bb 3 (.slice s.a ((x.An.take s.i).map (·.Ae)).length s.c) ((x.An.take s.i).map (·.Ae)) s.F]) (fun s=>s.i<=x.An.length) (fun s=>x.An.length - s.i) ⟨0,none,0,[]⟩ (aE _) fun s hs=>?_;obtain ⟨i,a3,c3,F3⟩:=s;dsimp only at hs ⊢;have hl3:((x.An.take i).map (·.Ae)).length<=i:=FB
 refine go ?_;refine A1 rfl (fun h4=>?_) (fun h4=>?_)
 ·have hi:i < x.An.length:=EV
  have eo:(x.An.take (i+1)).map (·.Ae)=(x.An.take i).map (·.Ae)++[x.An[i].Ae]:=by rw [cy,aD hi,bB];rfl
  exact BZ
 have hi:i=x.An.length:=EV
 subst hi;rw [bm];exact BB
def Bgu:Bs:=[110,111,110,101]
def jnW (sep:Bs) (l:ai):au:=if l=[] then bz Bgu else bz (Lib.join (l.map fun e=>e.data.toList) sep)
def Xd (E:ai):au:=jnW [44,32] E
def Uz (l:ar):au:=if l=[] then bz Bgu else bz (jn l)
def Ahp:Bs:=[115,101,110,100]
def Aj7:Bs:=[116,105,99,107]
def Aop:Bs:=[100,111,119,110]
def wUp:Bs:=[117,112]
def Aor:Bs:=[108,111,115,101]
def Bab:Bs:=[99,117,116]
def Wb:Bs:=[100,114,97,105,110]
def Abw:Bs:=[108,101,97,100]
def Wc:Bs:=[113,117,101,117,101,100]
def Yc:Bs:=[115,101,116,116,108,101,100]
def Bc5:Bs:=[121,101,115]
def wNo:Bs:=[110,111]
def wOk:Bs:=[111,107]
def Aho:Bs:=[97,119,97,105,116]
def Ahq:Bs:=[115,108,111,116,115]
def Nh:Bs:=[102,97,99,101,115]
def Baa:Bs:=[98,97,100]
def Aoq:Bs:=[102,117,108,108]
def Bac:Bs:=[108,111,110,103]
def P7 (w:Bs):Int:=if w=Aop then 2 else if w=wUp then 5 else if w=Aor then 3 else if w=Bab then 6 else 0
def I6 (W:List Bs):Option Jh :=
 if atW W 0=Ahp/\W.length=1 then some ⟨1,0,⟨#[]⟩⟩
 else if atW W 0=Ahp/\W.length=2/\atW W 1≠[] then some ⟨1,0,bz (atW W 1)⟩
 else if atW W 0=Aj7/\W.length=1 then some ⟨4,0,⟨#[]⟩⟩
 else if W.length≠2 then none
 else if P7 (atW W 0)≠0/\(C3 (bz (atW W 1))).2=true then some ⟨P7 (atW W 0),(C3 (bz (atW W 1))).1,⟨#[]⟩⟩ else none
abbrev NR:=Dt × au
def Kb (n:Dt) (s:Jh):Option NR:=if Do s then (Bl n s).map fun y=>(y.1,if s.Cq=2\/s.Cq=4 then Xd y.2 else bz wOk) else none
def Ku (n:Dt) (l:Bs):Option au :=
 if l=Abw then some (bz (Lib.itoa (Lo n.Ab.Aa)))
 else if l=Wc then some (bz (Lib.itoa ((qd n.down:Nat):Int))++⟨#[32]⟩++bz (Lib.itoa ((qd n.up:Nat):Int)))
 else if l=Yc then some (if Y7 n then bz Bc5 else bz wNo)
 else none
def Te (n:Dt) (i:Int):Bool:=Es n.Ap.Ad i
def Jz (n:Dt) (w:Bs) (l:ar):Option au :=
 if Ff 1 (l.getD 0 0) ((n.Ap.Ad.length:Int) - 1) then
  if w=Aho/\l.length=1/\Te n (l.getD 0 0)=true then some (Uz ((P4 n (l.getD 0 0).toNat).An.map (·.Ae)))
  else if w=Ahq/\l.length=1/\Te n (l.getD 0 0)=true/\(P4 n (l.getD 0 0).toNat).Bd=true then some (Aea (P4 n (l.getD 0 0).toNat).Aa)
  else if w=Nh/\l.length=2/\Te n (l.getD 0 0)=false then (if B8 (l.getD 1 0) then some (Uz (Lf (Pp n (l.getD 0 0).toNat) (l.getD 1 0))) else none)
  else none
 else none
def P3 (n:Dt) (r:Option au):Option NR:=r.map fun t=>(n,t)
def Gb (line:au):List Bs:=Ea 32 line.data.toList
def Ou (n:Dt) (line:au):Option NR :=
 match I6 (Gb line) with
 | some s=>Kb n s
 | none =>
  if line.data.toList=Wb then some ((Qf n).1,Xd (Qf n).2)
  else if (Gb line).length=1 then P3 n (Ku n line.data.toList)
  else if Ra (((Gb line).drop 1).map bz) then P3 n (Jz n (atW (Gb line) 0) (J8 (((Gb line).drop 1).map bz)))
  else none
def Py (n:Dt) (line:au):au:=match Ou n line with|some r=>r.2|none=>⟨#[63]⟩
def Hl (n:Dt) (line:au):Dt:=match Ou n line with|some r=>r.1|none=>n
def Rk (t:au):au:=if 200 < t.size then bz Bac else t
def Of (line:au):Bool:=Lg.By line ⟨#[]⟩
def P8 (l:Log) (line Eg:au):Log:=⟨l.Bj,l.pending++bz (Ka l.count.toNat line.data.toList Eg.data.toList),l.count+1⟩
def Rh (c:Cu) (line:au):Cu × au :=
 if Of line then
  if c.Im.count=60 then (c,bz Aoq) else (⟨Hl c.Bt line,P8 c.Im line (Rk (Py c.Bt line))⟩,Rk (Py c.Bt line))
 else (c,bz Baa)
def Bp (c:Cu) (line:au):Cu × au:=if E9 c then Rh c line else (c,bz wNo)
/-! what a command replies can stand in a log; the console stays valid -/
theorem Xs {l:Bs} (h:Y2 l):Y2 (bz l).data.toList:=by rw [Kd];exact h
theorem Yr {l:Bs} (h:∀b∈l,97<=b.toNat/\b.toNat<=122):Y2 l:=fun b hb=>by
 have:=h b hb;exact CG
theorem Axl {sep:Bs} (hs:Y2 sep):∀{l:List Bs},(∀x∈l,Y2 x)->Y2 (Lib.join l sep)
 | [],_=>fun b hb=>by simp [Lib.join] at hb
 | x::r,h=>by
  rw [Lib.join_cons];refine (h x EX).app ?_;unfold Lib.joinTail;intro b hb;obtain ⟨y,hy,hb⟩:=List.mem_flatten.1 hb;obtain ⟨z,hz,rfl⟩:=bO.1 hy;exact hs.app (h z IS) b hb
theorem Bgn {sep:Bs} (hs:Y2 sep) {l:ai} (h:∀x∈l,Y2 x.data.toList):Y2 (jnW sep l).data.toList:=by
 unfold jnW
 split
 ·exact Xs (Yr EW)
 ·exact Xs (Axl hs fun x hx=>by obtain ⟨y,hy,rfl⟩:=bO.1 hx;exact h y hy)
theorem Arf {E:ai} (h:∀e∈E,evN e):Y2 (Xd E).data.toList:=Bgn (fun b hb=>by
 rcases aG.1 hb with rfl|hb
 ·decide
 ·rw [aL.1 hb];decide) fun x hx=>(Yk (h x hx)).1
theorem Aks {n:Int} (h:0<=n):Y2 (Lib.itoa n):=fun b hb=>by
 rw [Ps h] at hb;have:=Pb n.natAbs b hb;exact CG
theorem Bh2 {l:ar} (h:∀x∈l,0<=x):Y2 (jn l):=Axl (fun b hb=>by rw [aL.1 hb];decide) fun x hx=>by
 obtain ⟨y,hy,rfl⟩:=bO.1 hx;exact Aks (h y hy)
theorem Arr {l:ar} (h:∀x∈l,0<=x):Y2 (Uz l).data.toList:=by
 unfold Uz
 split
 ·exact Xs (Yr EW)
 ·exact Xs (Bh2 h)
theorem Ap9 {s:Hz} (h:Hc s=true):∀c∈s.Dj.data.toList,97<=c.toNat/\c.toNat<=122:=by
 unfold Hc Pk T7 at h;simp only [aw,bW,aF,aV] at h;intro c hc;have h2:=h.1.2 c hc;unfold low Ff at h2;simp only [aw,aF] at h2;omega
theorem Bct {w:Aj} (h:Cy w=true):Y2 (Aea w).data.toList:=by
 have hok:∀s∈w.Ao,Hc s=true:=by
  unfold Cy at h;simp only [aw] at h;exact aV.1 h.1.2
 have hw:=Ij h;have key:∀k,Y2 (slT w k).data.toList:=by
  intro k;unfold slT;have h0:Y2 (bz (Lib.decDigits w.next.toNat)++⟨#[58]⟩:au).data.toList:=by
   rw [Hh,Kd];refine Y2.app (fun b hb=>?_) fun b hb=>by rw [aL.1 (show b∈[58] from hb)];decide
   have:=Pb w.next.toNat b hb
   exact CG
  have hm:∀s∈w.Ao.take k,Hc s=true:=fun s hs=>hok s (bR hs);clear hok h;revert hm;generalize w.Ao.take k=L;intro hm;generalize (bz (Lib.decDigits w.next.toNat)++⟨#[58]⟩:au)=a at h0
  induction L generalizing a with
  | nil=>exact h0
  | cons s r ih =>
   refine ih (fun x hx=>hm x (aN _ hx)) (a++(⟨#[32]⟩++Abr s)) ?_;rw [Hh,Hh];refine h0.app (Y2.app (fun b hb=>by rw [aL.1 (show b∈[32] from hb)];decide) ?_);unfold Abr
   split
   ·split
    ·exact fun b hb=>by rw [aL.1 (show b∈[46] from hb)];decide
    ·exact Yr (Ap9 (hm s EX))
   ·exact fun b hb=>by rw [aL.1 (show b∈[63] from hb)];decide
 exact key _
theorem Bbz {n:Dt} {s:Jh} {r:NR} (hg:At n=true) (h:Kb n s=some r):At r.1=true/\Y2 r.2.data.toList:=by
 unfold Kb at h
 split at h
 ·rename_i hs;cases e:Bl n s with
  | none=>rw [e] at h;cases h
  | some y =>
   rw [e] at h;cases h;refine ⟨Mn hg hs e,?_⟩;dsimp only
   split
   ·exact Arf (Aqs hg hs e)
   ·exact Xs (Yr EW)
 ·cases h
theorem Bcb {n:Dt} {l:Bs} {t:au} (h:Ku n l=some t):Y2 t.data.toList:=by
 unfold Ku at h
 split at h
 ·cases h;exact Xs (Aks (Abb _).1)
 ·split at h
  ·cases h;rw [Hh,Hh,Kd,Kd];exact ((Aks (dB _)).app fun b hb=>by rw [aL.1 (show b∈[32] from hb)];decide).app (Aks (dB _))
  ·split at h
   ·cases h
    split <;> exact Xs (Yr EW)
   ·cases h
theorem Be2 {n:Dt} (hg:At n=true) (i:Nat):Lz (P4 n i):=by
 by_cases hi:i < n.Ac.length
 ·rw [Gp hi];exact Ej.1 ((Hx hg).2.1 _ (aB hi))
 ·unfold P4;rw [br,bn EV];exact Ej.1 EW
theorem Bgi {n:Dt} (hg:At n=true) (i:Nat):Ba (Pp n i)=true:=by
 by_cases hi:i < n.Af.length
 ·rw [Js hi];exact (Hx hg).1 _ (aB hi)
 ·unfold Pp;rw [br,bn EV];decide
theorem Ba2 {n:Dt} {w:Bs} {l:ar} {t:au} (hg:At n=true) (hf:∀i k,∀x∈Lf (Pp n i) k,0<=x) (h:Jz n w l=some t):Y2 t.data.toList:=by
 unfold Jz at h;have hr:=Be2 hg (l.getD 0 0).toNat
 split at h
 ·split at h
  ·cases h;refine Arr fun x hx=>?_;obtain ⟨q,hq,rfl⟩:=bO.1 hx;exact (A4.1 (X4 hr hq).1).1
  ·split at h
   ·cases h;exact Bct hr.w
   ·split at h
    ·split at h
     ·cases h;exact Arr (hf _ _)
     ·cases h
    ·cases h
 ·cases h
theorem Aiq {e:Bf} {k:Int} (hg:Ba e=true):∀x∈Lf e k,1<=x/\x<=7:=by
 intro x hx;unfold Lf at hx
 split at hx
 ·rename_i y hy;have h2:=(Hb.1 hg).2.2.1 y (bX hy);unfold Ky at h2;simp only [aw] at h2;exact (Yv h2.2.2.1).2 x hx
 ·cases hx
theorem As5 {n:Dt} (hg:At n=true) (i:Nat) (k:Int):∀x∈Lf (Pp n i) k,1<=x/\x<=7:=fun x hx=>Aiq (Bgi hg i) x hx
theorem Ay4 {n:Dt} {line:au} {r:NR} (hg:At n=true) (h:Ou n line=some r):At r.1=true/\Y2 r.2.data.toList:=by
 unfold Ou at h
 split at h
 ·exact Bbz hg h
 ·split at h
  ·cases h;exact ⟨(Awx hg).1,Arf (Bec hg)⟩
  ·split at h
   ·unfold P3 at h;cases e:Ku n line.data.toList with
    | none=>rw [e] at h;cases h
    | some t=>rw [e] at h;cases h;exact ⟨hg,Bcb e⟩
   ·split at h
    ·unfold P3 at h;cases e:Jz n (atW (Gb line) 0) (J8 (((Gb line).drop 1).map bz)) with
     | none=>rw [e] at h;cases h
     | some t=>rw [e] at h;cases h;exact ⟨hg,Ba2 hg (fun i k x hx=>by have:=As5 hg i k x hx;omega) e⟩
    ·cases h
theorem Aju {n:Dt} {line:au} (hg:At n=true):At (Hl n line)=true:=by
 unfold Hl;cases e:Ou n line with
 | none=>exact hg
 | some r=>exact (Ay4 hg e).1
theorem Ala {n:Dt} {line:au} (hg:At n=true):Y2 (Py n line).data.toList:=by
 unfold Py;cases e:Ou n line with
 | none=>exact fun b hb=>by rw [aL.1 (show b∈[63] from hb)];decide
 | some r=>exact (Ay4 hg e).2
theorem Akn {t:au} (h:Y2 t.data.toList):Y2 (Rk t).data.toList/\(Rk t).size<=200:=by
 unfold Rk
 split
 ·exact ⟨Xs (Yr EW),EW⟩
 ·exact ⟨h,EV⟩
theorem Vj {line Eg:au} (h:Of line=true) (h2:Y2 Eg.data.toList) (h3:Eg.size<=200):Lg.By line Eg=true:=by
 unfold Of at h;unfold Lg.By at h ⊢;simp only [aw] at h ⊢;refine ⟨⟨⟨⟨h.1.1.1.1,av EV⟩,h.1.1.2⟩,?_⟩,h.2⟩;unfold Iy;rw [aV];exact fun b hb=>Adz.2 (h2 b hb)
theorem Agg {l:Log} {line Eg:au} (hv:Fs l.Bj.data.toList l.pending.data.toList l.count=true) (hc:¬l.count=60) (hr:Lg.By line Eg=true) :
  Fs (P8 l line Eg).Bj.data.toList (P8 l line Eg).pending.data.toList (P8 l line Eg).count=true /\
  Bm ((P8 l line Eg).Bj.data.toList++(P8 l line Eg).pending.data.toList)=Bm (l.Bj.data.toList++l.pending.data.toList)++[Ka l.count.toNat line.data.toList Eg.data.toList]:=by
 have hV:=Lg.Abv hv;have hk:=(Lq (l.Bj.data.toList++l.pending.data.toList)).2;have hcn:=hV.cnt;have hx:Y3 (Bm (l.Bj.data.toList++l.pending.data.toList)).length (Ka l.count.toNat line.data.toList Eg.data.toList)=true:=Tw.2 ⟨line.data.toList,Eg.data.toList,EV,by rw [<-Lg.M8];exact hr,by rw [hcn];rfl⟩;obtain ⟨h1,h2⟩:=hV.append hx;have e:(P8 l line Eg).pending.data.toList=l.pending.data.toList++Ka l.count.toNat line.data.toList Eg.data.toList:=by unfold P8;rw [Hh,Kd]
 rw [e];exact ⟨h1.bool,h2⟩
theorem Xe {c:Cu} {line:au} (h:E9 c=true):E9 (Rh c line).1=true:=by
 unfold Rh
 split
 ·rename_i hl
  split
  ·exact h
  ·rename_i hc;unfold E9 at h ⊢;rw [aw] at h ⊢;have ht:=Akn (Ala (line:=line) h.1);exact ⟨Aju h.1,(Agg h.2 hc (Vj hl ht.1 ht.2)).1⟩
 ·exact h
theorem Fn.map {P:Program} {f:FuncId} {args:am} {A M:List Pc} {σ τ:Type} {C:σ->Prop} {C':τ->Prop} {v:σ->Value} {v':τ->Value} {N:σ->List Pc} {N':τ->List Pc} (h:Fn P f args A M C v N) (m:σ->τ) (hC:∀s,C s->C' (m s)) (hv:∀s,v s=v' (m s)) (hN:∀s,N s=N' (m s)):Fn P f args A M C' v' N':=fun w hH hs=>by
 refine (h w hH hs).mono ?_;rintro e w' ⟨s,h1,h2,h3,h4,h5,h6⟩;exact ⟨m s,hC s h1,by rw [<-hv];exact h2,by rw [<-hN];exact h3,by rw [<-hN];exact h4,h5,by rw [<-hN];exact h6⟩
theorem Yb {d p:au} {k:Int} (h:Fs d.data.toList p.data.toList k=true):d.size+p.size<=30000:=by
 unfold Fs at h;simp only [aw,aF,C0] at h;exact h.1
theorem Bet:madeCells (Value.int .u8 0).cells (3 * 1)=([.int .u8 0,.int .u8 0,.int .u8 0]:am).toArray:=by
 apply fH;rw [madeCells,Array.toList_map,Array.toList_range];rfl
theorem Bcj {c r:au} (h:Lg.By c r=true):c.size<=160/\r.size<=200:=by
 unfold Lg.By Ff at h;simp only [aw,aF] at h;omega
theorem Ag9 (d p c r:au) (k:Int) (hv:Fs d.data.toList p.data.toList k=true) (hc:c.size<=maxLen) (hr:r.size<=maxLen):Fn prog 36 [.agg #[af d,af p,aa k],.agg #[af c,af r]] [] [] (fun (z:au × Int × Int)=>Fs d.data.toList z.1.data.toList z.2.1=true) (fun z=>.tuple #[.agg #[af d,af z.1,aa z.2.1],aa z.2.2]) (fun _=>[]):=by
 obtain ⟨k0,k60⟩:=Lg.T0 hv;have hz:=Yb hv;cases hg:Lg.By c r
 ·refine enter func36 rfl ntmps36 fun w0=>?_;refine go ?_;intros;refine Be (Xr d p k EV) fun _ _=>?_;rw [hv];refine go ?_;refine cb (fun w st=>Lg.Sq c r w hc hr) ?_;rw [hg];refine go ?_;refine ret (p,k,1) hv rfl
 by_cases hk:k=60
 ·refine enter func36 rfl ntmps36 fun w0=>?_;refine go ?_;intros;refine Be (Xr d p k EV) fun _ _=>?_;rw [hv];refine go ?_;refine cb (fun w st=>Lg.Sq c r w hc hr) ?_;rw [hg];refine go ?_;refine A1 rfl (fun h3=>?_) (fun h3=>?_)
  ·refine go ?_;refine ret (p,k,2) hv rfl
  ·exact absurd hk h3
 obtain ⟨n,rfl⟩:∃n:Nat,k=n:=⟨k.toNat,EV⟩;obtain ⟨hs1,hs2⟩:=Bcj hg;exact (Ajy d p c r n hv EV hg hz hs1 hs2).map (fun _=>(p++Lg.bs (Ka n c.data.toList r.data.toList),(n:Int)+1,0)) (fun _ _=>(Agg (l:=⟨d,p,n⟩) hv hk hg).1) (fun _=>rfl) (fun _=>rfl)
theorem Aqq (d p:au) (k:Int) (hv:Fs d.data.toList p.data.toList k=true):FV 175 [.agg #[af d,af p,aa k]] [] (.tuple #[.agg #[af (d++p),af ⟨#[]⟩,aa k],.bool true]):=by
 have hz:=Yb hv;refine enter func175 rfl ntmps175 fun w0=>?_;refine go ?_;intros;refine Be (Xr d p k EV) fun _ _=>?_;rw [hv];exact AA
theorem Ane (B g:Nat) (F:CuF) (s:N1) (ok:Hw B s) (hB:B<=700000000000) :
  Fn prog 174 [Gc g 0 0] [.sl Jq (ab F.a F.B4.length F.c) F.B4 F.bs] [.row g 60 0 [] [ab F.a F.B4.length F.c,aa (s.k:Nat),.int .u64 s.Hm] []] (fun (z:(au × au) × N1)=>z.1.1.size<=20/\z.1.2.size<=20/\Hw (B+20) z.2) (fun z=>.agg #[af z.1.1,af z.1.2]) (fun z=>[.row g 60 0 [] [ab F.a F.B4.length F.c,aa (z.2.k:Nat),.int .u64 z.2.Hm] []]):=by
 refine enter func174 rfl ntmps174 fun w0=>?_;refine Ih ?_;intros;refine Eh (xs:=[⟨#[99,111,117,110,116]⟩,⟨#[115,111,114,116,32,109,101,114,103,101]⟩,⟨#[120]⟩,⟨#[115,101,108,101,99,116,32,50]⟩,⟨#[48,32,49]⟩]) (fun w=>Qg w _ EW) ?_ EW;refine Av (E:=A8) fun G2=>?_;refine go ?_;refine Be (Aeo _ g F _ [⟨#[99,111,117,110,116]⟩,⟨#[115,111,114,116,32,109,101,114,103,101]⟩,⟨#[120]⟩,⟨#[115,101,108,101,99,116,32,50]⟩,⟨#[48,32,49]⟩] _ s ok EV EW EW) fun q hq=>?_;obtain ⟨u1,s1⟩:=q;obtain ⟨hq,h1⟩:=hq;dsimp only at hq h1 ⊢
 have zu1:u1.size<=20:=(by decide:∀y∈([⟨#[99,111,117,110,116]⟩,⟨#[115,111,114,116,32,109,101,114,103,101]⟩,⟨#[120]⟩,⟨#[115,101,108,101,99,116,32,50]⟩,⟨#[48,32,49]⟩]:ai),y.size<=20) u1 hq;clear hq;refine Ih ?_;intros;refine Eh (xs:=[⟨#[]⟩,⟨#[51]⟩,⟨#[63]⟩,⟨#[97,64,98]⟩,⟨#[51,32,49,32,50]⟩]) (fun w=>Qg w _ EW) ?_ EW;refine Av (E:=A8) fun G2=>?_;refine go ?_;refine Be (Aeo _ g F _ [⟨#[]⟩,⟨#[51]⟩,⟨#[63]⟩,⟨#[97,64,98]⟩,⟨#[51,32,49,32,50]⟩] _ s1 h1 EV EW EW) fun q hq=>?_;obtain ⟨u2,s2⟩:=q;obtain ⟨hq,h2⟩:=hq;dsimp only at hq h2 ⊢
 have zu2:u2.size<=20:=(by decide:∀y∈([⟨#[]⟩,⟨#[51]⟩,⟨#[63]⟩,⟨#[97,64,98]⟩,⟨#[51,32,49,32,50]⟩]:ai),y.size<=20) u2 hq;clear hq;refine go ?_;intros;refine Be (Ee _ g F 24 s2 h2 EV EV) fun y hy=>?_;obtain ⟨k3,s3⟩:=y;obtain ⟨rk3,h3⟩:=hy;dsimp only at rk3 h3 ⊢;refine go ?_;refine A1 rfl (fun e0=>?_) (fun e0=>?_)
 ·refine go ?_;apply wO;refine Ap6 (cs:=[.int .u8 0,.int .u8 0,.int .u8 0]) 3 rfl rfl rfl Bet EW EW fun g9=>?_;apply wO;apply oc;rfl;exact Bfn (l:=[0,0,0]) (t:=5) rfl FA rfl;refine Ih ?_;intros;refine Eh (xs:=[⟨#[]⟩,⟨#[97,64,98]⟩,⟨#[97,35]⟩,⟨#[10]⟩,⟨#[0,0,0]⟩]) (fun w=>Qg w _ EW) ?_ EW;refine Av (E:=A8) fun G2=>?_;refine go ?_;refine Be (Aeo _ g F _ [⟨#[]⟩,⟨#[97,64,98]⟩,⟨#[97,35]⟩,⟨#[10]⟩,⟨#[0,0,0]⟩] _ s3 h3 EV EW EW) fun q hq=>?_;obtain ⟨u3,s4⟩:=q;obtain ⟨hq,h4⟩:=hq;dsimp only at hq h4 ⊢
  have zu3:u3.size<=20:=(by decide:∀y∈([⟨#[]⟩,⟨#[97,64,98]⟩,⟨#[97,35]⟩,⟨#[10]⟩,⟨#[0,0,0]⟩]:ai),y.size<=20) u3 hq;clear hq;refine go ?_;refine ret ((u3,u2),s4) ⟨zu3,zu2,h4.mono EV⟩ rfl
 refine go ?_;refine A1 rfl (fun e1=>?_) (fun e1=>?_)
 ·
  refine Ih ?_;intros;refine Eh (xs:=[⟨#[35]⟩,⟨#[10]⟩,⟨#[127]⟩]) (fun w=>Qg w _ EW) ?_ EW;refine Av (E:=A8) fun G2=>?_;refine go ?_;refine Be (Aeo _ g F _ [⟨#[35]⟩,⟨#[10]⟩,⟨#[127]⟩] _ s3 h3 EV EW EW) fun q hq=>?_;obtain ⟨u3,s4⟩:=q;obtain ⟨hq,h4⟩:=hq;dsimp only at hq h4 ⊢;have zu3:u3.size<=20:=(by decide:∀y∈([⟨#[35]⟩,⟨#[10]⟩,⟨#[127]⟩]:ai),y.size<=20) u3 hq;clear hq;refine go ?_;refine ret ((u1,u3),s4) ⟨zu1,zu3,h4.mono EV⟩ rfl
 ·refine go ?_;refine ret ((u1,u2),s3) ⟨zu1,zu2,h3.mono EV⟩ rfl
structure LgD where
 l:Log
 i:Nat
 s:N1
structure Bhn (B:Nat) (z:LgD):Prop where
 v:Fs z.l.Bj.data.toList z.l.pending.data.toList z.l.count=true
 i:z.i<=6
 s:Hw (B+20+30 * (6 - z.i)) z.s
theorem Aqu {d p:au} {k:Int} (h:Fs d.data.toList p.data.toList k=true):Fs (d++p).data.toList (⟨#[]⟩:au).data.toList k=true:=by
 rw [Hh];exact (Lg.Abv h).sync.bool
theorem Bgo (B g:Nat) (F:CuF) (s:N1) (ok:Hw B s) (hB:B<=600000000000) :
  Fn prog 93 [Gc g 0 0] [.sl Jq (ab F.a F.B4.length F.c) F.B4 F.bs] [.row g 60 0 [] [ab F.a F.B4.length F.c,aa (s.k:Nat),.int .u64 s.Hm] []] (fun (z:LgD)=>Fs z.l.Bj.data.toList z.l.pending.data.toList z.l.count=true/\Hw (B+300) z.s) (fun z=>.agg #[af z.l.Bj,af z.l.pending,aa z.l.count]) (fun z=>[.row g 60 0 [] [ab F.a F.B4.length F.c,aa (z.s.k:Nat),.int .u64 z.s.Hm] []]):=by
 refine enter func93 rfl ntmps93 fun w0=>?_;refine go ?_;intros;rename_i g2 g3;refine Be (Ee _ g F 7 s ok EV EV) fun y hy=>?_;obtain ⟨r0,s1⟩:=y;obtain ⟨rr0,h1⟩:=hy;dsimp only at rr0 h1 ⊢;refine go ?_;refine Ca [0,2,3] (fun z:LgD=>[(4,aa (z.i:Nat))]) (fun z=>[.row g3 39 0 [] [af z.l.Bj,af z.l.pending,aa z.l.count] [],.row g 60 0 [] [ab F.a F.B4.length F.c,aa (z.s.k:Nat),.int .u64 z.s.Hm] []]) (Bhn B) (fun z=>z.i) ⟨⟨⟨#[]⟩,⟨#[]⟩,0⟩,r0,s1⟩ ⟨by show Fs [] [] 0=true;decide,by show r0<=6;omega,h1.mono (by show _<=B+20+30 * (6 - r0);omega)⟩ fun z hz=>?_
 obtain ⟨z1,z2,z3⟩:=hz;refine go ?_;refine A1 rfl (fun h3=>?_) (fun h3=>?_)
 ·have hi0:0 < z.i:=EV
  refine Ih ?_;intros;refine Ar [0] [4,5,6,7] ?_;refine dtl 0 ?_;refine dtl 1 ?_;refine dN 2 ?_;refine oC ?_;refine Be (Ane _ g F z.s z3 EV) fun p hp=>?_;obtain ⟨⟨c,r⟩,s5⟩:=p;obtain ⟨hc5,hr5,h5⟩:=hp;dsimp only at hc5 hr5 h5 ⊢;refine dk ?_;refine dN 3 ?_;refine oC ?_;refine Be (Ag9 z.l.Bj z.l.pending c r z.l.count z1 FC FC) fun p hp=>?_;obtain ⟨p6,k6,e6⟩:=p;dsimp only at hp ⊢;refine dk ?_;refine R5 4 ?_;refine R5 5 ?_;refine R5 6 ?_;refine dN 7 ?_;refine oS ?_;refine N2 ?_;refine dd ?_;refine go ?_
  refine Be (Abe _ g F 4 s5 h5 EV EV) fun p hp=>?_;obtain ⟨b,s7⟩:=p;obtain ⟨-,h7⟩:=hp;dsimp only at h7 ⊢;refine go ?_;cases b
  ·refine go ?_;rw [show ((z.i:Nat):Int) - 1=((z.i - 1:Nat):Int) by omega];refine Cb ⟨⟨z.l.Bj,p6,k6⟩,z.i - 1,s7⟩ ⟨hp,by show z.i - 1<=6;omega,h7.mono (by show _<=B+20+30 * (6 - (z.i - 1));omega)⟩ GJ
  ·refine go ?_;refine Be (Aqq z.l.Bj p6 k6 hp) fun _ _=>?_;refine go ?_;rw [show ((z.i:Nat):Int) - 1=((z.i - 1:Nat):Int) by omega];refine Cb ⟨⟨z.l.Bj++p6,⟨#[]⟩,k6⟩,z.i - 1,s7⟩ ⟨Aqu hp,by show z.i - 1<=6;omega,h7.mono (by show _<=B+20+30 * (6 - (z.i - 1));omega)⟩ GJ
 refine go ?_;refine ret z ⟨z1,z3.mono EV⟩ rfl
theorem Awf (B g:Nat) (F:CuF) (s:N1) (ok:Hw B s) (hB:B<=500000000000) :
  Fn prog 49 [Gc g 0 0] [.sl Jq (ab F.a F.B4.length F.c) F.B4 F.bs] [.row g 60 0 [] [ab F.a F.B4.length F.c,aa (s.k:Nat),.int .u64 s.Hm] []] (fun (z:LgD)=>z.l.Bj.size+z.l.pending.size<=70000/\Hw (B+400) z.s) (fun z=>.agg #[af z.l.Bj,af z.l.pending,aa z.l.count]) (fun z=>[.row g 60 0 [] [ab F.a F.B4.length F.c,aa (z.s.k:Nat),.int .u64 z.s.Hm] []]):=by
 refine enter func49 rfl ntmps49 fun w0=>?_;refine go ?_;intros;rename_i g2;refine Be (Bgo _ g F s ok EV) fun z hz=>?_;obtain ⟨⟨d,p,k⟩,i0,s1⟩:=z;obtain ⟨hv,h1⟩:=hz;dsimp only at hv h1 ⊢;obtain ⟨k0,k60⟩:=Lg.T0 hv;have hz:=Yb hv;refine go ?_;intros;refine Be (Ee _ g F 24 s1 h1 EV EV) fun y hy=>?_;obtain ⟨k1,s2⟩:=y;obtain ⟨rk1,h2⟩:=hy;dsimp only at rk1 h2 ⊢;refine go ?_;refine A1 rfl (fun e0=>?_) (fun e0=>?_)
 ·refine go ?_;refine ret ⟨⟨d,p,k+1⟩,0,s2⟩ ⟨by show d.size+p.size<=_;omega,h2.mono EV⟩ rfl
 refine go ?_;refine A1 rfl (fun e1=>?_) (fun e1=>?_)
 ·refine go ?_;refine Be (An8 _ g F s2 p ⟨#[35,64,10,48,49]⟩ h2 EV EV EW EW) fun q hq=>?_;obtain ⟨u,s3⟩:=q;obtain ⟨hu,h3⟩:=hq;dsimp only at hu h3 ⊢;refine go ?_;refine ret ⟨⟨d,u,k⟩,0,s3⟩ ⟨by show d.size+u.size<=_;omega,h3.mono EV⟩ rfl
 refine go ?_;refine A1 rfl (fun e2=>?_) (fun e2=>?_)
 ·refine go ?_;refine ret ⟨⟨d++p,p,k⟩,0,s2⟩ ⟨by show (d++p).size+p.size<=_;rw [aQ];omega,h2.mono EV⟩ rfl
 ·refine go ?_;refine ret ⟨⟨d,p,k⟩,0,s2⟩ ⟨by show d.size+p.size<=_;omega,h2.mono EV⟩ rfl
structure TrD where
 l:ar
 a:aj
 c:Nat
 F:aq
 i:Nat
 s:N1
structure Bhx (B:Nat) (z:TrD):Prop where
 g:O9 z.l
 l:z.l.length+z.i<=8
 i:z.i<=6
 s:Hw (B+10+10 * (6 - z.i)) z.s
theorem Aq0 (B g:Nat) (F:CuF) (s:N1) (ok:Hw B s) (hB:B<=800000000000) :
  Fn prog 47 [Gc g 0 0] [.sl Jq (ab F.a F.B4.length F.c) F.B4 F.bs] [.row g 60 0 [] [ab F.a F.B4.length F.c,aa (s.k:Nat),.int .u64 s.Hm] []] (fun (z:TrD)=>O9 z.l/\Hw (B+100) z.s) (fun z=>.agg #[ab z.a z.l.length z.c])
   (fun z=>[.ow Bb 3 (ab z.a z.l.length z.c) z.l z.F,.row g 60 0 [] [ab F.a F.B4.length F.c,aa (z.s.k:Nat),.int .u64 z.s.Hm] []]):=by
 refine enter func47 rfl ntmps47 fun w0=>?_;refine Ih ?_;intros;refine Eh (xs:=[-1,0]) (fun w=>Nr w _) ?_ EW;refine go ?_;rename_i g2 g5 g3;refine Be (Ee _ g F 7 s ok EV EV) fun y hy=>?_;obtain ⟨r0,s2⟩:=y;obtain ⟨hr0,h2⟩:=hy;dsimp only at hr0 h2 ⊢;have hr0:r0<=6:=EV
 refine go ?_;refine Ca [0,2,3] (fun z:TrD=>[(4,aa (z.i:Nat))]) (fun z=>[.row g3 26 0 [] [ab z.a z.l.length z.c] [],.ow Bb 3 (ab z.a z.l.length z.c) z.l z.F,.row g 60 0 [] [ab F.a F.B4.length F.c,aa (z.s.k:Nat),.int .u64 z.s.Hm] []]) (Bhx B) (fun z=>z.i) ⟨[-1,0],some ⟨g5,0,none⟩,2,_,r0,s2⟩ ⟨Atc,by show 2+r0<=8;omega,hr0,h2.mono (by show _<=B+10+10 * (6 - r0);omega)⟩ fun z hz=>?_;obtain ⟨z1,z2,z3,z4⟩:=hz;have hn0:=z1.n0;refine go ?_;refine A1 rfl (fun h3=>?_) (fun h3=>?_)
 ·have hi0:0 < z.i:=EV
  refine Ih ?_;intros;refine Ar [0] [10] ?_;refine C8 0 1 2 3 ?_;refine Dg 4 5 ?_;refine dN 6 ?_;refine oC ?_;refine Be (Ee _ g F z.l.length z.s z4 EV EV) fun y hy=>?_;obtain ⟨k5,s5⟩:=y;obtain ⟨r5,h5⟩:=hy;dsimp only at r5 h5 ⊢;have r5:k5 < z.l.length:=EV
  refine dk ?_;refine dN 7 ?_;apply Iz;rfl;rfl;rfl;rfl;exact Ir;exact Io;intro _;refine dk ?_;refine dN 8 ?_;refine Np (Oq _) Da fun a9 c9 F9=>?_;refine dk ?_;refine dt 9 ?_;refine dN 10 ?_;refine oS ?_;refine N2 ?_;refine dd ?_;refine go ?_;rw [show ((z.i:Nat):Int) - 1=((z.i - 1:Nat):Int) by omega];refine Cb ⟨z.l++[(k5:Int)],a9,c9,F9,z.i - 1,s5⟩ ⟨App z1 EV r5,by show (z.l++[_]).length+(z.i - 1)<=8;simp;omega,by show z.i - 1<=6;omega,h5.mono (by show _<=B+10+10 * (6 - (z.i - 1));omega)⟩ GJ
 ·refine go ?_;refine ret z ⟨z1,z4.mono EV⟩ rfl
theorem Aiz {k n t l:Int} {s:au} (hk:1<=k/\k<=5) (hn:B8 n=true) (ht:B8 t=true) (hl:B8 l=true) (hg:gp t l<=32767) (hs:Pk s=true) (he:s=⟨#[]⟩\/k<=2):Bo ⟨k,n,t,l,s⟩=true:=by
 unfold Bo Ff;simp only [aw,bW,aF];refine ⟨⟨⟨⟨⟨⟨hk,hn⟩,ht⟩,hl⟩,hs⟩,hg⟩,?_⟩;rcases he with h|h
 ·exact .inl (.inl h)
 ·by_cases h1:k=1
  ·exact .inl (.inr h1)
  ·exact .inr EV
theorem Aps {s:au} (h:(s.size:Int)<=8) (h2:T7 s.data.toList=true):Pk s=true:=by unfold Pk;rw [av h,h2];rfl
theorem Ata {p:As} (h:Bo p=true):0<=p.Am/\p.Am<=65535/\p.data.size<=maxLen:=by
 unfold Bo Pk at h;simp only [aw,aF] at h;obtain ⟨t0,t1⟩:=A4.1 h.1.1.1.1.2;exact ⟨t0,t1,FC⟩
theorem Aun (B g:Nat) (F:CuF) (s:N1) (ok:Hw B s) (hB:B<=800000000000) :
  Fn prog 171 [Gc g 0 0] [.sl Jq (ab F.a F.B4.length F.c) F.B4 F.bs] [.row g 60 0 [] [ab F.a F.B4.length F.c,aa (s.k:Nat),.int .u64 s.Hm] []] (fun (z:As × N1)=>Bo z.1=true/\Hw (B+60) z.2) (fun s=>.agg #[aa s.1.Cq,aa s.1.Ae,aa s.1.Am,aa s.1.Er,af s.1.data]) (fun s=>[.row g 60 0 [] [ab F.a F.B4.length F.c,aa (s.2.k:Nat),.int .u64 s.2.Hm] []]):=by
 refine enter func171 rfl ntmps171 fun w0=>?_;refine go ?_;intros;refine Be (Tl B g F s ok EV) fun n hn=>?_;obtain ⟨hn1,hn2⟩:=hn;refine go ?_;refine Be (Ee (B+4) g F 5 n.2 hn2 EV EV) fun y1 hy1=>?_;obtain ⟨hy1,hy2⟩:=hy1;have hr1:y1.1<=4:=EV
 refine go ?_;refine Be (Ee _ g F 9 y1.2 hy2 EV EV) fun y3 hy3=>?_;obtain ⟨hy3,hy4⟩:=hy3;refine go ?_;refine ce (fun w s=>Ht _ _ _ EV EV) ?_;refine go ?_;refine Be (Ee _ g F 10 y3.2 hy4 EV EV) fun y5 hy5=>?_;obtain ⟨hy5,hy6⟩:=hy5;refine go ?_;refine ce (fun w s=>Ht _ _ _ EV EV) ?_;refine go ?_;intros;refine A1 rfl (fun h1=>?_) (fun h1=>?_)
 ·refine go ?_;refine Be (Ss _ g F y5.2 8 hy6 EV EV EV) fun l hl=>?_;obtain ⟨hl1,hl2⟩:=hl;refine go ?_;refine ret (⟨1+(y1.1:Nat),Cd n.1 ((y5.1:Nat) - 1),n.1,Cd n.1 (y3.1:Nat),l.1⟩,l.2) ⟨Aiz ⟨EV,EV⟩ (Pm _ _) (A4.2 hn1) (Pm _ _) (by unfold gp Cd;omega) (Aps hl1.2.1 hl1.2.2) (.inr EV),hl2.mono EV⟩ rfl
 ·refine go ?_;refine ret (⟨1+(y1.1:Nat),Cd n.1 ((y5.1:Nat) - 1),n.1,Cd n.1 (y3.1:Nat),⟨#[]⟩⟩,y5.2) ⟨Aiz ⟨EV,EV⟩ (Pm _ _) (A4.2 hn1) (Pm _ _) (by unfold gp Cd;omega) EW (.inl rfl),hy6.mono EV⟩ rfl
theorem Ayh (B g:Nat) (F:CuF) (s:N1) (ok:Hw B s) (hB:B<=800000000000) :
  Fn prog 171 [Gc g 0 0] [.sl Jq (ab F.a F.B4.length F.c) F.B4 F.bs] [.row g 60 0 [] [ab F.a F.B4.length F.c,aa (s.k:Nat),.int .u64 s.Hm] []] (fun (z:As × N1)=>(0<=z.1.Am/\z.1.Am<=65535/\z.1.data.size<=maxLen)/\Hw (B+60) z.2) (fun s=>.agg #[aa s.1.Cq,aa s.1.Ae,aa s.1.Am,aa s.1.Er,af s.1.data]) (fun s=>[.row g 60 0 [] [ab F.a F.B4.length F.c,aa (s.2.k:Nat),.int .u64 s.2.Hm] []]):=(Aun B g F s ok hB).weak fun _ h=>⟨Ata h.1,h.2⟩
theorem Al8 (B g:Nat) (F:CuF) (s:N1) (ok:Hw B s) (hB:B<=700000000000) :
  Fn prog 89 [Gc g 0 0] [.sl Jq (ab F.a F.B4.length F.c) F.B4 F.bs] [.row g 60 0 [] [ab F.a F.B4.length F.c,aa (s.k:Nat),.int .u64 s.Hm] []] (fun (z:As × N1)=>z.1.data.size<=maxLen/\Hw (B+100) z.2) (fun s=>.agg #[aa s.1.Cq,aa s.1.Ae,aa s.1.Am,aa s.1.Er,af s.1.data]) (fun s=>[.row g 60 0 [] [ab F.a F.B4.length F.c,aa (s.2.k:Nat),.int .u64 s.2.Hm] []]):=by
 refine enter func89 rfl ntmps89 fun w0=>?_;refine go ?_;intros;refine Be (Ayh B g F s ok EV) fun z hz=>?_;obtain ⟨⟨t0,t1,hz1⟩,hz2⟩:=hz;refine go ?_;intros;refine Be (Ee _ g F 24 z.2 hz2 EV EV) fun p hp=>?_;obtain ⟨r,s3⟩:=p;obtain ⟨-,hp⟩:=hp;dsimp only at hp ⊢;refine go ?_;refine A1 rfl (fun e0=>?_) (fun e0=>?_)
 ·refine Ih ?_;intros;refine Eh (xs:=[0,6,5]) (fun w=>Nr w _) ?_ EW;refine Av (E:=Bb) fun G=>?_;refine go ?_;refine Be (Rw _ g F _ [0,6,5] G s3 hp EV EW EW) fun q hq=>?_;refine go ?_;refine ret (⟨q.1,z.1.Ae,z.1.Am,z.1.Er,z.1.data⟩,q.2) ⟨hz1,hq.2.mono EV⟩ rfl
 ·refine go ?_;refine A1 rfl (fun e1=>?_) (fun e1=>?_)
  ·refine Ih ?_;intros;refine Eh (xs:=[-1,65536,65535]) (fun w=>Nr w _) ?_ EW;refine Av (E:=Bb) fun G=>?_;refine go ?_;refine Be (Rw _ g F _ [-1,65536,65535] G s3 hp EV EW EW) fun q hq=>?_;refine go ?_;refine ret (⟨z.1.Cq,q.1,z.1.Am,z.1.Er,z.1.data⟩,q.2) ⟨hz1,hq.2.mono EV⟩ rfl
  ·refine go ?_;refine A1 rfl (fun e2=>?_) (fun e2=>?_)
   ·refine Ih ?_;intros;refine Ar [1] [7] ?_;refine Dg 0 1 ?_;refine dt 2 ?_;refine dN 3 ?_;apply Iz;rfl;rfl;rfl;rfl;exact Ir;exact Io;intro _;refine Eh (xs:=[32767,32768]) (fun w=>Nr w _) ?_ EW;refine Av (E:=Bb) fun G=>?_;refine dk ?_;refine dN 4 ?_;refine oC ?_;refine Be (Rw _ g F _ [32767,32768] G s3 hp EV EW EW) fun q hq=>?_;have hq3:0<=q.1/\q.1<=32768:=by have:=hq.1;simp only [aG,aT,bl] at this;omega
    refine dk ?_;refine dN 5 ?_;refine oC ?_;refine ce (fun w s=>Ht _ _ _ EV EV) ?_;refine dk ?_;refine dt 6 ?_;refine dN 7 ?_;refine oS ?_;refine N2 ?_;refine dd ?_;refine go ?_;refine ret (⟨z.1.Cq,z.1.Ae,z.1.Am,Cd z.1.Am q.1,z.1.data⟩,q.2) ⟨hz1,hq.2.mono EV⟩ rfl
   ·refine go ?_;refine A1 rfl (fun e3=>?_) (fun e3=>?_)
    ·refine Ih ?_;intros;refine Eh (xs:=[⟨#[97,98,99,100,101,102,103,104]⟩,⟨#[97,98,99,100,101,102,103,104,105]⟩,⟨#[65]⟩,⟨#[97,32,98]⟩,⟨#[97]⟩]) (fun w=>Qg w _ EW) ?_ EW;refine Av (E:=A8) fun G=>?_;refine go ?_;refine Be (Aeo _ g F _ [⟨#[97,98,99,100,101,102,103,104]⟩,⟨#[97,98,99,100,101,102,103,104,105]⟩,⟨#[65]⟩,⟨#[97,32,98]⟩,⟨#[97]⟩] G s3 hp EV EW EW) fun q hq=>?_;have hq3:q.1.size<=maxLen:=by have:=hq.1;simp only [aG,aT,bl] at this;rcases this with e|e|e|e|e <;> rw [e] <;> decide
     refine go ?_;refine ret (⟨z.1.Cq,z.1.Ae,z.1.Am,z.1.Er,q.1⟩,q.2) ⟨hq3,hq.2.mono EV⟩ rfl
    ·refine go ?_;refine ret (z.1,s3) ⟨hz1,hp.mono EV⟩ rfl
theorem Bb1 (a b:Int):FV 94 [aa a,aa b] [] (aa (max a b)):=by
 refine enter func94 rfl ntmps94 fun w0=>?_;refine go ?_;refine A1 rfl (fun h=>?_) (fun h=>?_)
 ·refine go ?_;rw [show max a b=a by omega];exact BC
 ·refine go ?_;rw [show max a b=b by omega];exact BC
theorem okq {k:Int} {i:Nat} (hk:k=2\/k=3\/k=5\/k=6) (h0:1<=i) (h7:i<=7):Do ⟨k,(i:Int),⟨#[]⟩⟩=true:=by
 have hf:Ol ((i:Nat):Int)=true:=Nb.2 EV;unfold Do;rcases hk with rfl|rfl|rfl|rfl
 all_goals
  show (Ff 1 _ 6 && Ol ((i:Nat):Int) && decide _)=true;rw [hf];rfl
structure StD where
 t:Jh
 s:N1
structure StW where
 n:Nat
 i:Nat
 s:N1
structure Bhv (B:Nat) (z:StW):Prop where
 a:1<=z.n
 b:z.n<=7
 i:z.i<=3
 s:Hw (B+10+10 * z.i) z.s
theorem Alg (B g:Nat) (F:CuF) (s:N1) (n:Dt) (v:Value) (Fx:aq) (h2:2<=n.Ap.Ad.length) (h8:n.Ap.Ad.length<=8) (hd:n.down.length<=8) (hu:n.up.length=n.down.length) (hq:∀q∈n.down++n.up,q.length<=6) (ok:Hw B s) (hB:B<=800000000000) :
  Fn prog 50 [Gc g 0 0,v] [.sl Jq (ab F.a F.B4.length F.c) F.B4 F.bs,.isv Oi v n Fx] [.row g 60 0 [] [ab F.a F.B4.length F.c,aa (s.k:Nat),.int .u64 s.Hm] []] (fun (z:StD)=>Do z.t=true/\z.t.data.size<=maxLen/\Hw (B+200) z.s) (fun z=>.agg #[aa z.t.Cq,aa z.t.node,af z.t.data])
   (fun z=>[.row g 60 0 [] [ab F.a F.B4.length F.c,aa (z.s.k:Nat),.int .u64 z.s.Hm] []]):=by
 refine enter func50 rfl ntmps50 fun w0=>?_;refine Fb ?_;rintro a1 c1 F1 a2 c2 F2 a3 c3 F3 a4 c4 F4 a5 c5 F5 a6 c6 F6 a7 c7 F7 rfl l1 l2 l3 l4 l5 l6 l7;refine go ?_;intros;rename_i gb gs;refine Be (Bb1 1 (n.Ap.Ad.length - 1)) fun _ _=>?_;refine go ?_;refine Be (Ee _ g F (max 1 (n.Ap.Ad.length - 1)) s ok EV EV) fun y hy=>?_;obtain ⟨r0,s2⟩:=y;obtain ⟨hr0,h2⟩:=hy;dsimp only at hr0 h2 ⊢;have hr0:r0<=6:=EV
 refine go ?_;rw [show (1:Int)+(r0:Nat)=((1+r0:Nat):Int) by omega];refine Ca [0,3,4] (fun z:StW=>[(5,aa (z.n:Nat)),(6,aa (z.i:Nat))]) (fun z=>[.row g 60 0 [] [ab F.a F.B4.length F.c,aa (z.s.k:Nat),.int .u64 z.s.Hm] []]) (Bhv B) (fun z=>3 - z.i) ⟨1+r0,0,s2⟩ ⟨by show 1<=1+r0;omega,by show 1+r0<=7;omega,aE _,h2.mono (by show _<=B+10+10 * 0;omega)⟩ fun z hz=>?_;obtain ⟨z1,z2,z3,z4⟩:=hz
 repeat apply N7
 refine Du [0,3,4,5,6] [0,1,2,3,4,5,6,7,8,9,10,11] (fun b:Bool=>[(40,.bool b)]) (fun _=>[]) (fun b=>b=true->z.i < 3) ?_ fun b hb=>?_
 ·by_cases k0:z.i < 3
  ·by_cases k1:z.n < n.down.length
   ·refine Mf (E:=Al) (hz:=EW) (xs:=n.down) z.n ?_;rintro hi1 b1 o1 a8 c8 F8 e1 l8;refine Mf (E:=Al) (hz:=EW) (xs:=n.up) z.n ?_;rintro hi2 b2 o2 a9 c9 F9 e2 l9;rw [e1,e2];have m8:=hq _ (cA _ (aB hi1));have m9:=hq _ (eJ _ (aB hi2));refine Ih ?_;intros;refine Ar [0,2,6] [] ?_;refine Dg 0 1 ?_;rw [show decide (((z.i:Nat):Int) < 3)=true by exact av EV];refine dt 2 ?_;refine Dd 3 ?_;refine Dd 4 ?_;refine Dd 5 ?_;refine Dd 6 ?_;refine Dd 7 ?_
    rw [show decide (((z.n:Nat):Int) < (n.down.length:Int))=true by exact av EV];refine Dg 8 9 ?_;refine Dd 10 ?_;refine Dd 11 ?_;refine Dd 12 ?_;refine Dd 13 ?_;refine Dd 14 ?_;refine Dd 15 ?_;refine Dd 16 ?_;refine Dd 17 ?_;refine Dd 18 ?_;refine Dd 19 ?_;refine Dd 20 ?_;refine Dd 21 ?_;refine Dd 22 ?_;refine Dd 23 ?_;refine dt 24 ?_;refine dd ?_;refine Bh _ fun _=>k0
   ·refine Ih ?_;intros;refine Ar [2] [] ?_;refine Dg 0 1 ?_;rw [show decide (((z.i:Nat):Int) < 3)=true by exact av EV];refine dt 2 ?_;refine Dd 3 ?_;refine Dd 4 ?_;refine Dd 5 ?_;refine Dd 6 ?_;refine Dd 7 ?_;rw [show decide (((z.n:Nat):Int) < (n.down.length:Int))=false by exact ay EV];refine Dg 8 9 ?_;refine ds 10 ?_;refine ds 11 ?_;refine ds 12 ?_;refine ds 13 ?_;refine ds 14 ?_;refine ds 15 ?_;refine ds 16 ?_;refine ds 17 ?_;refine ds 18 ?_;refine ds 19 ?_;refine ds 20 ?_;refine ds 21 ?_;refine ds 22 ?_;refine ds 23 ?_;refine dt 24 ?_;refine dd ?_
    refine Bh false fun h=>(by cases h)
  ·refine Ih ?_;intros;refine Ar [2] [] ?_;refine Dg 0 1 ?_;rw [show decide (((z.i:Nat):Int) < 3)=false by exact ay EV];refine dt 2 ?_;refine ds 3 ?_;refine ds 4 ?_;refine ds 5 ?_;refine ds 6 ?_;refine ds 7 ?_;refine Dg 8 9 ?_;refine ds 10 ?_;refine ds 11 ?_;refine ds 12 ?_;refine ds 13 ?_;refine ds 14 ?_;refine ds 15 ?_;refine ds 16 ?_;refine ds 17 ?_;refine ds 18 ?_;refine ds 19 ?_;refine ds 20 ?_;refine ds 21 ?_;refine ds 22 ?_;refine ds 23 ?_;refine dt 24 ?_;refine dd ?_;refine Bh false fun h=>(by cases h)
 cases b
 rotate_left
 ·have hb3:=hb rfl;refine go ?_;refine Be (Ee _ g F (n.Ap.Ad.length - 1) z.s z4 EV EV) fun y hy=>?_;obtain ⟨k5,s5⟩:=y;obtain ⟨r5,h5⟩:=hy;dsimp only at r5 h5 ⊢;have r5:k5<=6:=EV
  refine go ?_;rw [show (1:Int)+(k5:Nat)=((1+k5:Nat):Int) by omega];refine Cb ⟨1+k5,z.i+1,s5⟩ ⟨by show 1<=1+k5;omega,by show 1+k5<=7;omega,by show z.i+1<=3;omega,h5.mono (by show _<=B+10+10 * (z.i+1);omega)⟩ (by show 3 - (z.i+1) < 3 - z.i;omega)
 refine go ?_;refine Be (Ee _ g F 10 z.s z4 EV EV) fun y hy=>?_;obtain ⟨r6,s6⟩:=y;obtain ⟨hr6,h6⟩:=hy;dsimp only at hr6 h6 ⊢;have hr6:r6<=9:=EV
 rcases (show r6=0\/r6=1\/r6=2\/r6=3\/r6=4\/r6=5\/r6=6\/r6=7\/r6=8\/r6=9 by omega) with rfl|rfl|rfl|rfl|rfl|rfl|rfl|rfl|rfl|rfl
 ·exact BN
 ·exact BN
 ·exact BQ
 ·exact BQ
 ·exact BQ
 ·refine go ?_;refine ret ⟨⟨3,((z.n:Nat):Int),⟨#[]⟩⟩,s6⟩ ⟨okq EW z1 z2,HA,h6.mono EV⟩ rfl
 ·refine go ?_;refine ret ⟨⟨5,((z.n:Nat):Int),⟨#[]⟩⟩,s6⟩ ⟨okq EW z1 z2,HA,h6.mono EV⟩ rfl
 ·refine go ?_;refine ret ⟨⟨6,((z.n:Nat):Int),⟨#[]⟩⟩,s6⟩ ⟨okq EW z1 z2,HA,h6.mono EV⟩ rfl
 ·exact EU
 ·exact EU
end Go.Proofs.YtkoldibamfjghaaGreatDoor
