/- Part 7 of the proof: 27 texts, one behind the other. -/
import Derived.Test.YtmckdnddocfodaaGreatDoorM6
open _root_.Go.Proofs.Tryz
set_option maxRecDepth 100000
set_option maxHeartbeats 8000000
set_option linter.all false
set_option linter.unusedVariables false
set_option linter.unusedSimpArgs false
namespace Go.Proofs.YtmckdnddocfodaaGreatDoor
theorem CU{p:Prop}(h:p:=by show (if (V≠0/\V<=l.length - 1)/\_ then _ else _)=_;rw [ar ⟨⟨V0,by omega⟩,hl⟩]):p:=h
theorem DH{p:Prop}(h:p:=by show (if (k+1≠0/\k+1<=k)/\_ then _ else _)=_;rw [aq (fun h=>by omega)]):p:=h
theorem DJ{p:Prop}(h:p:=by subst c;rw [aq (fun h=>by omega),aq (fun h=>by rw [hl] at h;cases h.2)]):p:=h
theorem DN{p:Prop}(h:p:=by rw [ar c2];have h2:=(Yw ht.t c2).2.2;have h3:=ht.plt hv h0;have h4:=T6 (a.d v) p;rw [aq (by omega)] at h1;rw [ar (by omega)];omega):p:=h
theorem GF{p:Prop}(h:p:=by rw [e];simp [hr]):p:=h
theorem HN{p:Prop}(h:p:=by rw [Pm f (by omega) (by omega) (by omega)];omega):p:=h
theorem IT{p:Prop}(h:p:=by rw [ht];omega):p:=h
theorem IX{p:Prop}(h:p:=by have:=ht.plt u1 u2;omega):p:=h
theorem JH{p:Prop}(h:p:=by unfold Dq;rw [h5];rfl):p:=h
end Go.Proofs.YtmckdnddocfodaaGreatDoor
namespace Go.Proofs.YtmckdnddocfodaaGreatDoor
open Go.RowKit
theorem Aos:Hf [-1,0]:=⟨EN,EN,fun _=>rfl,fun i h h0=>by
 have:i=1:=by simp at h;omega
 subst this;simp⟩
theorem Alh {l:al} (h:Hf l) (h7:l.length<=7) {x:Nat} (hx:x < l.length):Hf (l++[(x:Int)]):=by
 have h0:=h.n0;refine ⟨ET,ET,fun _=>?_,fun i hi hi0=>?_⟩
 ·rw [dR EM];exact h.z EM
 ·by_cases e:i < l.length
  ·rw [dR e];exact h.p i e hi0
  ·have:i=l.length:=by simp at hi;omega
   subst this;rw [List.getElem_append_right (aA _)];simp;omega
theorem Ai8 {t:Oc} (h:Hf t.Ad):Fc t=true:=by
 have h0:=h.n0;have h1:=h.n1;unfold Fc;rw [av];refine ⟨by unfold Ht;rw [au EM,au EM];rfl,Jr fun i hi=>?_⟩;by_cases e:i=0
 ·subst e;rw [Pw hi,au (h.z hi)]
 ·rw [Rt hi EM];obtain ⟨a,b⟩:=h.p i hi EM;unfold Ht;rw [au EM,au EM];rfl
theorem Abr {t:Oc} {f y:Int} (ht:Fc t=true) (hs:Cj ⟨⟨f,y,[]⟩,0,0,[]⟩=true):At (Jp t f y)=true:=by
 refine Av.2 ⟨ht,hs,Bk.2 ⟨by simp [Jp],by simp [Jp],by simp [Jp],by simp [Jp]⟩,fun i h1 h2 h3 h4=>?_⟩;refine Ng.2 ?_;simp only [Jp,fA];exact ⟨rfl,rfl,rfl,fun _=>⟨rfl,rfl,rfl,rfl⟩,fun _ _=>⟨rfl,rfl,rfl⟩,fun _ _=>⟨rfl,rfl,rfl⟩⟩
theorem Als {t:Oc} {f y:Int} (ht:Hf t.Ad) (h0:0<=f) (h1:f<=65535) (z0:1<=y) (z6:y<=6):Dz t f y=(Jp t f y,true)/\At (Jp t f y)=true:=by
 have hg:Cj ⟨⟨f,y,[]⟩,0,0,[]⟩=true:=Dd.2 ⟨D0.2 ⟨⟨h0,h1⟩,⟨z0,z6⟩,ET,rfl⟩,rfl,rfl,EO,List.Pairwise.nil⟩;have hT:=Ai8 ht;refine ⟨?_,Abr hT hg⟩;unfold Dz;rw [hT,hg];rfl
theorem Apu {t:Oc} {f y:Int} (h:(Dz t f y).2=true):At (Dz t f y).1=true:=by
 cases a:Fc t
 ·unfold Dz at h;rw [a] at h;cases h
 cases b:Cj ⟨⟨f,y,[]⟩,0,0,[]⟩
 ·unfold Dz at h;rw [a,b] at h;cases h
 rw [show Dz t f y=(Jp t f y,true) by unfold Dz;rw [a,b];rfl];exact Abr a b
def Ayu (e:am):Int:=((e.data.toList.getD 0 0).toNat:Int) - 48
def Ad2 (i:Nat) (E:ah):ah:=(E.filter fun e=>decide (Ayu e=((i:Nat):Int))).map fun e=>e.extract 2 e.size
def EvW (E:ah):Prop:=∀e∈E,∃i x,1<=i/\i<=7/\e=Lf i x
theorem Akj {i:Nat} (h:i<=7) (x:am):Lf i x=bz (UInt8.ofNat (48+i)::32::x.data.toList):=by
 have e:bz (Lib.itoa ((i:Nat):Int))=bz [UInt8.ofNat (48+i)]:=by
  rw [Ace (Int.natCast_nonneg i),Int.natAbs_natCast,Lib.decDigits,fC EM]
 unfold Lf;rw [e,<-Axt (_++_),Ait,Ait];rfl
theorem Aue {i:Nat} (h:i<=7) (x:am):Ayu (Lf i x)=((i:Nat):Int):=by
 rw [Akj h];unfold Ayu;rw [Amr];show ((UInt8.ofNat (48+i)).toNat:Int) - 48=_;rw [UInt8.toNat_ofNat'];omega
theorem Al9 {i:Nat} (h:i<=7) (x:am):(Lf i x).extract 2 (Lf i x).size=x/\2<=(Lf i x).size:=by
 rw [Akj h,Ab8];refine ⟨?_,HZ⟩;rw [Lib.extract_eq,Amr];show bz ((x.data.toList).take _)=x;rw [bc HZ,Axt]
theorem As6 (i:Nat) (a b:ah):Ad2 i (a++b)=Ad2 i a++Ad2 i b:=by unfold Ad2;rw [bp,bZ]
theorem Apx {i j:Nat} (hj:j<=7) (es:ah):Ad2 i (Q2 j es)=if i=j then es else []:=by
 unfold Ad2 Q2
 induction es with
 | nil=>simp
 | cons x r ih =>
  rw [bL,bT,Aue hj];by_cases e:i=j
  ·subst e;rw [ar rfl] at ih ⊢;rw [ar EO,bL,ih,(Al9 hj x).1]
  ·rw [aq e] at ih ⊢;rw [aq ET];exact ih
theorem EvW.app {a b:ah} (h:EvW a) (h2:EvW b):EvW (a++b):=fun e he=>by
 rcases aG.1 he with he|he
 ·exact h e he
 ·exact h2 e he
theorem EvW.Q2 {i:Nat} (h1:1<=i) (h7:i<=7) (es:ah):EvW (Q2 i es):=fun e he=>by
 obtain ⟨x, -,rfl⟩:=bU.1 he;exact ⟨i,x,h1,h7,rfl⟩
theorem EvW.nil:EvW []:=fun e he=>by cases he
structure SrI (S:ah) (f:Int) (w:Ax):Prop where
 h:∃i,i+w.An.length=S.length/\w.Al=A8 f ((i:Nat):Int)/\w.An=S.drop i
structure Ug (S:ah) (f:Int) (n:Du) (E:ah):Prop where
 s:SrI S f n.Ac.Aa
 d:∀q∈n.down,∀p∈q,PkI S f p
 r:∀i (h:i < n.Ah.length),RcI S f n.Ah[i] (Ad2 i E)
 e:EvW E
section
variable {S:ah} {f:Int} {n:Du} {E:ah}
theorem SrI.Cy {w:Ax} (h:SrI S f w):Im w=A8 f ((S.length:Nat):Int):=by
 obtain ⟨i,h1,h2, -⟩:=h.h;unfold Im;rw [h2,Lm,h1]
theorem SrI.Al {w:Ax} (h:SrI S f w):∃i,i<=S.length/\w.Al=A8 f ((i:Nat):Int):=by
 obtain ⟨i,h1,h2, -⟩:=h.h;exact ⟨i,EM,h2⟩
theorem SrI.Cw {w:Ax} (h:SrI S f w) (hs:1<=w.size):SrI S f (Cw w):=by
 obtain ⟨i,h1,h2,h3⟩:=h.h;unfold Go.Proofs.YtmckdnddocfodaaGreatDoor.Cw
 split
 ·rename_i e;refine ⟨i+1,?_,?_,?_⟩
  ·show i+1+(w.An.drop 1).length=_;rw [aU];omega
  ·show A8 w.Al 1=_;rw [h2,show A8 (A8 f (i:Nat)) 1=A8 (A8 f (i:Nat)) ((1:Nat):Int) from rfl,Lm]
  ·show w.An.drop 1=_;rw [h3,cD]
 ·exact h
theorem SrI.push {w:Ax} (h:SrI S f w) (hs:1<=w.size) (t:am):SrI (S++[t]) f (Dt w t):=by
 obtain ⟨i,h1,h2,h3⟩:=(h.Cw hs).h;refine ⟨i,?_,h2,?_⟩
 ·show i+((Go.Proofs.YtmckdnddocfodaaGreatDoor.Cw w).An++[t]).length=_;rw [aw,aw,bY];omega
 ·show (Go.Proofs.YtmckdnddocfodaaGreatDoor.Cw w).An++[t]=_;rw [h3,List.drop_append_of_le_length EM]
theorem At3 {w:Ax} (h:SrI S f w):PkI S f (Kd w) :=
 ⟨fun _=>h.Al,fun _=>⟨S.length,aA _,h.Cy⟩,fun _ h5=>absurd rfl h5⟩
theorem Aze {w:Ax} (h:SrI S f w) (hs:1<=w.size) (t:am):PkI (S++[t]) f (Di w t):=by
 have hr:=h.Cw hs;refine ⟨fun _=>?_,fun _=>⟨S.length+1,EO,?_⟩,fun _ _=>⟨S.length,?_,?_⟩⟩
 ·obtain ⟨i,hi,e⟩:=hr.Al;exact ⟨i,HC,e⟩
 ·obtain ⟨i,h1,h2, -⟩:=hr.h;show A8 (Go.Proofs.YtmckdnddocfodaaGreatDoor.Cw w).Al ((Go.Proofs.YtmckdnddocfodaaGreatDoor.Cw w).An.length+1)=_;rw [h2,show (((Go.Proofs.YtmckdnddocfodaaGreatDoor.Cw w).An.length:Int)+1)=(((Go.Proofs.YtmckdnddocfodaaGreatDoor.Cw w).An.length+1:Nat):Int) by omega,Lm,show i+((Go.Proofs.YtmckdnddocfodaaGreatDoor.Cw w).An.length+1)=S.length+1 by omega]
 ·show (S++[t])[S.length]?=some t;rw [br (aA _),fv];rfl
 ·exact h.Cy
theorem Bbc {x:Cc} {p:Ar} (h:SrI S f x.Aa):∀q∈Ib x p,PkI S f q:=fun q hq=>by
 have hc:PkI S f (Qn x.Aa p.Ab):=⟨fun hn=>ID,fun hn=>ID,fun hn=>ID⟩;unfold Ib at hq
 split at hq
 ·split at hq
  ·rw [aH] at hq;subst hq;exact hc
  ·rcases aF.1 hq with rfl|hq
   ·exact hc
   ·rw [aH] at hq;unfold C9 at hq
    split at hq
    ·rename_i hk;subst hq;unfold Hh E5 at hk;simp only [av,aC] at hk;obtain ⟨⟨⟨-,hg⟩, -⟩,hh⟩:=hk;have hn:=Fg hg;refine ⟨fun _=>h.Al,fun _=>⟨S.length,aA _,h.Cy⟩,fun _ _=>?_⟩;obtain ⟨i,h1,h2,h3⟩:=h.h;have hb:=Kc x.Aa.Al p.Ab;refine ⟨i+(gp x.Aa.Al p.Ab).toNat,?_,?_⟩
     ·show _=some (Uu x.Aa p.Ab);unfold Uu;rw [N2 (show (gp x.Aa.Al p.Ab).toNat < x.Aa.An.length by omega),<-aB,<-di,<-h3]
     ·show p.Ab=_;rw [<-Lm,<-h2];unfold A8 gp;omega
    ·subst hq;exact ⟨fun hn=>ID,fun hn=>ID,fun hn=>ID⟩
 ·rw [aH] at hq;subst hq;exact At3 h
theorem Sh (x:Cc) (k:Int):(Hb x k).Aa=x.Aa:=by unfold Hb;split <;> rfl
theorem Ass {q ps:List Ar} {p:Ar} (h:p∈Da q ps):p∈q\/p∈ps:=by
 unfold Da at h;rcases aG.1 h with h|h
 ·exact DS
 ·exact .inr (bg h)
theorem Pt {ps:List Ar} {P:Ar->Prop} (hp:∀p∈ps,P p):∀(nodes:al) (d:List (List Ar)),(∀q∈d,∀p∈q,P p)->∀q∈Dc d nodes ps,∀p∈q,P p
 | [],_,h=>h
 | x::r,d,h=>by
  refine Pt hp r (d.modify x.toNat fun q=>Da q ps) fun q hq p hpq=>?_;obtain ⟨j,hj,rfl⟩:=aR hq;rw [dL] at hpq;have hj2:j < d.length:=HO
  split at hpq
  ·rcases Ass hpq with h1|h1
   ·exact h _ (aE hj2) p h1
   ·exact hp p h1
  ·exact h _ (aE hj2) p hpq
theorem Av9 {d:List (List Ar)} {P:Ar->Prop} {i:Nat} (h:∀q∈d,∀p∈q,P p):∀q∈d.modify i (·.drop 1),∀p∈q,P p:=fun q hq p hpq=>by
 obtain ⟨j,hj,rfl⟩:=aR hq;rw [dL] at hpq;have hj2:j < d.length:=HO
 split at hpq
 ·exact h _ (aE hj2) p (bj hpq)
 ·exact h _ (aE hj2) p hpq
theorem Ug.mono {S2:ah} (h:Ug S f n E) (hs:SrI (S++S2) f n.Ac.Aa):Ug (S++S2) f n E:=⟨hs,fun q hq p hp=>(h.d q hq p hp).mono,fun i hi=>(h.r i hi).mono,h.e⟩
theorem Aya {i:Nat} {r:Ay} {es:ah} (h:∀j (hj:j < n.Ah.length),RcI S f n.Ah[j] (Ad2 j E)) (h1:1<=i) (h7:i<=7) (hi:i < n.Ah.length) (hr:RcI S f r (Ad2 i E++es)) :
  ∀j (hj:j < (n.Ah.set i r).length),RcI S f (n.Ah.set i r)[j] (Ad2 j (E++Q2 i es)):=fun j hj=>by
 rw [As6,Apx h7,dv]
 split
 ·rename_i e;subst e;rw [ar rfl];exact hr
 ·rename_i e;rw [aq (fun h=>e h.symm),aP];exact h j _
theorem Avj {i:Nat} {p:Ar} (h:Ug S f n E) (hg:At n=true) (h1:1<=i) (hi:i < n.Ao.Ad.length) (hp:PkI S f p) (hpk:Bh p=true) (hS:S.length<=2000):Ug S f (C1 n i p).1 (E++(C1 n i p).2):=by
 have hG:=Av.1 hg;have hn8:=(Ev hG.t).n1;obtain ⟨g1,g2,g3,g4,r⟩:=hG.rn hi;unfold C1;cases hl:Br n.Ao.Ad ((i:Nat):Int)
 ·rw [aq EN];refine ⟨h.s,Pt (fun q hq=>by rw [aH] at hq;rw [hq];exact hp) _ _ h.d,fun j hj=>?_,h.e.app EvW.nil⟩;rw [aP];exact h.r j hj
 ·rw [ar rfl,Iq g2];have hr:=Gm.1 (r.hf EM hl).2.1;exact ⟨h.s,h.d,Aya h.r h1 EM g2 (Ayy hr hpk (h.r i g2) hp hS),h.e.app (.Q2 h1 EM _)⟩
theorem Bcd {i:Nat} {p:Ar} (h:Ug S f n E):Ug S f (Ou n i p) E:=by
 unfold Ou
 split
 ·exact ⟨by show SrI S f (Hb n.Ac p.Ab).Aa;rw [Sh];exact h.s,Pt (Bbc h.s) _ _ h.d,h.r,h.e⟩
 ·exact ⟨h.s,Pt (fun q hq=>by rw [aH] at hq;rw [hq];exact ⟨fun hn=>ID,fun hn=>ID,fun hn=>ID⟩) _ _ h.d,h.r,h.e⟩
theorem Azd {s:Gf} (h:Ug S f n E):Ug S f (Do n s) E:=by
 unfold Do
 split
 ·exact ⟨h.s,h.d,h.r,h.e⟩
 ·exact ⟨h.s,Av9 h.d,h.r,h.e⟩
theorem Aer (h:Ug S f n E) (hg:At n=true) (hc:n.Ac.Ae < 9999) (hS:S.length<=2000):∀k,k+1<=n.Ao.Ad.length->Ug S f (A4 n k).1 (E++(A4 n k).2)
 | 0,_=>by
  show Ug S f (Ayb n) (E++[]);rw [aP];refine ⟨h.s,Pt (fun q hq=>?_) _ _ h.d,h.r,h.e⟩;unfold G0 at hq
  split at hq
  ·cases hq
  ·rw [aH] at hq;rw [hq];exact At3 h.s
 | k+1,hk=>by
  have ih:=Aer h hg hc hS k EM;obtain ⟨hG,ht, -⟩:=Ot hg hc k EM;have hn8:=(Ev hG.t).n1;have hi:k+1 < (A4 n k).1.Ao.Ad.length:=IT
  obtain ⟨g1,g2,g3,g4,r⟩:=hG.rn hi;show Ug S f (Ju (A4 n k).1 (k+1)).1 (E++((A4 n k).2++(Ju (A4 n k).1 (k+1)).2));rw [<-aJ];unfold Ju;cases hl:Br (A4 n k).1.Ao.Ad ((k+1:Nat):Int)
  ·rw [aq EN,aP];exact ⟨ih.s,ih.d,ih.r,ih.e⟩
  ·rw [ar rfl,Iq g2];have hr:=Gm.1 (r.hf EM hl).2.1;exact ⟨ih.s,ih.d,Aya ih.r EM EM g2 (Azx hr (ih.r _ g2) hS),ih.e.app (.Q2 EM EM _)⟩
theorem At4 {s:Gf} {y:NE} (h:Ug S f n E) (hg:At n=true) (hs:D5 s=true) (e:Bm n s=some y) (hS:S.length<=1999):Ug (S++if s.Bd=1 then [s.data] else []) f y.1 (E++y.2):=by
 have hG:=Av.1 hg;unfold Bm at e
 split at e
 ·rename_i h1;cases e;rw [ar h1,aP];have hsz:=(D0.1 (Dd.1 hG.s).1).2.1.1;exact ⟨h.s.push hsz s.data,Pt (fun q hq=>by rw [aH] at hq;rw [hq];exact Aze h.s hsz _) _ _ fun q hq p hp=>(h.d q hq p hp).mono,fun i hi=>(h.r i hi).mono,h.e⟩
 ·rename_i h1;rw [aq h1,aP]
  split at e
  ·split at e
   ·cases e
   ·rename_i hc;cases e;have:=Sk hG.s;exact Aer h hg EM EM _ (by have:=(Ev hG.t).n0;omega)
  ·rename_i h4;unfold D5 at hs;rw [aq h1,aq h4] at hs;simp only [av] at hs;have hf:=Jy.1 hs.1.2;have hpg:=Kr (s:=s) hg;have hpI:=Azd (s:=s) h;have hq:=Lw (s:=s) hg;have htl:(Do n s).Ao=n.Ao:=HB
   unfold C4 at e
   split at e
   ·cases e
   ·rename_i hb
    split at e
    ·cases e
    ·rename_i h2;have hm:=N5 (q:=Qu n s) EM;have hpk:=Kj hq.1 hm
     split at e
     ·rename_i h22;cases e;have hu:Q7 s=false:=by unfold Q7;rw [h22];rfl
      have hq2:Qu n s∈n.down:=by
       unfold Qu at h2 ⊢;rw [hu,aq EN] at h2 ⊢;by_cases hi:s.node.toNat < n.down.length
       ·rw [N2 hi];exact aE hi
       ·rw [aT,bf EM] at h2;exact absurd rfl h2
      exact Avj hpI hpg EM (by rw [htl];omega) (h.d _ hq2 _ hm) hpk EM
     ·split at e
      ·cases e;rw [aP];exact Bcd hpI
      ·cases e;rw [aP];exact hpI
theorem Ars {P:NE->Prop} (hP:∀(x y:NE) (s:Gf),P x->At x.1=true->D5 s=true->s.Bd≠1->Bm x.1 s=some y->P (y.1,x.2++y.2)) {x:NE} (hg:At x.1=true) (h:P x):P (drE x):=by
 have ht:∀(x:NE) (s:Gf),P x->At x.1=true->D5 s=true->s.Bd≠1->P (J0 x s):=fun x s hx hg hs hk=>by
  cases e:Bm x.1 s with
  | none=>rw [Ix e];exact hx
  | some y=>rw [P6 e];exact hP x y s hx hg hs hk e
 have hr:∀(x:NE),P x->At x.1=true->∀k,k+1<=x.1.Ao.Ad.length->P (Dy x k):=fun x hx hg k=>by
  have hn8:=(Ev (Av.1 hg).t).n1
  induction k with
  | zero=>intro _;exact hx
  | succ k ih =>
   intro hk;have f1:=(K9 hg k EM).1;have hk1:k+1 < (Dy x k).1.Ao.Ad.length:=by rw [f1.t];omega
   have f2:=(Ab1 f1.g EM hk1).1;have p2:=ht _ (Gz (k+1)) (ih EM) f1.g (Apw EM EM) (by show (2:Int)≠1;decide);exact ht _ (Jw (k+1)) p2 f2.g (Alu EM EM) (by show (5:Int)≠1;decide)
 unfold drE;generalize wN x.1=m
 induction m generalizing x with
 | zero=>exact h
 | succ m ih =>
  unfold Of
  split
  ·exact h
  ·have h2:=(Ev (Av.1 hg).t).n0;exact ih (L8 hg).1.g (hr x h hg _ EM)
theorem Ba5 {t:Oc} {f y:Int} (hf:0<=f/\f<=65535):Ug [] f (Jp t f y) []:=by
 refine ⟨⟨0,rfl,(Pq hf.1 hf.2).symm,rfl⟩,fun q hq p hp=>?_,fun i hi=>?_,EvW.nil⟩
 ·rw [(dA.1 hq).2] at hp;cases hp
 ·have e:(Jp t f y).Ah[i]=Aks:=fA _;rw [e];exact ⟨fun _=>rfl,fun h=>(by cases h)⟩
end
end Go.Proofs.YtmckdnddocfodaaGreatDoor
namespace Go.Proofs.YtmckdnddocfodaaGreatDoor.Se
open Go.RowKit
structure Vw where
 d:Nat->List Ar
 u:Nat->List Ar
 r:Nat->Ay
 e:Nat->Bg
 s:Cc
def vw (n:Du):Vw:=⟨fun v=>n.down.getD v [],fun v=>n.up.getD v [],N6 n,Li n,n.Ac⟩
def Cp (l:al) (i:Nat):Nat:=(l.getD i 0).toNat
def fcs (l:al) (a:Vw) (i:Nat) (p:Ar):al:=if p.Bd=2 then Pr (a.e i) p.Ab (E7 l ((i:Nat):Int)) else E7 l ((i:Nat):Int)
def Qw (l:al) (a:Vw) (i:Nat):Vw:=match a.d i with
 | []=>a
 | p::q =>
  if Br l ((i:Nat):Int) then ⟨fun v=>if v=i then q else a.d v,a.u,fun v=>if v=i then Bt (a.r i) p (Ij i) else a.r v,a.e,a.s⟩
  else ⟨fun v=>if v=i then q else if ((v:Nat):Int)∈fcs l a i p then Er (a.d v) p else a.d v,a.u,a.r,fun v=>if v=i/\p.Bd=2 then Jz (a.e i) p.Ab else a.e v,a.s⟩
def Qx (l:al) (a:Vw) (i:Nat):Vw:=match a.u i with
 | []=>a
 | p::q =>
  if Cp l i=0 then ⟨fun v=>if v=i then Da (a.d i) (Ib a.s p) else a.d v,fun v=>if v=i then q else a.u v,a.r,a.e,Hb a.s p.Ab⟩
  else ⟨fun v=>if v=i then Er (a.d i) (Rz p) else a.d v,fun v=>if v=i then q else if v=Cp l i/\Pi (a.e (Cp l i)) p.Ab=true then Er (a.u v) p else a.u v,a.r,
   fun v=>if v=Cp l i then Ka (a.e (Cp l i)) p.Ab ((i:Nat):Int) else a.e v,a.s⟩
theorem M3 {α:Type} (l:List (List α)) (i v:Nat) (g:List α->List α):(l.modify i g).getD v []=if v=i/\i < l.length then g (l.getD i []) else l.getD v []:=by
 rw [aT,aT,aT,eM];by_cases h:v=i
 ·subst h;by_cases h2:v < l.length
  ·rw [ar ⟨rfl,h2⟩,aB h2];simp
  ·rw [aq (fun c=>h2 c.2),bf EM];rfl
 ·rw [aq (show ¬(v=i/\i < l.length) from fun c=>h c.1)];cases l[v]? with
  | none=>rfl
  | some x=>simp [show ¬i=v from fun c=>h c.symm]
theorem Vu {α:Type} (l:List α) (i v:Nat) (x z:α):(l.set i x).getD v z=if v=i/\i < l.length then x else l.getD v z:=by
 rw [aT,aT,dY];by_cases h:v=i
 ·subst h;rw [ar rfl];by_cases h2:v < l.length
  ·rw [ar h2,ar ⟨rfl,h2⟩];rfl
  ·rw [aq h2,aq (show ¬(v=v/\v < l.length) from fun c=>h2 c.2),bf EM]
 ·rw [aq (show ¬(v=i/\i < l.length) from fun c=>h c.1),aq (show ¬i=v from fun c=>h c.symm)]
theorem Qr (ps:List Ar):∀(nodes:al) (d:List (List Ar)) (v:Nat),nodes.Nodup->(∀x∈nodes,0<=x/\x.toNat < d.length)->(Dc d nodes ps).getD v []=if ((v:Nat):Int)∈nodes then Da (d.getD v []) ps else d.getD v []
 | [],d,v,_,_=>by simp [Dc]
 | x::nodes,d,v,hn,hx=>by
  obtain ⟨n1,n2⟩:=cy.1 hn;obtain ⟨x0,x1⟩:=hx x EO;show (Dc (d.modify x.toNat fun q=>Da q ps) nodes ps).getD v []=_;rw [Qr ps nodes _ v n2 (fun y hy=>by rw [cB];exact hx y HQ),M3];by_cases c:((v:Nat):Int)=x
  ·have hv:v=x.toNat:=EM
   rw [aq (by rw [c];exact n1),ar ⟨hv,x1⟩,ar (by rw [c];simp),hv]
  ·have hv:¬(v=x.toNat/\x.toNat < d.length):=fun q=>c EM;rw [aq hv];by_cases c2:((v:Nat):Int)∈nodes
   ·rw [ar c2,ar (by simp [c2])]
   ·rw [aq c2,aq (by simp [c,c2])]
theorem Uv (l:al) (i:Int):(E7 l i).Nodup:=by
 unfold E7 I8;have h:((List.range l.length).filter fun k=>decide (l[k]?=some i)).Nodup:=List.nodup_range.sublist cZ;exact List.Pairwise.map _ (fun a b (h:a≠b) c=>h EM) h
theorem Lr {l:al} {i v:Nat} (hg:Hf l):((v:Nat):Int)∈E7 l ((i:Nat):Int)↔v < l.length/\v≠0/\Cp l v=i:=by
 unfold E7 I8 Cp;rw [bU];constructor
 ·rintro ⟨k,hk,e⟩;obtain rfl:k=v:=EM
  obtain ⟨h1,h2⟩:=aO.1 hk;rw [bX] at h1;rw [aB h1] at h2;have h3:l[k]=((i:Nat):Int):=GD
  refine ⟨h1,fun c=>?_,?_⟩
  ·subst c;have:=hg.z h1;omega
  ·rw [aT,aB h1];show (l[k]).toNat=_;omega
 ·rintro ⟨h1,h2,h3⟩;refine ⟨v,aO.2 ⟨GU,?_⟩,rfl⟩;rw [aT,aB h1] at h3;have hp:=hg.p v h1 EM;have h4:(l[v]).toNat=i:=h3;rw [aB h1];have:l[v]=((i:Nat):Int):=EM
  simp [this]
theorem Aex {a b:Vw} (h1:a.d=b.d) (h2:a.u=b.u) (h3:a.r=b.r) (h4:a.e=b.e) (h5:a.s=b.s):a=b:=by
 obtain ⟨a1,a2,a3,a4,a5⟩:=a;obtain ⟨b1,b2,b3,b4,b5⟩:=b;dsimp only at *;subst h1 h2 h3 h4 h5;rfl
theorem Aol {e:Bg} (hg:Ba e=true) (n:Int) (l:al) (hl:l.Nodup):(Pr e n l).Nodup:=by
 rw [Aha hg];cases c:en e n with
 | none=>dsimp only;split;exact hl;exact fH
 | some y =>
  have hy:=(Qc c).1;obtain ⟨-, -,h3, -⟩:=D6.1 hg;have:=(Js.1 (h3 y hy)).2.2.1.1;exact List.Nodup.sublist cZ (this.imp fun h c=>by omega)
section
variable {n:Du} {i:Nat} {E:ah}
theorem Aup (hg:At n=true) (h0:1<=i) (hi:i < n.Ao.Ad.length):vw (J0 (n,E) (Gz i)).1=Qw n.Ao.Ad (vw n) i:=by
 have hG:=Av.1 hg;have hT:=Ev hG.t;obtain ⟨q1,q2,q3,q4⟩:=Bk.1 hG.l;show vw (Ha n (Bm n (Gz i)))=_;rw [S0 hi];unfold Qw;have e0:(vw n).d i=n.down.getD i []:=rfl;rw [e0];cases e:n.down.getD i [] with
 | nil=>rfl
 | cons p q =>
  rw [aq EO];show vw (C1 (Mg n i) i (Lu (p::q))).1=_;rw [show Lu (p::q)=p from rfl];have hd:∀v,(Mg n i).down.getD v []=if v=i then q else n.down.getD v []:=fun v=>by
   show (n.down.modify i (·.drop 1)).getD v []=_;rw [M3];by_cases c:v=i
   ·rw [ar ⟨c,EM⟩,ar c,e];rfl
   ·rw [aq (fun q=>c q.1),aq c]
  unfold C1;rw [show (Mg n i).Ao=n.Ao from rfl];cases hl:Br n.Ao.Ad ((i:Nat):Int)
  ·rw [aq (show ¬(false=true) by decide)];dsimp only;rw [aq (show ¬(false=true) by decide)];have hE:Li (Mg n i) i=Li n i:=rfl;have hf:Vo (Mg n i) i p=fcs n.Ao.Ad (vw n) i p:=rfl;have he:Ba (Li n i)=true:=by
    obtain ⟨r1,r2,r3,r4,r⟩:=hG.rn hi;rw [Jl r1];exact (r.hn EM hl).1
   have hnd:(Vo (Mg n i) i p).Nodup:=by
    unfold Vo
    split
    ·rw [hE];exact Aol he _ _ (Uv _ _)
    ·exact Uv _ _
   have hin:∀x∈Vo (Mg n i) i p,0<=x/\x.toNat < (Mg n i).down.length/\i < x.toNat:=fun x hx=>by
    have hk:x∈Sc n i:=by
     unfold Vo at hx
     split at hx
     ·exact Tu x hx
     ·exact hx
    have:=If hT hk;refine ⟨this.2.2,?_,this.1⟩;show x.toNat < (n.down.modify i (·.drop 1)).length;rw [cB];omega
   refine Aex (funext fun v=>?_) rfl rfl (funext fun v=>?_) rfl
   ·show (Dc (Mg n i).down (Vo (Mg n i) i p) [p]).getD v []=_;rw [Qr [p] _ _ v hnd (fun x hx=>⟨(hin x hx).1,(hin x hx).2.1⟩),hd,T7,hf];by_cases c:v=i
    ·rw [ar c];dsimp only;rw [ar c,aq (fun h=>by rw [<-hf] at h;have:=(hin _ h).2.2;omega)]
    ·rw [aq c];dsimp only;rw [aq c];rfl
   ·show Li ⟨_,_,if p.Bd=2 then n.Ai.set i (Jz (Li n i) p.Ab) else n.Ai,_,_,_⟩ v=if v=i/\p.Bd=2 then _ else _
    unfold Li;dsimp only;by_cases c:p.Bd=2
    ·rw [ar c,Vu];by_cases c2:v=i
     ·rw [ar ⟨c2,EM⟩,ar ⟨c2,c⟩];rfl
     ·rw [aq (fun h=>c2 h.1),aq (fun h=>c2 h.1)];rfl
    ·rw [aq c,aq (fun h=>c h.2)];rfl
  ·rw [ar rfl];dsimp only;rw [ar rfl];refine Aex (funext fun v=>hd v) rfl (funext fun v=>?_) rfl rfl;show N6 ⟨_,_,_,n.Ah.set i (Bt (N6 n i) p (Ij i)),_,_⟩ v=_;unfold N6;dsimp only;rw [Vu];by_cases c:v=i
   ·rw [ar ⟨c,EM⟩,ar c];rfl
   ·rw [aq (fun h=>c h.1),aq c];rfl
theorem Auq (hg:At n=true) (h0:1<=i) (hi:i < n.Ao.Ad.length):vw (J0 (n,E) (Jw i)).1=Qx n.Ao.Ad (vw n) i:=by
 have hG:=Av.1 hg;have hT:=Ev hG.t;obtain ⟨q1,q2,q3,q4⟩:=Bk.1 hG.l;show vw (Ha n (Bm n (Jw i)))=_;rw [Rb hi];unfold Qx;have e0:(vw n).u i=n.up.getD i []:=rfl;rw [e0];cases e:n.up.getD i [] with
 | nil=>rfl
 | cons p q =>
  rw [aq EO];show vw (Ou (Lv n i) i (Lu (p::q)))=_;rw [show Lu (p::q)=p from rfl];have hu:∀v,(Lv n i).up.getD v []=if v=i then q else n.up.getD v []:=fun v=>by
   show (n.up.modify i (·.drop 1)).getD v []=_;rw [M3];by_cases c:v=i
   ·rw [ar ⟨c,EM⟩,ar c,e];rfl
   ·rw [aq (fun q=>c q.1),aq c]
  have hone:∀(ps:List Ar) (v:Nat),(Dc n.down [((i:Nat):Int)] ps).getD v []=if v=i then Da (n.down.getD i []) ps else n.down.getD v []:=fun ps v=>by
   rw [Qr ps _ _ v EO (fun x hx=>by rw [aH] at hx;subst hx;exact ⟨EM,EM⟩)];by_cases c:v=i
   ·subst c;rw [ar EO,ar rfl]
   ·rw [aq ET,aq c]
  have hpar:V7 (Lv n i) i=Cp n.Ao.Ad i:=rfl;have hplt:Cp n.Ao.Ad i < i:=by
   have:=hT.p i hi EM;unfold Cp;rw [N2 hi];omega
  unfold Ou;rw [hpar];by_cases hz:Cp n.Ao.Ad i=0
  ·rw [ar hz];dsimp only;rw [ar hz];exact Aex (funext fun v=>hone _ v) (funext fun v=>hu v) rfl rfl rfl
  ·rw [aq hz];dsimp only;rw [aq hz];refine Aex (funext fun v=>?_) (funext fun v=>?_) rfl (funext fun v=>?_) rfl
   ·show (Dc n.down [((i:Nat):Int)] [Rz p]).getD v []=_;rw [hone,T7];rfl
   ·show (if Pi (Li n (Cp n.Ao.Ad i)) p.Ab then (Lv n i).up.modify (Cp n.Ao.Ad i) fun q=>Da q [p] else (Lv n i).up).getD v []=_;have hfe:Pi ((vw n).e (Cp n.Ao.Ad i)) p.Ab=Pi (Li n (Cp n.Ao.Ad i)) p.Ab:=rfl;rw [hfe];cases hf:Pi (Li n (Cp n.Ao.Ad i)) p.Ab
    ·rw [aq (show ¬(false=true) by decide),hu];dsimp only;by_cases c:v=i
     ·rw [ar c,ar c]
     ·rw [aq c,aq c,aq (fun h=>by cases h.2)];rfl
    ·rw [ar rfl,M3];have hlen:Cp n.Ao.Ad i < (Lv n i).up.length:=by
      show _ < (n.up.modify i (·.drop 1)).length;rw [cB];omega
     dsimp only;by_cases c:v=i
     ·rw [aq (fun h=>by omega),hu,ar c,ar c]
     ·rw [aq c];by_cases c2:v=Cp n.Ao.Ad i
      ·rw [ar ⟨c2,hlen⟩,ar ⟨c2,rfl⟩,hu,aq EM,T7,c2];rfl
      ·rw [aq (fun h=>c2 h.1),aq (fun h=>c2 h.1),hu,aq c];rfl
   ·show Li ⟨_,_,n.Ai.set (Cp n.Ao.Ad i) _,_,_,_⟩ v=_;unfold Li;dsimp only;rw [Vu];by_cases c:v=Cp n.Ao.Ad i
    ·rw [ar ⟨c,EM⟩,ar c];rfl
    ·rw [aq (fun h=>c h.1),aq c];rfl
end
def vnd (l:al) (a:Vw) (i:Nat):Vw:=Qx l (Qw l a i) i
def vro (l:al) (a:Vw):Nat->Vw
 | 0=>a
 | k+1=>vnd l (vro l a k) (k+1)
def Gd (l:al) (S:ah) (f:Int) (a:Vw):Prop:=∃(n:Du) (E:ah),At n=true/\n.Ao.Ad=l/\Ug S f n E/\vw n=a
section
variable {l:al} {S:ah} {f:Int} {a:Vw} {i:Nat}
theorem Anv {E:ah} {x:NE} {s:Gf} (h:Ug S f x.1 (E++x.2)) (hg:At x.1=true) (hs:D5 s=true) (h1:s.Bd≠1) (hS:S.length<=1999):Ug S f (J0 x s).1 (E++(J0 x s).2):=by
 cases e:Bm x.1 s with
 | none=>rw [Ix e];exact h
 | some y =>
  have:=At4 h hg hs e hS;rw [aq h1,aP,aJ] at this;rw [P6 e];exact this
theorem Gd.dl (h:Gd l S f a) (hS:S.length<=1999) (h0:1<=i) (hi:i < l.length):Gd l S f (Qw l a i):=by
 obtain ⟨n,E,hg,ht,hJ,e⟩:=h;subst ht e;have h8:=(Ev (Av.1 hg).t).n1;have f1:=(Ab1 (x:=(n,[])) hg h0 hi).1;exact ⟨_,_,f1.g,by rw [f1.t],Anv (E:=E) (x:=(n,[])) (by rw [aP];exact hJ) hg (Apw h0 EM) (by show (2:Int)≠1;decide) hS,Aup hg h0 hi⟩
theorem Gd.ul (h:Gd l S f a) (hS:S.length<=1999) (h0:1<=i) (hi:i < l.length):Gd l S f (Qx l a i):=by
 obtain ⟨n,E,hg,ht,hJ,e⟩:=h;subst ht e;have h8:=(Ev (Av.1 hg).t).n1;have f1:=(Anw (x:=(n,[])) hg h0 hi).1;exact ⟨_,_,f1.g,by rw [f1.t],Anv (E:=E) (x:=(n,[])) (by rw [aP];exact hJ) hg (Alu h0 EM) (by show (5:Int)≠1;decide) hS,Auq hg h0 hi⟩
theorem Aye {n:Du} {E:ah} (hg:At n=true):∀k,k+1<=n.Ao.Ad.length->vw (Dy (n,E) k).1=vro n.Ao.Ad (vw n) k
 | 0,_=>rfl
 | k+1,hk=>by
  have ih:=Aye (E:=E) hg k EM;have f1:=(K9 (x:=(n,E)) hg k (by show k+1<=n.Ao.Ad.length;omega)).1;have ht:(Dy (n,E) k).1.Ao=n.Ao:=f1.t;have f2:=(Ab1 (x:=Dy (n,E) k) f1.g (i:=k+1) EM IT).1;have ht2:(J0 (Dy (n,E) k) (Gz (k+1))).1.Ao=n.Ao:=f2.t.trans ht;show vw (J0 (J0 (Dy (n,E) k) (Gz (k+1))) (Jw (k+1))).1=Qx _ (Qw _ (vro _ _ k) (k+1)) (k+1);have e1:=Aup (n:=(Dy (n,E) k).1) (E:=(Dy (n,E) k).2) f1.g (i:=k+1) EM IT;have e2:=Auq (n:=(J0 (Dy (n,E) k) (Gz (k+1))).1) (E:=(J0 (Dy (n,E) k) (Gz (k+1))).2) f2.g (i:=k+1) EM (by rw [ht2];omega)
  rw [ht2] at e2;rw [ht] at e1;rw [<-ih,<-e1];exact e2
theorem Ki {P:Nat->Vw->Prop} (hS:S.length<=1999) (step:∀k a,k+1 < l.length->Gd l S f a->P k a->P (k+1) (vnd l a (k+1))) (wrap:∀a,Gd l S f a->P (l.length - 1) a->P 0 a)
  {n:Du} {E:ah} (hg:At n=true) (ht:n.Ao.Ad=l) (hJ:Ug S f n E) (h:P 0 (vw n)):P 0 (vw (Jk n).1)/\(At (Jk n).1=true/\(Jk n).1.Ao.Ad=l/\∃E2,Ug S f (Jk n).1 E2)/\∀v,(vw (Jk n).1).d v=[]/\(vw (Jk n).1).u v=[]:=by
 have hro:∀(a:Vw),Gd l S f a->P 0 a->∀k,k+1<=l.length->P k (vro l a k)/\Gd l S f (vro l a k):=fun a hG hP k=>by
  induction k with
  | zero=>intro _;exact ⟨hP,hG⟩
  | succ k ih =>
   intro hk;obtain ⟨h1,h2⟩:=ih EM;exact ⟨step k _ EM h2 h1,(h2.dl hS EM EM).ul hS EM EM⟩
 have hlen:2<=l.length:=by rw [<-ht];exact (Ev (Av.1 hg).t).n0
 have hF:∀(m:Nat) (x:NE),At x.1=true->x.1.Ao.Ad=l->Ug S f x.1 (E++x.2)->P 0 (vw x.1)->P 0 (vw (Of m x).1)/\Ug S f (Of m x).1 (E++(Of m x).2):=fun m=>by
  induction m with
  | zero=>exact fun x _ _ hJ h=>⟨h,hJ⟩
  | succ m ih =>
   intro x hg ht hJ h;unfold Of
   split
   ·exact ⟨h,hJ⟩
   ·have f1:=(K9 hg (x.1.Ao.Ad.length - 1) IT).1;have e:=Aye (n:=x.1) (E:=x.2) hg (x.1.Ao.Ad.length - 1) IT;have hG0:Gd l S f (vw x.1):=⟨x.1,E++x.2,hg,ht,hJ,rfl⟩;obtain ⟨h1,h2⟩:=hro (vw x.1) hG0 h (l.length - 1) EM;have hJ2:Ug S f (Q1 x).1 (E++(Q1 x).2):=by
     have:∀k,k+1<=x.1.Ao.Ad.length->Ug S f (Dy x k).1 (E++(Dy x k).2):=fun k=>by
      have h8:=(Ev (Av.1 hg).t).n1
      induction k with
      | zero=>intro _;exact hJ
      | succ k ihk =>
       intro hk;have f2:=(K9 hg k EM).1;have f3:=(Ab1 (x:=Dy x k) f2.g (i:=k+1) EM (by rw [f2.t];omega)).1;exact Anv (Anv (ihk EM) f2.g (Apw EM EM) (by show (2:Int)≠1;decide) hS) f3.g (Alu EM EM) (by show (5:Int)≠1;decide) hS
     exact this _ IT
    refine ih (Q1 x) f1.g (by show (Dy x _).1.Ao.Ad=l;rw [f1.t,ht]) hJ2 ?_;show P 0 (vw (Dy x (x.1.Ao.Ad.length - 1)).1);have e2:Dy x (x.1.Ao.Ad.length - 1)=Dy (x.1,x.2) (x.1.Ao.Ad.length - 1):=rfl;rw [e2,e,ht];exact wrap _ h2 h1
 obtain ⟨h1,h2⟩:=hF (wN n) (n,[]) hg ht (by rw [aP];exact hJ) h;obtain ⟨hf,hq⟩:=Qo (x:=(n,[])) hg;have hgd:At (Jk n).1=true:=hf.g;refine ⟨h1,⟨hgd,by rw [show (Jk n).1.Ao=n.Ao from hf.t,ht],_,h2⟩,fun v=>?_⟩;have hq2:qd (Jk n).1.down+qd (Jk n).1.up=0:=hq;have hnil:∀(d:List (List Ar)),qd d=0->d.getD v []=[]:=fun d h=>by
  have:=Adh (i:=v) h;exact bx.1 this
 exact ⟨hnil _ EM,hnil _ EM⟩
end
def J4 (x:Int) (q:List Ar):Nat:=(q.filter fun p=>decide (p.Ab=x)).length
def Nt (x:Int) (q:List Ar):Nat:=(q.filter fun p=>decide (p.Bd=2) && decide (p.Ab=x)).length
def sm (X:al) (g:Int->Nat):Nat:=(X.map g).sum
theorem Zp {g g':Int->Nat}:∀{X:al},(∀y∈X,g' y=g y)->sm X g'=sm X g
 | [],_=>rfl
 | a::X,h=>by
  have:=Zp (X:=X) fun y hy=>h y HQ;have h1:=h a EO;unfold sm at *;rw [bL,bL,cV,cV,this,h1]
theorem Anp {x:Int} {g g':Int->Nat}:∀{X:al},X.Nodup->x∈X->(∀y,y≠x->g' y=g y)->g' x=g x+1->sm X g'=sm X g+1
 | [],_,hx,_,_=>by cases hx
 | a::X,hn,hx,h,h1=>by
  obtain ⟨n1,n2⟩:=cy.1 hn;by_cases c:a=x
  ·subst c;have:=Zp (X:=X) (g:=g) (g':=g') fun y hy=>h y fun q=>n1 (by rw [<-q];exact hy);unfold sm at *;rw [bL,bL,cV,cV,this,h1];omega
  ·have:=Anp (X:=X) n2 ((aF.1 hx).resolve_left fun q=>c q.symm) h h1;have h2:=h a c;unfold sm at *;rw [bL,bL,cV,cV,this,h2];omega
theorem Ano {g:Int->Nat} {b:Nat}:∀{X:al},(∀y∈X,g y<=b)->sm X g<=X.length * b
 | [],_=>aD _
 | a::X,h=>by
  have:=Ano (X:=X) fun y hy=>h y HQ;have h1:=h a EO;unfold sm at *;rw [bL,cV,aK,dS];omega
theorem At0 {g:Int->Nat} {b:Nat} {x:Int}:∀{X:al},(∀y∈X,g y<=b)->x∈X->g x < b->sm X g < X.length * b
 | [],_,hx,_=>by cases hx
 | a::X,h,hx,h1=>by
  have h2:=h a EO;rcases aF.1 hx with rfl|hx
  ·have:=Ano (X:=X) fun y hy=>h y HQ;unfold sm at *;rw [bL,cV,aK,dS];omega
  ·have:=At0 (X:=X) (fun y hy=>h y HQ) hx h1;unfold sm at *;rw [bL,cV,aK,dS];omega
theorem Tp (x:Int) (p:Ar) (q:List Ar):J4 x (p::q)=(if p.Ab=x then 1 else 0)+J4 x q:=by
 unfold J4;rw [bT];by_cases h:p.Ab=x
 ·rw [ar EU,ar h,aK];omega
 ·rw [aq EU,aq h];omega
theorem Mo (x:Int) (p:Ar) (q:List Ar):Nt x (p::q)=(if p.Bd=2/\p.Ab=x then 1 else 0)+Nt x q:=by
 unfold Nt;rw [bT];by_cases h:p.Bd=2/\p.Ab=x
 ·rw [ar EU,ar h,aK];omega
 ·rw [aq EU,aq h];omega
theorem Afi (x:Int) (p:Ar) (q:List Ar):Nt x (Er q p)<=Nt x q+if p.Bd=2/\p.Ab=x then 1 else 0:=by
 unfold Er
 split
 ·unfold Nt;rw [bp,aw];have:([p].filter fun p=>decide (p.Bd=2) && decide (p.Ab=x)).length<=if p.Bd=2/\p.Ab=x then 1 else 0:=by
   by_cases h:p.Bd=2/\p.Ab=x
   ·rw [ar h];exact bi (bA _ _) (aA _)
   ·rw [aq h,bT,aq EU];exact aA _
  omega
 ·omega
theorem Afj (x:Int) (p:Ar) (q:List Ar):J4 x (Er q p)<=J4 x q+if p.Ab=x then 1 else 0:=by
 unfold Er
 split
 ·unfold J4;rw [bp,aw];have:([p].filter fun p=>decide (p.Ab=x)).length<=if p.Ab=x then 1 else 0:=by
   by_cases h:p.Ab=x
   ·rw [ar h];exact bi (bA _ _) (aA _)
   ·rw [aq h,bT,aq EU];exact aA _
  omega
 ·omega
theorem T6 (q:List Ar) (p:Ar):(Er q p).length<=q.length+1:=by
 unfold Er;split
 ·rw [aw,bY];exact aA _
 ·omega
theorem I9 {q:List Ar} {p r:Ar} (h:r∈Er q p):r∈q\/r=p:=by
 unfold Er at h;split at h
 ·rcases aG.1 h with h|h
  ·exact DS
  ·exact .inr (aH.1 h)
 ·exact DS
theorem Av8 {X:al} {q:List Ar}:(∀p∈q,p.Ab∈X)->X.Nodup->q.length<=sm X fun x=>J4 x q:=by
 induction q with
 | nil=>intro _ _;exact aD _
 | cons p q ih =>
  intro h hn;have h1:=ih (fun r hr=>h r (by simp [hr])) hn;have:=Anp (X:=X) (x:=p.Ab) (g:=fun x=>J4 x q) (g':=fun x=>J4 x (p::q)) hn (h p EO) (fun y hy=>by rw [Tp,aq (fun c=>hy c.symm)];omega) (by rw [Tp,ar rfl];omega);rw [this,aK];omega
def noE:Option Et->Nat
 | none=>1
 | some _=>0
theorem Ay6 (o:Option Et):noE o<=1:=by cases o <;> simp [noE]
structure Jv (l:al) (X:Nat->al) (k:Nat) (o po hm:Nat->Int->Nat) (a:Vw):Prop where
 q0:∀v,v < l.length->∀p∈a.u v,p.Ab∈X v
 qr:∀v,v < l.length->v≠0->Cp l v=0->(a.d v).length<=1+sm (X v) (hm v)
 qd:∀v,v < l.length->v≠0->Cp l v≠0->(a.d v).length<=sm (X v) (o v)+if Cp l v<=k/\k < v then 1 else 0
 ql:∀v,v < l.length->v≠0->Br l ((v:Nat):Int)=true->∀x,o v x+J4 x (a.u v)<=1
 qe:∀v,v < l.length->v≠0->Br l ((v:Nat):Int)=false->∀x,o v x+J4 x (a.u v)+noE (en (a.e v) x)<=1+po v x
 qp:∀v,v < l.length->v≠0->∀x,po v x+Nt x (a.d v)<=if Cp l v=0 then hm v x else po (Cp l v) x
 qh:∀v x,hm v x<=1/\(1<=hm v x->onB a.s.holds x=true/\x∈X v)
 qx:∀v,v < l.length->v≠0->Br l ((v:Nat):Int)=false->∀y∈(a.e v).Af,y.Ab∈X v
structure Tx (l:al) (X:Nat->al):Prop where
 t:Hf l
 g:∀v,Cp l v≠0->X v=X (Cp l v)
 n:∀v,(X v).Nodup
 s:∀v,(X v).length<=3
section
variable {l:al} {X:Nat->al} {k:Nat} {o po hm:Nat->Int->Nat} {a:Vw} {S:ah} {f:Int}
theorem Tx.plt (h:Tx l X) {v:Nat} (hv:v < l.length) (h0:v≠0):Cp l v < v:=by
 have:=h.t.p v hv EM;unfold Cp;rw [N2 hv];omega
theorem Jv.po1 (h:Jv l X k o po hm a) (ht:Tx l X):∀(n v:Nat),v < n->v < l.length->v≠0->∀x,po v x<=1
 | 0,v,hn,_,_,_=>by omega
 | n+1,v,hn,hv,h0,x=>by
  have h1:=h.qp v hv h0 x;have h2:=ht.plt hv h0;by_cases c:Cp l v=0
  ·rw [ar c] at h1;have:=(h.qh v x).1;omega
  ·rw [aq c] at h1;have:=h.po1 ht n (Cp l v) EM EM c x;omega
theorem Gd.el (h:Gd l S f a) {v:Nat} (hv:v < l.length) (h0:v≠0) (hl:Br l ((v:Nat):Int)=false):Ba (a.e v)=true/\(a.e v).Ae=a.s.Ae:=by
 obtain ⟨n,E,hg,ht,hJ,e⟩:=h;subst ht e;have hG:=Av.1 hg;obtain ⟨r1,r2,r3,r4,r⟩:=hG.rn hv;have:=r.hn h0 hl;show Ba (Li n v)=true/\(Li n v).Ae=n.Ac.Ae;rw [Jl r1];exact ⟨this.1,this.2.1⟩
theorem Gd.rc (h:Gd l S f a) {v:Nat} (hv:v < l.length) (h0:v≠0) (hl:Br l ((v:Nat):Int)=true):Eu (a.r v)/\(a.r v).Ae=a.s.Ae:=by
 obtain ⟨n,E,hg,ht,hJ,e⟩:=h;subst ht e;have hG:=Av.1 hg;obtain ⟨r1,r2,r3,r4,r⟩:=hG.rn hv;have:=r.hf h0 hl;show Eu (N6 n v)/\(N6 n v).Ae=n.Ac.Ae;rw [Iq r2];exact ⟨Gm.1 this.2.1,this.2.2⟩
theorem Gd.src (h:Gd l S f a):Cj a.s=true:=by
 obtain ⟨n,E,hg,ht,hJ,e⟩:=h;subst e;exact (Av.1 hg).s
theorem Gd.que (h:Gd l S f a) {v:Nat}:(∀p∈a.d v,Bh p=true)/\(∀p∈a.u v,Bh p=true/\p.Bd=3):=by
 obtain ⟨n,E,hg,ht,hJ,e⟩:=h;subst ht e;have hG:=Av.1 hg;obtain ⟨q1,q2,q3,q4⟩:=Bk.1 hG.l;by_cases hv:v < n.Ao.Ad.length
 ·obtain ⟨r1,r2,r3,r4,r⟩:=hG.rn hv;show (∀p∈n.down.getD v [],_)/\∀p∈n.up.getD v [],_;rw [N2 r3,N2 r4];exact ⟨fun p hp=>Kj r.hd hp,fun p hp=>⟨Kj r.hu hp,Anx r.hk hp⟩⟩
 ·show (∀p∈n.down.getD v [],_)/\∀p∈n.up.getD v [],_;rw [aT,aT,bf EM,bf EM];exact ⟨fun p hp=>(by cases hp),fun p hp=>(by cases hp)⟩
theorem Yw (ht:Hf l) {i v:Nat} {p:Ar} (h:((v:Nat):Int)∈fcs l a i p):v < l.length/\v≠0/\Cp l v=i:=by
 refine (Lr ht).1 ?_;unfold fcs at h
 split at h
 ·exact Tu _ h
 ·exact h
theorem Tv (ht:Hf l) {i:Nat} (hi:i < l.length) (h0:i≠0):Br l ((Cp l i:Nat):Int)=false:=by
 have:=ht.p i hi EM;have e:((Cp l i:Nat):Int)=l[i]:=by unfold Cp;rw [N2 hi];omega
 unfold Br;rw [e,au (aE hi)];rfl
theorem Jv.dl (h:Jv l X k o po hm a) (ht:Tx l X) (hG:Gd l S f a) (hk:k+1 < l.length) :
  ∃po',Jv l X (k+1) o po' hm (Qw l a (k+1))/\(Cp l (k+1)=0->((Qw l a (k+1)).d (k+1)).length<=sm (X (k+1)) (hm (k+1)))/\(∀v x,po v x<=po' v x):=by
 have flag:∀v,v≠k+1->(if Cp l v<=k/\k < v then 1 else 0)<=if Cp l v<=k+1/\k+1 < v then 1 else 0:=fun v hv=>by
  split
  ·rw [ar EM];exact aA _
  ·exact aD _
 unfold Qw;cases e:a.d (k+1) with
 | nil =>
  dsimp only;refine ⟨po,⟨h.q0,h.qr,fun v hv h0 hp=>?_,h.ql,h.qe,h.qp,h.qh,h.qx⟩,fun _=>?_,fun v x=>aA _⟩
  ·by_cases c:v=k+1
   ·subst c;rw [e];exact aD _
   ·have:=h.qd v hv h0 hp;have:=flag v c;omega
  ·rw [e];exact aD _
 | cons p q =>
  dsimp only;have hpo:∀v x,po v x<=(if v=k+1/\p.Bd=2/\p.Ab=x then po v x+1 else po v x):=fun v x=>by split <;> omega
  have hrt:∀v,v < l.length->v≠0->∀x,(if Cp l v=0 then hm v x else po (Cp l v) x)<=if Cp l v=0 then hm v x else (if Cp l v=k+1/\p.Bd=2/\p.Ab=x then po (Cp l v) x+1 else po (Cp l v) x):=fun v hv h0 x=>by
   split
   ·exact aA _
   ·exact hpo _ _
  have hqi:Cp l (k+1)≠0->q.length<=sm (X (k+1)) (o (k+1)):=fun hp=>by
   have:=h.qd (k+1) hk EM hp;rw [e,aK] at this
   split at this <;> omega
  have hqr:Cp l (k+1)=0->q.length<=sm (X (k+1)) (hm (k+1)):=fun hp=>by
   have:=h.qr (k+1) hk EM hp;rw [e,aK] at this;omega
  have hqp:∀x,(if k+1=k+1/\p.Bd=2/\p.Ab=x then po (k+1) x+1 else po (k+1) x)+Nt x q<=if Cp l (k+1)=0 then hm (k+1) x else (if Cp l (k+1)=k+1/\p.Bd=2/\p.Ab=x then po (Cp l (k+1)) x+1 else po (Cp l (k+1)) x):=fun x=>by
   have h1:=h.qp (k+1) hk EM x;rw [e,Mo] at h1;refine bi ?_ (hrt (k+1) hk EM x);by_cases c:p.Bd=2/\p.Ab=x
   ·rw [ar c] at h1;rw [ar ⟨rfl,c⟩];omega
   ·rw [aq c] at h1;rw [aq (fun d=>c d.2)];omega
  cases hl:Br l ((k+1:Nat):Int)
  ·rw [aq (show ¬(false=true) by decide)];have hge:=(hG.el hk EM hl).1;refine ⟨fun v x=>if v=k+1/\p.Bd=2/\p.Ab=x then po v x+1 else po v x,⟨h.q0,fun v hv h0 hp=>?_,fun v hv h0 hp=>?_,h.ql,fun v hv h0 hlv x=>?_,fun v hv h0 x=>?_,h.qh,fun v hv h0 hlv y hy=>?_⟩,fun hp=>?_,hpo⟩
   ·dsimp only;by_cases c:v=k+1
    ·subst c;rw [ar rfl];have:=hqr hp;omega
    ·rw [aq c,aq (fun hm=>by have:=(Yw ht.t hm).2.2;omega)];exact h.qr v hv h0 hp
   ·dsimp only;by_cases c:v=k+1
    ·subst c;rw [ar rfl];have:=hqi hp;omega
    ·rw [aq c];have h1:=h.qd v hv h0 hp;by_cases c2:((v:Nat):Int)∈fcs l a (k+1) p
     ·exact DN
     ·rw [aq c2];have:=flag v c;omega
   ·dsimp only;have h1:=h.qe v hv h0 hlv x;by_cases c:v=k+1/\p.Bd=2
    ·rw [ar c,Adb (by rw [<-c.1] at hge;rw [<-c.1];exact hge)];by_cases c2:x=p.Ab
     ·rw [ar c2,ar ⟨c.1,c.2,c2.symm⟩];show _+_+1<=_;omega
     ·rw [aq c2,aq (fun d=>c2 d.2.2.symm),<-c.1];exact h1
    ·rw [aq c,aq (fun d=>c ⟨d.1,d.2.1⟩)];exact h1
   ·dsimp only;by_cases c:v=k+1
    ·subst c;rw [ar (rfl:k+1=k+1)];exact hqp x
    ·rw [aq c,aq (fun d=>c d.1)];have h1:=h.qp v hv h0 x;by_cases c2:((v:Nat):Int)∈fcs l a (k+1) p
     ·rw [ar c2];have h2:=(Yw ht.t c2).2.2;have h4:=Afi x p (a.d v);rw [aq EM,h2] at h1;rw [aq EM,h2];by_cases c3:p.Bd=2/\p.Ab=x
      ·rw [ar c3] at h4;rw [ar ⟨rfl,c3⟩];omega
      ·rw [aq c3] at h4;rw [aq (fun d=>c3 d.2)];omega
     ·rw [aq c2];exact bi h1 (hrt v hv h0 x)
   ·dsimp only at hy
    split at hy
    ·rename_i c;have hm:y∈(a.e (k+1)).Af:=by
      unfold Jz at hy
      split at hy
      ·rcases aG.1 hy with hy|hy
       ·exact bg hy
       ·exact bj hy
      ·exact hy
     rw [<-c.1] at hm;exact h.qx v hv h0 hlv y hm
    ·exact h.qx v hv h0 hlv y hy
   ·dsimp only;rw [ar rfl];exact hqr hp
  ·rw [ar rfl];refine ⟨fun v x=>if v=k+1/\p.Bd=2/\p.Ab=x then po v x+1 else po v x,⟨h.q0,fun v hv h0 hp=>?_,fun v hv h0 hp=>?_,h.ql,fun v hv h0 hlv x=>?_,fun v hv h0 x=>?_,h.qh,h.qx⟩,fun hp=>?_,hpo⟩
   ·dsimp only;by_cases c:v=k+1
    ·subst c;rw [ar rfl];have:=hqr hp;omega
    ·rw [aq c];exact h.qr v hv h0 hp
   ·dsimp only;by_cases c:v=k+1
    ·subst c;rw [ar rfl];have:=hqi hp;omega
    ·rw [aq c];have h1:=h.qd v hv h0 hp;have:=flag v c;omega
   ·have h1:=h.qe v hv h0 hlv x;have:=hpo v x;dsimp only;omega
   ·dsimp only;by_cases c:v=k+1
    ·subst c;rw [ar (rfl:k+1=k+1)];exact hqp x
    ·rw [aq c,aq (fun d=>c d.1)];exact bi (h.qp v hv h0 x) (hrt v hv h0 x)
   ·dsimp only;rw [ar rfl];exact hqr hp
def ans (s:Cc) (n:Int):Bool:=E5 s.Aa n && !Ld s.Aa.Al s.holds n
theorem Am9 {s:Cc} {n m:Int} (h:onB s.holds m=true):onB (Hb s n).holds m=true:=by
 unfold Hb
 split
 ·obtain ⟨x,hx,e⟩:=bS.1 h;refine bS.2 ⟨x,?_,e⟩;show x∈Il _ _ _;unfold Il;rw [<-bm (Fa s.Aa.Al s.holds n) s.holds] at hx;rcases aG.1 hx with hx|hx
  ·exact bC _ hx
  ·exact cI _ (aN _ hx)
 ·exact h
theorem Ay9 {s:Cc} {n:Int} (hg:Cj s=true) (hn:0<=n/\n<=65535):ans s n=(E5 s.Aa n && !onB s.holds n):=by
 unfold ans;obtain ⟨-, -, -,h4,h5⟩:=Dd.1 hg;rw [Aen hn (fun h hh=>(h4 h hh).1) h5]
theorem Ap9 {s:Cc} {p:Ar} (x:Int):Nt x (Ib s p)<=if x=p.Ab/\ans s p.Ab=true then 1 else 0:=by
 have h4:∀n,Nt x [Qn s.Aa n]=0:=fun n=>by rw [Mo,aq (fun c=>by cases c.1)];rfl
 unfold Ib ans;cases h1:E5 s.Aa p.Ab
 ·rw [aq EN,Mo,aq (fun c=>by cases c.1)];exact aD _
 ·rw [ar rfl];cases h2:Ld s.Aa.Al s.holds p.Ab
  ·rw [aq EN,Mo,aq (fun c=>by cases c.1),Mo];by_cases c:(C9 s.Aa p).1.Bd=2/\(C9 s.Aa p).1.Ab=x
   ·rw [ar c,ar]
    ·exact aA _
    ·refine ⟨?_,rfl⟩;have c1:=c.1;have c2:=c.2;unfold C9 at c1 c2
     split at c2
     ·exact c2.symm
     ·rename_i hno;rw [aq hno] at c1;cases c1
   ·rw [aq c];exact aD _
  ·rw [ar rfl,h4];exact aD _
theorem Atl (s:Cc) (p:Ar):(Ib s p).length<=1+if ans s p.Ab=true then 1 else 0:=by
 unfold Ib ans;cases h1:E5 s.Aa p.Ab
 ·rw [aq EN];exact aA _
 ·rw [ar rfl];cases h2:Ld s.Aa.Al s.holds p.Ab
  ·rw [aq EN];exact aA _
  ·rw [ar rfl];exact aA _
theorem Aro (x:Int) (q ps:List Ar):Nt x (Da q ps)<=Nt x q+Nt x ps:=by
 unfold Da Nt;rw [bp,aw];have:((ps.take (6 - q.length)).filter fun p=>decide (p.Bd=2) && decide (p.Ab=x)).Sublist (ps.filter fun p=>decide (p.Bd=2) && decide (p.Ab=x)):=(dC _ _).filter _;have:=this.length_le;omega
def oul (a:Vw) (i:Nat) (o:Nat->Int->Nat):Nat->Int->Nat:=match a.u i with
 | []=>o
 | p::_=>fun v y=>if v=i/\y=p.Ab then o v y+1 else o v y
theorem Jv.ul (h:Jv l X k o po hm a) (ht:Tx l X) (hG:Gd l S f a) {i:Nat} (h0:i≠0) (hi:i < l.length) (hE:Cp l i=0->(a.d i).length<=sm (X i) (hm i)) :
  ∃hm',Jv l X k (oul a i o) po hm' (Qx l a i):=by
 unfold Qx oul;cases e:a.u i with
 | nil=>exact ⟨hm,h⟩
 | cons p q =>
  dsimp only;have hpX:p.Ab∈X i:=h.q0 i hi p FH;have hpk:=hG.que.2 p (show p∈a.u i by rw [e];simp);have hser:=Fg hpk.1;have hplt:=ht.plt hi h0;have hsum:∀v,v≠i->sm (X v) (fun y=>if v=i/\y=p.Ab then o v y+1 else o v y)=sm (X v) (o v):=fun v hv=>Zp fun y _=>by rw [aq (fun c=>hv c.1)]
  have hsum':sm (X i) (fun y=>if i=i/\y=p.Ab then o i y+1 else o i y)=sm (X i) (o i)+1:=Anp (ht.n i) hpX (fun y hy=>by rw [aq (fun c=>hy c.2)]) (by rw [ar ⟨rfl,rfl⟩]);have hcnt:∀x,(if i=i/\x=p.Ab then o i x+1 else o i x)+J4 x q=o i x+J4 x (a.u i):=fun x=>by
   rw [e,Tp];by_cases c:x=p.Ab
   ·rw [ar ⟨rfl,c⟩,ar c.symm];omega
   ·rw [aq (fun d=>c d.2),aq (fun d=>c d.symm)];omega
  by_cases hz:Cp l i=0
  ·rw [ar hz];have hnk:∀v,Cp l v≠i\/True:=fun _=>.inr trivial;refine ⟨fun v y=>if v=i/\y=p.Ab/\ans a.s p.Ab=true then hm v y+1 else hm v y,⟨fun v hv r hr=>?_,fun v hv v0 hp=>?_,fun v hv v0 hp=>?_,fun v hv v0 hlv x=>?_,fun v hv v0 hlv x=>?_,fun v hv v0 x=>?_,fun v x=>?_,h.qx⟩⟩
   ·dsimp only at hr
    split at hr
    ·rename_i c;subst c;exact h.q0 v hv r GF
    ·exact h.q0 v hv r hr
   ·dsimp only;by_cases c:v=i
    ·subst c;rw [ar rfl];have h1:=(Ad5 (a.d v) (Ib a.s p)).1;have h2:=Atl a.s p;have h3:=hE hz;cases ha:ans a.s p.Ab
     ·rw [ha,aq EN] at h2;rw [Zp (g:=hm v) fun y _=>by rw [aq (fun c=>by cases c.2.2)]];omega
     ·rw [ha,ar rfl] at h2;rw [Anp (x:=p.Ab) (g:=hm v) (ht.n v) hpX (fun y hy=>by rw [aq (fun c=>hy c.2.1)]) (by rw [ar ⟨rfl,rfl,rfl⟩])];omega
    ·rw [aq c,Zp (g:=hm v) fun y _=>by rw [aq (fun d=>c d.1)]];exact h.qr v hv v0 hp
   ·dsimp only;by_cases c:v=i
    ·subst c;exact absurd hz hp
    ·rw [aq c];have:=hsum v c;rw [this];exact h.qd v hv v0 hp
   ·dsimp only;by_cases c:v=i
    ·subst c;rw [ar (rfl:v=v),hcnt];exact h.ql v hv v0 hlv x
    ·rw [aq (fun d=>c d.1),aq c];exact h.ql v hv v0 hlv x
   ·dsimp only;by_cases c:v=i
    ·subst c;rw [ar (rfl:v=v),hcnt];exact h.qe v hv v0 hlv x
    ·rw [aq (fun d=>c d.1),aq c];exact h.qe v hv v0 hlv x
   ·dsimp only;have h1:=h.qp v hv v0 x;by_cases c:v=i
    ·subst c;rw [ar (rfl:v=v),ar hz];rw [ar hz] at h1;have h2:=Aro x (a.d v) (Ib a.s p);have h3:=Ap9 (s:=a.s) (p:=p) x;by_cases c2:x=p.Ab/\ans a.s p.Ab=true
     ·rw [ar c2] at h3;rw [ar ⟨rfl,c2⟩];omega
     ·rw [aq c2] at h3;rw [aq (fun d=>c2 d.2)];omega
    ·rw [aq c,aq (show ¬(v=i/\x=p.Ab/\ans a.s p.Ab=true) from fun d=>c d.1)];exact h1
   ·obtain ⟨h1,h2⟩:=h.qh v x;dsimp only;by_cases c:v=i/\x=p.Ab/\ans a.s p.Ab=true
    ·rw [ar c];have h3:=Ay9 (n:=p.Ab) hG.src hser;rw [c.2.2] at h3;have h4:E5 a.s.Aa p.Ab=true/\onB a.s.holds p.Ab=false:=by simpa using h3.symm
     have h5:hm v x=0:=by
      rcases bQ (hm v x) with h5|h5
      ·exact h5
      ·have:=(h2 h5).1;rw [c.2.1,h4.2] at this;cases this
     refine ⟨EM,fun _=>⟨?_,by rw [c.1,c.2.1];exact hpX⟩⟩;rw [c.2.1,(As3 hG.src hser).1];exact h4.1
    ·rw [aq c];exact ⟨h1,fun h3=>⟨Am9 (h2 h3).1,(h2 h3).2⟩⟩
  ·rw [aq hz];have hPl:=Tv ht.t hi h0;have hP:Cp l i < l.length:=EM
   have hge:=(hG.el hP hz hPl).1;have hXP:X i=X (Cp l i):=ht.g i hz;have h5:(a.e (Cp l i)).Af.length < 5:=by
    have h1:=Vr (l:=(a.e (Cp l i)).Af) (g:=Et.Ab) (D6.1 hge).2.2.2 (h.qx (Cp l i) hP hz hPl);have:=ht.s (Cp l i);omega
   have hfac:M7 ((i:Nat):Int)=true:=Jy.2 ⟨EM,by have:=ht.t.n1;omega⟩;refine ⟨hm,⟨fun v hv r hr=>?_,fun v hv v0 hp=>?_,fun v hv v0 hp=>?_,fun v hv v0 hlv x=>?_,fun v hv v0 hlv x=>?_,fun v hv v0 x=>?_,h.qh,fun v hv v0 hlv y hy=>?_⟩⟩
   ·dsimp only at hr
    split at hr
    ·rename_i c;subst c;exact h.q0 v hv r GF
    ·split at hr
     ·rename_i c2;rcases I9 hr with hr|rfl
      ·exact h.q0 v hv r hr
      ·rw [c2.1,<-hXP];exact hpX
     ·exact h.q0 v hv r hr
   ·dsimp only;rw [aq (fun c=>by subst c;exact hz hp)];exact h.qr v hv v0 hp
   ·dsimp only;have h1:=h.qd v hv v0 hp;by_cases c:v=i
    ·subst c;rw [ar (rfl:v=v),hsum'];have:=T6 (a.d v) (Rz p);omega
    ·rw [aq c,hsum v c];exact h1
   ·dsimp only;by_cases c:v=i
    ·subst c;rw [ar (rfl:v=v),hcnt];exact h.ql v hv v0 hlv x
    ·rw [aq (fun d=>c d.1),aq c,aq (fun d=>by rw [d.1,hPl] at hlv;cases hlv)];exact h.ql v hv v0 hlv x
   ·dsimp only;have h1:=h.qe v hv v0 hlv x;by_cases c:v=i
    ·subst c;rw [ar (rfl:v=v),aq (show ¬v=Cp l v by omega),hcnt];exact h1
    ·rw [aq (fun d=>c d.1),aq c];by_cases c2:v=Cp l i
     ·subst c2;rw [ar (rfl:Cp l i=Cp l i),Ale hge (Bb.2 hser) hfac h5];cases hfw:Pi (a.e (Cp l i)) p.Ab
      ·rw [aq (fun d=>by cases d.2)];rw [Aaf] at hfw;by_cases c3:x=p.Ab
       ·rw [ar c3];show _+0<=_;omega
       ·rw [aq c3];exact h1
      ·rw [ar ⟨rfl,rfl⟩];rw [Aaf] at hfw;have h3:=Afj x p (a.u (Cp l i));by_cases c3:x=p.Ab
       ·rw [ar c3];rw [ar c3.symm] at h3;have:noE (en (a.e (Cp l i)) x)=1:=by
         rw [c3];cases hc:en (a.e (Cp l i)) p.Ab with
         | none=>rfl
         | some y=>rw [hc] at hfw;cases hfw
        show _+0<=_;omega
       ·rw [aq c3];rw [aq (fun d=>c3 d.symm)] at h3;omega
     ·rw [aq (fun d=>c2 d.1),aq c2];exact h1
   ·dsimp only;have h1:=h.qp v hv v0 x;by_cases c:v=i
    ·subst c;rw [ar (rfl:v=v)];have h2:=Afi x (Rz p) (a.d v);rw [aq (fun d=>by cases d.1)] at h2;omega
    ·rw [aq c];exact h1
   ·dsimp only at hy
    split at hy
    ·rename_i c;subst c;have hy2:en (Ka (a.e (Cp l i)) p.Ab ((i:Nat):Int)) y.Ab=some y:=Ald (Aag hge (Bb.2 hser) hfac) hy;rw [Ale hge (Bb.2 hser) hfac h5] at hy2
     split at hy2
     ·rename_i c2;rw [c2,<-hXP];exact hpX
     ·exact h.qx _ hv v0 hlv y (Qc hy2).1
    ·exact h.qx v hv v0 hlv y hy
theorem Jv.wrap (h:Jv l X (l.length - 1) o po hm a):Jv l X 0 o po hm a:=⟨h.q0,h.qr,fun v hv h0 hp=>by
 have:=h.qd v hv h0 hp;rw [aq EM] at this;omega,h.ql,h.qe,h.qp,h.qh,h.qx⟩
theorem Jv.pX (h:Jv l X k o po hm a) (ht:Tx l X):∀(n v:Nat),v < n->v < l.length->v≠0->∀x,1<=po v x\/1<=Nt x (a.d v)->x∈X v
 | 0,v,hn,_,_,_,_=>by omega
 | n+1,v,hn,hv,h0,x,hx=>by
  have h1:=h.qp v hv h0 x;have h2:=ht.plt hv h0;by_cases c:Cp l v=0
  ·rw [ar c] at h1;exact ((h.qh v x).2 EM).2
  ·rw [aq c] at h1;rw [ht.g v c];exact h.pX ht n (Cp l v) EM EM c x (.inl EM)
theorem Jv.full (h:Jv l X k o po hm a) (ht:Tx l X) {v:Nat} (hv:v < l.length) (h0:v≠0) (hp:Cp l v≠0) (hk:¬(Cp l v<=k/\k < v)) (h6:6<=(a.d v).length):∀y∈X v,o v y=2/\po v y=1:=fun y hy=>by
 have h1:=h.qd v hv h0 hp;rw [aq hk] at h1;have hpo:=fun z=>h.po1 ht (v+1) v EM hv h0 z;have h2:∀z,o v z<=1+po v z:=fun z=>by
  cases hl:Br l ((v:Nat):Int)
  ·have:=h.qe v hv h0 hl z;omega
  ·have:=h.ql v hv h0 hl z;omega
 have h3:=h2 y;have h4:=hpo y;rcases cw (o v y) 2 with c|c
 ·have:=At0 (X:=X v) (g:=o v) (b:=2) (fun z _=>by have:=h2 z;have:=hpo z;omega) hy c;have:=ht.s v;omega
 ·omega
theorem Jv.roomR (h:Jv l X k o po hm a) (ht:Tx l X) (hk:k+1 < l.length) {v:Nat} (hv:v < l.length) (h0:v≠0) (hp:Cp l v=k+1) {x:Int} (hx:1<=Nt x (a.d (k+1))):(a.d v).length < 6:=by
 rcases cw (a.d v).length 6 with c|c
 ·exact c
 ·exfalso;have h1:=h.qp (k+1) hk EM x;have hX:=h.pX ht (k+2) (k+1) EM hk EM x (.inr hx);have h2:=h.full ht hv h0 EM EM c x (by rw [ht.g v EM,hp];exact hX);have h3:=h.qp v hv h0 x;rw [aq EM,hp] at h3;have h4:(if Cp l (k+1)=0 then hm (k+1) x else po (Cp l (k+1)) x)<=1:=by
   split
   ·exact (h.qh _ x).1
   ·rename_i c2;have:=ht.plt hk EM;exact h.po1 ht (k+1) _ EM EM c2 x
  omega
theorem Jv.roomU (h:Jv l X k o po hm a) (ht:Tx l X) {v:Nat} (hv:v < l.length) (h0:v≠0) (hl:Br l ((v:Nat):Int)=false) {x:Int} (hX:x∈X v) (hx:en (a.e v) x=none):(a.u v).length < 6:=by
 have h1:=Av8 (X:=X v) (q:=a.u v) (fun p hp=>h.q0 v hv p hp) (ht.n v);have hpo:=fun z=>h.po1 ht (v+1) v EM hv h0 z;have h2:=At0 (X:=X v) (g:=fun z=>J4 z (a.u v)) (b:=2) (fun z _=>by have:=h.qe v hv h0 hl z;have:=hpo z;omega) hX (by
  have:=h.qe v hv h0 hl x;rw [hx] at this;have h3:noE none=1:=rfl;have:=hpo x;omega)
 have:=ht.s v;omega
end
section
variable {f:Int} {S:ah} {k:Nat}
theorem Tc {w:Ak} (hn:w.next=A8 f k) (hk:k<=2000) {j:Nat} (hj:j<=2000):Em w (A8 f j)=true↔j < k\/C2 w.Am (j - k)=true:=by
 unfold Em;rw [hn,Ky f hj hk];by_cases c:j < k
 ·rw [au c];exact ⟨fun _=>.inl c,fun _=>rfl⟩
 ·rw [ay c,eu,Wj hk hn hj EM];exact ⟨.inr,fun h=>h.resolve_left c⟩
theorem Ahf {l:List Hn} {i:Nat} (h:C2 l i=true):∃s,l[i]?=some s/\s.Vi=true:=by
 unfold C2 at h;cases e:l[i]? with
 | none=>rw [e] at h;cases h
 | some s=>rw [e] at h;exact ⟨s,rfl,h⟩
theorem Ajt {r:Ay} {p:Ar} {es:ah} (hS:S.length<=8) (hg:Eu r) (hp:Bh p=true) (hst:r.A1=true) (hw:WnI S f r.Aa es k) (hpk:PkI S f p) (hn:Dq p=true) :
  ∃k3,k<=k3/\k3<=S.length/\(Be r p).next=A8 f (k3:Nat)/\(∀i,k3<=i->C2 r.Aa.Am (i - k)=true->C2 (Be r p).Am (i - k3)=true)/\(p.Bd≠5->∃j:Nat,j < S.length/\p.Ab=A8 f j/\(j < k3\/C2 (Be r p).Am (j - k3)=true)):=by
 have hkl:=hw.le;have hsw:C8 r p=r.Aa:=(Jj hg hp).2 hst;have htg:=(Oh hg hp).1;obtain ⟨k2,a1,a2,a3,a4,a5,a6⟩:∃k2,k<=k2/\k2<=S.length/\(C0 r p).next=A8 f (k2:Nat)/\SlI S k2 (C0 r p).Am/\(∀i,k2<=i->C2 r.Aa.Am (i - k)=true->C2 (C0 r p).Am (i - k2)=true)/\(p.Bd≠5->∃j:Nat,j < S.length/\p.Ab=A8 f j/\(j < k2\/C2 (C0 r p).Am (j - k2)=true)):=by
  unfold C0;by_cases h5:p.Bd=5
  ·rw [ar h5,hsw];exact ⟨k,aA _,hkl,hw.n,hw.s,fun i _ h=>h,fun h=>absurd h5 h⟩
  ·rw [aq h5,hsw];obtain ⟨j,hj,ej⟩:=hpk.n hn h5;have hjl:=(bh.1 hj).1;rw [ej];obtain ⟨k2,b1,b2,b3,b4,b5⟩:=Acr (t:=p.data) hg.w hw.n EM (show j<=2000 by omega) EM;obtain ⟨-,c2,c3,c4⟩:=Al8 (t:=p.data) hg.w hw.n hw.s hkl hj EM;generalize (Jb r.Aa (A8 f j) p.data).length=n at c2 c3 c4;have hle:k2<=S.length:=by
    by_cases c:k2<=k
    ·omega
    ·rcases b5 (k2 - 1) EM EM with h|h
     ·obtain ⟨s,hs1,hs2⟩:=Ahf h;have:=(bh.1 (hw.s (k2 - 1 - k) s hs1 hs2)).1;omega
     ·omega
   have hk2:k2=k+n:=Oy f EM EM (b2.symm.trans c3);exact ⟨k2,b1,hle,b2,by rw [hk2];exact c4,fun i hi h=>by rw [b3 i hi,h];rfl,fun _=>⟨j,hjl,rfl,b4⟩⟩
 obtain ⟨i0,hi0,et⟩:=hpk.t hn;unfold Be Jt;rw [a3,et,Ky f EM EM];by_cases c:k2 < i0
 ·rw [au c,ar rfl,ar HN];obtain ⟨-,b2,b3, -,b5⟩:=U1 (i:=i0) htg a3 a4 EM hi0 EM;obtain ⟨-,b6, -, -⟩:=Na (t:=A8 f (i0:Nat)) htg;generalize (Fm (C0 r p) (A8 f (i0:Nat))).length=n at b2 b3 b5 b6;refine ⟨k2+n,EM,b2,b3,fun i hi h=>?_,fun h5=>?_⟩
  ·rw [b6,K0,show n+(i - (k2+n))=i - k2 by omega];exact a5 i EM h
  ·obtain ⟨j,hj,ej,hh⟩:=a6 h5;refine ⟨j,hj,ej,?_⟩;by_cases c2:j < k2+n
   ·exact .inl c2
   ·right;rw [b6,K0,show n+(j - (k2+n))=j - k2 by omega];exact hh.resolve_left EM
 ·rw [ay c,aq EN];exact ⟨k2,a1,a2,a3,a5,a6⟩
def Zr (r:Ay) (x:Int):Prop:=r.A1=true/\Em r.Aa x=true
theorem Zr.rq {r:Ay} {x:Int} (hg:Eu r) (h:Zr r x):rq r x=none:=Zo.2 fun q hq e=>by
 obtain ⟨a,b,c⟩:=U6 hg hq;have h2:=h.2;unfold Em at h2;rw [<-e,c,eV] at h2;unfold Qa Ht at h2;simp only [av,aC] at h2;unfold gp at b h2;omega
theorem Ahg {r:Ay} {p:Ar} {es:ah} {d:Int} (hS:S.length<=8) (hg:Eu r) (hp:Bh p=true) (h:RcI S f r es) (hpk:PkI S f p) {j:Nat} (hj:j < S.length) :
  (Zr r (A8 f j)->Zr (Bt r p d) (A8 f j))/\(∀q,rq r (A8 f j)=some q->(p.Bd=2->p.Ab=A8 f j->Zr (Bt r p d) (A8 f j))):=by
 unfold Bt;cases hn:Dq p
 ·rw [aq EN];refine ⟨fun hz=>?_,fun q _ h2=>?_⟩
  ·split
   ·exact hz
   ·exact hz
  ·unfold Dq at hn;rw [h2] at hn;cases hn
 ·rw [ar rfl];have key:r.A1=true->(Zr r (A8 f j)->Zr (Gb r p d) (A8 f j))/\(p.Bd=2->p.Ab=A8 f j->Zr (Gb r p d) (A8 f j)):=fun hst=>by
   obtain ⟨k,hw, -⟩:=h.w hst;obtain ⟨k3,b1,b2,b3,b4,b5⟩:=Ajt hS hg hp hst hw hpk hn;have hkl:=hw.le;refine ⟨fun hz=>⟨rfl,(Tc (w:=Be r p) b3 EM EM).2 ?_⟩,fun h2 ex=>⟨rfl,(Tc (w:=Be r p) b3 EM EM).2 ?_⟩⟩
   ·by_cases c:j < k3
    ·exact .inl c
    ·rcases (Tc hw.n EM EM).1 hz.2 with q|q
     ·omega
     ·exact .inr (b4 j EM q)
   ·obtain ⟨j2,hj2,ej,hh⟩:=b5 (by rw [h2];decide);have:j2=j:=Oy f EM EM (ej.symm.trans ex)
    rwa [this] at hh
  refine ⟨fun hz=>(key hz.1).1 hz,fun q hq h2 ex=>?_⟩;have hst:r.A1=true:=by
   cases c:r.A1
   ·have:=(Es hq).1;rw [(hg.z c).2] at this;cases this
   ·rfl
  exact (key hst).2 h2 ex
theorem Aoz {r:Ay} {p:Ar} {es:ah} {d:Int} (hS:S.length<=8) (hg:Eu r) (hp:Bh p=true) (d0:1<=d) (d1:d<=8) (h:RcI S f r es) (hpk:PkI S f p) {j:Nat} (hj:j < S.length) {q:Aw} (hq:rq r (A8 f j)=some q) :
  (∃q',rq (Bt r p d) (A8 f j)=some q')\/Zr (Bt r p d) (A8 f j):=by
 have hst:r.A1=true:=by
  cases c:r.A1
  ·have:=(Es hq).1;rw [(hg.z c).2] at this;cases this
  ·rfl
 have hG:=(Oo (d:=d) hg hp d0 d1).1;cases hn:Dq p
 ·by_cases h4:p.Bd=4
  ·left;rw [Ab9 hg hp h4 hst]
   split
   ·rw [hq];exact ⟨_,rfl⟩
   ·exact ⟨q,hq⟩
  ·left;have:Bt r p d=r:=by unfold Bt;rw [hn,aq EN,ay h4];rfl
   rw [this];exact ⟨q,hq⟩
 ·have e1:Bt r p d=Gb r p d:=FZ
  obtain ⟨k,hw, -⟩:=h.w hst;obtain ⟨k3,b1,b2,b3,b4,b5⟩:=Ajt hS hg hp hst hw hpk hn;have hkl:=hw.le;by_cases c:Em (Be r p) (A8 f j)=true
  ·right;rw [e1];exact ⟨rfl,c⟩
  ·left;have hc:¬(j < k3\/C2 (Be r p).Am (j - k3)=true):=fun q=>c ((Tc b3 EM EM).2 q);have hjk:k3<=j:=EM
   have hh:C2 (Be r p).Am (j - k3)=false:=by
    cases c2:C2 (Be r p).Am (j - k3)
    ·rfl
    ·exact absurd (.inr c2) hc
   have hm:q∈C3 r.Aj (Be r p):=by
    obtain ⟨q1,q2⟩:=Es hq;unfold C3;refine aO.2 ⟨q1,?_⟩;rw [q2,b3,Ky f EM EM,ay EM,Wj (show k3<=2000 by omega) b3 EM hjk,hh,Pm f EM EM hjk,au (show (((j - k3:Nat):Int)) < 8 by omega)];rfl
   have hm2:q∈(Gb r p d).Aj:=by
    show q∈H8 (Be r p) (C3 r.Aj (Be r p)) p.Cy (r.Ae+d);unfold H8
    split
    ·have:∀(ns:al) (L:List Aw),q∈L->q∈Ii (Be r p).next (r.Ae+d) L ns:=fun ns=>by
      induction ns with
      | nil=>intro L h;exact h
      | cons n ns ih =>
       intro L h;refine ih _ ?_;show q∈Nz (Be r p).next L n (r.Ae+d)
       unfold Nz
       split
       ·exact h
       ·unfold Sb;rw [<-bm (D8 (Be r p).next L n) L] at h;rcases aG.1 h with h|h
        ·exact bC _ h
        ·exact cI _ (aN _ h)
     exact this _ _ hm
    ·exact hm
   rw [e1] at hG ⊢;have:=Mh hG hm2;rw [(Es hq).2] at this;exact ⟨q,this⟩
end
inductive Tk (l:al):Nat->Nat->Prop
 | nil (v:Nat):Tk l v v
 | cons {v w M:Nat}:w < l.length->w≠0->Cp l w=v->Tk l w M->Tk l v M
inductive Itc (l:al) (x:Int) (e:Nat->Bg):Nat->Nat->Prop
 | nil (v:Nat):Itc l x e v v
 | cons {v w M:Nat} {y:Et}:w < l.length->w≠0->Cp l w=v->en (e v) x=some y->((w:Nat):Int)∈y.Bp->Itc l x e w M->Itc l x e v M
section
variable {l:al} {x:Int} {e e':Nat->Bg} {v w M i:Nat}
theorem Tk.trans (h:Tk l v w) (h2:Tk l w M):Tk l v M:=by
 induction h with
 | nil=>exact h2
 | cons a b c _ ih=>exact .cons a b c (ih h2)
theorem Itc.mono (h:Itc l x e v M) (hm:∀v y,en (e v) x=some y->∃y',en (e' v) x=some y'/\∀z∈y.Bp,z∈y'.Bp):Itc l x e' v M:=by
 induction h with
 | nil=>exact .nil _
 | cons a b c d f _ ih =>
  obtain ⟨y',h1,h2⟩:=hm _ _ d;exact .cons a b c h1 (h2 _ f) ih
theorem Itc.cut (h:Itc l x e v M) (hm:∀u,u≠i->e' u=e u):Itc l x e' v M\/∃w y,w < l.length/\w≠0/\Cp l w=i/\en (e i) x=some y/\((w:Nat):Int)∈y.Bp/\Itc l x e' w M:=by
 induction h with
 | nil=>exact .inl (.nil _)
 | @cons v w M y a b c d f _ ih =>
  rcases ih with ih|ih
  ·by_cases hv:v=i
   ·subst hv;exact .inr ⟨w,y,a,b,c,d,f,ih⟩
   ·left;refine .cons a b c ?_ f ih;rw [hm v hv];exact d
  ·exact .inr ih
theorem Itc.und (h:Itc l x e v M):Tk l v M:=by
 induction h with
 | nil=>exact .nil _
 | cons a b c _ _ _ ih=>exact .cons a b c ih
theorem Zd (ht:Hf l) (hl:Br l ((v:Nat):Int)=true) (hw:w < l.length) (h0:w≠0):Cp l w≠v:=fun c=>by
 have:=Tv ht hw h0;rw [c,hl] at this;cases this
theorem Tk.leaf (ht:Hf l) (hl:Br l ((v:Nat):Int)=true) (h:Tk l v M):M=v:=by
 cases h with
 | nil=>rfl
 | cons a b c _=>exact absurd c (Zd ht hl a b)
end
def Dn (l:al) (x:Int) (Sn:Nat->Prop) (a:Vw):Prop :=
 (∃M,Sn M/\Zr (a.r M) x)\/∃w M,w < l.length/\w≠0/\Sn M/\1<=Nt x (a.d w)/\Itc l x a.e w M
structure Kv (l:al) (x:Int) (c:Int) (Sn:Nat->Prop) (On:Nat->Int->Prop) (o:Nat->Int->Nat) (mk:Nat->Prop) (a:Vw):Prop where
 sn:∀M,Sn M->M < l.length/\M≠0/\Br l ((M:Nat):Int)=true
 g1:∀M,Sn M->1<=J4 x (a.u M)\/1<=o M x
 g2:∀v,mk v->1<=J4 x (a.u v)\/1<=o v x
 g3:∀v,v < l.length->v≠0->1<=o v x->(Cp l v=0->onB a.s.holds x=true)/\(Cp l v≠0->(∃u,On (Cp l v) u)\/mk (Cp l v))
 g4:∀v,v < l.length->v≠0->Br l ((v:Nat):Int)=false->∀y,en (a.e v) x=some y->(On v y.Bl/\y.Bl<=c+5)\/mk v
 g6:∀v,v < l.length->v≠0->1<=J4 x (a.u v)\/1<=o v x->∃M,Tk l v M/\Sn M
 g7:∀M,Sn M->(∃q,rq (a.r M) x=some q)\/Zr (a.r M) x
 gh:E5 a.s.Aa x=true
 gc:a.s.Ae=c
 h1:(∃h∈a.s.holds,h.Ab=x/\h.Bl=c+3)->Dn l x Sn a
 h2:∀v,v < l.length->v≠0->1<=J4 x (a.u v)->Dn l x Sn a\/∃M,Sn M/\Itc l x a.e v M
theorem Ys (x:Int) (p:Ar) (q:List Ar):Nt x q<=Nt x (Er q p):=by
 unfold Er
 split
 ·unfold Nt;rw [bp,aw];omega
 ·exact aA _
theorem Aiy (x:Int) (q ps:List Ar):Nt x q<=Nt x (Da q ps):=by
 unfold Da Nt;rw [bp,aw];omega
theorem Yt (x:Int) (p:Ar) (q:List Ar):J4 x q<=J4 x (Er q p):=by
 unfold Er
 split
 ·unfold J4;rw [bp,aw];omega
 ·exact aA _
theorem Aab {x:Int} {p:Ar} {q:List Ar} (h:q.length < 6) (h2:p.Bd=2) (hx:p.Ab=x):1<=Nt x (Er q p):=by
 unfold Er;rw [ar h];unfold Nt;rw [bp,aw];have:([p].filter fun p=>decide (p.Bd=2) && decide (p.Ab=x))=[p]:=by rw [bT,ar (by simp [h2,hx])];rfl
 rw [this,bY];omega
theorem Aof {x:Int} {p:Ar} {q:List Ar} (h:q.length < 6) (hx:p.Ab=x):1<=J4 x (Er q p):=by
 unfold Er;rw [ar h];unfold J4;rw [bp,aw];have:([p].filter fun p=>decide (p.Ab=x))=[p]:=by rw [bT,ar IH];rfl
 rw [this,bY];omega
theorem Ak7 {x:Int} {p:Ar} {q:List Ar} (h:p.Ab≠x):J4 x (Er q p)=J4 x q:=by
 have h1:=Afj x p q;have h2:=Yt x p q;rw [aq h] at h1;omega
section
variable {l:al} {X:Nat->al} {k:Nat} {o po hm:Nat->Int->Nat} {a:Vw} {S:ah} {f:Int} {x c:Int} {Sn mk:Nat->Prop} {On:Nat->Int->Prop}
theorem Gd.rci (h:Gd l S f a) {v:Nat} (hv:v < l.length):∃es,RcI S f (a.r v) es:=by
 obtain ⟨n,E,hg,ht,hJ,e⟩:=h;subst ht e;have hG:=Av.1 hg;obtain ⟨q1,q2,q3,q4⟩:=Bk.1 hG.l;refine ⟨Ad2 v E,?_⟩;show RcI S f (N6 n v) _;rw [Iq (show v < n.Ah.length by omega)];exact hJ.r v EM
theorem Gd.pki (h:Gd l S f a) {v:Nat}:∀p∈a.d v,PkI S f p:=by
 obtain ⟨n,E,hg,ht,hJ,e⟩:=h;subst e;intro p hp;have hp2:p∈n.down.getD v []:=hp;rw [aT] at hp2;cases hd:n.down[v]? with
 | none=>rw [hd] at hp2;cases hp2
 | some q=>rw [hd] at hp2;exact hJ.d q (bM hd) p hp2
theorem Lp (v:Nat):1<=Ij v/\Ij v<=8:=by unfold Ij;omega
theorem Kv.dl (h:Kv l x c Sn On o mk a) (hj:Jv l X k o po hm a) (ht:Tx l X) (hG:Gd l S f a) (hS:S.length<=8) {j:Nat} (hjS:j < S.length) (hx:x=A8 f j) (hk:k+1 < l.length):Kv l x c Sn On o mk (Qw l a (k+1)):=by
 unfold Qw;cases e:a.d (k+1) with
 | nil=>exact h
 | cons p q =>
  dsimp only;have hp:p∈a.d (k+1):=FH
  have hpk:=hG.que.1 p hp;have hpi:=hG.pki p hp;cases hl:Br l ((k+1:Nat):Int)
  ·rw [aq (show ¬(false=true) by decide)];have hge:=(hG.el hk EM hl).1
   -- what becomes of entries and packets for x
   have hen:∀v y,en (if v=k+1/\p.Bd=2 then Jz (a.e (k+1)) p.Ab else a.e v) x=some y->en (a.e v) x=some y:=fun v y hy=>by
    split at hy
    ·rename_i d;rw [Adb hge] at hy
     split at hy
     ·cases hy
     ·rw [d.1];exact hy
    ·exact hy
   have hdge:∀w,w≠k+1->Nt x (a.d w)<=Nt x (if w=k+1 then q else if ((w:Nat):Int)∈fcs l a (k+1) p then Er (a.d w) p else a.d w):=fun w hw=>by
    rw [aq hw]
    split
    ·exact Ys _ _ _
    ·exact aA _
   have hitc:∀w M,M≠k+1->Itc l x a.e w M->(w=k+1->p.Bd=2->p.Ab=x->False)->(Itc l x (fun v=>if v=k+1/\p.Bd=2 then Jz (a.e (k+1)) p.Ab else a.e v) w M)\/(p.Bd=2/\p.Ab=x/\∃u,u < l.length/\u≠0/\1<=Nt x (if u=k+1 then q else if ((u:Nat):Int)∈fcs l a (k+1) p then Er (a.d u) p else a.d u)/\Itc l x (fun v=>if v=k+1/\p.Bd=2 then Jz (a.e (k+1)) p.Ab else a.e v) u M):=fun w M _ hi _=>by
    by_cases hR:p.Bd=2/\p.Ab=x
    ·rcases hi.cut (e':=fun v=>if v=k+1/\p.Bd=2 then Jz (a.e (k+1)) p.Ab else a.e v) (i:=k+1) (fun u hu=>by rw [aq (fun d=>hu d.1)]) with hi|⟨u,y,u1,u2,u3,u4,u5,u6⟩
     ·exact .inl hi
     ·refine .inr ⟨hR.1,hR.2,u,u1,u2,?_,u6⟩;have hne:u≠k+1:=IX
      have hkid:((u:Nat):Int)∈E7 l ((k+1:Nat):Int):=(Lr ht.t).2 ⟨u1,u2,u3⟩;rw [aq hne,ar (by
       unfold fcs;rw [ar hR.1,Aha hge,hR.2,u4];exact aO.2 ⟨u5,by simpa using hkid⟩)]
      refine Aab (hj.roomR ht hk u1 u2 u3 (x:=x) ?_) hR.1 hR.2;rw [e,Mo,ar hR];omega
    ·left;refine hi.mono fun v y hy=>⟨y,?_,fun z hz=>hz⟩
     split
     ·rename_i d;rw [Adb hge,aq (fun d2=>hR ⟨d.2,d2.symm⟩),<-d.1];exact hy
     ·exact hy
   have hnl:∀M,Sn M->M≠k+1:=fun M hM d=>by
    have:=(h.sn M hM).2.2;rw [d,hl] at this;cases this
   have hDn:Dn l x Sn a->Dn l x Sn ⟨fun v=>if v=k+1 then q else if ((v:Nat):Int)∈fcs l a (k+1) p then Er (a.d v) p else a.d v,a.u,a.r,fun v=>if v=k+1/\p.Bd=2 then Jz (a.e (k+1)) p.Ab else a.e v,a.s⟩:=fun hd=>by
    rcases hd with hd|⟨w,M,w1,w2,w3,w4,w5⟩
    ·exact .inl hd
    ·right;by_cases hR:w=k+1/\p.Bd=2/\p.Ab=x
     ·-- the repair itself goes on
      rcases w5.cut (e':=fun v=>if v=k+1/\p.Bd=2 then Jz (a.e (k+1)) p.Ab else a.e v) (i:=k+1) (fun u hu=>by rw [aq (fun d=>hu d.1)]) with hi|⟨u,y,u1,u2,u3,u4,u5,u6⟩
      ·exfalso;rw [hR.1] at hi;cases hi with
       | nil=>exact hnl _ w3 rfl
       | cons _ _ _ d _ _ =>
        rw [ar ⟨rfl,hR.2.1⟩,Adb hge,ar hR.2.2.symm] at d;cases d
      ·refine ⟨u,M,u1,u2,w3,?_,u6⟩;have hne:u≠k+1:=IX
       have hkid:((u:Nat):Int)∈E7 l ((k+1:Nat):Int):=(Lr ht.t).2 ⟨u1,u2,u3⟩;dsimp only;rw [aq hne,ar (by
        unfold fcs;rw [ar hR.2.1,Aha hge,hR.2.2,u4];exact aO.2 ⟨u5,by simpa using hkid⟩)]
       refine Aab (hj.roomR ht hk u1 u2 u3 (x:=x) ?_) hR.2.1 hR.2.2;rw [e,Mo,ar hR.2];omega
     ·rcases hitc w M (hnl M w3) w5 (fun d1 d2 d3=>hR ⟨d1,d2,d3⟩) with hi|⟨-, -,u,u1,u2,u3,u4⟩
      ·refine ⟨w,M,w1,w2,w3,?_,hi⟩;dsimp only;by_cases hw:w=k+1
       ·rw [ar hw];rw [hw,e,Mo,aq (fun d=>hR ⟨hw,d⟩)] at w4;omega
       ·exact bi w4 (hdge w hw)
      ·exact ⟨u,M,u1,u2,w3,u3,u4⟩
   refine ⟨h.sn,h.g1,h.g2,h.g3,fun v hv v0 hlv y hy=>h.g4 v hv v0 hlv y (hen v y hy),h.g6,h.g7,h.gh,h.gc,fun hh=>hDn (h.h1 hh),fun v hv v0 hc=>?_⟩;rcases h.h2 v hv v0 hc with hd|⟨M,hM,hi⟩
   ·exact .inl (hDn hd)
   ·by_cases hR:v=k+1/\p.Bd=2/\p.Ab=x
    ·left;right;rcases hi.cut (e':=fun v=>if v=k+1/\p.Bd=2 then Jz (a.e (k+1)) p.Ab else a.e v) (i:=k+1) (fun u hu=>by rw [aq (fun d=>hu d.1)]) with hi|⟨u,y,u1,u2,u3,u4,u5,u6⟩
     ·exfalso;rw [hR.1] at hi;cases hi with
      | nil=>exact hnl _ hM rfl
      | cons _ _ _ d _ _ =>
       rw [ar ⟨rfl,hR.2.1⟩,Adb hge,ar hR.2.2.symm] at d;cases d
     ·refine ⟨u,M,u1,u2,hM,?_,u6⟩;have hne:u≠k+1:=IX
      have hkid:((u:Nat):Int)∈E7 l ((k+1:Nat):Int):=(Lr ht.t).2 ⟨u1,u2,u3⟩;dsimp only;rw [aq hne,ar (by
       unfold fcs;rw [ar hR.2.1,Aha hge,hR.2.2,u4];exact aO.2 ⟨u5,by simpa using hkid⟩)]
      refine Aab (hj.roomR ht hk u1 u2 u3 (x:=x) ?_) hR.2.1 hR.2.2;rw [e,Mo,ar hR.2];omega
    ·rcases hitc v M (hnl M hM) hi (fun d1 d2 d3=>hR ⟨d1,d2,d3⟩) with hi|⟨-, -,u,u1,u2,u3,u4⟩
     ·exact .inr ⟨M,hM,hi⟩
     ·exact .inl (.inr ⟨u,M,u1,u2,hM,u3,u4⟩)
  ·rw [ar rfl];obtain ⟨es,hr⟩:=hG.rci hk;obtain ⟨hgr,hck⟩:=hG.rc hk EM hl;obtain ⟨d0,d1⟩:=Lp (k+1);obtain ⟨z1,z2⟩:=Ahg (d:=Ij (k+1)) hS hgr hpk hr hpi hjS;have hZ:∀M,Zr (a.r M) x->Zr (if M=k+1 then Bt (a.r (k+1)) p (Ij (k+1)) else a.r M) x:=fun M hz=>by
    split
    ·rename_i d;subst d;subst hx;exact z1 hz
    ·exact hz
   have hDn:Dn l x Sn a->Dn l x Sn ⟨fun v=>if v=k+1 then q else a.d v,a.u,fun v=>if v=k+1 then Bt (a.r (k+1)) p (Ij (k+1)) else a.r v,a.e,a.s⟩:=fun hd=>by
    rcases hd with ⟨M,hM,hz⟩|⟨w,M,w1,w2,w3,w4,w5⟩
    ·exact .inl ⟨M,hM,hZ M hz⟩
    ·by_cases hw:w=k+1
     ·by_cases hR:p.Bd=2/\p.Ab=x
      ·left;have hMw:M=k+1:=by rw [hw] at w5;exact w5.und.leaf ht.t hl
       refine ⟨M,w3,?_⟩;dsimp only;rw [ar hMw];rcases h.g7 M w3 with ⟨q',hq⟩|hz
       ·rw [hMw,hx] at hq;rw [hx];exact z2 q' hq hR.1 (by rw [<-hx];exact hR.2)
       ·rw [hMw] at hz;rw [hx] at hz ⊢;exact z1 hz
      ·right;refine ⟨w,M,w1,w2,w3,?_,w5⟩;dsimp only;rw [ar hw];rw [hw,e,Mo,aq hR] at w4;omega
     ·right;refine ⟨w,M,w1,w2,w3,?_,w5⟩;dsimp only;rw [aq hw];exact w4
   refine ⟨h.sn,h.g1,h.g2,h.g3,h.g4,h.g6,fun M hM=>?_,h.gh,h.gc,fun hh=>hDn (h.h1 hh),fun v hv v0 hc=>?_⟩
   ·dsimp only
    split
    ·rename_i d;subst d;rcases h.g7 _ hM with ⟨q',hq⟩|hz
     ·rw [hx] at hq ⊢;exact Aoz hS hgr hpk d0 d1 hr hpi hjS hq
     ·right;rw [hx] at hz ⊢;exact z1 hz
    ·exact h.g7 M hM
   ·rcases h.h2 v hv v0 hc with hd|hi
    ·exact .inl (hDn hd)
    ·exact .inr hi
theorem Aec (s:Cc) (n:Int):(Hb s n).Ae=s.Ae:=by unfold Hb;split <;> rfl
theorem Amp {s:Cc} {n:Int} {h:Hm} (hm:h∈(Hb s n).holds):h∈s.holds\/(ans s n=true/\h=⟨n,s.Ae+3⟩):=by
 unfold Hb at hm
 split at hm
 ·rename_i c;have hm2:h∈Il s.holds (Fa s.Aa.Al s.holds n) ⟨n,s.Ae+3⟩:=hm;unfold Il at hm2;rcases aG.1 hm2 with hm2|hm2
  ·exact .inl (bg hm2)
  ·rcases aF.1 hm2 with hm2|hm2
   ·exact .inr ⟨c,hm2⟩
   ·exact .inl (bj hm2)
 ·exact .inl hm
theorem Awq {s:Cc} {p:Ar} {q:List Ar} (hg:Cj s=true) (hp:Bh p=true) (h3:p.Bd=3) (ha:ans s p.Ab=true) (hq:q.length<=4):1<=Nt p.Ab (Da q (Ib s p)):=by
 have hw:=(Dd.1 hg).1;have h2:E5 s.Aa p.Ab=true/\Ld s.Aa.Al s.holds p.Ab=false:=by simpa [ans] using ha
 have hok:Hh s.Aa p=true:=by unfold Hh;rw [hw,hp,au h3,h2.1];rfl
 have e1:Ib s p=[Qn s.Aa p.Ab,Ac5 s.Aa p.Ab]:=by
  unfold Ib C9;rw [ar h2.1,h2.2,aq EN,ar hok]
 unfold Da;rw [e1,bc (by simp only [aK,aV];omega)];unfold Nt;rw [bp,aw];have:([Qn s.Aa p.Ab,Ac5 s.Aa p.Ab].filter fun r=>decide (r.Bd=2) && decide (r.Ab=p.Ab))=[Ac5 s.Aa p.Ab]:=by
  rw [bT,aq (by show ¬(decide ((4:Int)=2) && _)=true;simp),bT,ar (by show (decide ((2:Int)=2) && decide (p.Ab=p.Ab))=true;simp)];rfl
 rw [this,bY];omega
theorem Kv.ul (h:Kv l x c Sn On o mk a) (hj:Jv l X k o po hm a) (ht:Tx l X) (hG:Gd l S f a) {i:Nat} (h0:i≠0) (hi:i < l.length) (hE:Cp l i=0->(a.d i).length<=sm (X i) (hm i)) :
  ∃mk',Kv l x c Sn On (oul a i o) mk' (Qx l a i):=by
 unfold Qx oul;cases e:a.u i with
 | nil=>exact ⟨mk,h⟩
 | cons p q =>
  dsimp only;have hpm:p∈a.u i:=FH
  have hpX:p.Ab∈X i:=hj.q0 i hi p hpm;have hpk:=hG.que.2 p hpm;have hser:=Fg hpk.1;have hplt:=ht.plt hi h0;have hui:J4 x (a.u i)=(if p.Ab=x then 1 else 0)+J4 x q:=by rw [e,Tp]
  have hog:∀v,o v x<=if v=i/\x=p.Ab then o v x+1 else o v x:=fun v=>by split <;> omega
  by_cases hz:Cp l i=0
  ·rw [ar hz];have hle:(a.d i).length<=4:=by
    have h1:=hE hz;have h2:=Ano (X:=X i) (g:=hm i) (b:=1) fun y _=>(hj.qh i y).1;have:=ht.s i;omega
   have hDn:Dn l x Sn a->Dn l x Sn ⟨fun v=>if v=i then Da (a.d i) (Ib a.s p) else a.d v,fun v=>if v=i then q else a.u v,a.r,a.e,Hb a.s p.Ab⟩:=fun hd=>by
    rcases hd with hd|⟨w,M,w1,w2,w3,w4,w5⟩
    ·exact .inl hd
    ·refine .inr ⟨w,M,w1,w2,w3,?_,w5⟩;dsimp only
     split
     ·rename_i d;subst d;exact bi w4 (Aiy _ _ _)
     ·exact w4
   have hu:∀v,1<=J4 x (if v=i then q else a.u v)->1<=J4 x (a.u v):=fun v hv=>by
    split at hv
    ·rename_i d;subst d;rw [hui];omega
    ·exact hv
   have hu2:∀v,1<=J4 x (a.u v)\/1<=o v x->1<=J4 x (if v=i then q else a.u v)\/1<=if v=i/\x=p.Ab then o v x+1 else o v x:=fun v hv=>by
    by_cases d:v=i
    ·rw [ar d];by_cases d2:x=p.Ab
     ·right;rw [ar ⟨d,d2⟩];omega
     ·rw [aq (fun d3=>d2 d3.2)];rw [d,hui,aq (fun d3=>d2 d3.symm)] at hv;rw [d];omega
    ·rw [aq d,aq (fun d3=>d d3.1)];exact hv
   have hu3:∀v,(1<=J4 x (if v=i then q else a.u v)\/1<=if v=i/\x=p.Ab then o v x+1 else o v x)->1<=J4 x (a.u v)\/1<=o v x:=fun v hv=>by
    rcases hv with hv|hv
    ·exact .inl (hu v hv)
    ·by_cases d:v=i/\x=p.Ab
     ·left;rw [d.1,hui,ar d.2.symm];omega
     ·rw [aq d] at hv;exact .inr hv
   refine ⟨mk,⟨h.sn,fun M hM=>hu2 M (h.g1 M hM),fun v hv=>hu2 v (h.g2 v hv),fun v hv v0 ho=>?_,h.g4,fun v hv v0 hh=>h.g6 v hv v0 (hu3 v hh),h.g7,?_,?_,fun hh=>?_,fun v hv v0 hh=>?_⟩⟩
   ·dsimp only at ho ⊢;by_cases d:v=i/\x=p.Ab
    ·refine ⟨fun _=>?_,fun d2=>absurd (by rw [d.1];exact hz) d2⟩;rw [d.2,(As3 hG.src hser).1,<-d.2];exact h.gh
    ·rw [aq d] at ho;obtain ⟨b1,b2⟩:=h.g3 v hv v0 ho;exact ⟨fun d2=>Am9 (b1 d2),b2⟩
   ·show E5 (Hb a.s p.Ab).Aa x=true;rw [Sh];exact h.gh
   ·show (Hb a.s p.Ab).Ae=c;rw [Aec];exact h.gc
   ·obtain ⟨H,hH,hn,hu⟩:=hh;rcases Amp hH with hH|⟨ha,rfl⟩
    ·exact hDn (h.h1 ⟨H,hH,hn,hu⟩)
    ·have hn2:p.Ab=x:=hn;rcases h.h2 i hi h0 (by rw [hui,ar hn2];omega) with hd|⟨M,hM,hI⟩
     ·exact hDn hd
     ·refine .inr ⟨i,M,hi,h0,hM,?_,hI⟩;dsimp only;rw [ar rfl,<-hn2];exact Awq hG.src hpk.1 hpk.2 ha hle
   ·rcases h.h2 v hv v0 (hu v hh) with hd|hI
    ·exact .inl (hDn hd)
    ·exact .inr hI
  ·rw [aq hz];have hPl:=Tv ht.t hi h0;have hP:Cp l i < l.length:=EM
   have hge:=(hG.el hP hz hPl).1;have hXP:X i=X (Cp l i):=ht.g i hz;have h5:(a.e (Cp l i)).Af.length < 5:=by
    have h1:=Vr (l:=(a.e (Cp l i)).Af) (g:=Et.Ab) (D6.1 hge).2.2.2 (hj.qx (Cp l i) hP hz hPl);have:=ht.s (Cp l i);omega
   have hfac:M7 ((i:Nat):Int)=true:=Jy.2 ⟨EM,by have:=ht.t.n1;omega⟩;have heP:=fun y=>Ale (e:=a.e (Cp l i)) (n:=p.Ab) (f:=((i:Nat):Int)) hge (Bb.2 hser) hfac h5 y;have hroom:p.Ab=x->Pi (a.e (Cp l i)) p.Ab=true->(a.u (Cp l i)).length < 6:=fun d1 d2=>by
    refine hj.roomU ht hP hz hPl (x:=x) (by rw [<-d1,<-hXP];exact hpX) ?_;rw [Aaf,d1] at d2;cases hc:en (a.e (Cp l i)) x with
    | none=>rfl
    | some y=>rw [hc] at d2;cases d2
   -- entries for x only gain faces
   have hmon:∀v y,en (a.e v) x=some y->∃y',en (if v=Cp l i then Ka (a.e (Cp l i)) p.Ab ((i:Nat):Int) else a.e v) x=some y'/\∀z∈y.Bp,z∈y'.Bp:=fun v y hy=>by
    split
    ·rename_i d;rw [heP x];rw [d] at hy
     split
     ·rename_i d2;rw [<-d2,hy];exact ⟨_,rfl,fun z hz=>Zi.2 (.inr hz)⟩
     ·exact ⟨y,hy,fun z hz=>hz⟩
    ·exact ⟨y,hy,fun z hz=>hz⟩
   have hDn:Dn l x Sn a->Dn l x Sn ⟨fun v=>if v=i then Er (a.d i) (Rz p) else a.d v,fun v=>if v=i then q else if v=Cp l i/\Pi (a.e (Cp l i)) p.Ab=true then Er (a.u v) p else a.u v,a.r,fun v=>if v=Cp l i then Ka (a.e (Cp l i)) p.Ab ((i:Nat):Int) else a.e v,a.s⟩:=fun hd=>by
    rcases hd with hd|⟨w,M,w1,w2,w3,w4,w5⟩
    ·exact .inl hd
    ·refine .inr ⟨w,M,w1,w2,w3,?_,w5.mono hmon⟩;dsimp only
     split
     ·rename_i d;subst d;exact bi w4 (Ys _ _ _)
     ·exact w4
   have hu2:∀v,1<=J4 x (a.u v)\/1<=o v x->1<=J4 x (if v=i then q else if v=Cp l i/\Pi (a.e (Cp l i)) p.Ab=true then Er (a.u v) p else a.u v)\/1<=if v=i/\x=p.Ab then o v x+1 else o v x:=fun v hv=>by
    by_cases d:v=i
    ·rw [ar d];by_cases d2:x=p.Ab
     ·right;rw [ar ⟨d,d2⟩];omega
     ·rw [aq (fun d3=>d2 d3.2)];rw [d,hui,aq (fun d3=>d2 d3.symm)] at hv;rw [d];omega
    ·rw [aq d,aq (show ¬(v=i/\x=p.Ab) from fun d3=>d d3.1)];rcases hv with hv|hv
     ·left
      split
      ·exact bi hv (Yt _ _ _)
      ·exact hv
     ·exact .inr hv
   have hu:∀v,1<=J4 x (if v=i then q else if v=Cp l i/\Pi (a.e (Cp l i)) p.Ab=true then Er (a.u v) p else a.u v)->1<=J4 x (a.u v)\/(v=Cp l i/\Pi (a.e (Cp l i)) p.Ab=true/\p.Ab=x):=fun v hv=>by
    split at hv
    ·rename_i d;subst d;left;rw [hui];omega
    ·split at hv
     ·rename_i d;by_cases d2:p.Ab=x
      ·exact .inr ⟨d.1,d.2,d2⟩
      ·rw [Ak7 d2] at hv;exact .inl hv
     ·exact .inl hv
   refine ⟨fun v=>mk v\/(v=Cp l i/\Pi (a.e (Cp l i)) p.Ab=true/\p.Ab=x),⟨h.sn,fun M hM=>hu2 M (h.g1 M hM),fun v hv=>?_,fun v hv v0 ho=>?_,fun v hv v0 hlv y hy=>?_,fun v hv v0 hh=>?_,h.g7,h.gh,h.gc,fun hh=>hDn (h.h1 hh),fun v hv v0 hh=>?_⟩⟩
   ·rcases hv with hv|⟨d1,d2,d3⟩
    ·exact hu2 v (h.g2 v hv)
    ·left;dsimp only;rw [aq EM,ar ⟨d1,d2⟩,d1];exact Aof (hroom d3 d2) d3
   ·dsimp only at ho ⊢;by_cases d:v=i/\x=p.Ab
    ·refine ⟨fun d2=>absurd (by rw [<-d.1];exact d2) hz,fun _=>?_⟩;rw [d.1];cases hf:Pi (a.e (Cp l i)) p.Ab
     ·rw [Aaf,<-d.2] at hf;cases hc:en (a.e (Cp l i)) x with
      | none=>rw [hc] at hf;cases hf
      | some y =>
       rcases h.g4 (Cp l i) hP hz hPl y hc with g|g
       ·exact .inl ⟨_,g.1⟩
       ·exact .inr (.inl g)
     ·exact .inr (.inr ⟨rfl,rfl,d.2.symm⟩)
    ·rw [aq d] at ho;obtain ⟨b1,b2⟩:=h.g3 v hv v0 ho;exact ⟨b1,fun d2=>(b2 d2).imp_right .inl⟩
   ·dsimp only at hy
    split at hy
    ·rename_i d;subst d;rw [heP x] at hy
     split at hy
     ·rename_i d2;cases hc:en (a.e (Cp l i)) p.Ab with
      | none =>
       right;right;refine ⟨rfl,?_,d2.symm⟩;rw [Aaf,hc];rfl
      | some y0 =>
       rw [hc] at hy;cases hy;rcases h.g4 (Cp l i) hP hz hPl y0 (by rw [d2];exact hc) with g|g
       ·exact .inl g
       ·exact .inr (.inl g)
     ·rcases h.g4 (Cp l i) hP hz hPl y hy with g|g
      ·exact .inl g
      ·exact .inr (.inl g)
    ·rcases h.g4 v hv v0 hlv y hy with g|g
     ·exact .inl g
     ·exact .inr (.inl g)
   ·have hcase:(1<=J4 x (a.u v)\/1<=o v x)\/(v=Cp l i/\p.Ab=x):=by
     rcases hh with hh|hh
     ·rcases hu v hh with hh|⟨d1, -,d3⟩
      ·exact .inl (.inl hh)
      ·exact .inr ⟨d1,d3⟩
     ·by_cases d:v=i/\x=p.Ab
      ·left;left;rw [d.1,hui,ar d.2.symm];omega
      ·rw [aq d] at hh;exact .inl (.inr hh)
    rcases hcase with hh|⟨d1,d2⟩
    ·exact h.g6 v hv v0 hh
    ·obtain ⟨M,m1,m2⟩:=h.g6 i hi h0 (.inl (by rw [hui,ar d2];omega));exact ⟨M,.cons hi h0 d1.symm m1,m2⟩
   ·rcases hu v hh with hh|⟨d1,d2,d3⟩
    ·rcases h.h2 v hv v0 hh with hd|⟨M,hM,hI⟩
     ·exact .inl (hDn hd)
     ·exact .inr ⟨M,hM,hI.mono hmon⟩
    ·rcases h.h2 i hi h0 (by rw [hui,ar d3];omega) with hd|⟨M,hM,hI⟩
     ·exact .inl (hDn hd)
     ·refine .inr ⟨M,hM,.cons hi h0 d1.symm (y:=⟨p.Ab,[((i:Nat):Int)],(a.e (Cp l i)).Ae+6⟩) ?_ EO (hI.mono hmon)⟩;dsimp only;rw [ar d1,heP x,ar d3.symm];have:en (a.e (Cp l i)) p.Ab=none:=by
       rw [Aaf] at d2;cases hc:en (a.e (Cp l i)) p.Ab with
       | none=>rfl
       | some y=>rw [hc] at d2;cases d2
      rw [this]
end
def My (x:Int) (q:List Ar):Nat:=(q.filter fun p=>decide (p.Bd=4) && decide (p.Ab=x)).length
theorem Nj (x:Int) (p:Ar) (q:List Ar):My x (p::q)=(if p.Bd=4/\p.Ab=x then 1 else 0)+My x q:=by
 unfold My;rw [bT];by_cases h:p.Bd=4/\p.Ab=x
 ·rw [ar EU,ar h,aK];omega
 ·rw [aq EU,aq h];omega
theorem To (x:Int) (q r:List Ar):My x (q++r)=My x q+My x r:=by unfold My;rw [bp,aw]
theorem Yr (x:Int) (p:Ar) (q:List Ar):My x q<=My x (Er q p):=by
 unfold Er;split
 ·rw [To];omega
 ·exact aA _
theorem Afg (x:Int) (p:Ar) (q:List Ar):My x (Er q p)<=My x q+if p.Bd=4/\p.Ab=x then 1 else 0:=by
 unfold Er;split
 ·rw [To,Nj];show _+(_+0)<=_;omega
 ·omega
theorem Afh {x:Int} {p:Ar} {q:List Ar} (h:q.length < 6) (h2:p.Bd=4/\p.Ab=x):1<=My x (Er q p):=by
 unfold Er;rw [ar h,To,Nj,ar h2];omega
theorem Aix (x:Int) (q ps:List Ar):My x q<=My x (Da q ps):=by unfold Da;rw [To];omega
theorem Arn (x:Int) (q ps:List Ar):My x (Da q ps)<=My x q+My x ps:=by
 unfold Da;rw [To];have:((ps.take (6 - q.length)).filter fun p=>decide (p.Bd=4) && decide (p.Ab=x)).Sublist (ps.filter fun p=>decide (p.Bd=4) && decide (p.Ab=x)):=(dC _ _).filter _;have h:=this.length_le;show _+My x (ps.take _)<=_;unfold My;omega
theorem Agk {s:Cc} {p:Ar} {x:Int} (hx:p.Ab≠x):My x (Ib s p)=0:=by
 have h4:My x [Qn s.Aa p.Ab]=0:=by rw [Nj,aq (fun c=>hx c.2)];rfl
 unfold Ib
 split
 ·split
  ·exact h4
  ·rw [Nj,aq (fun c=>hx c.2),Nj,aq]
   ·rfl
   ·intro c;have c1:=c.1;unfold C9 at c1
    split at c1 <;> cases c1
 ·rw [Nj,aq (fun c=>by cases c.1)];rfl
theorem Ap8 {s:Cc} {p:Ar} {q:List Ar} (hh:E5 s.Aa p.Ab=true) (hq:q.length<=5):1<=My p.Ab (Da q (Ib s p)):=by
 obtain ⟨r,hr⟩:∃r,Ib s p=Qn s.Aa p.Ab::r:=by
  unfold Ib;rw [hh,ar rfl]
  split
  ·exact ⟨_,rfl⟩
  ·exact ⟨_,rfl⟩
 unfold Da;rw [hr,To,show 6 - q.length=(5 - q.length)+1 by omega,fP,Nj,ar ⟨rfl,rfl⟩];omega
theorem Zf {s:Cc} {p r:Ar} (hg:Cj s=true) (hp:Bh p=true) (h3:p.Bd=3) (h:r∈Ib s p):(r.Bd=2\/r.Bd=4\/r.Bd=5)/\(Dq r=true->r.Cy=Im s.Aa/\r.Al=s.Aa.Al):=by
 have hc:∀n,(Qn s.Aa n).Bd=4/\Dq (Qn s.Aa n)=false:=fun n=>⟨rfl,rfl⟩;unfold Ib at h
 split at h
 ·rename_i hh
  split at h
  ·rw [aH] at h;subst h;exact ⟨.inr (.inl rfl),fun hn=>by rw [(hc _).2] at hn;cases hn⟩
  ·rcases aF.1 h with rfl|h
   ·exact ⟨.inr (.inl rfl),fun hn=>by rw [(hc _).2] at hn;cases hn⟩
   ·rw [aH] at h;have hok:Hh s.Aa p=true:=by unfold Hh;rw [(Dd.1 hg).1,hp,au h3,hh];rfl
    unfold C9 at h;rw [ar hok] at h;subst h;exact ⟨.inl rfl,fun _=>⟨rfl,rfl⟩⟩
 ·rw [aH] at h;subst h;exact ⟨.inr (.inr rfl),fun _=>⟨rfl,rfl⟩⟩
structure Pv (l:al) (X:Nat->al) (f:Int) (m i0:Nat) (x c:Int) (o:Nat->Int->Nat) (q0:Nat->Option Aw) (a:Vw):Prop where
 ox:∀u,u < l.length->u≠0->1<=o u x->x∈X u
 pc:∀w,w < l.length->w≠0->1<=My x (a.d w)->∃u,u < l.length/\u≠0/\Tk l u w/\1<=o u x
 pr:∀v,v < l.length->v≠0->1<=o v x->∀M,M < l.length->Br l ((M:Nat):Int)=true->Tk l v M->∀q,rq (a.r M) x=some q->(q.Dh=3/\q.Bl=c+4)\/∃w,w < l.length/\w≠0/\Tk l v w/\Tk l w M/\1<=My x (a.d w)
 rr:∀M,M < l.length->M≠0->Br l ((M:Nat):Int)=true->∀q,rq (a.r M) x=some q->∃q1,q0 M=some q1/\q.Ch=q1.Ch/\(q=q1\/(q.Dh=3/\q.Bl=c+4/\∃u,u < l.length/\u≠0/\Tk l u M/\1<=o u x))
 cm:∀M,M < l.length->M≠0->Br l ((M:Nat):Int)=true->∃k,Cmp f m (a.r M) k/\i0<=k
 pk:∀v,∀p∈a.d v,(p.Bd=2\/p.Bd=4\/p.Bd=5)/\(Dq p=true->p.Cy=A8 f m/\p.Al=A8 f i0)
 sw:Im a.s.Aa=A8 f m/\a.s.Aa.Al=A8 f i0
section
variable {l:al} {X:Nat->al} {k:Nat} {o po hm:Nat->Int->Nat} {a:Vw} {S:ah} {f:Int} {x c:Int} {Sn mk:Nat->Prop} {On:Nat->Int->Prop} {i0:Nat} {q0:Nat->Option Aw}
theorem Tk.xeq (ht:Tx l X) {u w:Nat} (h:Tk l u w) (hu:u≠0):X w=X u:=by
 induction h with
 | nil=>rfl
 | cons a b c _ ih=>rw [ih b,ht.g _ (by rw [c];exact hu),c]
theorem Tk.le (ht:Tx l X) {u w:Nat} (h:Tk l u w):u<=w:=by
 induction h with
 | nil=>exact aA _
 | cons a b c _ ih=>have:=ht.plt a b;omega
theorem Arr {r:Ay} {p:Ar} {d:Int} {m:Nat} (hg:Eu r) (hp:Bh p=true) (h4:p.Bd=4) (h:Cmp f m r k):Cmp f m (Bt r p d) k:=by
 have e1:Bt r p d=Ts r p:=by unfold Bt Dq;rw [h4,h.s];rfl
 refine ⟨by rw [e1];exact h.s,by rw [e1];exact h.n,h.l,fun j h1 h2=>?_⟩;rcases h.c j h1 h2 with q|⟨q,hq⟩
 ·left;rw [e1];exact q
 ·right;rw [Ab9 hg hp h4 h.s]
  split
  ·rw [hq];exact ⟨_,rfl⟩
  ·exact ⟨q,hq⟩
theorem Pv.dl (h:Pv l X f S.length i0 x c o q0 a) (hj:Jv l X k o po hm a) (ht:Tx l X) (hG:Gd l S f a) (hc:a.s.Ae=c) (hS:S.length<=8) (hk:k+1 < l.length):Pv l X f S.length i0 x c o q0 (Qw l a (k+1)):=by
 unfold Qw;cases e:a.d (k+1) with
 | nil=>exact h
 | cons p q =>
  dsimp only;have hp:p∈a.d (k+1):=FH
  have hpk:=hG.que.1 p hp;have hpi:=hG.pki p hp;have hpp:=h.pk (k+1) p hp;cases hl:Br l ((k+1:Nat):Int)
  ·rw [aq (show ¬(false=true) by decide)];have hdge:∀w,w≠k+1->My x (a.d w)<=My x (if w=k+1 then q else if ((w:Nat):Int)∈fcs l a (k+1) p then Er (a.d w) p else a.d w):=fun w hw=>by
    rw [aq hw]
    split
    ·exact Yr _ _ _
    ·exact aA _
   have hcq:My x (a.d (k+1))=(if p.Bd=4/\p.Ab=x then 1 else 0)+My x q:=by rw [e,Nj]
   refine ⟨h.ox,fun w hw w0 hcw=>?_,fun v hv v0 ho M hM hlM hu q' hq'=>?_,h.rr,h.cm,fun v r hr=>?_,h.sw⟩
   ·dsimp only at hcw
    split at hcw
    ·rename_i d;exact h.pc w hw w0 (by rw [d,hcq];omega)
    ·split at hcw
     ·rename_i d1 d;have hc1:=Afg x p (a.d w);by_cases c1:p.Bd=4/\p.Ab=x
      ·obtain ⟨u,u1,u2,u3,u4⟩:=h.pc (k+1) hk EM (by rw [hcq,ar c1];omega);obtain ⟨f1,f2,f3⟩:=Yw ht.t d;exact ⟨u,u1,u2,u3.trans (.cons f1 f2 f3 (.nil _)),u4⟩
      ·rw [aq c1] at hc1;exact h.pc w hw w0 EM
     ·exact h.pc w hw w0 hcw
   ·rcases h.pr v hv v0 ho M hM hlM hu q' hq' with hr|⟨w,w1,w2,w3,w4,w5⟩
    ·exact .inl hr
    ·by_cases hw:w=k+1
     ·by_cases c1:1<=My x q
      ·refine .inr ⟨w,w1,w2,w3,w4,?_⟩;dsimp only;rw [ar hw];exact c1
      ·rw [hw,hcq] at w5;have c2:p.Bd=4/\p.Ab=x:=by
        rcases Classical.em (p.Bd=4/\p.Ab=x) with d|d
        ·exact d
        ·rw [aq d] at w5;omega
       -- the confirm goes on to all children
       subst hw;cases w4 with
       | nil=>rw [hl] at hlM;cases hlM
       | @cons _ u _ u1 u2 u3 u4 =>
        have hkid:((u:Nat):Int)∈fcs l a (k+1) p:=by
         unfold fcs;rw [aq (by rw [c2.1];decide)];exact (Lr ht.t).2 ⟨u1,u2,u3⟩
        have hune:u≠k+1:=IX
        rcases cw (a.d u).length 6 with hroom|hfull
        ·refine .inr ⟨u,u1,u2,w3.trans (.cons u1 u2 u3 (.nil _)),u4,?_⟩;dsimp only;rw [aq hune,ar hkid];exact Afh hroom c2
        ·have hX:x∈X u:=by
          rw [ht.g u EM,u3,w3.xeq ht v0];exact h.ox v hv v0 ho
         have h2:=hj.full ht u1 u2 EM EM hfull x hX;rcases h.pr u u1 u2 EM M hM hlM u4 q' hq' with hr|⟨z,z1,z2,z3,z4,z5⟩
         ·exact .inl hr
         ·have hzu:=z3.le ht;have:=ht.plt u1 u2;exact .inr ⟨z,z1,z2,(w3.trans (.cons u1 u2 u3 (.nil _))).trans z3,z4,bi z5 (hdge z EM)⟩
     ·exact .inr ⟨w,w1,w2,w3,w4,bi w5 (hdge w hw)⟩
   ·dsimp only at hr
    split at hr
    ·rename_i d;exact h.pk (k+1) r GF
    ·split at hr
     ·rcases I9 hr with hr|rfl
      ·exact h.pk v r hr
      ·exact hpp
     ·exact h.pk v r hr
  ·rw [ar rfl];obtain ⟨es,hr⟩:=hG.rci hk;obtain ⟨hgr,hck⟩:=hG.rc hk EM hl;obtain ⟨d0,d1⟩:=Lp (k+1);obtain ⟨kk,hcm,hki⟩:=h.cm (k+1) hk EM hl;have hkl:=hcm.l;have hcq:My x (a.d (k+1))=(if p.Bd=4/\p.Ab=x then 1 else 0)+My x q:=by rw [e,Nj]
   have hb:∀i,C2 (a.r (k+1)).Aa.Am i=true->kk+i < S.length:=fun i hi=>by
    obtain ⟨k',hw, -⟩:=hr.w hcm.s;have hk':k'=kk:=Oy f (by have:=hw.le;omega) EM (hw.n.symm.trans hcm.n);obtain ⟨s,h1,h2⟩:=Ahf hi;rw [<-hk'];exact (bh.1 (hw.s i s h1 h2)).1
   have key:(∃k2,Cmp f S.length (Bt (a.r (k+1)) p (Ij (k+1))) k2/\i0<=k2)/\∀q',rq (Bt (a.r (k+1)) p (Ij (k+1))) x=some q' ->
     ((p.Bd=4/\p.Ab=x)/\q'.Dh=3/\q'.Bl=c+4/\∃q1,rq (a.r (k+1)) x=some q1/\q'.Ch=q1.Ch)\/(¬(p.Bd=4/\p.Ab=x)/\rq (a.r (k+1)) x=some q'):=by
    by_cases h4:p.Bd=4
    ·refine ⟨⟨kk,Arr hgr hpk h4 hcm,hki⟩,fun q' hq'=>?_⟩;rw [Ab9 hgr hpk h4 hcm.s] at hq'
     split at hq'
     ·rename_i hx;left;cases hq1:rq (a.r (k+1)) x with
      | none=>rw [hq1] at hq';cases hq'
      | some q1 =>
       rw [hq1] at hq';cases hq';exact ⟨⟨h4,hx.symm⟩,rfl,by show (a.r (k+1)).Ae+4=_;rw [hck,hc],q1,rfl,rfl⟩
     ·rename_i hx;exact .inr ⟨fun d=>hx d.2.symm,hq'⟩
    ·have hn:Dq p=true:=by
      unfold Dq;rcases hpp.1 with d|d|d
      ·rw [d];rfl
      ·exact absurd d h4
      ·rw [d];rfl
     obtain ⟨p1,p2⟩:=hpp.2 hn;obtain ⟨k2,b1,b2,b3, -⟩:=Awg (d:=Ij (k+1)) hgr hpk d0 d1 hcm hS hb hn p1 ⟨i0,hki,p2⟩ (by
      by_cases h5:p.Bd=5
      ·exact .inl h5
      ·obtain ⟨j,hj1,hj2⟩:=hpi.n hn h5;exact .inr ⟨j,(bh.1 hj1).1,hj2⟩)
     exact ⟨⟨k2,b1,EM⟩,fun q' hq'=>.inr ⟨fun d=>h4 d.1,b3 x q' hq'⟩⟩
   refine ⟨h.ox,fun w hw w0 hcw=>?_,fun v hv v0 ho M hM hlM hu q' hq'=>?_,fun M hM m0 hlM q' hq'=>?_,fun M hM m0 hlM=>?_,fun v r hr'=>?_,h.sw⟩
   ·dsimp only at hcw
    split at hcw
    ·rename_i d;exact h.pc w hw w0 (by rw [d,hcq];omega)
    ·exact h.pc w hw w0 hcw
   ·dsimp only at hq';by_cases hMi:M=k+1
    ·rw [ar hMi] at hq';rcases key.2 q' hq' with ⟨-,k1,k2, -⟩|⟨k1,k2⟩
     ·exact .inl ⟨k1,k2⟩
     ·rcases h.pr v hv v0 ho M hM hlM hu q' (by rw [hMi];exact k2) with hr'|⟨w,w1,w2,w3,w4,w5⟩
      ·exact .inl hr'
      ·refine .inr ⟨w,w1,w2,w3,w4,?_⟩;dsimp only
       split
       ·rename_i d;rw [d,hcq,aq k1] at w5;omega
       ·exact w5
    ·rw [aq hMi] at hq';rcases h.pr v hv v0 ho M hM hlM hu q' hq' with hr'|⟨w,w1,w2,w3,w4,w5⟩
     ·exact .inl hr'
     ·refine .inr ⟨w,w1,w2,w3,w4,?_⟩;dsimp only;rw [aq (fun d=>hMi (by rw [d] at w4;exact w4.leaf ht.t hl))];exact w5
   ·dsimp only at hq';by_cases hMi:M=k+1
    ·rw [ar hMi] at hq';rcases key.2 q' hq' with ⟨k0,k1,k2,q1,k3,k4⟩|⟨k1,k2⟩
     ·obtain ⟨q2,r1,r2, -⟩:=h.rr M hM m0 hlM q1 (by rw [hMi];exact k3);obtain ⟨u,u1,u2,u3,u4⟩:=h.pc (k+1) hk EM (by rw [hcq,ar k0];omega);exact ⟨q2,r1,by rw [k4,r2],.inr ⟨k1,k2,u,u1,u2,by rw [hMi];exact u3,u4⟩⟩
     ·exact h.rr M hM m0 hlM q' (by rw [hMi];exact k2)
    ·rw [aq hMi] at hq';exact h.rr M hM m0 hlM q' hq'
   ·dsimp only
    split
    ·exact key.1
    ·exact h.cm M hM m0 hlM
   ·dsimp only at hr'
    split at hr'
    ·exact h.pk (k+1) r (by rw [e];simp [hr'])
    ·exact h.pk v r hr'
theorem Pv.ul (h:Pv l X f S.length i0 x c o q0 a) (hj:Jv l X k o po hm a) (ht:Tx l X) (hG:Gd l S f a) (hh:0<=x->E5 a.s.Aa x=true) {i:Nat} (n0:i≠0) (hi:i < l.length) (hki:¬(Cp l i<=k/\k < i)) (hE:Cp l i=0->(a.d i).length<=sm (X i) (hm i)) :
  Pv l X f S.length i0 x c (oul a i o) q0 (Qx l a i):=by
 unfold Qx oul;cases e:a.u i with
 | nil=>exact h
 | cons p q =>
  dsimp only;have hpm:p∈a.u i:=FH
  have hpX:p.Ab∈X i:=hj.q0 i hi p hpm;have hpk:=hG.que.2 p hpm;have hser:=Fg hpk.1;have hplt:=ht.plt hi n0;have hui:J4 p.Ab (a.u i)=1+J4 p.Ab q:=by rw [e,Tp,ar rfl]
  have hox:∀u,u < l.length->u≠0->(1<=if u=i/\x=p.Ab then o u x+1 else o u x)->x∈X u:=fun u hu u0 ho=>by
   split at ho
   ·rename_i d;rw [d.1,d.2];exact hpX
   ·exact h.ox u hu u0 ho
  have hup:∀u,1<=o u x->1<=if u=i/\x=p.Ab then o u x+1 else o u x:=fun u ho=>by split <;> omega
  have hrr:∀M,M < l.length->M≠0->Br l ((M:Nat):Int)=true->∀q,rq (a.r M) x=some q->∃q1,q0 M=some q1/\q.Ch=q1.Ch/\(q=q1\/(q.Dh=3/\q.Bl=c+4/\∃u,u < l.length/\u≠0/\Tk l u M/\1<=if u=i/\x=p.Ab then o u x+1 else o u x)):=fun M hM m0 hlM q' hq'=>by
   obtain ⟨q1,r1,r2,r3⟩:=h.rr M hM m0 hlM q' hq';refine ⟨q1,r1,r2,r3.imp_right ?_⟩;rintro ⟨s1,s2,u,u1,u2,u3,u4⟩;exact ⟨s1,s2,u,u1,u2,u3,hup u u4⟩
  by_cases hz:Cp l i=0
  ·rw [ar hz];have hle:(a.d i).length<=4:=by
    have h1:=hE hz;have h2:=Ano (X:=X i) (g:=hm i) (b:=1) fun y _=>(hj.qh i y).1;have:=ht.s i;omega
   refine ⟨hox,fun w hw w0 hcw=>?_,fun v hv v0 ho M hM hlM hu q' hq'=>?_,hrr,h.cm,fun v r hr=>?_,?_⟩
   ·dsimp only at hcw;by_cases hwi:w=i
    ·by_cases hx:x=p.Ab
     ·exact ⟨i,hi,n0,by rw [hwi];exact .nil _,by rw [ar ⟨rfl,hx⟩];omega⟩
     ·rw [ar hwi] at hcw;have h1:=Arn x (a.d i) (Ib a.s p);rw [Agk (fun d=>hx d.symm)] at h1;obtain ⟨u,u1,u2,u3,u4⟩:=h.pc w hw w0 (by rw [hwi];omega);exact ⟨u,u1,u2,u3,hup u u4⟩
    ·rw [aq hwi] at hcw;obtain ⟨u,u1,u2,u3,u4⟩:=h.pc w hw w0 hcw;exact ⟨u,u1,u2,u3,hup u u4⟩
   ·by_cases hx:v=i/\x=p.Ab
    ·right;refine ⟨i,hi,n0,by rw [hx.1];exact .nil _,by rw [<-hx.1];exact hu,?_⟩;dsimp only;rw [ar rfl,hx.2];exact Ap8 (by rw [<-hx.2];exact hh (by rw [hx.2];exact hser.1)) EM
    ·rw [aq hx] at ho;rcases h.pr v hv v0 ho M hM hlM hu q' hq' with hr|⟨w,w1,w2,w3,w4,w5⟩
     ·exact .inl hr
     ·refine .inr ⟨w,w1,w2,w3,w4,?_⟩;dsimp only
      split
      ·rename_i d;subst d;exact bi w5 (Aix _ _ _)
      ·exact w5
   ·dsimp only at hr
    split at hr
    ·rename_i d;unfold Da at hr;rcases aG.1 hr with hr|hr
     ·exact h.pk i r hr
     ·obtain ⟨m1,m2⟩:=Zf hG.src hpk.1 hpk.2 (bg hr);exact ⟨m1,fun hn=>by rw [<-h.sw.1,<-h.sw.2];exact m2 hn⟩
    ·exact h.pk v r hr
   ·show Im (Hb a.s p.Ab).Aa=_/\(Hb a.s p.Ab).Aa.Al=_;rw [Sh];exact h.sw
  ·rw [aq hz];have hroom:x=p.Ab->(a.d i).length < 6:=fun hx=>by
    rcases cw (a.d i).length 6 with d|d
    ·exact d
    ·exfalso;have h1:=hj.full ht hi n0 hz hki d x (by rw [hx];exact hpX);cases hl:Br l ((i:Nat):Int)
     ·have h2:=hj.qe i hi n0 hl x;rw [hx] at h1 h2;omega
     ·have h2:=hj.ql i hi n0 hl x;omega
   refine ⟨hox,fun w hw w0 hcw=>?_,fun v hv v0 ho M hM hlM hu q' hq'=>?_,hrr,h.cm,fun v r hr=>?_,h.sw⟩
   ·dsimp only at hcw;by_cases hwi:w=i
    ·by_cases hx:x=p.Ab
     ·exact ⟨i,hi,n0,by rw [hwi];exact .nil _,by rw [ar ⟨rfl,hx⟩];omega⟩
     ·rw [ar hwi] at hcw;have h1:=Afg x (Rz p) (a.d i);rw [aq (show ¬((Rz p).Bd=4/\(Rz p).Ab=x) from fun d=>hx d.2.symm)] at h1;obtain ⟨u,u1,u2,u3,u4⟩:=h.pc w hw w0 (by rw [hwi];omega);exact ⟨u,u1,u2,u3,hup u u4⟩
    ·rw [aq hwi] at hcw;obtain ⟨u,u1,u2,u3,u4⟩:=h.pc w hw w0 hcw;exact ⟨u,u1,u2,u3,hup u u4⟩
   ·by_cases hx:v=i/\x=p.Ab
    ·right;refine ⟨i,hi,n0,by rw [hx.1];exact .nil _,by rw [<-hx.1];exact hu,?_⟩;dsimp only;rw [ar rfl];exact Afh (hroom hx.2) ⟨rfl,hx.2.symm⟩
    ·rw [aq hx] at ho;rcases h.pr v hv v0 ho M hM hlM hu q' hq' with hr|⟨w,w1,w2,w3,w4,w5⟩
     ·exact .inl hr
     ·refine .inr ⟨w,w1,w2,w3,w4,?_⟩;dsimp only
      split
      ·rename_i d;subst d;exact bi w5 (Yr _ _ _)
      ·exact w5
   ·dsimp only at hr
    split at hr
    ·rcases I9 hr with hr|rfl
     ·exact h.pk i r hr
     ·exact ⟨.inr (.inl rfl),fun hn=>by cases hn⟩
    ·exact h.pk v r hr
end
structure Rk (l:al) (x c:Int) (Sn:Nat->Prop) (On:Nat->Int->Prop) (U:Nat->Prop) (b:Vw):Prop where
 hd:(∃h∈b.s.holds,h.Ab=x/\h.Bl=c+3)->∃M,Sn M/\Zr (b.r M) x
 s:∀M,Sn M->U M
 p:∀v,v < l.length->v≠0->U v->(Cp l v=0->onB b.s.holds x=true)/\(Cp l v≠0->(∃u,On (Cp l v) u)\/U (Cp l v))
 e:∀v,v < l.length->v≠0->Br l ((v:Nat):Int)=false->∀y,en (b.e v) x=some y->(On v y.Bl/\y.Bl<=c+5)\/U v
 w:∀v,v < l.length->v≠0->U v->∃M,Tk l v M/\Sn M
 z:∀M,Sn M->(∃q,rq (b.r M) x=some q)\/Zr (b.r M) x
structure Rp (l:al) (f:Int) (m i0:Nat) (x c:Int) (U:Nat->Prop) (q0:Nat->Option Aw) (b:Vw):Prop where
 r:∀v,v < l.length->v≠0->U v->∀M,M < l.length->Br l ((M:Nat):Int)=true->Tk l v M->∀q,rq (b.r M) x=some q->q.Dh=3/\q.Bl=c+4
 o:∀M,M < l.length->M≠0->Br l ((M:Nat):Int)=true->∀q,rq (b.r M) x=some q->∃q1,q0 M=some q1/\q.Ch=q1.Ch/\(q=q1\/(q.Dh=3/\q.Bl=c+4/\∃u,u < l.length/\u≠0/\Tk l u M/\U u))
 c:∀M,M < l.length->M≠0->Br l ((M:Nat):Int)=true->∃k,Cmp f m (b.r M) k/\i0<=k
 w:Im b.s.Aa=A8 f m/\b.s.Aa.Al=A8 f i0
section
variable {l:al} {X:Nat->al} {S:ah} {f x c:Int} {Sn:Nat->Prop} {On:Nat->Int->Prop} {i0:Nat} {q0:Nat->Option Aw}
def z2:Nat->Int->Nat:=fun _ _=>0
theorem Kv.out {o:Nat->Int->Nat} {mk:Nat->Prop} {b:Vw} (h:Kv l x c Sn On o mk b) (hq:∀v,b.d v=[]/\b.u v=[]):Rk l x c Sn On (fun v=>1<=o v x) b:=by
 have hU:∀v,¬1<=J4 x (b.u v):=fun v=>by rw [(hq v).2];show ¬1<=0;omega
 have hR:∀v,¬1<=Nt x (b.d v):=fun v=>by rw [(hq v).1];show ¬1<=0;omega
 refine ⟨fun hh=>?_,fun M hM=>(h.g1 M hM).resolve_left (hU M),fun v hv v0 ho=>?_,fun v hv v0 hl y hy=>?_,fun v hv v0 ho=>h.g6 v hv v0 (.inr ho),h.g7⟩
 ·rcases h.h1 hh with hd|⟨w,M, -, -, -,w4, -⟩
  ·exact hd
  ·exact absurd w4 (hR w)
 ·obtain ⟨a,b⟩:=h.g3 v hv v0 ho;exact ⟨a,fun hp=>(b hp).imp_right fun hm=>(h.g2 _ hm).resolve_left (hU _)⟩
 ·exact (h.g4 v hv v0 hl y hy).imp_right fun hm=>(h.g2 _ hm).resolve_left (hU _)
theorem Pv.out {o:Nat->Int->Nat} {b:Vw} {m:Nat} (h:Pv l X f m i0 x c o q0 b) (hq:∀v,b.d v=[]/\b.u v=[]):Rp l f m i0 x c (fun v=>1<=o v x) q0 b:=by
 have hC:∀v,¬1<=My x (b.d v):=fun v=>by rw [(hq v).1];show ¬1<=0;omega
 refine ⟨fun v hv v0 ho M hM hlM hu q hq'=>?_,h.rr,h.cm,h.sw⟩;rcases h.pr v hv v0 ho M hM hlM hu q hq' with hr|⟨w, -, -, -, -,w5⟩
 ·exact hr
 ·exact absurd w5 (hC w)
theorem Avm (ht:Tx l X) (hS:S.length<=8) {j:Nat} (hjS:j < S.length) (hx:x=A8 f j) {n:Du} {E:ah} (hg:At n=true) (hl:n.Ao.Ad=l) (hJ:Ug S f n E)
  (h:Jv l X 0 z2 z2 z2 (vw n)) {mk:Nat->Prop} (h2:Kv l x c Sn On z2 mk (vw n)):(∃U,Rk l x c Sn On U (vw (Jk n).1))/\∀v,v < l.length->v≠0->Br l ((v:Nat):Int)=false->∀y∈((vw (Jk n).1).e v).Af,y.Ab∈X v:=by
 have hlen:∀k,k+1 < l.length->k+1≠0:=fun k _=>by omega
 obtain ⟨⟨o,po,hm,mk',b1,b2⟩,b3,b4⟩:=Ki (l:=l) (S:=S) (f:=f) (P:=fun k a=>∃o po hm mk,Jv l X k o po hm a/\Kv l x c Sn On o mk a) EM
  (fun k a hk hG ⟨o,po,hm,mk,a1,a2⟩=>by
   obtain ⟨po',c1,c2, -⟩:=a1.dl ht hG hk;have c3:=a2.dl a1 ht hG hS hjS hx hk;have hG2:=hG.dl EM (show 1<=k+1 by omega) hk;obtain ⟨hm',c4⟩:=c1.ul ht hG2 (i:=k+1) EM hk c2;obtain ⟨mk',c5⟩:=c3.ul c1 ht hG2 (i:=k+1) EM hk c2;exact ⟨_,po',hm',mk',c4,c5⟩)
  (fun a _ ⟨o,po,hm,mk,a1,a2⟩=>⟨o,po,hm,mk,a1.wrap,a2⟩) hg hl hJ ⟨z2,z2,z2,mk,h,h2⟩
 exact ⟨⟨_,b2.out b4⟩,b1.qx⟩
theorem Avn (ht:Tx l X) (hS:S.length<=8) {j:Nat} (hjS:j < S.length) (hx:x=A8 f j) {n:Du} {E:ah} (hg:At n=true) (hl:n.Ao.Ad=l) (hJ:Ug S f n E)
  (h:Jv l X 0 z2 z2 z2 (vw n)) {mk:Nat->Prop} (h2:Kv l x c Sn On z2 mk (vw n)) (h3:Pv l X f S.length i0 x c z2 q0 (vw n)):(∃U,Rk l x c Sn On U (vw (Jk n).1)/\Rp l f S.length i0 x c U q0 (vw (Jk n).1)):=by
 obtain ⟨⟨o,po,hm,mk', -,b2,b5⟩,b3,b4⟩:=Ki (l:=l) (S:=S) (f:=f) (P:=fun k a=>∃o po hm mk,Jv l X k o po hm a/\Kv l x c Sn On o mk a/\Pv l X f S.length i0 x c o q0 a) EM
  (fun k a hk hG ⟨o,po,hm,mk,a1,a2,a3⟩=>by
   obtain ⟨po',c1,c2, -⟩:=a1.dl ht hG hk;have c3:=a2.dl a1 ht hG hS hjS hx hk;have c6:=a3.dl a1 ht hG a2.gc hS hk;have hG2:=hG.dl EM (show 1<=k+1 by omega) hk;obtain ⟨hm',c4⟩:=c1.ul ht hG2 (i:=k+1) EM hk c2;obtain ⟨mk',c5⟩:=c3.ul c1 ht hG2 (i:=k+1) EM hk c2;exact ⟨_,po',hm',mk',c4,c5,c6.ul c1 ht hG2 (fun _=>c3.gh) (i:=k+1) EM hk EM c2⟩)
  (fun a _ ⟨o,po,hm,mk,a1,a2,a3⟩=>⟨o,po,hm,mk,a1.wrap,a2,a3⟩) hg hl hJ ⟨z2,z2,z2,mk,h,h2,h3⟩
 exact ⟨_,b2.out b4,b5.out b4⟩
theorem Wt (a:Vw) (i:Nat):(Qx l a i).s.Ae=a.s.Ae:=by
 unfold Qx
 split
 ·rfl
 ·split
  ·exact Aec _ _
  ·rfl
theorem Rg (a:Vw) (i:Nat):(Qw l a i).s=a.s:=by
 unfold Qw
 split
 ·rfl
 ·split <;> rfl
theorem Avl (ht:Tx l X) (hS:S.length<=8) {n:Du} {E:ah} (hg:At n=true) (hl:n.Ao.Ad=l) (hJ:Ug S f n E)
  (h:Jv l X 0 z2 z2 z2 (vw n)) (hc:(vw n).s.Ae=c) (h3:Pv l X f S.length i0 (-1) c z2 q0 (vw n)) :
  (At (Jk n).1=true/\(Jk n).1.Ao.Ad=l/\∃E2,Ug S f (Jk n).1 E2)/\(∀v,(vw (Jk n).1).d v=[]/\(vw (Jk n).1).u v=[])/\(∀v,v < l.length->v≠0->Br l ((v:Nat):Int)=false->∀y∈((vw (Jk n).1).e v).Af,y.Ab∈X v) /\
   (∀M,M < l.length->M≠0->Br l ((M:Nat):Int)=true->∃k,Cmp f S.length ((vw (Jk n).1).r M) k/\i0<=k)/\(vw (Jk n).1).s.Aa.Al=A8 f i0:=by
 obtain ⟨⟨o,po,hm,b1,b5, -⟩,b3,b4⟩:=Ki (l:=l) (S:=S) (f:=f) (P:=fun k a=>∃o po hm,Jv l X k o po hm a/\Pv l X f S.length i0 (-1) c o q0 a/\a.s.Ae=c) EM
  (fun k a hk hG ⟨o,po,hm,a1,a3,a4⟩=>by
   obtain ⟨po',c1,c2, -⟩:=a1.dl ht hG hk;have c6:=a3.dl a1 ht hG a4 hS hk;have hG2:=hG.dl EM (show 1<=k+1 by omega) hk;obtain ⟨hm',c4⟩:=c1.ul ht hG2 (i:=k+1) EM hk c2;exact ⟨_,po',hm',c4,c6.ul c1 ht hG2 (fun h=>absurd h EN) (i:=k+1) EM hk EM c2,by show (Qx l (Qw l a (k+1)) (k+1)).s.Ae=c;rw [Wt,Rg,a4]⟩)
  (fun a _ ⟨o,po,hm,a1,a3,a4⟩=>⟨o,po,hm,a1.wrap,a3,a4⟩) hg hl hJ ⟨z2,z2,z2,h,h3,hc⟩
 exact ⟨b3,b4,b1.qx,b5.cm,b5.sw.2⟩
end
def Nm (l:al) (a:Vw) (k:Nat):Vw :=
 ⟨fun v=>if ((v:Nat):Int)∈E7 l 0 then Da (a.d v) (G0 a.s.Aa a.s.quiet) else a.d v,
  fun v=>if (v≠0/\v<=k)/\Br l ((v:Nat):Int)=true then Da (a.u v) (Db (a.r v)) else a.u v,
  fun v=>if (v≠0/\v<=k)/\Br l ((v:Nat):Int)=true then Bj (a.r v) (Ij v) else a.r v,
  fun v=>if (v≠0/\v<=k)/\Br l ((v:Nat):Int)=false then Cn (a.e v) else a.e v,Lg a.s⟩
theorem ifc {α:Type} {p q:Prop} [Decidable p] [Decidable q] {a b c d:α} (h:p↔q) (h1:a=c) (h2:b=d):(if p then a else b)=if q then c else d:=by
 subst h1 h2;by_cases hp:p
 ·rw [ar hp,ar (h.1 hp)]
 ·rw [aq hp,aq (fun q=>hp (h.2 q))]
theorem Acs {n:Du} (hg:At n=true):∀k,k+1<=n.Ao.Ad.length->vw (A4 n k).1=Nm n.Ao.Ad (vw n) k
 | 0,_=>by
  have hG:=Av.1 hg;have hT:=Ev hG.t;obtain ⟨q1,q2,q3,q4⟩:=Bk.1 hG.l;refine Aex (funext fun v=>?_) (funext fun v=>?_) (funext fun v=>?_) (funext fun v=>?_) rfl
  ·show (Dc n.down (Sc n 0) (G0 n.Ac.Aa n.Ac.quiet)).getD v []=_;rw [Qr (G0 n.Ac.Aa n.Ac.quiet) (Sc n 0) n.down v (Uv _ _) (fun x hx=>by
    have:=If hT (i:=0) hx;exact ⟨this.2.2,EM⟩)]
   rfl
  ·show n.up.getD v []=if (v≠0/\v<=0)/\_ then _ else _
   rw [aq (fun h=>by omega)];rfl
  ·show N6 n v=if (v≠0/\v<=0)/\_ then _ else _
   rw [aq (fun h=>by omega)];rfl
  ·show Li n v=if (v≠0/\v<=0)/\_ then _ else _
   rw [aq (fun h=>by omega)];rfl
 | k+1,hk=>by
  have ih:=Acs hg k EM;have hG:=Av.1 hg;obtain ⟨q1,q2,q3,q4⟩:=Bk.1 hG.l;have hlen:∀k,(A4 n k).1.up.length=n.up.length/\(A4 n k).1.Ah.length=n.Ah.length/\(A4 n k).1.Ai.length=n.Ai.length/\(A4 n k).1.Ao=n.Ao:=fun k=>by
   induction k with
   | zero=>exact ⟨rfl,rfl,rfl,rfl⟩
   | succ k ihk =>
    obtain ⟨a,b,c,d⟩:=ihk;show (Ju (A4 n k).1 (k+1)).1.up.length=_/\(Ju (A4 n k).1 (k+1)).1.Ah.length=_/\(Ju (A4 n k).1 (k+1)).1.Ai.length=_/\(Ju (A4 n k).1 (k+1)).1.Ao=_;unfold Ju
    split
    ·exact ⟨by show (List.modify _ _ _).length=_;rw [cB,a],by show (List.set _ _ _).length=_;rw [bw,b],c,d⟩
    ·exact ⟨a,b,by show (List.set _ _ _).length=_;rw [bw,c],d⟩
  obtain ⟨l1,l2,l3,l4⟩:=hlen k;show vw (Ju (A4 n k).1 (k+1)).1=_;have hd:(vw (A4 n k).1).d=(Nm n.Ao.Ad (vw n) k).d:=by rw [ih]
  have hu:(vw (A4 n k).1).u=(Nm n.Ao.Ad (vw n) k).u:=by rw [ih]
  have hr:(vw (A4 n k).1).r=(Nm n.Ao.Ad (vw n) k).r:=by rw [ih]
  have he:(vw (A4 n k).1).e=(Nm n.Ao.Ad (vw n) k).e:=by rw [ih]
  have hs:(vw (A4 n k).1).s=(Nm n.Ao.Ad (vw n) k).s:=by rw [ih]
  have hrk:N6 (A4 n k).1 (k+1)=(vw n).r (k+1):=by
   have:=congrFun hr (k+1);rw [show N6 (A4 n k).1 (k+1)=(vw (A4 n k).1).r (k+1) from rfl,this];exact DH
  have hek:Li (A4 n k).1 (k+1)=(vw n).e (k+1):=by
   have:=congrFun he (k+1);rw [show Li (A4 n k).1 (k+1)=(vw (A4 n k).1).e (k+1) from rfl,this];exact DH
  have huk:(A4 n k).1.up.getD (k+1) []=(vw n).u (k+1):=by
   have:=congrFun hu (k+1);rw [show (A4 n k).1.up.getD (k+1) []=(vw (A4 n k).1).u (k+1) from rfl,this];exact DH
  have hiff:∀(b:Bool) v,v≠k+1->(((v≠0/\v<=k)/\Br n.Ao.Ad ((v:Nat):Int)=b)↔((v≠0/\v<=k+1)/\Br n.Ao.Ad ((v:Nat):Int)=b)):=fun b v hv=>⟨fun ⟨⟨a,c⟩,d⟩=>⟨⟨a,EM⟩,d⟩,fun ⟨⟨a,c⟩,d⟩=>⟨⟨a,EM⟩,d⟩⟩;unfold Ju;rw [l4];cases hl:Br n.Ao.Ad ((k+1:Nat):Int)
  ·rw [aq EN];refine Aex hd (funext fun v=>?_) (funext fun v=>?_) (funext fun v=>?_) hs
   ·show (vw (A4 n k).1).u v=_;rw [hu];show (if (v≠0/\v<=k)/\_ then _ else _)=if (v≠0/\v<=k+1)/\_ then _ else _
    by_cases c:v=k+1
    ·exact DJ
    ·exact ifc (hiff true v c) rfl rfl
   ·show (vw (A4 n k).1).r v=_;rw [hr];show (if (v≠0/\v<=k)/\_ then _ else _)=if (v≠0/\v<=k+1)/\_ then _ else _
    by_cases c:v=k+1
    ·exact DJ
    ·exact ifc (hiff true v c) rfl rfl
   ·show Li ⟨_,_,(A4 n k).1.Ai.set (k+1) (Cn (Li (A4 n k).1 (k+1))),_,_,_⟩ v=_;unfold Li;dsimp only;rw [Vu];by_cases c:v=k+1
    ·subst c;rw [ar ⟨rfl,EM⟩];show Cn (Li (A4 n k).1 (k+1))=if (k+1≠0/\k+1<=k+1)/\_ then _ else _
     rw [ar ⟨⟨EM,EM⟩,hl⟩,hek]
    ·rw [aq (fun h=>c h.1)];show (vw (A4 n k).1).e v=_;rw [he];show (if (v≠0/\v<=k)/\_ then _ else _)=if (v≠0/\v<=k+1)/\_ then _ else _
     exact ifc (hiff false v c) rfl rfl
  ·rw [ar rfl];refine Aex hd (funext fun v=>?_) (funext fun v=>?_) (funext fun v=>?_) hs
   ·show ((A4 n k).1.up.modify (k+1) fun q=>Da q (Db (N6 (A4 n k).1 (k+1)))).getD v []=_;rw [M3];by_cases c:v=k+1
    ·subst c;rw [ar ⟨rfl,EM⟩,huk,hrk];show _=if (k+1≠0/\k+1<=k+1)/\_ then _ else _
     rw [ar ⟨⟨EM,EM⟩,hl⟩]
    ·rw [aq (fun h=>c h.1)];show (vw (A4 n k).1).u v=_;rw [hu];show (if (v≠0/\v<=k)/\_ then _ else _)=if (v≠0/\v<=k+1)/\_ then _ else _
     exact ifc (hiff true v c) rfl rfl
   ·show N6 ⟨_,_,_,(A4 n k).1.Ah.set (k+1) (Bj (N6 (A4 n k).1 (k+1)) (Ij (k+1))),_,_⟩ v=_;unfold N6;dsimp only;rw [Vu];by_cases c:v=k+1
    ·subst c;rw [ar ⟨rfl,EM⟩];show Bj (N6 (A4 n k).1 (k+1)) _=if (k+1≠0/\k+1<=k+1)/\_ then _ else _
     rw [ar ⟨⟨EM,EM⟩,hl⟩,hrk]
    ·rw [aq (fun h=>c h.1)];show (vw (A4 n k).1).r v=_;rw [hr];show (if (v≠0/\v<=k)/\_ then _ else _)=if (v≠0/\v<=k+1)/\_ then _ else _
     exact ifc (hiff true v c) rfl rfl
   ·show (vw (A4 n k).1).e v=_;rw [he];show (if (v≠0/\v<=k)/\_ then _ else _)=if (v≠0/\v<=k+1)/\_ then _ else _
    by_cases c:v=k+1
    ·exact DJ
    ·exact ifc (hiff false v c) rfl rfl
structure Dr (l:al) (X:Nat->al) (S:ah) (f:Int) (n:Du) (E:ah):Prop where
 g:At n=true
 t:n.Ao.Ad=l
 j:Ug S f n E
 q:∀v,(vw n).d v=[]/\(vw n).u v=[]
 r:∀v,v < l.length->v≠0->Br l ((v:Nat):Int)=true->∀q∈((vw n).r v).Aj,q.Ab∈X v
 x:∀v,v < l.length->v≠0->Br l ((v:Nat):Int)=false->∀y∈((vw n).e v).Af,y.Ab∈X v
def Snd (l:al) (x c:Int) (a:Vw) (M:Nat):Prop:=(M < l.length/\M≠0/\Br l ((M:Nat):Int)=true)/\∃q,rq (a.r M) x=some q/\Nq c q=some x
def Onx (l:al) (x:Int) (a:Vw) (v:Nat) (u:Int):Prop:=∃y,en ((Nm l a (l.length - 1)).e v) x=some y/\y.Bl=u
section
variable {l:al} {X:Nat->al} {S:ah} {f x c:Int} {n:Du} {E:ah}
theorem Dr.gd (h:Dr l X S f n E):Gd l S f (vw n):=⟨n,E,h.g,h.t,h.j,rfl⟩
theorem Arp {r:Ay} (hg:Eu r) (x:Int):J4 x (Db r)<=1:=by
 obtain ⟨-, -, -,hp⟩:=Dv.1 hg.q;have h2:(r.Aj.filterMap (Nq (r.Ae+1))).Pairwise fun a b=>a≠b:=by
  refine List.Pairwise.filterMap _ (fun a a' h b hb b' hb' e=>?_) hp;rw [Ah8 hb,Ah8 hb'] at e;rw [e] at h;omega
 unfold J4 Db;revert h2;generalize r.Aj.filterMap (Nq (r.Ae+1))=ns;intro h2
 induction ns with
 | nil=>exact aD _
 | cons b ns ih =>
  obtain ⟨p1,p2⟩:=ci.1 h2;have:=ih p2;rw [bL,bT]
  split
  ·rename_i e;have hb:b=x:=bP (p:=(pkR r.Aa.next b).Ab=x) e;have:((ns.map (pkR r.Aa.next)).filter fun p=>decide (p.Ab=x))=[]:=by
    rw [ef];intro p hp;obtain ⟨b',hb',rfl⟩:=bU.1 hp;have:=p1 b' hb';have h3:(pkR r.Aa.next b').Ab=b':=rfl;rw [h3];simp only [aC];omega
   rw [aK,this];exact aA _
  ·exact this
theorem Aeo {r:Ay} {p:Ar} (h:p∈Db r):∃q∈r.Aj,Nq (r.Ae+1) q=some p.Ab/\q.Ab=p.Ab:=by
 unfold Db at h;obtain ⟨b,hb,rfl⟩:=bU.1 h;obtain ⟨q,hq,e⟩:=bB.1 hb;exact ⟨q,hq,e,(Ah8 e).symm⟩
theorem Dr.few (h:Dr l X S f n E) (ht:Tx l X) {v:Nat} (hv:v < l.length) (h0:v≠0) (hl:Br l ((v:Nat):Int)=true):((vw n).r v).Aj.length<=3:=by
 have hg:=(h.gd.rc hv h0 hl).1;obtain ⟨-, -, -,hp⟩:=Dv.1 hg.q;have:=Vr (l:=((vw n).r v).Aj) (X:=X v) (g:=Aw.Ab) (hp.imp fun h e=>by rw [e] at h;omega) (h.r v hv h0 hl);have:=ht.s v;omega
theorem Ad6 {ps:List Ar} (h:ps.length<=6):Da [] ps=ps:=by unfold Da;rw [bc EU];rfl
theorem Dr.up (h:Dr l X S f n E) (ht:Tx l X) {v:Nat} (hv:v < l.length) (h0:v≠0) (hl:Br l ((v:Nat):Int)=true):(Nm l (vw n) (l.length - 1)).u v=Db ((vw n).r v):=by
 show (if (v≠0/\v<=l.length - 1)/\_ then _ else _)=_;rw [ar ⟨⟨h0,EM⟩,hl⟩,(h.q v).2,Ad6];have:=h.few ht hv h0 hl;unfold Db;rw [cg];have:=cK (Nq (((vw n).r v).Ae+1)) ((vw n).r v).Aj;omega
theorem Dr.up0 (h:Dr l X S f n E) {v:Nat} (hl:Br l ((v:Nat):Int)=false):(Nm l (vw n) (l.length - 1)).u v=[]:=by
 show (if (v≠0/\v<=l.length - 1)/\_ then _ else _)=_;rw [aq (fun c=>by rw [hl] at c;cases c.2)];exact (h.q v).2
theorem Dr.dn (h:Dr l X S f n E) (v:Nat):(Nm l (vw n) (l.length - 1)).d v=if ((v:Nat):Int)∈E7 l 0 then G0 (vw n).s.Aa (vw n).s.quiet else []:=by
 show (if ((v:Nat):Int)∈E7 l 0 then Da ((vw n).d v) _ else (vw n).d v)=_
 split
 ·rw [(h.q v).1,Ad6];unfold G0
  split
  ·exact aD _
  ·exact (by decide:1<=6)
 ·exact (h.q v).1
theorem Nl {W:Ax} {q:Int} {p:Ar} (h:p∈G0 W q):p=Kd W:=by
 unfold G0 at h
 split at h
 ·cases h
 ·exact aH.1 h
theorem Dr.J (h:Dr l X S f n E) (ht:Tx l X):Jv l X 0 z2 z2 z2 (Nm l (vw n) (l.length - 1)):=by
 have hd:∀v,((Nm l (vw n) (l.length - 1)).d v).length<=1/\∀p∈(Nm l (vw n) (l.length - 1)).d v,p=Kd (vw n).s.Aa:=fun v=>by
  rw [h.dn v]
  split
  ·refine ⟨?_,fun p hp=>Nl hp⟩;unfold G0
   split
   ·exact aD _
   ·exact aA _
  ·exact ⟨aD _,fun p hp=>(by cases hp)⟩
 have hclk:∀v,v < l.length->v≠0->Br l ((v:Nat):Int)=true->∀p∈Db ((vw n).r v),p.Ab∈X v:=fun v hv h0 hl p hp=>by
  obtain ⟨q,hq, -,e⟩:=Aeo hp;rw [<-e];exact h.r v hv h0 hl q hq
 refine ⟨fun v hv p hp=>?_,fun v hv h0 hp=>?_,fun v hv h0 hp=>?_,fun v hv h0 hl x=>?_,fun v hv h0 hl x=>?_,fun v hv h0 x=>?_,fun v x=>⟨aD _,fun c=>(by cases c)⟩,fun v hv h0 hl y hy=>?_⟩
 ·cases hl:Br l ((v:Nat):Int)
  ·rw [h.up0 hl] at hp;cases hp
  ·by_cases h0:v=0
   ·exfalso;subst h0;have:(Nm l (vw n) (l.length - 1)).u 0=(vw n).u 0:=by
     show (if ((0:Nat)≠0/\0<=l.length - 1)/\Br l ((0:Nat):Int)=true then Da ((vw n).u 0) (Db ((vw n).r 0)) else (vw n).u 0)=_;rw [aq (fun c=>c.1.1 rfl)]
    rw [this,(h.q 0).2] at hp;cases hp
   ·rw [h.up ht hv h0 hl] at hp;exact hclk v hv h0 hl p hp
 ·have:=(hd v).1;omega
 ·rw [h.dn v,aq (show ¬((v:Nat):Int)∈E7 l 0 from fun c=>hp ((Lr (i:=0) ht.t).1 c).2.2)];exact aD _
 ·rw [h.up ht hv h0 hl];have:=Arp (h.gd.rc hv h0 hl).1 x;show 0+_<=1;omega
 ·rw [h.up0 hl];have:=Ay6 (en ((Nm l (vw n) (l.length - 1)).e v) x);show 0+0+_<=1+0;omega
 ·have:Nt x ((Nm l (vw n) (l.length - 1)).d v)=0:=by
   unfold Nt;rw [bx,ef];intro p hp;rw [(hd v).2 p hp];show ¬(decide ((5:Int)=2) && _)=true;simp
  rw [this];exact aD _
 ·have hm:y∈((vw n).e v).Af:=by
   have hy2:y∈(if (v≠0/\v<=l.length - 1)/\Br l ((v:Nat):Int)=false then Cn ((vw n).e v) else (vw n).e v).Af:=hy
   split at hy2
   ·exact (aO.1 hy2).1
   ·exact hy2
  exact h.x v hv h0 hl y hm
theorem Dr.K (h:Dr l X S f n E) (ht:Tx l X) (hc:(vw n).s.Ae < 9999) (hh:E5 (vw n).s.Aa x=true) :
  Kv l x ((vw n).s.Ae+1) (Snd l x ((vw n).s.Ae+1) (vw n)) (Onx l x (vw n)) z2 (fun _=>False) (Nm l (vw n) (l.length - 1)):=by
 have hrc:∀v,v < l.length->v≠0->Br l ((v:Nat):Int)=true->Eu ((vw n).r v)/\((vw n).r v).Ae=(vw n).s.Ae:=fun v hv h0 hl=>h.gd.rc hv h0 hl;have hcu:∀v,v < l.length->v≠0->1<=J4 x ((Nm l (vw n) (l.length - 1)).u v)->Snd l x ((vw n).s.Ae+1) (vw n) v:=fun v hv h0 hcc=>by
  cases hl:Br l ((v:Nat):Int)
  ·rw [h.up0 hl] at hcc;cases hcc
  ·rw [h.up ht hv h0 hl] at hcc;have hne:(Db ((vw n).r v)).filter (fun p=>decide (p.Ab=x))≠[]:=fun c=>by
    unfold J4 at hcc;rw [c] at hcc;cases hcc
   obtain ⟨p,hp⟩:=fq _ hne;obtain ⟨hp1,hp2⟩:=aO.1 hp;obtain ⟨q,hq,e1,e2⟩:=Aeo hp1;have hx:p.Ab=x:=by simpa using hp2
   rw [hx] at e1 e2;obtain ⟨g1,g2⟩:=hrc v hv h0 hl;have:=Mh g1 hq;rw [e2] at this;rw [g2] at e1;exact ⟨⟨hv,h0,hl⟩,q,this,e1⟩
 refine ⟨fun M hM=>hM.1,fun M hM=>?_,fun v hv=>(by cases hv),fun v hv h0 ho=>(by cases ho),fun v hv h0 hl y hy=>?_,fun v hv h0 hcc=>?_,fun M hM=>?_,hh,rfl,fun hhh=>?_,fun v hv h0 hcc=>?_⟩
 ·left;obtain ⟨⟨hM1,hM2,hM3⟩,q,hq,ht2⟩:=hM;rw [h.up ht hM1 hM2 hM3];obtain ⟨g1,g2⟩:=hrc M hM1 hM2 hM3;have:pkR ((vw n).r M).Aa.next x∈Db ((vw n).r M):=by
   unfold Db;refine bU.2 ⟨x,bB.2 ⟨q,(Es hq).1,?_⟩,rfl⟩;rw [g2];exact ht2
  unfold J4;exact dh (aO.2 ⟨this,by show decide (x=x)=true;simp⟩)
 ·refine .inl ⟨⟨y,hy,rfl⟩,?_⟩;have hge:=(h.gd.el hv h0 hl);have e1:(Nm l (vw n) (l.length - 1)).e v=Cn ((vw n).e v):=by
   show (if (v≠0/\v<=l.length - 1)/\_ then _ else _)=_;rw [ar ⟨⟨h0,EM⟩,hl⟩]
  rw [e1,Acb hge.1] at hy;cases hc2:en ((vw n).e v) x with
  | none=>rw [hc2] at hy;cases hy
  | some y0 =>
   rw [hc2] at hy;have hy3:(if y0.Bl<=((vw n).e v).Ae+1 then none else some y0)=some y:=hy
   split at hy3
   ·cases hy3
   ·cases hy3;obtain ⟨-, -,h3, -⟩:=D6.1 hge.1;have:=(Js.1 (h3 y (Qc hc2).1)).2.2.2.2;rw [hge.2] at this;omega
 ·have hs:=hcu v hv h0 (hcc.resolve_right (by intro c;cases c));exact ⟨v,.nil v,hs⟩
 ·obtain ⟨⟨hM1,hM2,hM3⟩,q,hq,ht2⟩:=hM;obtain ⟨g1,g2⟩:=hrc M hM1 hM2 hM3;obtain ⟨d0,d1⟩:=Lp M;have e1:(Nm l (vw n) (l.length - 1)).r M=Bj ((vw n).r M) (Ij M):=by
   show (if (M≠0/\M<=l.length - 1)/\_ then _ else _)=_;rw [ar ⟨⟨hM2,EM⟩,hM3⟩]
  rw [e1];have hG:=Aa8 (d:=Ij M) g1 (by rw [g2];omega) d0 d1;have hto:∃q',Qh (((vw n).r M).Ae+1) (Ij M) q=some q':=by
   rw [g2];unfold Nq at ht2;unfold Qh
   split at ht2
   ·cases ht2
   ·rename_i c1
    split at ht2
    ·cases ht2
    ·rename_i c2
     split at ht2
     ·rename_i c3;rw [aq c1,aq c2,ar c3];exact ⟨_,rfl⟩
     ·cases ht2
  obtain ⟨q',hq'⟩:=hto;have hm:q'∈Ir ((vw n).r M) (Ij M):=bB.2 ⟨q,(Es hq).1,hq'⟩;have hn:q'.Ab=x:=by rw [Rd hq',(Es hq).2]
  by_cases hL:Cf ((vw n).r M)=[]
  ·left;have:q'∈(Bj ((vw n).r M) (Ij M)).Aj:=by unfold Bj;rw [ar hL];exact hm
   have:=Mh hG this;rw [hn] at this;exact ⟨q',this⟩
  ·cases hb:Qa x (Bj ((vw n).r M) (Ij M)).Aa.next
   ·left;have:q'∈(Bj ((vw n).r M) (Ij M)).Aj:=by
     unfold Bj at hb ⊢;rw [aq hL] at hb ⊢;exact aO.2 ⟨hm,by rw [hn,hb];rfl⟩
    have:=Mh hG this;rw [hn] at this;exact ⟨q',this⟩
   ·right;refine ⟨?_,by unfold Em;rw [hb];rfl⟩;have hst:((vw n).r M).A1=true:=by
     cases c:((vw n).r M).A1
     ·have:=(Es hq).1;rw [(g1.z c).2] at this;cases this
     ·rfl
    unfold Bj
    split <;> exact hst
 ·exfalso;obtain ⟨H,hH, -,hu⟩:=hhh;have hm:H∈(vw n).s.holds:=by
   have hH2:H∈Qs ((vw n).s.Ae+1) (vw n).s.holds:=hH;exact (aO.1 hH2).1
  obtain ⟨-, -, -,h4, -⟩:=Dd.1 h.gd.src;have:=(h4 H hm).2.2;unfold Ht at this;simp only [av,aC] at this;omega
 ·right;have hs:=hcu v hv h0 hcc;exact ⟨v,hs,.nil v⟩
end
section
variable {l:al} {X:Nat->al} {S:ah} {f x c:Int} {n:Du} {E:ah} {i0:Nat}
def Cpl (l:al) (S:ah) (f:Int) (i0:Nat) (a:Vw):Prop:=(∀M,M < l.length->M≠0->Br l ((M:Nat):Int)=true->∃k,Cmp f S.length (a.r M) k/\i0<=k)/\a.s.Aa.Al=A8 f i0
theorem Gd.sri {a:Vw} (h:Gd l S f a):SrI S f a.s.Aa:=by
 obtain ⟨n,E,hg,ht,hJ,e⟩:=h;subst e;exact hJ.s
theorem Ahi {w:Ax} (h:SrI S f w) (hS:S.length<=8) (ht:w.Al=A8 f i0) (hi:i0<=S.length) {j:Nat} (h1:i0<=j) (h2:j < S.length):E5 w (A8 f j)=true:=by
 obtain ⟨i,e1,e2, -⟩:=h.h;have:i=i0:=Oy f EM EM (e2.symm.trans ht);unfold E5;rw [ht,Pm f EM EM h1];exact au EM
theorem Aed {r:Ay} {es:ah} (hg:Eu r) (h:RcI S f r es) {q:Aw} (hq:q∈r.Aj):∃j:Nat,j < S.length/\q.Ab=A8 f j:=by
 cases hs:r.A1
 ·rw [(hg.z hs).2] at hq;cases hq
 ·obtain ⟨k, -,c⟩:=h.w hs;exact c q hq
theorem Att {r:Ay} {k:Nat} (hg:Eu r) (hn:r.Aa.next=A8 f k) (hk:k<=2000) {j:Nat} (hj:j<=8) {q:Aw} (hq:rq r (A8 f j)=some q):k<=j:=by
 obtain ⟨q1,q2⟩:=Es hq;have:=(U6 hg q1).2.1;rw [q2,hn] at this;rcases cw j k with c|c
 ·rw [Ahe f hk EM c] at this;omega
 ·exact c
theorem Dr.P (h:Dr l X S f n E) (hS:S.length<=8) (hc:(vw n).s.Ae < 9999) (hpl:Cpl l S f i0 (vw n)) :
  Pv l X f S.length i0 x c z2 (fun M=>rq ((Nm l (vw n) (l.length - 1)).r M) x) (Nm l (vw n) (l.length - 1)):=by
 have hsr:=h.gd.sri;have hd:∀v,∀p∈(Nm l (vw n) (l.length - 1)).d v,p=Kd (vw n).s.Aa:=fun v p hp=>by
  rw [h.dn v] at hp
  split at hp
  ·exact Nl hp
  ·cases hp
 have hC:∀v,My x ((Nm l (vw n) (l.length - 1)).d v)=0:=fun v=>by
  unfold My;rw [bx,ef];intro p hp;rw [hd v p hp];show ¬(decide ((5:Int)=4) && _)=true;simp
 have hr:∀M,M < l.length->M≠0->Br l ((M:Nat):Int)=true->(Nm l (vw n) (l.length - 1)).r M=Bj ((vw n).r M) (Ij M):=fun M h1 h2 h3=>by
  show (if (M≠0/\M<=l.length - 1)/\_ then _ else _)=_;rw [ar ⟨⟨h2,EM⟩,h3⟩]
 refine ⟨fun u _ _ ho=>(by cases ho),fun w _ _ hw=>(by rw [hC] at hw;cases hw),fun v _ _ ho=>(by cases ho),fun M _ _ _ q hq=>⟨q,hq,rfl,.inl rfl⟩,fun M h1 h2 h3=>?_,fun v p hp=>?_,?_⟩
 ·obtain ⟨k,hk,hki⟩:=hpl.1 M h1 h2 h3;obtain ⟨g1,g2⟩:=h.gd.rc h1 h2 h3;obtain ⟨d0,d1⟩:=Lp M;obtain ⟨es,hrc⟩:=h.gd.rci h1;obtain ⟨k',hw,hq⟩:=hrc.w hk.s;have hk':k'=k:=Oy f (by have:=hw.le;omega) (by have:=hk.l;omega) (hw.n.symm.trans hk.n);subst hk';obtain ⟨k2,hk2,hle⟩:=Aug (d:=Ij M) g1 (by rw [g2];omega) d0 d1 hk hS hw.s hq;rw [hr M h1 h2 h3];exact ⟨k2,hk2,EM⟩
 ·rw [hd v p hp];exact ⟨.inr (.inr rfl),fun _=>⟨hsr.Cy,hpl.2⟩⟩
 ·exact ⟨hsr.Cy,hpl.2⟩
theorem Aw8 {n:Du} {E:ah} (hJ:Ug S f n E) (hg:At n=true) (hc:n.Ac.Ae < 9999) (hS:S.length<=8):Ug S f (Bv n).1 (E++(Bv n).2) :=
 Aer hJ hg hc EM _ (by have:=(Ev (Av.1 hg).t).n0;omega)
def Oa (n:Du):Du:=(Jk (Bv n).1).1
theorem Dr.tick (h:Dr l X S f n E) (hc:(vw n).s.Ae < 9999) (hS:S.length<=8):At (Bv n).1=true/\(Bv n).1.Ao.Ad=l/\Ug S f (Bv n).1 (E++(Bv n).2)/\vw (Bv n).1=Nm l (vw n) (l.length - 1):=by
 have hl:=h.t;have h2:=(Ev (Av.1 h.g).t).n0;refine ⟨P5 h.g hc,?_,Aw8 h.j h.g hc hS,?_⟩
 ·show (A4 n _).1.Ao.Ad=l;rw [Qv,hl]
 ·have:=Acs h.g (n.Ao.Ad.length - 1) EM;rw [hl] at this;show vw (A4 n (n.Ao.Ad.length - 1)).1=_;rw [hl];exact this
theorem Wq (hg:At n=true) (hc:n.Ac.Ae < 9999):(vw (Oa n)).s.Aa=(vw n).s.Aa/\(vw (Oa n)).s.Ae=(vw n).s.Ae+1:=by
 have h1:=P5 hg hc;have hf:=(Qo (x:=((Bv n).1,[])) h1).1;have hs:(Bv n).1.Ac=Lg n.Ac:=Uc n _;refine ⟨?_,?_⟩
 ·have hk:((vw (Oa n)).s.Aa=(vw n).s.Aa):=by
   refine Ars (P:=fun y=>y.1.Ac.Aa=n.Ac.Aa) (fun x y s hx hgx hs2 hk e=>?_) (x:=((Bv n).1,[])) h1 (by rw [hs];rfl);show y.1.Ac.Aa=_;rw [<-hx];unfold Bm at e
   split at e
   ·rename_i h1;exact absurd h1 hk
   ·split at e
    ·split at e
     ·cases e
     ·cases e;show (A4 _ _).1.Ac.Aa=_;rw [Uc];rfl
    ·unfold C4 at e
     split at e
     ·cases e
     ·split at e
      ·cases e
      ·have hpop:(Do x.1 s).Ac=x.1.Ac:=HB
       split at e
       ·cases e;unfold C1
        split
        ·show (Do x.1 s).Ac.Aa=_;rw [hpop]
        ·show (Do x.1 s).Ac.Aa=_;rw [hpop]
       ·split at e
        ·cases e;unfold Ou
         split
         ·show (Hb (Do x.1 s).Ac _).Aa=_;rw [Sh,hpop]
         ·show (Do x.1 s).Ac.Aa=_;rw [hpop]
        ·cases e;show (Do x.1 s).Ac.Aa=_;rw [hpop]
  exact hk
 ·show (Oa n).Ac.Ae=_;have:(Oa n).Ac.Ae=(Bv n).1.Ac.Ae:=hf.c;rw [this,hs];rfl
theorem Ahx (ht:Tx l X) (h:Dr l X S f n E) (hS:S.length<=8) (hc:(vw n).s.Ae < 9999) (hi0:i0<=S.length) (hp:Cpl l S f i0 (vw n)) :
  (∃E2,Dr l X S f (Oa n) E2)/\Cpl l S f i0 (vw (Oa n))/\∀j:Nat,i0<=j->j < S.length ->
   ∃U,Rk l (A8 f j) ((vw n).s.Ae+1) (Snd l (A8 f j) ((vw n).s.Ae+1) (vw n)) (Onx l (A8 f j) (vw n)) U (vw (Oa n)) /\
    Rp l f S.length i0 (A8 f j) ((vw n).s.Ae+1) U (fun M=>rq ((Nm l (vw n) (l.length - 1)).r M) (A8 f j)) (vw (Oa n)):=by
 obtain ⟨t1,t2,t3,t4⟩:=h.tick hc hS;have hsr:=h.gd.sri
 have main:∀j:Nat,i0<=j->j < S.length->(∃U,Rk l (A8 f j) ((vw n).s.Ae+1) (Snd l (A8 f j) ((vw n).s.Ae+1) (vw n)) (Onx l (A8 f j) (vw n)) U (vw (Oa n)) /\
    Rp l f S.length i0 (A8 f j) ((vw n).s.Ae+1) U (fun M=>rq ((Nm l (vw n) (l.length - 1)).r M) (A8 f j)) (vw (Oa n))):=fun j h1 h2=>by
  refine Avn ht hS h2 rfl t1 t2 t3 (by rw [t4];exact h.J ht) (mk:=fun _=>False) (by rw [t4];exact h.K ht hc (Ahi hsr hS hp.2 hi0 h1 h2)) (by rw [t4];exact h.P hS hc hp)
 obtain ⟨⟨g1,g2,E2,g3⟩,hq,hx,hcm,htr⟩:=Avl (i0:=i0) (q0:=fun M=>rq ((Nm l (vw n) (l.length - 1)).r M) (-1)) ht hS t1 t2 t3 (by rw [t4];exact h.J ht) (c:=(vw n).s.Ae+1) (by rw [t4];rfl) (by rw [t4];exact h.P hS hc hp);have hgd2:Gd l S f (vw (Oa n)):=⟨Oa n,E2,g1,g2,g3,rfl⟩;refine ⟨⟨E2,⟨g1,g2,g3,hq,fun v hv h0 hl q hq'=>?_,hx⟩⟩,⟨hcm,htr⟩,main⟩;obtain ⟨gg1,gg2⟩:=hgd2.rc hv h0 hl;obtain ⟨es,hrc⟩:=hgd2.rci hv;obtain ⟨j,hj,ej⟩:=Aed gg1 hrc hq';have hrq:=Mh gg1 hq';rw [ej] at hrq;obtain ⟨k,hk,hki⟩:=hcm v hv h0 hl;have hkj:=Att gg1 hk.n (by have:=hk.l;omega) EM hrq
 obtain ⟨U, -,hR⟩:=main j EM hj;obtain ⟨q1,e1, -, -⟩:=hR.o v hv h0 hl q hrq;obtain ⟨d0,d1⟩:=Lp v;obtain ⟨o1,o2⟩:=h.gd.rc hv h0 hl;have e2:(Nm l (vw n) (l.length - 1)).r v=Bj ((vw n).r v) (Ij v):=by
  show (if (v≠0/\v<=l.length - 1)/\_ then _ else _)=_;rw [ar ⟨⟨h0,EM⟩,hl⟩]
 rw [e2] at e1;obtain ⟨q2,e3, -⟩:=Ah7 o1 (by rw [o2];omega) d0 d1 e1;obtain ⟨m1,m2⟩:=Es e3;rw [ej,<-m2];exact h.r v hv h0 hl q2 m1
end
end Go.Proofs.YtmckdnddocfodaaGreatDoor.Se
namespace Go.Proofs.YtmckdnddocfodaaGreatDoor.Se

abbrev Tr:=Nat->Nat->Option (Nat × Nat)
def Q5 (i:Nat):Nat:=1+i % 3
structure Su (f:Tr) (el:Nat->Bool) (g:Nat->Nat) (hm:Nat->Bool) (dg:Nat->Bool) (a:Nat):Prop where
 lo:∀t i x r,a<=t->f t i=some (x,r)->t+1<=x/\x<=t+4+Q5 i/\(r=0->x<=t+4)
 no:∀t i,a<=t->f t i=none->f (t+1) i=none
 on:∀t i x r x' r',a<=t->f t i=some (x,r)->f (t+1) i=some (x',r')->(x=t+1/\r=r'+1)\/(x≠t+1/\r'=r)
 re:∀t i x r x' r',a<=t->f t i=some (x,r)->f (t+1) i=some (x',r')->x'=x\/t+5<=x'/\(0 < r'->t+5+Q5 i<=x')
 Mw:∀t i r x' r',a<=t->f t i=some (t+1,r)->f (t+1) i=some (x',r')->t+5<=x'/\(0 < r'->t+5+Q5 i<=x')
 st:∀t i r,a<=t->f t i=some (t+1,r)->0 < r->(el i=false\/2<=Q5 i)->hm (t+1)=true\/hm t=true\/hm (t - 1)=true
 fu:∀t i r j x' r',a<=t->f t i=some (t+1,r)->0 < r->el i=true->2<=Q5 i->g j=g i->el j=true->f (t+1) j=some (x',r')->t+5<=x'/\(0 < r'->t+5+Q5 j<=x')
 an:∀t,a<=t->hm (t+1)=true->∃i r,f t i=some (t+1,r)/\0 < r/\f (t+1) i=none
 ot:∀t i x r x' r',a<=t->f t i=some (x,r)->f (t+1) i=some (x',r')->x≠t+1->x'≠x->el i=true/\(∃j s,j≠i/\f t j=some (t+1,s)/\0 < s/\el j=true/\g j=g i)/\((hm (t+1)=true\/hm t=true\/hm (t - 1)=true)\/∃j s,f t j=some (t+1,s)/\0 < s/\dg j=true)
 lt:∀t i,a<=t->8<=i->f t i=none
 z:∀t,a<=t->f t 0=none
section
variable {f:Tr} {el:Nat->Bool} {g:Nat->Nat} {hm:Nat->Bool} {dg:Nat->Bool} {pr:Bool} {a:Nat}
theorem Su.gone (h:Su f el g hm dg a) {t i:Nat} (ha:a<=t) (e:f t i=none):∀k,f (t+k) i=none
 | 0=>e
 | k+1=>h.no (t+k) i EM (h.gone ha e k)
theorem Su.gone' (h:Su f el g hm dg a) {t u i:Nat} (ha:a<=t) (e:f t i=none) (hu:t<=u):f u i=none:=by
 have:=h.gone ha e (u - t)
 rwa [show t+(u - t)=u by omega] at this
theorem Ry (i:Nat):1<=Q5 i/\Q5 i<=3:=by unfold Q5;omega
theorem Su.root (h:Su f el g hm dg a) {i:Nat} (he:el i=false):∀(n t x r:Nat),a<=t->f t i=some (x,r)->x+7 * r<=t+n->f (t+n) i=none
 | 0,t,x,r,ha,e,hn=>by have:=h.lo t i x r ha e;omega
 | n+1,t,x,r,ha,e,hn=>by
  cases e2:f (t+1) i with
  | none=>exact h.gone' EM e2 EM
  | some y =>
   obtain ⟨x',r'⟩:=y;have l2:=h.lo (t+1) i x' r' EM e2;have c3:=Ry i;have:=h.root he n (t+1) x' r' EM e2 (by
    rcases h.on t i x r x' r' ha e e2 with ⟨p,q⟩|⟨p,q⟩
    ·omega
    ·by_cases hx:x'=x
     ·subst hx;subst q;omega
     ·have:=(h.ot t i x r x' r' ha e e2 p hx).1;rw [he] at this;cases this)
   rwa [show t+1+n=t+(n+1) by omega] at this
def Evt (f:Tr) (i r u:Nat):Prop:=f u i=none\/∃x' r',f u i=some (x',r')/\r=r'+1
theorem Su.run (h:Su f el g hm dg a) {i:Nat}:∀(n t x r:Nat),a<=t->f t i=some (x,r)->x=t+n ->
  (∃u,t < u/\u<=x/\Evt f i r u)\/∃u j s x2,t<=u/\u+1 < x/\j≠i/\f u j=some (u+1,s)/\0 < s/\el j=true/\g j=g i/\el i=true/\f (u+1) i=some (x2,r)
 | 0,t,x,r,ha,e,hn=>by have:=h.lo t i x r ha e;omega
 | n+1,t,x,r,ha,e,hn=>by
  cases e2:f (t+1) i with
  | none=>exact .inl ⟨t+1,EM,by have:=h.lo t i x r ha e;omega,.inl e2⟩
  | some y =>
   obtain ⟨x2,r2⟩:=y;rcases h.on t i x r x2 r2 ha e e2 with ⟨p,q⟩|⟨p,q⟩
   ·exact .inl ⟨t+1,EM,EM,.inr ⟨x2,r2,e2,q⟩⟩
   ·subst q;by_cases hx:x2=x
    ·subst hx;rcases h.run n (t+1) x2 r2 EM e2 EM with ⟨u,h1,h2,h3⟩|⟨u,j,s,x3,h1,h2⟩
     ·exact .inl ⟨u,EM,h2,h3⟩
     ·exact .inr ⟨u,j,s,x3,EM,h2⟩
    ·obtain ⟨b1,⟨j,s,a1,a2,a3,a4,a5⟩, -⟩:=h.ot t i x r2 x2 r2 ha e e2 p hx;exact .inr ⟨t,j,s,x2,aA _,by have:=h.lo t i x r2 ha e;omega,a1,a2,a3,a4,a5,b1,e2⟩
theorem Su.late (h:Su f el g hm dg a) {j:Nat} {u b:Nat} (ha:a<=u) (hb:b<=u+5) (hu:∀y s,f u j=some (y,s)->0 < s->b<=y):∀(k:Nat) y s,f (u+k) j=some (y,s)->0 < s->b<=y
 | 0,y,s,e,hs=>hu y s e hs
 | k+1,y,s,e,hs=>by
  cases e0:f (u+k) j with
  | none=>have:=h.no (u+k) j EM e0;rw [show u+(k+1)=u+k+1 by omega,this] at e;cases e
  | some z =>
   obtain ⟨y0,s0⟩:=z;have e':f (u+k+1) j=some (y,s):=e;rcases h.re (u+k) j y0 s0 y s EM e0 e' with q|⟨-,q⟩
   ·subst q;refine h.late ha hb hu k y s0 e0 ?_;rcases h.on (u+k) j y s0 y s EM e0 e' with ⟨-,q⟩|⟨-,q⟩ <;> omega
   ·have:=q hs;omega
theorem Su.late' (h:Su f el g hm dg a) {j:Nat} {u b v:Nat} (ha:a<=u) (hb:b<=u+5) (hu:∀y s,f u j=some (y,s)->0 < s->b<=y) (hv:u<=v):∀y s,f v j=some (y,s)->0 < s->b<=y:=by
 have:=h.late ha hb hu (v - u)
 rwa [show u+(v - u)=v by omega] at this
theorem Su.clean (h:Su f el g hm dg a) {i:Nat} (hc:Q5 i=1) {u j s x2 r:Nat} (ha:a<=u) (hs:f u j=some (u+1,s)) (h0:0 < s) (hj:el j=true) (hg:g j=g i) (h2:2<=Q5 j) (e:f (u+1) i=some (x2,r)) :
  ∃v,u+1 < v/\v<=u+6/\Evt f i r v:=by
 have l2:=h.lo (u+1) i x2 r EM e;rcases h.run (x2 - (u+1)) (u+1) x2 r EM e EM with ⟨v,h1,h3,h4⟩|⟨v,k,s',x3,h1,h3,h4,h5,h6,h7,h8,h9, -⟩
 ·exact ⟨v,h1,EM,h4⟩
 ·have:=h.late' (j:=k) (u:=u+1) (b:=u+6) EM EM (fun y r' ey hr=>by
   have:=(h.fu u j s k y r' ha hs h0 hj h2 EM h7 ey).2 hr;have:=Ry k;omega) h1 _ _ h5 h6
  omega
theorem Aza {i j k:Nat} (hi:Q5 i=1) (hj:Q5 j=1) (hk:Q5 k=1) (i8:i < 8) (j8:j < 8) (k8:k < 8) (i0:i≠0) (j0:j≠0) (k0:k≠0) (h1:j≠i) (h2:k≠i):j=k:=by
 unfold Q5 at *;omega
theorem Su.in8 (h:Su f el g hm dg a) {t i:Nat} {z:Nat × Nat} (ha:a<=t) (e:f t i=some z):i < 8/\i≠0:=by
 refine ⟨Nat.lt_of_not_le fun h8=>?_,fun h0=>?_⟩
 ·rw [h.lt t i ha h8] at e;cases e
 ·subst h0;rw [h.z t ha] at e;cases e
theorem Su.soon (h:Su f el g hm dg a) {i:Nat} (hc:Q5 i=1) {t x r:Nat} (ha:a<=t) (e:f t i=some (x,r)):∃v,t < v/\v<=t+13/\(r=0->v<=t+12)/\Evt f i r v:=by
 have l1:=h.lo t i x r ha e;rcases h.run (x - t) t x r ha e EM with ⟨u,h1,h3,h4⟩|⟨u,j,s,x2,h1,h3,h4,h5,h6,h7,h8,h9,h10⟩
 ·exact ⟨u,h1,EM,EM,h4⟩
 ·by_cases h2:2<=Q5 j
  ·obtain ⟨v,a1,a2,a3⟩:=h.clean hc EM h5 h6 h7 h8 h2 h10;exact ⟨v,EM,EM,EM,a3⟩
  ·have hj:=Ry j;have l2:=h.lo (u+1) i x2 r EM h10;rcases h.run (x2 - (u+1)) (u+1) x2 r EM h10 EM with ⟨v,b1,b3,b4⟩|⟨v,k,s',x3,b1,b3,b4,b5,b6,b7,b8,b9,b10⟩
   ·exact ⟨v,EM,EM,EM,b4⟩
   ·by_cases h2k:2<=Q5 k
    ·obtain ⟨v2,a1,a2,a3⟩:=h.clean hc EM b5 b6 b7 b8 h2k b10;exact ⟨v2,EM,EM,EM,a3⟩
    ·have hk:=Ry k;have i8:=h.in8 ha e;have j8:=h.in8 EM h5;have k8:=h.in8 EM b5;have:=Aza hc (show Q5 j=1 by omega) (show Q5 k=1 by omega) i8.1 j8.1 k8.1 i8.2 j8.2 k8.2 h4 b4;subst this;have:=h.late' (j:=j) (u:=u+1) (b:=u+6) EM EM (fun y r' ey hr=>by
      have:=(h.Mw u j s y r' EM h5 ey).2 hr;omega) b1 _ _ b5 b6
     omega
theorem Su.one (h:Su f el g hm dg a) {i:Nat} (hc:Q5 i=1):∀(r t x:Nat),a<=t->f t i=some (x,r)->∀u,t+13 * r+12<=u->f u i=none
 | 0,t,x,ha,e,u,hu=>by
  obtain ⟨v,a1,a2,a0,a3|⟨x',r',a3,a4⟩⟩:=h.soon hc ha e
  ·have:=a0 rfl;exact h.gone' EM a3 EM
  ·omega
 | r+1,t,x,ha,e,u,hu=>by
  obtain ⟨v,a1,a2, -,a3|⟨x',r',a3,a4⟩⟩:=h.soon hc ha e
  ·exact h.gone' EM a3 EM
  ·obtain rfl:r'=r:=EM
   exact h.one hc r' v x' EM a3 u EM
def ww (r:Nat):Nat:=if r=0 then 0 else 3+6 * r
def Ov (el dg:Nat->Bool) (i:Nat):Bool:=el i && decide (Q5 i=1) && dg i
def wt (el dg:Nat->Bool) (i:Nat) (o:Option (Nat × Nat)):Nat:=match o with
 | none=>0
 | some z=>if Ov el dg i then ww z.2 else 9
def Iph (f:Tr) (t:Nat):Prop:=∀x r y s,f t 3=some (x,r)->f t 6=some (y,s)->0 < r->0 < s->x=y
def pw (pr:Bool) (p q:Nat):Nat:=if pr=true then max p q+min 9 (min p q) else p+q
theorem Ax8 {pr:Bool} {p q p' q':Nat} (h1:p'<=p) (h2:q'<=q):pw pr p' q'<=pw pr p q:=by
 unfold pw;split <;> omega
theorem Bca {pr:Bool} {p q q':Nat} (h1:9<=p) (h2:q'<=q):pw pr 0 q'+9<=pw pr p q:=by
 unfold pw;split <;> omega
theorem Bcb {pr:Bool} {p q p':Nat} (h1:9<=q) (h2:p'<=p):pw pr p' 0+9<=pw pr p q:=by
 unfold pw;split <;> omega
theorem Bb9 {pr:Bool} {p q p' q':Nat} (h0:9<=p) (h1:p'+6<=p) (h2:q'<=q) (h3:pr=true->q<=9\/q'+6<=q):pw pr p' q'+6<=pw pr p q:=by
 unfold pw;split
 ·rcases h3 ‹_› with h|h <;> omega
 ·omega
theorem Bba {pr:Bool} {p q p' q':Nat} (h0:9<=q) (h1:q'+6<=q) (h2:p'<=p) (h3:pr=true->p<=9\/p'+6<=p):pw pr p' q'+6<=pw pr p q:=by
 unfold pw;split
 ·rcases h3 ‹_› with h|h <;> omega
 ·omega
theorem Bbb {pr:Bool} {p q:Nat}:p<=pw pr p q/\q<=pw pr p q:=by
 unfold pw;split <;> omega
def wsm (pr:Bool) (el dg:Nat->Bool) (f:Tr) (t:Nat):Nat:=wt el dg 1 (f t 1)+wt el dg 2 (f t 2)+wt el dg 4 (f t 4)+wt el dg 5 (f t 5)+wt el dg 7 (f t 7)+pw pr (wt el dg 3 (f t 3)) (wt el dg 6 (f t 6))
def Tf (el:Nat->Bool) (i:Nat):Prop:=el i=false\/2<=Q5 i
theorem Axf {i:Nat} (h:Tf el i):Ov el dg i=false:=by
 unfold Ov;rcases h with h|h
 ·rw [h];rfl
 ·rw [ay EM,bV];rfl
theorem Axg {i:Nat} (h:¬Tf el i) (hd:dg i=true):Ov el dg i=true/\Q5 i=1:=by
 have c:=Ry i;have h1:¬2<=Q5 i:=fun q=>h (.inr q);have h2:el i=true:=by
  cases e:el i
  ·exact absurd (.inl e) h
  ·rfl
 unfold Ov;rw [h2,au EM,hd];exact ⟨rfl,EM⟩
theorem An2 {r r':Nat} (h:r'<=r):ww r'<=ww r:=by unfold ww;split <;> (try split) <;> omega
theorem Amj {r:Nat} (h:0 < r):9<=ww r:=by unfold ww;rw [aq EM];omega
theorem Axj {r:Nat}:ww r+6<=ww (r+1):=by
 have h:ww (r+1)=3+6 * (r+1):=by unfold ww;rw [aq EM]
 rw [h];unfold ww;split <;> omega
theorem Agv {i:Nat} {z:Nat × Nat} (h:Tf el i):wt el dg i (some z)=9:=by
 show (if Ov el dg i then _ else _)=_;rw [Axf h];rfl
theorem Zu {i:Nat} {x r:Nat} (h:Ov el dg i=true):wt el dg i (some (x,r))=ww r:=by
 show (if Ov el dg i then _ else _)=_;rw [h];rfl
theorem Su.wt_le (h:Su f el g hm dg a) {t:Nat} (ha:a<=t) (i:Nat):wt el dg i (f (t+1) i)<=wt el dg i (f t i):=by
 cases e:f t i with
 | none=>rw [h.no t i ha e];exact aA _
 | some z =>
  cases e2:f (t+1) i with
  | none=>exact aD _
  | some z2 =>
   obtain ⟨x,r⟩:=z;obtain ⟨x',r'⟩:=z2;have hr:r'<=r:=by rcases h.on t i x r x' r' ha e e2 with ⟨-,q⟩|⟨-,q⟩ <;> omega
   cases hk:Ov el dg i
   ·show (if Ov el dg i then _ else _)<=if Ov el dg i then _ else _
    rw [hk];exact aA _
   ·rw [Zu hk,Zu hk];exact An2 hr
theorem Su.wsm_le (h:Su f el g hm dg a) {t:Nat} (ha:a<=t):wsm pr el dg f (t+1)<=wsm pr el dg f t:=by
 have:=fun i=>h.wt_le ha i;have h1:=this 1;have h2:=this 2;have h4:=this 4;have h5:=this 5;have h7:=this 7;have h3:=Ax8 (pr:=pr) (this 3) (this 6);unfold wsm;omega
theorem Su.wsm_gone (h:Su f el g hm dg a) {t i:Nat} (ha:a<=t) (i8:i < 8) (i0:i≠0) (e:f (t+1) i=none) (hd:9<=wt el dg i (f t i)):wsm pr el dg f (t+1)+9<=wsm pr el dg f t:=by
 have:=fun i=>h.wt_le ha i;have h1:=this 1;have h2:=this 2;have h4:=this 4;have h5:=this 5;have h7:=this 7;have h3:=this 3;have h6:=this 6;have h36:=Ax8 (pr:=pr) h3 h6;have w0:wt el dg i (f (t+1) i)=0:=by rw [e];rfl
 unfold wsm;rcases (show i=1\/i=2\/i=3\/i=4\/i=5\/i=6\/i=7 by omega) with e|e|e|e|e|e|e <;> subst e
 ·omega
 ·omega
 ·rw [w0];have:=Bca (pr:=pr) hd h6;omega
 ·omega
 ·omega
 ·rw [w0];have:=Bcb (pr:=pr) hd h3;omega
 ·omega
theorem Su.wt_send (h:Su f el g hm dg a) {t j s:Nat} (ha:a<=t) (hj:Ov el dg j=true) (e:f t j=some (t+1,s)) (h0:0 < s):wt el dg j (f (t+1) j)+6<=wt el dg j (f t j)/\9<=wt el dg j (f t j):=by
 rw [e,Zu hj];refine ⟨?_,Amj h0⟩;cases e3:f (t+1) j with
 | none=>have:=Amj h0;show 0+6<=_;omega
 | some z =>
  obtain ⟨y,s'⟩:=z;have:s=s'+1:=by
   rcases h.on t j (t+1) s y s' ha e e3 with ⟨-,q⟩|⟨q, -⟩
   ·exact q
   ·exact absurd rfl q
  subst this;rw [Zu hj];exact Axj
theorem Aux {i:Nat} {o:Option (Nat × Nat)} (h:¬wt el dg i o<=9):Ov el dg i=true/\∃x r,o=some (x,r)/\0 < r:=by
 cases o with
 | none=>exact absurd (aD _) h
 | some z =>
  have h':¬(if Ov el dg i then ww z.2 else 9)<=9:=h
  split at h'
  ·rename_i hw;refine ⟨hw,z.1,z.2,rfl,?_⟩;cases e:z.2 with
   | zero=>rw [e] at h';exact absurd (aD _) h'
   | succ n=>omega
  ·exact absurd (aA _) h'
theorem Su.wsm_send (h:Su f el g hm dg a) (hp:pr=true->∀t,a<=t->Iph f t) {t j s:Nat} (ha:a<=t) (j8:j < 8) (j0:j≠0) (hj:Ov el dg j=true) (hc:Q5 j=1) (e:f t j=some (t+1,s)) (h0:0 < s):wsm pr el dg f (t+1)+6<=wsm pr el dg f t:=by
 have:=fun i=>h.wt_le ha i;have h1:=this 1;have h2:=this 2;have h4:=this 4;have h5:=this 5;have h7:=this 7;have h3:=this 3;have h6:=this 6;obtain ⟨s1,s2⟩:=h.wt_send ha hj e h0;have j36:j=3\/j=6:=by unfold Q5 at hc;omega
 unfold wsm;rcases j36 with rfl|rfl
 ·have:=Bb9 (pr:=pr) s2 s1 h6 fun hpr=>by
   by_cases k:wt el dg 6 (f t 6)<=9
   ·exact .inl k
   ·obtain ⟨k1,y,r,k2,k3⟩:=Aux k;have:=hp hpr t ha (t+1) s y r e k2 h0 k3;subst this;exact .inr (h.wt_send ha k1 k2 k3).1
  omega
 ·have:=Bba (pr:=pr) s2 s1 h3 fun hpr=>by
   by_cases k:wt el dg 3 (f t 3)<=9
   ·exact .inl k
   ·obtain ⟨k1,y,r,k2,k3⟩:=Aux k;have:=hp hpr t ha y r (t+1) s k2 e k3 h0;subst this;exact .inr (h.wt_send ha k1 k2 k3).1
  omega
def Dl (f:Tr) (el:Nat->Bool) (hm:Nat->Bool) (t D:Nat):Prop :=
 (hm t=true/\D=t+9)\/(hm t=false/\hm (t - 1)=true/\D=t+8)\/(hm t=false/\hm (t - 1)=false/\∃i r,Tf el i/\f t i=some (D,r))
theorem Su.dl_lo (h:Su f el g hm dg a) {t D:Nat} (ha:a<=t) (hD:Dl f el hm t D):t+1<=D:=by
 rcases hD with ⟨-,q⟩|⟨-, -,q⟩|⟨-, -,i,r, -,e⟩
 ·omega
 ·omega
 ·exact (h.lo t i D r ha e).1
theorem Su.dl_step (h:Su f el g hm dg a) (hp:pr=true->∀t,a<=t->Iph f t) {t D:Nat} (ha:a<=t) (hD:Dl f el hm t D) (hs:∃i z,Tf el i/\f (t+1) i=some z):∃D',Dl f el hm (t+1) D'/\wsm pr el dg f (t+1)+D'<=wsm pr el dg f t+D:=by
 have hw:=h.wsm_le (pr:=pr) (t:=t) EM;have hl:=h.dl_lo EM hD;obtain ⟨i0,⟨x0,r0⟩,hs0,e0⟩:=hs;have l0:=h.lo (t+1) i0 x0 r0 EM e0;have c0:=Ry i0;cases hm1:hm (t+1)
 ·rcases hD with ⟨p,q⟩|⟨p,p2,q⟩|⟨p,p2,i,r,hi,e⟩
  ·exact ⟨t+9,.inr (.inl ⟨hm1,p,rfl⟩),EM⟩
  ·exact ⟨x0,.inr (.inr ⟨hm1,p,i0,r0,hs0,e0⟩),EM⟩
  ·have nost:∀j s,f t j=some (t+1,s)->0 < s->Tf el j->False:=fun j s ej hs' hj=>by
    rcases h.st t j s EM ej hs' hj with q|q|q
    ·rw [hm1] at q;cases q
    ·rw [p] at q;cases q
    ·rw [p2] at q;cases q
   have i8:=h.in8 EM e;cases e2:f (t+1) i with
   | none =>
    have:=h.wsm_gone (pr:=pr) (t:=t) (i:=i) EM i8.1 i8.2 e2 (by rw [e,Agv hi];exact aA _);exact ⟨x0,.inr (.inr ⟨hm1,p,i0,r0,hs0,e0⟩),EM⟩
   | some z =>
    obtain ⟨x',r'⟩:=z;rcases h.on t i D r x' r' EM e e2 with ⟨q1,q2⟩|⟨q1,q2⟩
    ·subst q1;exact (nost i r e EM hi).elim
    ·by_cases hx:x'=D
     ·subst hx;exact ⟨x',.inr (.inr ⟨hm1,p,i,r',hi,e2⟩),EM⟩
     ·obtain ⟨-, -,b2|⟨j,s,c2,c3,c4⟩⟩:=h.ot t i D r x' r' EM e e2 q1 hx
      ·exfalso;rcases b2 with q|q|q
       ·rw [hm1] at q;cases q
       ·rw [p] at q;cases q
       ·rw [p2] at q;cases q
      have hjn:¬Tf el j:=fun hj=>nost j s c2 c3 hj;have j8:=h.in8 EM c2;have hjw:=Axg hjn c4;have:=h.wsm_send hp (t:=t) EM j8.1 j8.2 hjw.1 hjw.2 c2 c3;have l2:=h.lo (t+1) i x' r' EM e2;have:=Ry i;exact ⟨x',.inr (.inr ⟨hm1,p,i,r',hi,e2⟩),EM⟩
 ·obtain ⟨i,r,b1,b2,b3⟩:=h.an t EM hm1;have i8:=h.in8 EM b1;have:=h.wsm_gone (pr:=pr) (t:=t) (i:=i) EM i8.1 i8.2 b3 (by
   rw [b1];show 9<=if Ov el dg i then ww r else 9
   split
   ·exact Amj b2
   ·exact aA _)
  exact ⟨t+10,.inl ⟨hm1,rfl⟩,EM⟩
theorem Su.strong_back (h:Su f el g hm dg a) {t i:Nat} (ha:a<=t):∀(k:Nat),(∃z,f (t+k) i=some z)->∃z,f t i=some z:=fun k ⟨z,e⟩=>by
 cases e0:f t i with
 | none=>rw [h.gone ha e0 k] at e;cases e
 | some z=>exact ⟨z,rfl⟩
theorem Su.dl_on (h:Su f el g hm dg a) (hp:pr=true->∀t,a<=t->Iph f t) {t D:Nat} (ha:a<=t) (hD:Dl f el hm t D):∀(k:Nat),(∃i z,Tf el i/\f (t+k) i=some z)->∃D',Dl f el hm (t+k) D'/\wsm pr el dg f (t+k)+D'<=wsm pr el dg f t+D
 | 0,_=>⟨D,hD,aA _⟩
 | k+1,⟨i,z,hs,e⟩=>by
  obtain ⟨z0,e0⟩:=h.strong_back (t:=t+k) EM 1 ⟨z,e⟩;obtain ⟨D1,d1,d2⟩:=h.dl_on hp ha hD k ⟨i,z0,hs,e0⟩;obtain ⟨D2,d3,d4⟩:=h.dl_step hp (t:=t+k) EM d1 ⟨i,z,hs,e⟩;exact ⟨D2,d3,bi d4 d2⟩
theorem Axh {i:Nat} {z:Nat × Nat} {t:Nat} (hs:Tf el i) (i8:i < 8) (i0:i≠0) (e:f t i=some z):9<=wsm pr el dg f t:=by
 have:=Agv (dg:=dg) (z:=z) hs;rw [<-e] at this;unfold wsm;have:=Bbb (pr:=pr) (p:=wt el dg 3 (f t 3)) (q:=wt el dg 6 (f t 6));rcases (show i=1\/i=2\/i=3\/i=4\/i=5\/i=6\/i=7 by omega) with q|q|q|q|q|q|q <;> subst q <;> omega
theorem Su.strong_gone (h:Su f el g hm dg a) (hp:pr=true->∀t,a<=t->Iph f t) {t i K:Nat} (ha:a<=t) (hs:Tf el i) (hw:wsm pr el dg f t+t+9<=K) {u:Nat} (hu:t<=u) (hK:K<=u+9):f u i=none:=by
 cases e:f u i with
 | none=>rfl
 | some z =>
  exfalso;have e':f (t+(u - t)) i=some z:=by rw [show t+(u - t)=u by omega];exact e
  obtain ⟨⟨x0,r0⟩,e0⟩:=h.strong_back (t:=t) EM (u - t) ⟨z,e'⟩;have l0:=h.lo t i x0 r0 EM e0;have c0:=Ry i;obtain ⟨D,hD,hl⟩:∃D,Dl f el hm t D/\D<=t+9:=by
   cases h1:hm t
   ·cases h2:hm (t - 1)
    ·exact ⟨x0,.inr (.inr ⟨h1,h2,i,r0,hs,e0⟩),EM⟩
    ·exact ⟨t+8,.inr (.inl ⟨h1,h2,rfl⟩),EM⟩
   ·exact ⟨t+9,.inl ⟨h1,rfl⟩,EM⟩
  obtain ⟨D2,d3,d4⟩:=h.dl_on hp ha hD (u - t) ⟨i,z,hs,e'⟩;have:=h.dl_lo EM d3;have i8:=h.in8 EM e;have:=Axh (pr:=pr) (dg:=dg) hs i8.1 i8.2 e';omega
theorem Su.sixty (h:Su f el g hm dg a) (hp:pr=true->∀t,a<=t->Iph f t) (ha:a<=9) (hw:(∃i z,el i=true/\f 9 i=some z)->wsm pr el dg f 9<=51) (h3:∀i x r,f 9 i=some (x,r)->r<=3):∀i,f 60 i=none:=fun i=>by
 cases e:f 9 i with
 | none=>exact h.gone' ha e EM
 | some z =>
  obtain ⟨x,r⟩:=z;have l:=h.lo 9 i x r ha e;have c:=Ry i;have r3:=h3 i x r e;cases he:el i
  ·exact h.root he 51 9 x r ha e EM
  ·have hw2:=hw ⟨i,_,he,e⟩;by_cases h2:2<=Q5 i
   ·exact h.strong_gone hp (t:=9) ha (.inr h2) (K:=69) EM EM EM
   ·exact h.one EM r 9 x ha e 60 EM
end
end Go.Proofs.YtmckdnddocfodaaGreatDoor.Se
namespace Go.Proofs.YtmckdnddocfodaaGreatDoor.Se
open Go.RowKit
def Fj (l:al) (i:Nat):Prop:=i < l.length/\i≠0/\Br l ((i:Nat):Int)=true
instance (l:al) (i:Nat):Decidable (Fj l i):=by unfold Fj;infer_instance
def un (i:Nat) (q:Aw):Int:=if q.Ch=3 then q.Bl else if q.Dh=1 then q.Bl else q.Bl+Ij i
def Ri (l:al) (a:Vw):Prop:=∀i,Fj l i->∀q∈(a.r i).Aj,a.s.Ae < q.Bl/\(q.Dh=1->q.Bl<=a.s.Ae+Ij i)/\(q.Dh≠1->q.Bl<=a.s.Ae+4)
theorem Qb (i:Nat):Ij i=((Q5 i:Nat):Int):=by unfold Ij Q5;omega
section
variable {l:al} {X:Nat->al} {S:ah} {f:Int} {n:Du} {E:ah} {i0:Nat}
theorem Pe {a:Vw} {i:Nat} (hi:Fj l i):(Nm l a (l.length - 1)).r i=Bj (a.r i) (Ij i):=by
 show (if (i≠0/\i<=l.length - 1)/\_ then _ else _)=_;rw [ar ⟨⟨hi.2.1,by have:=hi.1;omega⟩,hi.2.2⟩]
theorem Aev {r:Ay} (hg:Eu r) {x:Int} {q:Aw} (h:rq r x=some q):0<=q.Ch/\q.Ch<=3:=by
 obtain ⟨-, -,h3, -⟩:=Dv.1 hg.q;have:=Ep.1 (h3 q (Es h).1);exact ⟨this.t0,this.t1⟩
theorem Ua {x c:Int} {On:Nat->Int->Prop} {U:Nat->Prop} {m:Nat} (hd:Dr l X S f n E) (hc:c=(vw n).s.Ae+1) (hk:(vw n).s.Ae < 9999) (hri:Ri l (vw n))
  (h1:Rk l x c (Snd l x c (vw n)) On U (vw (Oa n))) (h2:Rp l f m i0 x c U (fun M=>rq ((Nm l (vw n) (l.length - 1)).r M) x) (vw (Oa n))) {i:Nat} (hi:Fj l i) {q':Aw} (hq':rq ((vw (Oa n)).r i) x=some q') :
  ∃q,rq ((vw n).r i) x=some q /\
   ((q.Ch≠3/\un i q=c/\Snd l x c (vw n) i/\q'.Ch=q.Ch+1/\q'.Dh=3/\q'.Bl=c+4) \/
    (un i q≠c/\c < un i q/\q'.Ch=q.Ch/\(un i q'=un i q\/(q'.Dh=3/\q'.Bl=c+4/\∃u,u < l.length/\u≠0/\Tk l u i/\U u)))) /\
   (c < q'.Bl/\(q'.Dh=1->q'.Bl<=c+Ij i)/\(q'.Dh≠1->q'.Bl<=c+4)):=by
 obtain ⟨g1,g2⟩:=hd.gd.rc hi.1 hi.2.1 hi.2.2;obtain ⟨d0,d1⟩:=Lp i;obtain ⟨q1,e1,e2,e3⟩:=h2.o i hi.1 hi.2.1 hi.2.2 q' hq';rw [Pe hi] at e1;obtain ⟨q,hq,ht⟩:=Ah7 g1 (by rw [g2];omega) d0 d1 e1;obtain ⟨r1,r2,r3⟩:=hri i hi q (Es hq).1;rw [g2,<-hc] at ht;refine ⟨q,hq,?_⟩;unfold Qh at ht
 split at ht
 ·rename_i hlt;cases ht;have hun:c < un i q1:=by unfold un;split <;> (try split) <;> omega
  rcases e3 with e3|⟨s1,s2,u,u1,u2,u3,u4⟩
  ·subst e3;exact ⟨.inr ⟨EM,hun,rfl,.inl rfl⟩,hlt,fun h=>by have:=r2 h;omega,fun h=>by have:=r3 h;omega⟩
  ·exact ⟨.inr ⟨EM,hun,e2,.inr ⟨s1,s2,u,u1,u2,u3,u4⟩⟩,EM,fun h=>(by rw [s1] at h;cases h),fun _=>by omega⟩
 ·rename_i hle;have hu:q.Bl=c:=EM
  split at ht
  ·cases ht
  ·rename_i h3
   split at ht
   ·rename_i hs;cases ht;have hS:Snd l x c (vw n) i:=by
     refine ⟨hi,q,hq,?_⟩;unfold Nq;rw [aq hle,aq h3,ar hs,(Es hq).2]
    obtain ⟨s1,s2⟩:=h2.r i hi.1 hi.2.1 (h1.s i hS) i hi.1 hi.2.2 (.nil i) q' hq';refine ⟨.inl ⟨h3,?_,hS,e2,s1,s2⟩,EM,fun h=>(by rw [s1] at h;cases h),fun _=>by omega⟩;unfold un;rw [aq h3,ar hs];exact hu
   ·rename_i hs;cases ht;have hun:un i q=c+Ij i:=by unfold un;rw [aq h3,aq hs,hu]
    rcases e3 with e3|⟨s1,s2,u,u1,u2,u3,u4⟩
    ·subst e3;refine ⟨.inr ⟨EM,EM,rfl,.inl ?_⟩,by show c < c+Ij i;omega,fun _=>cQ _,fun h=>absurd rfl h⟩;rw [hun];unfold un;rw [aq h3,ar rfl]
    ·exact ⟨.inr ⟨EM,EM,e2,.inr ⟨s1,s2,u,u1,u2,u3,u4⟩⟩,EM,fun h=>(by rw [s1] at h;cases h),fun _=>by omega⟩
def Io (l:al) (x B:Int) (a:Vw):Prop:=∀V,V < l.length->V≠0->Br l ((V:Nat):Int)=false->∀y,en (a.e V) x=some y->B<=y.Bl->∀i,Fj l i->Tk l V i->∀q,rq (a.r i) x=some q->q.Ch≠3->y.Bl - 2+Ij i<=un i q
theorem Avz {x c B:Int} {U:Nat->Prop} {m:Nat} (hd:Dr l X S f n E) (hc:c=(vw n).s.Ae+1) (hk:(vw n).s.Ae < 9999) (hri:Ri l (vw n))
  (h1:Rk l x c (Snd l x c (vw n)) (Onx l x (vw n)) U (vw (Oa n))) (h2:Rp l f m i0 x c U (fun M=>rq ((Nm l (vw n) (l.length - 1)).r M) x) (vw (Oa n))) (hd2:Gd l S f (vw (Oa n))) (hio:Io l x B (vw n)):Io l x B (vw (Oa n)):=fun V hV V0 hl y hy hB i hi hu q' hq' h3=>by
 obtain ⟨q,hq,hst, -⟩:=Ua hd hc hk hri h1 h2 hi hq';obtain ⟨d0,d1⟩:=Lp i;have hres:q'.Dh=3->q'.Bl=c+4->un i q'=c+4+Ij i:=fun a b=>by unfold un;rw [aq h3,aq (by rw [a];decide),b]
 rcases h1.e V hV V0 hl y hy with ⟨⟨y0,hy0,hyu⟩,hle⟩|hU
 ·-- an old entry
  have hold:∃y1,en ((vw n).e V) x=some y1/\y1.Bl=y.Bl:=by
   have hge:=hd.gd.el hV V0 hl;have e1:(Nm l (vw n) (l.length - 1)).e V=Cn ((vw n).e V):=by
    exact CU
   rw [e1,Acb hge.1] at hy0;cases hc2:en ((vw n).e V) x with
   | none=>rw [hc2] at hy0;cases hy0
   | some y1 =>
    rw [hc2] at hy0;have hy3:(if y1.Bl<=((vw n).e V).Ae+1 then none else some y1)=some y0:=hy0
    split at hy3
    ·cases hy3
    ·cases hy3;exact ⟨y0,rfl,hyu⟩
  obtain ⟨y1,hy1,hy2⟩:=hold;rcases hst with ⟨t1,t2, -,t4,t5,t6⟩|⟨t1,t2,t3,t4⟩
  ·rw [hres t5 t6];omega
  ·have h0:=hio V hV V0 hl y1 hy1 EM i hi hu q hq EM;rcases t4 with t4|⟨t5,t6, -⟩
   ·omega
   ·rw [hres t5 t6];omega
 ·obtain ⟨s1,s2⟩:=h2.r V hV V0 hU i hi.1 hi.2.2 hu q' hq';rw [hres s1 s2];have hyc:y.Bl<=c+6:=by
   have hge:=hd2.el hV V0 hl;obtain ⟨-, -,h3, -⟩:=D6.1 hge.1;have:=(Js.1 (h3 y (Qc hy).1)).2.2.2.2;rw [hge.2,(Wq hd.g hk).2] at this;omega
  omega
end
def Alk (l:al):Nat->Nat->Nat
 | 0,v=>v
 | n+1,v=>if Cp l v=0 then v else Alk l n (Cp l v)
def Uh (l:al) (v:Nat):Nat:=Alk l 8 v
section
variable {l:al} {X:Nat->al} {S:ah} {f:Int} {i0:Nat}
theorem Azb (ht:Hf l):Cp l 0=0:=by
 unfold Cp;have h2:=ht.n0;rw [N2 (show 0 < l.length by omega),ht.z EM];rfl
theorem Amu (ht:Tx l X):∀(n v:Nat),v<=n->v < l.length->Alk l n v=Alk l (n+1) v
 | 0,v,h,hv=>by
  obtain rfl:v=0:=EM
  show 0=if Cp l 0=0 then 0 else _
  rw [ar (Azb ht.t)]
 | n+1,v,h,hv=>by
  show (if Cp l v=0 then v else Alk l n (Cp l v))=if Cp l v=0 then v else Alk l (n+1) (Cp l v)
  by_cases c:Cp l v=0
  ·rw [ar c,ar c]
  ·rw [aq c,aq c];have h0:v≠0:=fun d=>c (by rw [d];exact Azb ht.t);have:=ht.plt hv h0;exact Amu ht n (Cp l v) EM EM
theorem Ut (ht:Tx l X) {v:Nat} (hv:v < l.length) (hp:Cp l v≠0):Uh l v=Uh l (Cp l v):=by
 have h0:v≠0:=fun d=>hp (by rw [d];exact Azb ht.t);have h1:=ht.plt hv h0;have h8:=ht.t.n1;unfold Uh;rw [<-Amu ht 7 (Cp l v) EM EM];show (if Cp l v=0 then v else Alk l 7 (Cp l v))=_;rw [aq hp]
theorem Q6 {v:Nat} (hp:Cp l v=0):Uh l v=v:=by
 show (if Cp l v=0 then v else _)=v;rw [ar hp]
theorem Amv (ht:Tx l X) {u v:Nat} (h:Tk l u v) (hu:u≠0):Uh l v=Uh l u:=by
 induction h with
 | nil=>rfl
 | cons a b c _ ih=>rw [ih b,Ut ht a (by rw [c];exact hu),c]
theorem Tk.snoc {u v w:Nat} (h:Tk l u v) (a:w < l.length) (b:w≠0) (c:Cp l w=v):Tk l u w:=h.trans (.cons a b c (.nil w))
theorem S8 (ht:Tx l X):∀(n v:Nat),v < n->v < l.length->v≠0->Tk l (Uh l v) v/\Uh l v≠0/\Cp l (Uh l v)=0/\Uh l v < l.length
 | 0,v,h,_,_=>by omega
 | n+1,v,h,hv,h0=>by
  by_cases c:Cp l v=0
  ·rw [Q6 c];exact ⟨.nil v,h0,c,hv⟩
  ·have h1:=ht.plt hv h0;obtain ⟨a,b,d,e⟩:=S8 ht n (Cp l v) EM EM c;rw [Ut ht hv c];exact ⟨a.snoc hv h0 rfl,b,d,e⟩
theorem Ate {x c:Int} {Sn:Nat->Prop} {On:Nat->Int->Prop} {U:Nat->Prop} {b:Vw} (ht:Tx l X) (h:Rk l x c Sn On U b):∀(n i:Nat),i < n->i < l.length->i≠0->U i->(∀V,V < l.length->V≠0->Br l ((V:Nat):Int)=false->Tk l V i->∀u,¬On V u)->U (Uh l i)/\onB b.s.holds x=true
 | 0,i,hn,_,_,_,_=>by omega
 | n+1,i,hn,hi,h0,hU,hO=>by
  obtain ⟨a,d⟩:=h.p i hi h0 hU;by_cases c:Cp l i=0
  ·rw [Q6 c];exact ⟨hU,a c⟩
  ·have h1:=ht.plt hi h0;have hU2:U (Cp l i):=(d c).resolve_left fun ⟨u,hu⟩=>hO (Cp l i) EM c (Tv ht.t hi h0) (.cons hi h0 rfl (.nil i)) u hu;rw [Ut ht hi c];exact Ate ht h n (Cp l i) EM EM c hU2 fun V v1 v2 v3 v4 u=>hO V v1 v2 v3 (v4.snoc hi h0 rfl) u
theorem Aqn {a:Vw} {i:Nat} {h:Hm} (hm:h∈(Qx l a i).s.holds):h∈a.s.holds\/h.Bl=a.s.Ae+3:=by
 unfold Qx at hm
 split at hm
 ·exact .inl hm
 ·split at hm
  ·rcases Amp hm with hh|⟨-,rfl⟩
   ·exact .inl hh
   ·exact .inr rfl
  ·exact .inl hm
theorem Aai {n:Du} {E:ah} (hd:Dr l X S f n E) (hc:(vw n).s.Ae < 9999) (hS:S.length<=8) {h:Hm} (hm:h∈(vw (Oa n)).s.holds):h∈(vw n).s.holds\/h.Bl=(vw n).s.Ae+1+3:=by
 obtain ⟨t1,t2,t3,t4⟩:=hd.tick hc hS
 have key:=(Ki (l:=l) (S:=S) (f:=f) (P:=fun _ a=>(∀h∈a.s.holds,h∈(vw n).s.holds\/h.Bl=(vw n).s.Ae+1+3)/\a.s.Ae=(vw n).s.Ae+1) EM
  (fun k a hk hG ⟨a1,a2⟩=>by
   refine ⟨fun h hh=>?_,by show (Qx l (Qw l a (k+1)) (k+1)).s.Ae=_;rw [Wt,Rg,a2]⟩;rcases Aqn hh with hh|hh
   ·rw [Rg] at hh;exact a1 h hh
   ·rw [Rg,a2] at hh;exact .inr hh)
  (fun a _ h=>h) t1 t2 t3 (by
   rw [t4];exact ⟨fun h hh=>.inl (by
    have hh2:h∈Qs ((vw n).s.Ae+1) (vw n).s.holds:=hh;exact (aO.1 hh2).1),rfl⟩)).1
 exact key.1 h hm
end
structure Ph (l:al) (X:Nat->al) (S:ah) (f:Int) (i0:Nat) (F:Nat->Du) (c0:Int) (b:Nat):Prop where
 ht:Tx l X
 hS:S.length<=8
 hi:i0<=S.length
 sq:∀t,F (t+1)=Oa (F t)
 c9:c0+60<=9999
 d:∃E,Dr l X S f (F b) E
 p:Cpl l S f i0 (vw (F b))
 k:(vw (F b)).s.Ae=c0+((b:Nat):Int)
 r:Ri l (vw (F b))
 bl:b<=4
section
variable {l:al} {X:Nat->al} {S:ah} {f:Int} {i0:Nat} {F:Nat->Du} {c0:Int} {b:Nat}
theorem Ri.on {n:Du} {E:ah} (ht:Tx l X) (h:Dr l X S f n E) (hS:S.length<=8) (hc:(vw n).s.Ae < 9999) (hi0:i0<=S.length) (hp:Cpl l S f i0 (vw n)) (hr:Ri l (vw n)):Ri l (vw (Oa n)):=fun i hi q hq=>by
 obtain ⟨⟨E2,h2⟩,hp2,main⟩:=Ahx ht h hS hc hi0 hp;obtain ⟨g1,g2⟩:=h2.gd.rc hi.1 hi.2.1 hi.2.2;obtain ⟨es,hrc⟩:=h2.gd.rci hi.1;obtain ⟨j,hj,ej⟩:=Aed g1 hrc hq;have hrq:=Mh g1 hq;rw [ej] at hrq;obtain ⟨k,hk,hki⟩:=hp2.1 i hi.1 hi.2.1 hi.2.2;have hkj:=Att g1 hk.n (by have:=hk.l;omega) EM hrq;obtain ⟨U,r1,r2⟩:=main j EM hj;obtain ⟨-, -, -,r3⟩:=Ua h rfl hc hr r1 r2 hi hrq;rw [(Wq h.g hc).2];exact r3
theorem Ph.at (h:Ph l X S f i0 F c0 b):∀k,b+k<=60->(∃E,Dr l X S f (F (b+k)) E)/\Cpl l S f i0 (vw (F (b+k)))/\(vw (F (b+k))).s.Ae=c0+((b+k:Nat):Int)/\Ri l (vw (F (b+k)))
 | 0,_=>⟨h.d,h.p,h.k,h.r⟩
 | k+1,hk=>by
  obtain ⟨⟨E,a1⟩,a2,a3,a4⟩:=h.at k EM;have h9:=h.c9;have hc:(vw (F (b+k))).s.Ae < 9999:=EM
  have e:=h.sq (b+k);rw [show b+(k+1)=b+k+1 by omega,e];obtain ⟨b1,b2, -⟩:=Ahx h.ht a1 h.hS hc h.hi a2;refine ⟨b1,b2,?_,a4.on h.ht a1 h.hS hc h.hi a2⟩;rw [(Wq a1.g hc).2,a3];omega
theorem Ph.at' (h:Ph l X S f i0 F c0 b) {t:Nat} (h1:b<=t) (h2:t<=60):(∃E,Dr l X S f (F t) E)/\Cpl l S f i0 (vw (F t))/\(vw (F t)).s.Ae=c0+((t:Nat):Int)/\Ri l (vw (F t)):=by
 have:=h.at (t - b) EM
 rwa [show b+(t - b)=t by omega] at this
theorem Ph.rd (h:Ph l X S f i0 F c0 b) {t j:Nat} (h1:b<=t) (h2:t < 60) (hj:i0<=j) (hjS:j < S.length):∃E U,Dr l X S f (F t) E/\(vw (F t)).s.Ae < 9999/\Ri l (vw (F t))/\(vw (F t)).s.Ae=c0+((t:Nat):Int)/\Gd l S f (vw (Oa (F t))) /\
  Rk l (A8 f j) ((vw (F t)).s.Ae+1) (Snd l (A8 f j) ((vw (F t)).s.Ae+1) (vw (F t))) (Onx l (A8 f j) (vw (F t))) U (vw (Oa (F t)))/\Rp l f S.length i0 (A8 f j) ((vw (F t)).s.Ae+1) U (fun M=>rq ((Nm l (vw (F t)) (l.length - 1)).r M) (A8 f j)) (vw (Oa (F t))):=by
 obtain ⟨⟨E,a1⟩,a2,a3,a4⟩:=h.at' h1 EM;have h9:=h.c9;have hc:(vw (F t)).s.Ae < 9999:=EM
 obtain ⟨⟨E2,b1⟩,b2,b3⟩:=Ahx h.ht a1 h.hS hc h.hi a2;obtain ⟨U,u1,u2⟩:=b3 j hj hjS;exact ⟨E,U,a1,hc,a4,a3,b1.gd,u1,u2⟩
theorem Ph.io (h:Ph l X S f i0 F c0 b) {j:Nat} (hj:i0<=j) (hjS:j < S.length):∀k,b+k<=60->Io l (A8 f j) (c0+((b:Nat):Int)+7) (vw (F (b+k)))
 | 0,_=>fun V hV V0 hl y hy hB=>by
  exfalso;obtain ⟨E,hd⟩:=h.d;have hge:=hd.gd.el hV V0 hl;obtain ⟨-, -,h3, -⟩:=D6.1 hge.1;have:=(Js.1 (h3 y (Qc hy).1)).2.2.2.2;rw [hge.2,h.k] at this;omega
 | k+1,hk=>by
  obtain ⟨E,U,a1,a2,a3,a4,a5,a6,a7⟩:=h.rd (t:=b+k) EM EM hj hjS;have e:=h.sq (b+k);rw [show b+(k+1)=b+k+1 by omega,e];exact Avz a1 rfl a2 a3 a6 a7 a5 (h.io hj hjS k EM)
def Re (l:al) (c0 x:Int) (F:Nat->Du):Tr:=fun t i=>if t<=60/\Fj l i then (rq ((vw (F t)).r i) x).map fun q=>((un i q - c0).toNat,(3 - q.Ch).toNat) else none
theorem Lz {x:Int} {t i:Nat} {z:Nat × Nat} (h:Re l c0 x F t i=some z):t<=60/\Fj l i/\∃q,rq ((vw (F t)).r i) x=some q/\z.1=(un i q - c0).toNat/\z.2=(3 - q.Ch).toNat:=by
 unfold Re at h
 split at h
 ·rename_i c;cases hq:rq ((vw (F t)).r i) x with
  | none=>rw [hq] at h;cases h
  | some q=>rw [hq] at h;cases h;exact ⟨c.1,c.2,q,rfl,rfl,rfl⟩
 ·cases h
theorem Aeu {x:Int} {t i:Nat} (h1:t<=60) (h2:Fj l i) {q:Aw} (hq:rq ((vw (F t)).r i) x=some q):Re l c0 x F t i=some ((un i q - c0).toNat,(3 - q.Ch).toNat):=by
 unfold Re;rw [ar ⟨h1,h2⟩,hq];rfl
theorem Aet {x:Int} {t i:Nat} (hq:rq ((vw (F t)).r i) x=none):Re l c0 x F t i=none:=by
 unfold Re
 split
 ·rw [hq];rfl
 ·rfl
open Classical in
noncomputable def hmk (l:al) (c0 x:Int) (F:Nat->Du) (t:Nat):Bool :=
 if t<=60 then decide (∃h∈(vw (F t)).s.holds,h.Ab=x/\h.Bl=c0+((t:Nat):Int)+3) else decide (t=61/\∃i r,Re l c0 x F 60 i=some (61,r)/\0 < r)
open Classical in
theorem Asc {x:Int} {t:Nat} (h:¬t<=60):hmk l c0 x F t=true↔t=61/\∃i r,Re l c0 x F 60 i=some (61,r)/\0 < r:=by
 unfold hmk;rw [aq h,decide_eq_true_iff]
open Classical in
theorem Acd {x:Int} {t:Nat} (h:t<=60):hmk l c0 x F t=true↔∃h∈(vw (F t)).s.holds,h.Ab=x/\h.Bl=c0+((t:Nat):Int)+3:=by
 unfold hmk;rw [ar h,decide_eq_true_iff]
theorem Ph.lo (h:Ph l X S f i0 F c0 b) {x:Int} {t i:Nat} (h1:b<=t) (h2:t<=60) (hi:Fj l i) {q:Aw} (hq:rq ((vw (F t)).r i) x=some q):c0+((t:Nat):Int)+1<=un i q/\un i q<=c0+((t:Nat):Int)+4+Ij i/\0<=q.Ch/\q.Ch<=3:=by
 obtain ⟨⟨E,a1⟩, -,a3,a4⟩:=h.at' h1 h2;obtain ⟨r1,r2,r3⟩:=a4 i hi q (Es hq).1;obtain ⟨g1, -⟩:=a1.gd.rc hi.1 hi.2.1 hi.2.2;obtain ⟨t0,t1⟩:=Aev g1 hq;obtain ⟨d0,d1⟩:=Lp i;rw [a3] at r1 r2 r3;refine ⟨?_,?_,t0,t1⟩
 ·unfold un;split <;> (try split) <;> omega
 ·by_cases hs:q.Dh=1
  ·have:=r2 hs;unfold un;split <;> (try split) <;> omega
  ·have:=r3 hs;unfold un;split <;> (try split) <;> omega
end
section
variable {l:al} {X:Nat->al} {S:ah} {f:Int} {i0:Nat} {F:Nat->Du} {c0:Int} {b:Nat}
theorem Tk.up {V i:Nat} (h:Tk l V i):V=i\/Tk l V (Cp l i):=by
 induction h with
 | nil=>exact .inl rfl
 | @cons v w M a b c h ih =>
  rcases ih with ih|ih
  ·subst ih;right;rw [c];exact .nil v
  ·exact .inr (.cons a b c ih)
theorem Tk.root (ht:Tx l X) {V i:Nat} (h:Tk l V i) (hV:V≠0) (hp:Cp l i=0):V=i:=by
 rcases h.up with c|c
 ·exact c
 ·rw [hp] at c;have:=c.le ht;omega
theorem Aeh {x c C:Int} {a:Vw} {i:Nat} (hi:Fj l i) {q:Aw} (hq:rq (a.r i) x=some q) (hc:c=C+1) (h1:C < q.Bl):Snd l x c a i↔q.Ch≠3/\un i q=c:=by
 obtain ⟨d0,d1⟩:=Lp i;constructor
 ·rintro ⟨-,q2,hq2,hs⟩;rw [hq] at hq2;cases hq2;unfold Nq at hs
  split at hs
  ·cases hs
  ·split at hs
   ·cases hs
   ·rename_i h3
    split at hs
    ·rename_i hst;refine ⟨h3,?_⟩;unfold un;rw [aq h3,ar hst];omega
    ·cases hs
 ·rintro ⟨h3,hu⟩;refine ⟨hi,q,hq,?_⟩;unfold un at hu;rw [aq h3] at hu
  split at hu
  ·rename_i hst;unfold Nq;rw [aq EM,aq h3,ar hst,(Es hq).2]
  ·omega
theorem Ud {i:Nat} {q:Aw} {c:Int} (h1:q.Dh=3) (h2:q.Bl=c+4):un i q=if q.Ch=3 then c+4 else c+4+Ij i:=by
 unfold un;rw [h2]
 split
 ·rfl
 ·rw [aq (by rw [h1];decide)]
theorem Ph.on3 (h:Ph l X S f i0 F c0 b) {x:Int} {t:Nat} (h1:9<=t) (h2:t < 60) (ho:onB (vw (Oa (F t))).s.holds x=true):hmk l c0 x F (t+1)=true\/hmk l c0 x F t=true\/hmk l c0 x F (t - 1)=true:=by
 have hb:=h.bl;obtain ⟨⟨E,a1⟩, -,a3, -⟩:=h.at' (t:=t) EM EM;obtain ⟨⟨E2,b1⟩, -,b3, -⟩:=h.at' (t:=t+1) EM EM;obtain ⟨⟨E3,c1⟩, -,c3, -⟩:=h.at' (t:=t - 1) EM EM;have h9:=h.c9;have e:=h.sq t;have e3:=h.sq (t - 1);rw [show t - 1+1=t by omega] at e3;rw [<-e] at ho;obtain ⟨H,hH,hn⟩:=bS.1 ho;have hn2:H.Ab=x:=by simpa using hn
 obtain ⟨-, -, -,h4, -⟩:=Dd.1 b1.gd.src;have hu:=(h4 H hH).2.2;unfold Ht at hu;simp only [av,aC] at hu;rw [b3] at hu;rw [Acd EM,Acd EM,Acd EM];by_cases d1:H.Bl=c0+((t+1:Nat):Int)+3
 ·exact .inl ⟨H,hH,hn2,d1⟩
 ·right;have hH2:H∈(vw (F t)).s.holds:=by
   rw [e] at hH;rcases Aai a1 EM h.hS hH with d|d
   ·exact d
   ·rw [a3] at d;omega
  by_cases d2:H.Bl=c0+((t:Nat):Int)+3
  ·exact .inl ⟨H,hH2,hn2,d2⟩
  ·right;have hH3:H∈(vw (F (t - 1))).s.holds:=by
    rw [e3] at hH2;rcases Aai c1 EM h.hS hH2 with d|d
    ·exact d
    ·rw [c3] at d;omega
   exact ⟨H,hH3,hn2,EM⟩
theorem Ph.hit (h:Ph l X S f i0 F c0 b) {j:Nat} (hj:i0<=j) (hjS:j < S.length) {t:Nat} (h1:9<=t) (h2:t < 60) {E:ah} {U:Nat->Prop} (a1:Dr l X S f (F t) E)
  (a6:Rk l (A8 f j) ((vw (F t)).s.Ae+1) (Snd l (A8 f j) ((vw (F t)).s.Ae+1) (vw (F t))) (Onx l (A8 f j) (vw (F t))) U (vw (Oa (F t)))) (a4:(vw (F t)).s.Ae=c0+((t:Nat):Int)) {i:Nat} (hi:Fj l i) {q:Aw} (hq:rq ((vw (F t)).r i) (A8 f j)=some q) (h3:q.Ch≠3) (hu:un i q=c0+((t:Nat):Int)+1)
  (hs:Cp l i=0\/2<=Q5 i) (hS:Snd l (A8 f j) ((vw (F t)).s.Ae+1) (vw (F t)) i):U (Uh l i)/\onB (vw (Oa (F t))).s.holds (A8 f j)=true:=by
 have hb:=h.bl;refine Ate h.ht a6 (i+1) i EM hi.1 hi.2.1 (a6.s i hS) fun V hV V0 hl hund u hO=>?_;rcases hs with hs|hs
 ·have:=hund.root h.ht V0 hs;rw [this] at hl;have:=hi.2.2;rw [hl] at this;cases this
 ·obtain ⟨y,hy,rfl⟩:=hO;have hge:=a1.gd.el hV V0 hl;have e1:(Nm l (vw (F t)) (l.length - 1)).e V=Cn ((vw (F t)).e V):=by
   exact CU
  rw [e1,Acb hge.1] at hy;cases hc2:en ((vw (F t)).e V) (A8 f j) with
  | none=>rw [hc2] at hy;cases hy
  | some y1 =>
   rw [hc2] at hy;have hy3:(if y1.Bl<=((vw (F t)).e V).Ae+1 then none else some y1)=some y:=hy
   split at hy3
   ·cases hy3
   ·rename_i hlt;cases hy3;rw [hge.2,a4] at hlt;have hio:=h.io hj hjS (t - b) EM;rw [show b+(t - b)=t by omega] at hio;have:=hio V hV V0 hl y hc2 EM i hi hund q hq h3;have:=Qb i;omega
theorem Ph.rds (h:Ph l X S f i0 F c0 b) {j:Nat} (hj:i0<=j) (hjS:j < S.length):Su (Re l c0 (A8 f j) F) (fun i=>decide (Cp l i≠0)) (Uh l) (hmk l c0 (A8 f j) F) (fun i=>decide (Cp l (Cp l i)≠0)) 9:=by
 have hb:=h.bl
 -- a round seen on the trace
 have stp:∀t i z',9<=t->Re l c0 (A8 f j) F (t+1) i=some z'->∃q q' U E,t < 60/\Fj l i/\rq ((vw (F t)).r i) (A8 f j)=some q/\rq ((vw (Oa (F t))).r i) (A8 f j)=some q'/\z'.1=(un i q' - c0).toNat/\z'.2=(3 - q'.Ch).toNat /\
   Dr l X S f (F t) E/\(vw (F t)).s.Ae=c0+((t:Nat):Int)/\(∀i,Fj l i->∀q,rq ((vw (F t)).r i) (A8 f j)=some q->c0+((t:Nat):Int) < q.Bl) /\
   Rk l (A8 f j) ((vw (F t)).s.Ae+1) (Snd l (A8 f j) ((vw (F t)).s.Ae+1) (vw (F t))) (Onx l (A8 f j) (vw (F t))) U (vw (Oa (F t)))/\Rp l f S.length i0 (A8 f j) ((vw (F t)).s.Ae+1) U (fun M=>rq ((Nm l (vw (F t)) (l.length - 1)).r M) (A8 f j)) (vw (Oa (F t))) /\
   ((q.Ch≠3/\un i q=c0+((t:Nat):Int)+1/\Snd l (A8 f j) ((vw (F t)).s.Ae+1) (vw (F t)) i/\q'.Ch=q.Ch+1/\q'.Dh=3/\q'.Bl=c0+((t:Nat):Int)+1+4) \/
    (un i q≠c0+((t:Nat):Int)+1/\c0+((t:Nat):Int)+1 < un i q/\q'.Ch=q.Ch/\(un i q'=un i q\/(q'.Dh=3/\q'.Bl=c0+((t:Nat):Int)+1+4/\∃u,u < l.length/\u≠0/\Tk l u i/\U u)))):=fun t i z' ht hz=>by
  obtain ⟨z1,z2,q',z3,z4,z5⟩:=Lz hz;obtain ⟨E,U,a1,a2,a3,a4,a5,a6,a7⟩:=h.rd (t:=t) EM EM hj hjS;have e:=h.sq t;rw [e] at z3;obtain ⟨q,b1,b2, -⟩:=Ua a1 rfl a2 a3 a6 a7 z2 z3;refine ⟨q,q',U,E,EM,z2,b1,z3,z4,z5,a1,a4,fun i hi q hq=>?_,a6,a7,?_⟩
  ·have:=(a3 i hi q (Es hq).1).1;rw [a4] at this;exact this
  ·rw [a4] at b2 ⊢;exact b2
 have tw:∀t i xx r,9<=t->Re l c0 (A8 f j) F t i=some (xx,r)->∃q,Fj l i/\t<=60/\rq ((vw (F t)).r i) (A8 f j)=some q/\((xx:Nat):Int)=un i q - c0/\((r:Nat):Int)=3 - q.Ch/\c0+((t:Nat):Int)+1<=un i q/\un i q<=c0+((t:Nat):Int)+4+Ij i/\0<=q.Ch/\q.Ch<=3:=fun t i xx r ht hz=>by
  obtain ⟨z1,z2,q,z3,z4,z5⟩:=Lz hz;obtain ⟨b1,b2,b3,b4⟩:=h.lo (t:=t) EM z1 z2 z3;refine ⟨q,z2,z1,z3,?_,?_,b1,b2,b3,b4⟩
  ·have z4':xx=(un i q - c0).toNat:=z4;omega
  ·have z5':r=(3 - q.Ch).toNat:=z5;omega
 have sndq:∀t i r,9<=t->t < 60->Re l c0 (A8 f j) F t i=some (t+1,r)->0 < r->∃q,Fj l i/\rq ((vw (F t)).r i) (A8 f j)=some q/\q.Ch≠3/\un i q=c0+((t:Nat):Int)+1/\Snd l (A8 f j) ((vw (F t)).s.Ae+1) (vw (F t)) i:=fun t i r ht ht2 hz hr=>by
  obtain ⟨q,b1,b2,b3,b4,b5,b6,b7,b8,b9⟩:=tw t i _ r ht hz;obtain ⟨-, -,a3,a4⟩:=h.at' (t:=t) EM EM;have hlt:=(a4 i b1 q (Es b3).1).1;refine ⟨q,b1,b3,EM,EM,(Aeh b1 b3 rfl hlt).2 ⟨EM,?_⟩⟩;rw [a3];omega
 have strong_of:∀i,(decide (Cp l i≠0)=false\/2<=Q5 i)->Cp l i=0\/2<=Q5 i:=fun i hs=>by
  rcases hs with hs|hs
  ·left;have:=of_decide_eq_false hs;omega
  ·exact .inr hs
 refine ⟨?_,?_,?_,?_,?_,?_,?_,?_,?_,?_,?_⟩
 ·intro t i xx r ht hz;obtain ⟨q,b1,b2,b3,b4,b5,b6,b7,b8,b9⟩:=tw t i xx r ht hz;rw [Qb] at b7;refine ⟨EM,EM,fun r0=>?_⟩;obtain ⟨-, -,a3,a4⟩:=h.at' (t:=t) EM b2;obtain ⟨r1,r2,r3⟩:=a4 i b1 q (Es b3).1;have h3:q.Ch=3:=EM
  have hun:un i q=q.Bl:=by unfold un;rw [ar h3]
  by_cases hs:q.Dh=1
  ·have h5:=r2 hs;rw [a3] at h5;have:=Ry i;have:=Qb i;omega
  ·have:=r3 hs;rw [a3] at this;omega
 ·intro t i ht hz;cases e:Re l c0 (A8 f j) F (t+1) i with
  | none=>rfl
  | some z' =>
   obtain ⟨q,q',U,E,c1,c2,c3, -⟩:=stp t i z' ht e;rw [Aeu EM c2 c3] at hz;cases hz
 ·intro t i xx r xx' r' ht hz hz';obtain ⟨q,b1,b2,b3,b4,b5,b6,b7,b8,b9⟩:=tw t i xx r ht hz;obtain ⟨q2,q',U,E,c1,c2,c3,c4,c5,c6, -, -, -, -, -,c7⟩:=stp t i _ ht hz';rw [b3] at c3;cases c3;obtain ⟨q3, -, -,d3,d4,d5, -⟩:=tw (t+1) i xx' r' EM hz';have e:=h.sq t;rw [e,c4] at d3;cases d3;rcases c7 with ⟨s1,s2,s3,s4, -⟩|⟨s1,s2,s3, -⟩
  ·left;omega
  ·right;omega
 ·intro t i xx r xx' r' ht hz hz';obtain ⟨q,b1,b2,b3,b4,b5,b6,b7,b8,b9⟩:=tw t i xx r ht hz;obtain ⟨q2,q',U,E,c1,c2,c3,c4,c5,c6, -, -, -, -, -,c7⟩:=stp t i _ ht hz';rw [b3] at c3;cases c3;obtain ⟨q3, -, -,d3,d4,d5, -, -,d6,d7⟩:=tw (t+1) i xx' r' EM hz';have e:=h.sq t;rw [e,c4] at d3;cases d3;have hcl:=Qb i;have hres:q'.Dh=3->q'.Bl=c0+((t:Nat):Int)+1+4->t+5<=xx'/\(0 < r'->t+5+Q5 i<=xx'):=fun s5 s6=>by
   have hun:=Ud (i:=i) s5 s6
   split at hun <;> omega
  rcases c7 with ⟨s1,s2,s3,s4,s5,s6⟩|⟨s1,s2,s3,s4|⟨s5,s6, -⟩⟩
  ·exact .inr (hres s5 s6)
  ·left;omega
  ·exact .inr (hres s5 s6)
 ·intro t i r xx' r' ht hz hz';obtain ⟨q,b1,b2,b3,b4,b5,b6,b7,b8,b9⟩:=tw t i _ r ht hz;obtain ⟨q2,q',U,E,c1,c2,c3,c4,c5,c6, -, -, -, -, -,c7⟩:=stp t i _ ht hz';rw [b3] at c3;cases c3;obtain ⟨q3, -, -,d3,d4,d5, -, -,d6,d7⟩:=tw (t+1) i xx' r' EM hz';have e:=h.sq t;rw [e,c4] at d3;cases d3;have hcl:=Qb i;rcases c7 with ⟨s1,s2,s3,s4,s5,s6⟩|⟨s1, -⟩
  ·have hun:=Ud (i:=i) s5 s6
   split at hun <;> omega
  ·omega
 ·intro t i r ht hz hr hs;rcases cw t 60 with ht2|ht2
  ·obtain ⟨q,b1,b2,b3,b4,b5⟩:=sndq t i r ht ht2 hz hr;obtain ⟨E,U,a1,a2,a3,a4,a5,a6,a7⟩:=h.rd (t:=t) EM EM hj hjS;exact h.on3 ht ht2 (h.hit hj hjS ht ht2 a1 a6 a4 b1 b2 b3 b4 (strong_of i hs) b5).2
  ·obtain ⟨z1, -⟩:=Lz hz;obtain rfl:t=60:=EM
   left;exact (Asc EM).2 ⟨rfl,i,r,hz,hr⟩
 ·intro t i r jj xx' r' ht hz hr hel hcl hg hej hz';obtain ⟨q2,q',U,E,c1,c2,c3,c4,c5,c6,a1,a4,a5,a6,a7,c7⟩:=stp t jj _ ht hz';obtain ⟨q,b1,b2,b3,b4,b5⟩:=sndq t i r ht c1 hz hr;have hU:=(h.hit hj hjS ht c1 a1 a6 a4 b1 b2 b3 b4 (.inr hcl) b5).1;obtain ⟨u1,u2,u3,u4⟩:=S8 h.ht (jj+1) jj EM c2.1 c2.2.1;rw [<-hg] at hU;obtain ⟨s5,s6⟩:=a7.r _ u4 u2 hU jj c2.1 c2.2.2 u1 q' c4;obtain ⟨q3, -, -,d3,d4,d5, -, -,d6,d7⟩:=tw (t+1) jj xx' r' EM hz';have e:=h.sq t;rw [e,c4] at d3;cases d3;have hcl:=Qb jj;rw [a4] at s6;have hun:=Ud (i:=jj) s5 s6
  split at hun <;> omega
 ·intro t ht hm;rcases cw t 60 with ht2|ht2
  ·obtain ⟨E,U,a1,a2,a3,a4,a5,a6,a7⟩:=h.rd (t:=t) EM EM hj hjS;obtain ⟨H,hH,hn,hu⟩:=(Acd EM).1 hm;have e:=h.sq t;rw [e] at hH;obtain ⟨M,hM,hZ⟩:=a6.hd ⟨H,hH,hn,by rw [a4];omega⟩;have hMl:=hM.1;obtain ⟨q,hq, -⟩:=hM.2;have hlt:=(a3 M hMl q (Es hq).1).1;obtain ⟨s1,s2⟩:=(Aeh hMl hq rfl hlt).1 hM;rw [a4] at s2;obtain ⟨g1, -⟩:=a1.gd.rc hMl.1 hMl.2.1 hMl.2.2;obtain ⟨t0,t1⟩:=Aev g1 hq;obtain ⟨gg1, -⟩:=a5.rc hMl.1 hMl.2.1 hMl.2.2;refine ⟨M,(3 - q.Ch).toNat,?_,EM,?_⟩
   ·rw [Aeu EM hMl hq,show (un M q - c0).toNat=t+1 by omega]
   ·refine Aet ?_;rw [e];exact hZ.rq gg1
  ·obtain ⟨h1,i,r,h2,h3⟩:=(Asc EM).1 hm;obtain rfl:t=60:=EM
   refine ⟨i,r,h2,h3,?_⟩;unfold Re;rw [aq (fun c=>by omega)]
 ·intro t i xx r xx' r' ht hz hz' hne hx;obtain ⟨q,b1,b2,b3,b4,b5,b6,b7,b8,b9⟩:=tw t i xx r ht hz;obtain ⟨q2,q',U,E,c1,c2,c3,c4,c5,c6,a1,a4,a5,a6,a7,c7⟩:=stp t i _ ht hz';rw [b3] at c3;cases c3;obtain ⟨q3, -, -,d3,d4,d5, -, -,d6,d7⟩:=tw (t+1) i xx' r' EM hz';have e:=h.sq t;rw [e,c4] at d3;cases d3;rcases c7 with ⟨s1,s2, -⟩|⟨s1,s2,s3,s4|⟨s5,s6,u,u1,u2,u3,u4⟩⟩
  ·omega
  ·omega
  ·-- i itself did not send
   have hni:¬Snd l (A8 f j) ((vw (F t)).s.Ae+1) (vw (F t)) i:=fun hs=>by
    have:=((Aeh b1 b3 rfl (by rw [a4];exact a5 i b1 q b3)).1 hs).2;rw [a4] at this;omega
   have hui:u≠i:=fun d=>by
    subst d;obtain ⟨M,m1,m2⟩:=a6.w u u1 u2 u4;rw [m1.leaf h.ht.t b1.2.2] at m2;exact hni m2
   have hpi:Cp l i≠0:=fun d=>hui (u3.root h.ht u2 d);obtain ⟨M,m1,m2⟩:=a6.w u u1 u2 u4;have hMi:M≠i:=fun d=>hni (by rw [<-d];exact m2);have hMl:=m2.1;obtain ⟨qM,hqM, -⟩:=m2.2;obtain ⟨w1,w2⟩:=(Aeh hMl hqM rfl (by rw [a4];exact a5 M hMl qM hqM)).1 m2;rw [a4] at w2;obtain ⟨g1, -⟩:=a1.gd.rc hMl.1 hMl.2.1 hMl.2.2;obtain ⟨t0,t1⟩:=Aev g1 hqM;have hpM:Cp l M≠0:=fun d=>by
    have:=m1.root h.ht u2 d;rw [this] at u3;exact hMi (u3.leaf h.ht.t hMl.2.2).symm
   have hzM:Re l c0 (A8 f j) F t M=some (t+1,(3 - qM.Ch).toNat):=by
    rw [Aeu EM hMl hqM,show (un M qM - c0).toNat=t+1 by omega]
   refine ⟨au hpi,⟨M,(3 - qM.Ch).toNat,hMi,hzM,EM,au hpM,?_⟩,?_⟩
   ·rw [Amv h.ht m1 u2,Amv h.ht u3 u2]
   ·by_cases hpu:Cp l u=0
    ·exact .inl (h.on3 ht c1 ((a6.p u u1 u2 u4).1 hpu))
    ·right;refine ⟨M,_,hzM,EM,au ?_⟩;have hMu:M≠u:=fun d=>by
      rw [d] at hMl;exact hui (u3.leaf h.ht.t hMl.2.2).symm
     intro hpp;have hup:Tk l u (Cp l M):=m1.up.resolve_left fun d=>hMu d.symm;have:=hup.root h.ht u2 hpp;rw [this] at hpu;exact hpu hpp
 ·intro t i ht h8;unfold Re;rw [aq (fun c=>by have:=c.2.1;have:=h.ht.t.n1;omega)]
 ·intro t ht;unfold Re;rw [aq (fun c=>c.2.2.1 rfl)]
end
section
variable {f:Int} {S:ah} {k i0:Nat}
theorem Ak2 {base n u:Int} {l:List Aw} {q:Aw} (h:q∈l):q∈Nz base l n u:=by
 unfold Nz
 split
 ·exact h
 ·unfold Sb;rw [<-bm (D8 base l n) l] at h;rcases aG.1 h with h|h
  ·exact bC _ h
  ·exact cI _ (aN _ h)
theorem Yn {base u:Int}:∀(ns:al) {l:List Aw} {q:Aw},q∈l->q∈Ii base u l ns
 | [],_,_,h=>h
 | _::ns,_,_,h=>Yn ns (Ak2 h)
theorem Are {base n u:Int} {l:List Aw} (h8:gp base n < 8):∃q∈Nz base l n u,q.Ab=n:=by
 unfold Nz;cases ha:Km base l n
 ·rw [au h8];show ∃q∈Sb base l n u,q.Ab=n;unfold Sb;exact ⟨Ast n u,EO,rfl⟩
 ·show ∃q∈l,q.Ab=n;have hlt:=Qm ha;rw [Ql hlt] at ha;exact ⟨_,aE hlt,bP ha⟩
theorem Ac3 {base u:Int}:∀(ns:al) {l:List Aw},(∀n∈ns,gp base n < 8)->∀n∈ns,∃q∈Ii base u l ns,q.Ab=n
 | [],_,_,n,h=>by cases h
 | a::ns,l,h,n,hn=>by
  rcases aF.1 hn with rfl|hn
  ·obtain ⟨q,hq,e⟩:=Are (l:=l) (u:=u) (h n EO);exact ⟨q,Yn ns hq,e⟩
  ·exact Ac3 ns (fun z hz=>h z HP) n hn
theorem Aw3 {r:Ay} {p:Ar} {es:ah} {d:Int} (hS:S.length<=8) (hg:Eu r) (hp:Bh p=true) (d0:1<=d) (d1:d<=8) (h:RcI S f r es) (h5:p.Bd=5) (hl:p.Cy=A8 f S.length) (ht:p.Al=A8 f i0) (hi:i0<=S.length) :
  ∃k2,Cmp f S.length (Bt r p d) k2/\i0<=k2:=by
 have hn:Dq p=true:=JH
 have e1:Bt r p d=Gb r p d:=FZ
 have hG:=(Oo (d:=d) hg hp d0 d1).1;rw [e1] at hG ⊢
 -- where the window stands
 obtain ⟨k2,a1,a2,a3⟩:∃k2,(Be r p).next=A8 f (k2:Nat)/\i0<=k2/\k2<=S.length:=by
  unfold Be C0;rw [ar h5];cases hst:r.A1
  ·have e2:C8 r p=⟨p.Cy,r.Aa.Am⟩:=by unfold C8;rw [hst,aq EN,ar h5]
   rw [e2];unfold Jt;rw [ht,show (⟨p.Cy,r.Aa.Am⟩:Ak).next=A8 f S.length from hl,Ky f EM EM,ay EM,aq EN];exact ⟨S.length,hl,hi,aA _⟩
  ·obtain ⟨k,hw, -⟩:=h.w hst;have hkl:=hw.le;rw [(Jj hg hp).2 hst];unfold Jt;rw [ht,hw.n,Ky f EM EM];by_cases c:k < i0
   ·rw [au c,ar rfl,ar HN];obtain ⟨-,b2,b3, -,b5⟩:=U1 (i:=i0) hg.w hw.n hw.s hkl hi EM;exact ⟨_,b3,b5,b2⟩
   ·rw [ay c,aq EN];exact ⟨k,hw.n,EM,hkl⟩
 refine ⟨k2,⟨rfl,a1,a3,fun j h1 h2=>?_⟩,a2⟩;cases h3:C2 (Gb r p d).Aa.Am (j - k2)
 ·right;have hns:Ho (Be r p) (A8 f j)=false:=by rw [Wj (show k2<=2000 by omega) a1 EM h1];exact h3
  have hmem:A8 f j∈Ko (Be r p) (O1 (Be r p) p.Cy):=by
   unfold Ko Or;refine aO.2 ⟨bU.2 ⟨j - k2,?_,?_⟩,by rw [hns];rfl⟩
   ·rw [bX];unfold O1;rw [a1,hl,Pm f EM EM EM];omega
   ·rw [a1,Lm,show k2+(j - k2)=j by omega]
  have hgp:∀n∈Ko (Be r p) (O1 (Be r p) p.Cy),gp (Be r p).next n < 8:=fun n hn=>(N4 (Oi _ _) hn).2.1
  obtain ⟨q,hq,e⟩:=Ac3 (u:=r.Ae+d) (l:=C3 r.Aj (Be r p)) _ hgp _ hmem;have hq2:q∈(Gb r p d).Aj:=by
   show q∈H8 (Be r p) (C3 r.Aj (Be r p)) p.Cy (r.Ae+d);unfold H8;rw [a1,hl,Ky f EM EM,au (show k2 < S.length by omega),ar rfl,<-a1,<-hl];exact hq
  have:=Mh hG hq2;rw [e] at this;exact ⟨q,this⟩
 ·exact .inl rfl
end
structure Fp (l:al) (S:ah) (f:Int) (i0 k:Nat) (a:Vw):Prop where
 d1:∀v,k < v->v < l.length->(Cp l v<=k->a.d v=[Kd a.s.Aa])/\(k < Cp l v->a.d v=[])
 c1:∀M,Fj l M->M<=k->∃kk,Cmp f S.length (a.r M) kk/\i0<=kk
 w:Im a.s.Aa=A8 f S.length/\a.s.Aa.Al=A8 f i0
 pk:∀v,∀p∈a.d v,(p.Bd=2\/p.Bd=4\/p.Bd=5)/\(Dq p=true->p.Cy=A8 f S.length/\p.Al=A8 f i0)
section
variable {l:al} {X:Nat->al} {S:ah} {f c:Int} {n:Du} {E:ah} {i0 k:Nat} {a:Vw}
theorem Fp.dl (h:Fp l S f i0 k a) (ht:Tx l X) (hG:Gd l S f a) (hS:S.length<=8) (hi:i0<=S.length) (hk:k+1 < l.length):Fp l S f i0 (k+1) (Qw l a (k+1)):=by
 have hp:=ht.plt hk EM;have e:=(h.d1 (k+1) EM hk).1 EM;unfold Qw;rw [e];dsimp only;have hsp:(Kd a.s.Aa).Bd=5/\(Kd a.s.Aa).Cy=A8 f S.length/\(Kd a.s.Aa).Al=A8 f i0:=⟨rfl,h.w.1,h.w.2⟩;have hmem:Kd a.s.Aa∈a.d (k+1):=FH
 have hpk:=hG.que.1 _ hmem;cases hl:Br l ((k+1:Nat):Int)
 ·rw [aq (show ¬(false=true) by decide)];refine ⟨fun v hv hv2=>?_,fun M hM hle=>?_,h.w,fun v p hp=>?_⟩
  ·have h0:=h.d1 v EM hv2;dsimp only;rw [aq EM];have hfc:((v:Nat):Int)∈fcs l a (k+1) (Kd a.s.Aa)↔Cp l v=k+1:=by
    unfold fcs;rw [aq (by show ¬(5:Int)=2;decide),Lr ht.t];exact ⟨fun d=>d.2.2,fun d=>⟨hv2,EM,d⟩⟩
   by_cases d:Cp l v=k+1
   ·rw [ar (hfc.2 d),h0.2 EM];exact ⟨fun _=>rfl,fun d2=>by omega⟩
   ·rw [aq (fun d2=>d (hfc.1 d2))];exact ⟨fun d2=>h0.1 EM,fun d2=>h0.2 EM⟩
  ·have hne:M≠k+1:=fun d=>by
    have:=hM.2.2;rw [d,hl] at this;cases this
   exact h.c1 M hM EM
  ·dsimp only at hp
   split at hp
   ·cases hp
   ·split at hp
    ·rcases I9 hp with hp|rfl
     ·exact h.pk v p hp
     ·exact h.pk (k+1) _ hmem
    ·exact h.pk v p hp
 ·rw [ar rfl];refine ⟨fun v hv hv2=>?_,fun M hM hle=>?_,h.w,fun v p hp=>?_⟩
  ·have h0:=h.d1 v EM hv2;dsimp only;rw [aq EM];have hne:=Zd ht.t hl hv2 (show v≠0 by omega);exact ⟨fun d2=>h0.1 EM,fun d2=>h0.2 EM⟩
  ·dsimp only;by_cases d:M=k+1
   ·rw [ar d];obtain ⟨es,hr⟩:=hG.rci hk;obtain ⟨g1, -⟩:=hG.rc hk EM hl;obtain ⟨d0,d1⟩:=Lp (k+1);exact Aw3 hS g1 hpk d0 d1 hr hsp.1 hsp.2.1 hsp.2.2 hi
   ·rw [aq d];exact h.c1 M hM EM
  ·dsimp only at hp
   split at hp
   ·cases hp
   ·exact h.pk v p hp
theorem Fp.ul (h:Fp l S f i0 (k+1) a) (hG:Gd l S f a):Fp l S f i0 (k+1) (Qx l a (k+1)):=by
 unfold Qx;cases e:a.u (k+1) with
 | nil=>exact h
 | cons p q =>
  dsimp only;have hpk:=hG.que.2 p (show p∈a.u (k+1) by rw [e];simp)
  split
  ·refine ⟨fun v hv hv2=>?_,h.c1,?_,fun v r hr=>?_⟩
   ·dsimp only;rw [aq EM];have h0:=h.d1 v hv hv2;rw [Sh];exact h0
   ·show Im (Hb a.s p.Ab).Aa=_/\(Hb a.s p.Ab).Aa.Al=_;rw [Sh];exact h.w
   ·dsimp only at hr
    split at hr
    ·unfold Da at hr;rcases aG.1 hr with hr|hr
     ·exact h.pk _ r hr
     ·obtain ⟨m1,m2⟩:=Zf hG.src hpk.1 hpk.2 (bg hr);exact ⟨m1,fun hn=>by rw [<-h.w.1,<-h.w.2];exact m2 hn⟩
    ·exact h.pk v r hr
  ·refine ⟨fun v hv hv2=>?_,h.c1,h.w,fun v r hr=>?_⟩
   ·dsimp only;rw [aq EM];exact h.d1 v hv hv2
   ·dsimp only at hr
    split at hr
    ·rcases I9 hr with hr|rfl
     ·exact h.pk _ r hr
     ·exact ⟨.inr (.inl rfl),fun hn=>by cases hn⟩
    ·exact h.pk v r hr
theorem Awl {o:Nat->Int->Nat} {i:Nat} (hG:Gd l S f a) (h:∀u,o u (-1)=0):∀u,oul a i o u (-1)=0:=fun u=>by
 unfold oul;cases e:a.u i with
 | nil=>exact h u
 | cons p q =>
  dsimp only;have hpk:=hG.que.2 p (show p∈a.u i by rw [e];simp);have:=Fg hpk.1;rw [aq (fun d=>by omega)];exact h u
theorem Fp.pv {o:Nat->Int->Nat} (h:Fp l S f i0 (l.length - 1) a) (hG:Gd l S f a) (ho:∀u,o u (-1)=0):Pv l X f S.length i0 (-1) c o (fun _=>none) a:=by
 refine ⟨fun u _ _ h1=>(by rw [ho] at h1;cases h1),fun w _ _ h1=>?_,fun v _ _ h1=>(by rw [ho] at h1;cases h1),fun M hM m0 hl q hq=>?_,fun M hM m0 hl=>h.c1 M ⟨hM,m0,hl⟩ EM,h.pk,h.w⟩
 ·exfalso;have hne:(a.d w).filter (fun p=>decide (p.Bd=4) && decide (p.Ab=-1))≠[]:=fun d=>by
   unfold My at h1;rw [d] at h1;cases h1
  obtain ⟨p,hp⟩:=fq _ hne;obtain ⟨hp1,hp2⟩:=aO.1 hp;have:=Fg (hG.que.1 p hp1);simp only [av,aC] at hp2;omega
 ·exfalso;obtain ⟨g1, -⟩:=hG.rc hM m0 hl;obtain ⟨q1,q2⟩:=Es hq;have:=Bb.1 (U6 g1 q1).1;omega
theorem Awy (ht:Tx l X) (h:Dr l X S f n E) (hS:S.length<=8) (hc:(vw n).s.Ae < 9999) (hi:i0<=S.length) (htr:(vw n).s.Aa.Al=A8 f i0) (hq3:(vw n).s.quiet=3) :
  (At (Oa n)=true/\(Oa n).Ao.Ad=l/\∃E2,Ug S f (Oa n) E2)/\(∀v,(vw (Oa n)).d v=[]/\(vw (Oa n)).u v=[])/\(∀v,v < l.length->v≠0->Br l ((v:Nat):Int)=false->∀y∈((vw (Oa n)).e v).Af,y.Ab∈X v)/\Cpl l S f i0 (vw (Oa n)):=by
 obtain ⟨t1,t2,t3,t4⟩:=h.tick hc hS;have hlen:2<=l.length:=by rw [<-h.t];exact (Ev (Av.1 h.g).t).n0
 have hsr:=h.gd.sri;have hd0:∀v,(Nm l (vw n) (l.length - 1)).d v=if ((v:Nat):Int)∈E7 l 0 then [Kd (vw n).s.Aa] else []:=fun v=>by
  rw [h.dn v];have e:G0 (vw n).s.Aa (vw n).s.quiet=[Kd (vw n).s.Aa]:=by
   unfold G0;rw [aq (by rw [hq3];decide)]
  rw [e]
 have hfp:Fp l S f i0 0 (Nm l (vw n) (l.length - 1)):=by
  refine ⟨fun v hv hv2=>?_,fun M hM hle=>absurd EM hM.2.1,⟨hsr.Cy,htr⟩,fun v p hp=>?_⟩
  ·rw [hd0 v];refine ⟨fun d=>?_,fun d=>?_⟩
   ·rw [ar (show ((v:Nat):Int)∈E7 l 0 from (Lr (i:=0) ht.t).2 ⟨hv2,EM,EM⟩)];rfl
   ·rw [aq (show ¬((v:Nat):Int)∈E7 l 0 from fun d2=>by have:=((Lr (i:=0) ht.t).1 d2).2.2;omega)]
  ·rw [hd0 v] at hp
   split at hp
   ·rw [aH] at hp;subst hp;exact ⟨.inr (.inr rfl),fun _=>⟨hsr.Cy,htr⟩⟩
   ·cases hp
 obtain ⟨hP,b3,b4⟩:=Ki (l:=l) (S:=S) (f:=f) (P:=fun k a=>(∃o po hm,Jv l X k o po hm a/\Fp l S f i0 k a/\a.s.Ae=(vw n).s.Ae+1/\∀u,o u (-1)=0)\/∃o po hm,Jv l X k o po hm a/\Pv l X f S.length i0 (-1) ((vw n).s.Ae+1) o (fun _=>none) a/\a.s.Ae=(vw n).s.Ae+1) EM
  (fun k a hk hG hPa=>by
   rcases hPa with ⟨o,po,hm,a1,a2,a3,a4⟩|⟨o,po,hm,a1,a3,a4⟩
   ·left;obtain ⟨po',c1,c2, -⟩:=a1.dl ht hG hk;have hG2:=hG.dl EM (show 1<=k+1 by omega) hk;obtain ⟨hm',c4⟩:=c1.ul ht hG2 (i:=k+1) EM hk c2;exact ⟨_,po',hm',c4,(a2.dl ht hG hS hi hk).ul hG2,by show (Qx l (Qw l a (k+1)) (k+1)).s.Ae=_;rw [Wt,Rg,a3],Awl hG2 a4⟩
   ·right;obtain ⟨po',c1,c2, -⟩:=a1.dl ht hG hk;have c6:=a3.dl a1 ht hG a4 hS hk;have hG2:=hG.dl EM (show 1<=k+1 by omega) hk;obtain ⟨hm',c4⟩:=c1.ul ht hG2 (i:=k+1) EM hk c2;exact ⟨_,po',hm',c4,c6.ul c1 ht hG2 (fun h=>absurd h EN) (i:=k+1) EM hk EM c2,by show (Qx l (Qw l a (k+1)) (k+1)).s.Ae=_;rw [Wt,Rg,a4]⟩)
  (fun a hG hPa=>by
   right;rcases hPa with ⟨o,po,hm,a1,a2,a3,a4⟩|⟨o,po,hm,a1,a3,a4⟩
   ·exact ⟨o,po,hm,a1.wrap,a2.pv hG a4,a3⟩
   ·exact ⟨o,po,hm,a1.wrap,a3,a4⟩) t1 t2 t3 (by
   rw [t4];exact .inl ⟨z2,z2,z2,h.J ht,hfp,rfl,fun _=>rfl⟩)
 rcases hP with ⟨o,po,hm, -,a2, -, -⟩|⟨o,po,hm,a1,a3, -⟩
 ·exfalso;have h1:Cp l 1<=0:=by have:=ht.plt (v:=1) EM EM;omega
  have:=(a2.d1 1 EM EM).1 h1;rw [(b4 1).1] at this;cases this
 ·exact ⟨b3,b4,a1.qx,⟨a3.cm,a3.sw.2⟩⟩
end
section
variable {l:al} {f:Tr} {t M:Nat}
def elB (l:al):Nat->Bool:=fun i=>decide (Cp l i≠0)
def dgB (l:al):Nat->Bool:=fun i=>decide (Cp l (Cp l i)≠0)
theorem Az4 {el dg:Nat->Bool} {i:Nat} {o:Option (Nat × Nat)} (h3:∀z,o=some z->z.2<=3):wt el dg i o<=21:=by
 cases o with
 | none=>exact aD _
 | some z =>
  show (if Ov el dg i then _ else _)<=_
  split
  ·have:=An2 (h3 z rfl);have e:ww 3=21:=rfl;omega
  ·omega
theorem Axi {el dg:Nat->Bool} {i:Nat} {o:Option (Nat × Nat)} (h:Ov el dg i=false):wt el dg i o<=9:=by
 cases o with
 | none=>exact aD _
 | some z =>
  show (if Ov el dg i then _ else _)<=_;rw [h];exact aA _
theorem Ako {i:Nat}:Ov (elB l) (dgB l) i=true↔Cp l i≠0/\Q5 i=1/\Cp l (Cp l i)≠0:=by
 unfold Ov elB dgB;simp only [av,aC];exact ⟨fun h=>⟨h.1.1,h.1.2,h.2⟩,fun h=>⟨⟨h.1,h.2.1⟩,h.2.2⟩⟩
theorem Az3 (ht:Hf l) (hf:∀i z,f t i=some z->Fj l i) (h3:∀i z,f t i=some z->z.2<=3) (hM:Fj l M) (hMn:f t M=none) (he:∃i z,elB l i=true/\f t i=some z) :
  wsm false (elB l) (dgB l) f t<=51\/(Cp l 2=1/\Cp l 3=2/\Cp l 6=2/\(∃x r y s,f t 3=some (x,r)/\f t 6=some (y,s)/\34<=ww r+ww s)/\wsm true (elB l) (dgB l) f t<=51):=by
 have hn8:=ht.n1;have plt:∀{v:Nat},v < l.length->v≠0->Cp l v < v:=fun {v} hv h0=>by
  have:=ht.p v hv EM;unfold Cp;rw [N2 hv];omega
 have hno:∀{p i:Nat},Fj l i->Cp l i=p->p≠0->¬Fj l p:=fun {p i} hi e h0 hp=>Zd ht hp.2.2 hi.1 hi.2.1 e;have hpp:∀{p i:Nat},i < l.length->i≠0->Cp l i=p->p≠0->¬Fj l p:=fun {p i} h1 h2 e h0 hp=>Zd ht hp.2.2 h1 h2 e;have hW:∃W:Nat->Nat,∀i,W i=wt (elB l) (dgB l) i (f t i):=⟨_,fun _=>rfl⟩;obtain ⟨W,hW⟩:=hW;have w0:∀{i},¬Fj l i->W i=0:=fun {i} h=>by
  rw [hW];cases e:f t i with
  | none=>rfl
  | some z=>exact absurd (hf i z e) h
 have wM:W M=0:=by rw [hW,hMn];rfl
 have w21:∀i,W i<=21:=fun i=>by rw [hW];exact Az4 (h3 i)
 have w9:∀{i},¬(Ov (elB l) (dgB l) i=true)->W i<=9:=fun {i} h=>by
  rw [hW];exact Axi (by cases e:Ov (elB l) (dgB l) i <;> first|rfl|exact absurd e h)
 have hc:∀{i},Q5 i≠1->W i<=9:=fun {i} h=>w9 fun c=>h (Ako.1 c).2.1;have a1:=hc (i:=1) EN;have a2:=hc (i:=2) EN;have a4:=hc (i:=4) EN;have a5:=hc (i:=5) EN;have a7:=hc (i:=7) EN;have b3:=w21 3;have b6:=w21 6;have hs:wsm false (elB l) (dgB l) f t=W 1+W 2+W 4+W 5+W 7+(W 3+W 6):=by
  rw [hW,hW,hW,hW,hW,hW,hW];rfl
 have hs2:wsm true (elB l) (dgB l) f t=W 1+W 2+W 4+W 5+W 7+(max (W 3) (W 6)+min 9 (min (W 3) (W 6))):=by
  rw [hW,hW,hW,hW,hW,hW,hW];rfl
 have hM8:M < 8/\M≠0:=⟨eS hM.1 hn8,hM.2.1⟩;rw [hs,hs2];have big:∀{i},¬W i<=9->Fj l i/\Cp l i≠0/\Cp l (Cp l i)≠0/\∃x r,f t i=some (x,r)/\W i=ww r:=fun {i} h=>by
  have k1:Fj l i:=Classical.byContradiction fun c=>by have:=w0 c;omega
  have k2:Ov (elB l) (dgB l) i=true:=Classical.byContradiction fun c=>h (w9 c);have k3:=Ako.1 k2;refine ⟨k1,k3.1,k3.2.2,?_⟩;cases e:f t i with
  | none=>rw [hW,e] at h;exact absurd (aD _) h
  | some z=>exact ⟨z.1,z.2,rfl,by rw [hW,e];exact Zu k2⟩
 have m7:M=1\/M=2\/M=3\/M=4\/M=5\/M=6\/M=7:=EM
 by_cases k3:W 3<=9
 ·by_cases k6:W 6<=9
  ·left;obtain ⟨i,z,e1,e2⟩:=he;have hi:=hf i z e2;have hp0:Cp l i≠0:=by unfold elB at e1;exact bP e1
   have hpl:=plt hi.1 hi.2.1;have hE:=w0 (hno hi rfl hp0);have hEM:Cp l i≠M:=fun c=>hno hi rfl hp0 (c▸hM);have hE8:Cp l i < 8:=by have:=hi.1;omega
   generalize Cp l i=E at *;have:E=1\/E=2\/E=3\/E=4\/E=5\/E=6\/E=7:=EM
   rcases ‹E=1\/_› with rfl|rfl|rfl|rfl|rfl|rfl|rfl <;> rcases m7 with rfl|rfl|rfl|rfl|rfl|rfl|rfl <;> omega
  ·left;obtain ⟨c1,c2,c3, -⟩:=big k6;have d1:=plt c1.1 c1.2.1;have d0:Cp l 6 < l.length:=Nat.lt_trans d1 c1.1;have d2:=plt d0 c2;have e1:=w0 (hno c1 rfl c2);have e2:=w0 (hpp d0 c2 rfl c3);have n1:Cp l 6≠M:=fun c=>hno c1 rfl c2 (c▸hM);have n2:Cp l (Cp l 6)≠M:=fun c=>hpp d0 c2 rfl c3 (c▸hM);generalize Cp l (Cp l 6)=q at *;generalize Cp l 6=p at *;have p5:p=2\/p=3\/p=4\/p=5:=EM
   have q4:q=1\/q=2\/q=3\/q=4:=EM
   rcases p5 with rfl|rfl|rfl|rfl <;> rcases q4 with rfl|rfl|rfl|rfl <;> first|omega|(rcases m7 with rfl|rfl|rfl|rfl|rfl|rfl|rfl <;> omega)
 ·obtain ⟨c1,c2,c3,x,r,c4,c5⟩:=big k3;have d1:=plt c1.1 c1.2.1;have p2:Cp l 3=2:=by
   have:Cp l 3=1\/Cp l 3=2:=EM
   rcases this with e|e
   ·have h1:Cp l 1 < 1:=plt (by have:=c1.1;omega) EN;rw [e] at c3;omega
   ·exact e
  rw [p2] at c3;have h2:Cp l 2 < 2:=plt (by have:=c1.1;omega) EN;have p1:Cp l 2=1:=EM
  have h1:Cp l 1 < 1:=plt (by have:=c1.1;omega) EN;have nl2:¬Fj l 2:=hno c1 p2 EN;have nl1:¬Fj l 1:=hpp (by have:=c1.1;omega) EN p1 EN;have e1:=w0 nl1;have e2:=w0 nl2;have n1:M≠1:=fun c=>nl1 (c▸hM);have n2:M≠2:=fun c=>nl2 (c▸hM);by_cases k6:W 6<=9
  ·left;rcases m7 with rfl|rfl|rfl|rfl|rfl|rfl|rfl <;> omega
  ·obtain ⟨g1,g2,g3,y,s,g4,g5⟩:=big k6;have d6:=plt g1.1 g1.2.1;have d0:Cp l 6 < l.length:=Nat.lt_trans d6 g1.1;by_cases q2:Cp l 6=2
   ·by_cases k:34<=ww r+ww s
    ·refine .inr ⟨p1,p2,q2,⟨x,r,y,s,c4,g4,k⟩,?_⟩;rcases m7 with rfl|rfl|rfl|rfl|rfl|rfl|rfl <;> omega
    ·left;rcases m7 with rfl|rfl|rfl|rfl|rfl|rfl|rfl <;> omega
   ·left;have e6:=w0 (hno g1 rfl g2);have n6:Cp l 6≠M:=fun c=>hno g1 rfl g2 (c▸hM);have n61:Cp l 6≠1:=fun c=>by rw [c] at g3;omega
    have n63:Cp l 6≠3:=fun c=>hno g1 c EN c1;generalize Cp l 6=p at *;have p5:p=4\/p=5:=EM
    rcases p5 with rfl|rfl <;> rcases m7 with rfl|rfl|rfl|rfl|rfl|rfl|rfl <;> omega
end
section
variable {l:al} {X:Nat->al} {S:ah} {f:Int} {i0:Nat} {F:Nat->Du} {c0:Int} {b:Nat}
theorem Ph.sib (h:Ph l X S f i0 F c0 b) {j:Nat} (hj:i0<=j) (hjS:j < S.length) {t i k:Nat} (ht:b<=t) (hp:Cp l i=Cp l k) (hcl:Q5 i=Q5 k) {x r x' r' y' s':Nat}
  (e1:Re l c0 (A8 f j) F t i=some (x,r)) (e2:Re l c0 (A8 f j) F (t+1) i=some (x',r')) (e3:Re l c0 (A8 f j) F (t+1) k=some (y',s')) (r0:0 < r') (s0:0 < s') :
  (x=t+1/\r=r'+1/\x'=t+5+Q5 i)\/(x≠t+1/\r=r'/\(x'=x\/(x'=t+5+Q5 i/\y'=t+5+Q5 i))):=by
 obtain ⟨z1,z2,q',z3,z4,z5⟩:=Lz e2;obtain ⟨y1,y2,p',y3,y4,y5⟩:=Lz e3;obtain ⟨v1,v2,q1,v3,v4,v5⟩:=Lz e1;obtain ⟨w1,w2,w3,w4⟩:=h.lo ht v1 v2 v3;obtain ⟨x1,x2,x3,x4⟩:=h.lo (t:=t+1) EM z1 z2 z3;obtain ⟨u1,u2,u3,u4⟩:=h.lo (t:=t+1) EM y1 y2 y3;obtain ⟨E,U,a1,a2,a3,a4,a5,a6,a7⟩:=h.rd ht EM hj hjS;rw [h.sq t] at z3 y3;obtain ⟨q,b1,b2, -⟩:=Ua a1 rfl a2 a3 a6 a7 z2 z3;rw [v3] at b1;cases b1;have d1:=Qb i;have d2:=Qb k;dsimp only at z4 z5 y4 y5 v4 v5;rw [a4] at b2;rcases b2 with ⟨s1,s2,s3,s4,s5,s6⟩|⟨s1,s2,s3,s4|⟨s5,s6,u,m1,m2,m3,m4⟩⟩
 ·left;have hu:=Ud (i:=i) s5 s6;rw [aq EM] at hu;omega
 ·right;refine ⟨EM,EM,.inl EM⟩
 ·right;refine ⟨EM,EM,.inr ?_⟩;have hu:=Ud (i:=i) s5 s6;rw [aq EM] at hu;have hlt:=(a3 i z2 q1 (Es v3).1).1;have hne:u≠i:=fun c=>by
   subst c;obtain ⟨M,n1,n2⟩:=a6.w u m1 m2 m4;have:=n1.leaf h.ht.t z2.2.2;subst this;have:=(Aeh z2 v3 rfl hlt).1 n2;rw [a4] at this;exact s1 this.2
  have hund:Tk l u k:=(hp▸m3.up.resolve_left hne:Tk l u (Cp l k)).snoc y2.1 y2.2.1 rfl;obtain ⟨o1,o2⟩:=a7.r u m1 m2 m4 k y2.1 y2.2.2 hund p' y3;rw [a4] at o2;have hu2:=Ud (i:=k) o1 o2;rw [aq EM] at hu2;omega
theorem Ph.back (h:Ph l X S f i0 F c0 b) {j:Nat} (hj:i0<=j) (hjS:j < S.length) {t i:Nat} (ht:b<=t) {z':Nat × Nat} (e2:Re l c0 (A8 f j) F (t+1) i=some z'):∃x r,Re l c0 (A8 f j) F t i=some (x,r):=by
 obtain ⟨z1,z2,q',z3,z4,z5⟩:=Lz e2;obtain ⟨E,U,a1,a2,a3,a4,a5,a6,a7⟩:=h.rd ht EM hj hjS;rw [h.sq t] at z3;obtain ⟨q,b1,b2, -⟩:=Ua a1 rfl a2 a3 a6 a7 z2 z3;exact ⟨_,_,Aeu EM z2 b1⟩
theorem Ph.tlo (h:Ph l X S f i0 F c0 b) {x:Int} {t i:Nat} (ht:b<=t) {xx r:Nat} (e:Re l c0 x F t i=some (xx,r)):t+1<=xx/\xx<=t+4+Q5 i/\r<=3:=by
 obtain ⟨z1,z2,q',z3,z4,z5⟩:=Lz e;obtain ⟨w1,w2,w3,w4⟩:=h.lo ht z1 z2 z3;have:=Qb i;dsimp only at z4 z5;omega
def Ip (g:Tr) (i k t:Nat):Prop:=∀x r y s,g t i=some (x,r)->g t k=some (y,s)->0 < r->0 < s->x=y
theorem Ph.ip_step (h:Ph l X S f i0 F c0 b) {j:Nat} (hj:i0<=j) (hjS:j < S.length) {t i k:Nat} (ht:b<=t) (hp:Cp l i=Cp l k) (hcl:Q5 i=Q5 k) (hI:Ip (Re l c0 (A8 f j) F) i k t):Ip (Re l c0 (A8 f j) F) i k (t+1):=fun x' r' y' s' e2 e3 r0 s0=>by
 obtain ⟨x,r,e1⟩:=h.back hj hjS ht e2;obtain ⟨y,s,e4⟩:=h.back hj hjS ht e3;have a:=h.sib hj hjS ht hp hcl e1 e2 e3 r0 s0;have c:=h.sib hj hjS ht hp.symm hcl.symm e4 e3 e2 s0 r0;have:=hI x r y s e1 e4 EM EM;omega
theorem Ph.ip_on (h:Ph l X S f i0 F c0 b) {j:Nat} (hj:i0<=j) (hjS:j < S.length) {t i k:Nat} (ht:b<=t) (hp:Cp l i=Cp l k) (hcl:Q5 i=Q5 k) (hI:Ip (Re l c0 (A8 f j) F) i k t):∀n,Ip (Re l c0 (A8 f j) F) i k (t+n)
 | 0=>hI
 | n+1=>h.ip_step hj hjS (t:=t+n) (bi ht (Nat.le_add_right t n)) hp hcl (h.ip_on hj hjS ht hp hcl hI n)
theorem Ph.ip_nine (h:Ph l X S f i0 F c0 b) {j:Nat} (hj:i0<=j) (hjS:j < S.length) {i k:Nat} (hp:Cp l i=Cp l k) (hcl:Q5 i=Q5 k) (hc1:Q5 i=1) {x9:Nat} (e9:Re l c0 (A8 f j) F 9 i=some (x9,3)):Ip (Re l c0 (A8 f j) F) i k 9:=by
 have hb:=h.bl;have key:∀n,Ip (Re l c0 (A8 f j) F) i k (4+n)\/(∀x,Re l c0 (A8 f j) F (4+n) i=some (x,3)->x<=9):=fun n=>by
  induction n with
  | zero=>exact .inr fun x e=>by have:=(h.tlo hb e).2.1;omega
  | succ n ih =>
   have hbn:b<=4+n:=EM
   rcases ih with ih|ih
   ·exact .inl (h.ip_step hj hjS hbn hp hcl ih)
   ·by_cases hq:∃y s,Re l c0 (A8 f j) F (4+n+1) k=some (y,s)/\0 < s
    ·obtain ⟨y,s,e3,s0⟩:=hq;by_cases hI:Ip (Re l c0 (A8 f j) F) i k (4+n+1)
     ·exact .inl hI
     ·refine .inr fun x' e2=>?_;obtain ⟨x,r,e1⟩:=h.back hj hjS hbn e2;have r3:=(h.tlo hbn e1).2.2;rcases h.sib hj hjS hbn hp hcl e1 e2 e3 EN s0 with ⟨-,c, -⟩|⟨-,rfl,c|⟨c1,c2⟩⟩
      ·omega
      ·rw [c];exact ih x e1
      ·exact absurd (fun a1 a2 a3 a4 d1 d2 _ _=>by
        rw [show 4+(n+1)=4+n+1 by omega] at e2;rw [e2] at d1;rw [e3] at d2;cases d1;cases d2;omega) hI
    ·exact .inl fun x r y s e2 e3 r0 s0=>absurd ⟨y,s,e3,s0⟩ hq
 rcases key 5 with k|k
 ·exact k
 ·have:=k x9 e9;have:=(h.tlo EM e9).1;omega
end
section
variable {l:al} {X:Nat->al} {S:ah} {f:Int} {i0:Nat} {F:Nat->Du} {c0:Int} {b:Nat}
theorem Bbg {r s:Nat} (h1:r<=3) (h2:s<=3) (h:34<=ww r+ww s):r=3\/s=3:=by
 have e2:ww 2=15:=rfl;by_cases a:r=3
 ·exact .inl a
 by_cases c:s=3
 ·exact .inr c
 have:=An2 (show r<=2 by omega);have:=An2 (show s<=2 by omega);omega
theorem Ph.sixty (h:Ph l X S f i0 F c0 b) {j:Nat} (hj:i0<=j) (hjS:j < S.length)
  (hM:(∃i z,elB l i=true/\Re l c0 (A8 f j) F 9 i=some z)->∃M,Fj l M/\Re l c0 (A8 f j) F 9 M=none):∀i,Fj l i->rq ((vw (F 60)).r i) (A8 f j)=none:=fun i hi=>by
 have hb:=h.bl;have hR:Su (Re l c0 (A8 f j) F) (elB l) (Uh l) (hmk l c0 (A8 f j) F) (dgB l) 9:=h.rds hj hjS;have h3:∀i x r,Re l c0 (A8 f j) F 9 i=some (x,r)->r<=3:=fun i x r e=>(h.tlo (t:=9) EM e).2.2;have fin:Re l c0 (A8 f j) F 60 i=none:=by
  by_cases he:∃i z,elB l i=true/\Re l c0 (A8 f j) F 9 i=some z
  ·obtain ⟨M,m1,m2⟩:=hM he;rcases Az3 (t:=9) h.ht.t (fun i z e=>(Lz e).2.1) (fun i z e=>h3 i z.1 z.2 e) m1 m2 he with hw|⟨p2,p3,p6,⟨x,r,y,s,e1,e2,e3⟩,hw⟩
   ·exact hR.sixty (pr:=false) (fun c=>by cases c) (aA 9) (fun _=>hw) h3 i
   ·have hp:Cp l 3=Cp l 6:=by rw [p3,p6]
    have h9:Ip (Re l c0 (A8 f j) F) 3 6 9:=by
     rcases Bbg (h3 _ _ _ e1) (h3 _ _ _ e2) e3 with rfl|rfl
     ·exact h.ip_nine hj hjS hp rfl rfl e1
     ·have:=h.ip_nine hj hjS hp.symm rfl rfl e2;exact fun a1 a2 a3 a4 b1 b2 b3 b4=>(this a3 a4 a1 a2 b2 b1 b4 b3).symm
    refine hR.sixty (pr:=true) (fun _ t ht=>?_) (aA 9) (fun _=>hw) h3 i;have:=h.ip_on hj hjS (t:=9) EM hp rfl h9 (t - 9);rw [show 9+(t - 9)=t by omega] at this;exact this
  ·exact hR.sixty (pr:=false) (fun c=>by cases c) (aA 9) (fun c=>absurd c he) h3 i
 cases e:rq ((vw (F 60)).r i) (A8 f j) with
 | none=>rfl
 | some q=>rw [Aeu EM hi e] at fin;cases fin
end
section
variable {l:al} {X:Nat->al} {S:ah} {f:Int} {i0:Nat} {n:Du} {E:ah}
theorem Dr.settled (h:Dr l X S f n E) (hS:S.length<=8) (hp:Cpl l S f i0 (vw n)) (hq0:Wp n=0) (hn:∀j,i0<=j->j < S.length->∀i,Fj l i->rq ((vw n).r i) (A8 f j)=none):Ab5 n=true:=by
 have hsr:Im n.Ac.Aa=A8 f S.length:=h.gd.sri.Cy;have ht:Hf n.Ao.Ad:=Ev (Av.1 h.g).t;refine Akg hq0 fun i hi hl=>?_;have hi0:i≠0:=fun c=>by
  subst c;have h2:=ht.n0;have hp1:Cp n.Ao.Ad 1=0:=by
   have:=ht.p 1 EM EM;unfold Cp;rw [N2 (show 1 < n.Ao.Ad.length by omega)];omega
  have:=Tv ht (i:=1) (show 1 < n.Ao.Ad.length by omega) EN;rw [hp1] at this;rw [this] at hl;cases hl
 have hi':Fj l i:=by
  have e:=h.t;subst e;exact ⟨hi,hi0,hl⟩
 obtain ⟨k,hc,hk⟩:=hp.1 i hi'.1 hi'.2.1 hi'.2.2;obtain ⟨g1, -⟩:=h.gd.rc hi'.1 hi'.2.1 hi'.2.2;obtain ⟨es,hr⟩:=h.gd.rci hi'.1;have hkm:=hc.l;have hreq:((vw n).r i).Aj=[]:=by
  cases e:((vw n).r i).Aj with
  | nil=>rfl
  | cons q t =>
   exfalso;have hq:q∈((vw n).r i).Aj:=FH
   obtain ⟨j,hj,ej⟩:=Aed g1 hr hq;have hrq:=Mh g1 hq;rw [ej] at hrq;have hkj:=Att g1 hc.n EM EM hrq;rw [hn j EM hj i hi'] at hrq;cases hrq
 have hends:Sq ((vw n).r i).Aa.Am=true:=by
  have:=g1.w;unfold C7 at this;rw [av] at this;exact this.2
 have hkeq:k=S.length:=by
  refine Classical.byContradiction fun c=>?_;rcases hc.c k (aA k) EM with d|⟨q,d⟩
  ·rw [fv] at d;unfold Sq at hends;rw [d,bJ] at hends;rcases hends with d2|d2
   ·rw [Lq (by have:=bP d2;omega)] at d;cases d
   ·cases d2
  ·rw [hn k hk EM i hi'] at d;cases d
 obtain ⟨k2,w1, -⟩:=hr.w hc.s;have hk2:k2=k:=Oy f (by have:=w1.le;omega) EM (w1.n.symm.trans hc.n);subst hk2;have hsl:((vw n).r i).Aa.Am=[]:=by
  cases e:((vw n).r i).Aa.Am with
  | nil=>rfl
  | cons s t =>
   exfalso;unfold Sq at hends;rw [e,bJ] at hends;rcases hends with d|d
   ·cases bP d
   ·rw [av] at d;have d2:=d.2;rw [I7 EO] at d2;have hs:=w1.s (t.length) _ (by rw [e];exact aB (show t.length < (s::t).length by simp)) d2;have:=(bh.1 hs).1;omega
 show (Ah3 (N6 n i) && decide ((N6 n i).Aa.next=_))=true;have e1:N6 n i=(vw n).r i:=rfl;rw [e1];have e2:Ah3 ((vw n).r i)=true:=by unfold Ah3;rw [hc.s,hreq,hsl];rfl
 rw [e2,bW];refine au ?_;rw [hc.n,hkeq];exact hsr.symm
end
section
variable {l:al} {X:Nat->al} {S:ah} {f:Int} {i0:Nat} {F:Nat->Du} {c0:Int} {b:Nat}
theorem Ph.win (h:Ph l X S f i0 F c0 b):∀k,b+k<=60->(vw (F (b+k))).s.Aa=(vw (F b)).s.Aa
 | 0,_=>rfl
 | k+1,hk=>by
  obtain ⟨⟨E,a1⟩,a2,a3,a4⟩:=h.at k EM;have h9:=h.c9;have hc:(vw (F (b+k))).s.Ae < 9999:=EM
  rw [show b+(k+1)=b+k+1 by omega,h.sq,(Wq a1.g hc).1];exact h.win k EM
theorem Ph.settled (h:Ph l X S f i0 F c0 b)
  (hM:∀j:Nat,i0<=j->j < S.length->(∃i z,elB l i=true/\Re l c0 (A8 f j) F 9 i=some z)->∃M,Fj l M/\Re l c0 (A8 f j) F 9 M=none):Ab5 (F 60)=true/\(F 60).Ac.Aa=(F b).Ac.Aa:=by
 have hb:=h.bl;obtain ⟨⟨E,a1⟩,a2,a3,a4⟩:=h.at' (t:=60) EM (aA 60);obtain ⟨⟨E2,b1⟩,b2,b3,b4⟩:=h.at' (t:=59) EM EM;have h9:=h.c9;have hq:Wp (F 60)=0:=by
  rw [h.sq 59];exact (Art (b1.tick EM h.hS).1).2
 refine ⟨a1.settled h.hS a2 hq fun j h1 h2 i hi=>h.sixty h1 h2 (hM j h1 h2) i hi,?_⟩;have:=h.win (60 - b) EM;rw [show b+(60 - b)=60 by omega] at this;exact this
end
def RiR (d:Int) (r:Ay):Prop:=∀q∈r.Aj,r.Ae < q.Bl/\(q.Dh=1->q.Bl<=r.Ae+d)/\(q.Dh≠1->q.Bl<=r.Ae+4)
section
variable {d:Int} {r:Ay} {p:Ar}
theorem RiR.nil (h:r.Aj=[]):RiR d r:=fun q hq=>by rw [h] at hq;cases hq
theorem RiR.Ir (h:RiR d r) (d1:1<=d) {q:Aw} (hq:q∈Ir r d):r.Ae+1 < q.Bl/\(q.Dh=1->q.Bl<=r.Ae+1+d)/\(q.Dh≠1->q.Bl<=r.Ae+1+4):=by
 unfold Go.Proofs.YtmckdnddocfodaaGreatDoor.Ir at hq;obtain ⟨z,hz,e⟩:=bB.1 hq;obtain ⟨h1,h2,h3⟩:=h z hz;unfold Qh at e
 split at e
 ·cases e;exact ⟨EM,fun c=>by have:=h2 c;omega,fun c=>by have:=h3 c;omega⟩
 ·split at e
  ·cases e
  ·split at e
   ·cases e;exact ⟨by show _ < r.Ae+1+3;omega,fun c=>absurd c (by show ¬(2:Int)=1;decide),fun _=>by show r.Ae+1+3<=_;omega⟩
   ·cases e;exact ⟨by show _ < r.Ae+1+d;omega,fun _=>cQ _,fun c=>absurd rfl c⟩
theorem RiR.tick (h:RiR d r) (d1:1<=d):RiR d (Bj r d):=by
 unfold Bj
 split
 ·exact fun q hq=>h.Ir d1 hq
 ·exact fun q hq=>h.Ir d1 (aO.1 (show q∈Vk (Go.Proofs.YtmckdnddocfodaaGreatDoor.Ir r d) _ from hq)).1
theorem Wm {base n u:Int} {l:List Aw} {q:Aw} (h:q∈Ok base l n u):q∈l\/(q.Dh=3/\q.Bl=u):=by
 unfold Ok at h
 split at h
 ·split at h
  ·rcases bq h with h|rfl
   ·exact DS
   ·exact .inr ⟨rfl,rfl⟩
  ·exact DS
 ·exact DS
theorem Apq {base n u:Int} {l:List Aw} {q:Aw} (h:q∈Nz base l n u):q∈l\/q=Ast n u:=by
 unfold Nz at h
 split at h
 ·exact DS
 ·unfold Sb at h;rcases aG.1 h with h|h
  ·exact .inl (bg h)
  ·rcases aF.1 h with rfl|h
   ·exact .inr rfl
   ·exact .inl (bj h)
theorem V4 {base u:Int}:∀(ns:al) (l:List Aw) {q:Aw},q∈Ii base u l ns->q∈l\/∃n,q=Ast n u
 | [],_,_,h=>.inl h
 | n::ns,l,q,h=>by
  rcases V4 ns (Nz base l n u) h with h|h
  ·rcases Apq h with h|h
   ·exact DS
   ·exact .inr ⟨n,h⟩
  ·exact .inr h
theorem RiR.hear (h:RiR d r) (d1:1<=d):RiR d (Bt r p d):=by
 unfold Bt
 split
 ·intro q hq;have hq':q∈H8 (Be r p) (C3 r.Aj (Be r p)) p.Cy (r.Ae+d):=hq;have old:q∈C3 r.Aj (Be r p)->_:=fun hm=>h q (aO.1 hm).1;unfold H8 at hq'
  split at hq'
  ·rcases V4 _ _ hq' with hm|⟨n,rfl⟩
   ·exact old hm
   ·exact ⟨by show r.Ae < r.Ae+d;omega,fun _=>cQ _,fun c=>absurd rfl c⟩
  ·exact old hq'
 ·split
  ·intro q hq;rcases Wm hq with hm|⟨e1,e2⟩
   ·exact h q hm
   ·refine ⟨?_,fun c=>?_,fun _=>?_⟩
    ·rw [e2];show r.Ae < r.Ae+4;omega
    ·rw [e1] at c;cases c
    ·rw [e2];exact cQ _
  ·exact h
end
section
variable {l:al} {X:Nat->al} {S:ah} {f:Int} {a:Vw} {n:Du} {E:ah}
def Yg (l:al) (a:Vw):Prop:=∀i,Fj l i->RiR (Ij i) (a.r i)
theorem Yg.dl (h:Yg l a) (k:Nat):Yg l (Qw l a k):=fun i hi=>by
 unfold Qw
 split
 ·exact h i hi
 ·split
  ·dsimp only
   split
   ·subst_vars
    exact (h _ hi).hear (Lp _).1
   ·exact h i hi
  ·exact h i hi
theorem Yg.ul (h:Yg l a) (k:Nat):Yg l (Qx l a k):=fun i hi=>by
 unfold Qx
 split
 ·exact h i hi
 ·split
  ·exact h i hi
  ·exact h i hi
theorem Yg.tk (h:Yg l a) (k:Nat):Yg l (Nm l a k):=fun i hi=>by
 unfold Nm;dsimp only
 split
 ·exact (h i hi).tick (Lp i).1
 ·exact h i hi
theorem Yg.ri (h:Yg l a) (hG:Gd l S f a):Ri l a:=fun i hi q hq=>by
 rw [<-(hG.rc hi.1 hi.2.1 hi.2.2).2];exact h i hi q hq
end
section
variable {l:al} {X:Nat->al} {S:ah} {f:Int} {n:Du} {E:ah} {i0:Nat}
theorem Yg.drain (h:Yg l (vw n)) (hS:S.length<=8) (hg:At n=true) (ht:n.Ao.Ad=l) (hJ:Ug S f n E):Yg l (vw (Jk n).1) :=
 (Ki (l:=l) (S:=S) (f:=f) (P:=fun _ a=>Yg l a) EM (fun k a _ _ hP=>(hP.dl (k+1)).ul (k+1)) (fun _ _ hP=>hP) hg ht hJ h).1
theorem Yg.Oa (h:Yg l (vw n)) (hd:Dr l X S f n E) (hc:(vw n).s.Ae < 9999) (hS:S.length<=8):Yg l (vw (Oa n)):=by
 obtain ⟨t1,t2,t3,t4⟩:=hd.tick hc hS;refine Yg.drain ?_ hS t1 t2 t3;rw [t4];exact h.tk _
theorem As8 {F:Nat->Du} {t:Nat} (ht:Tx l X) (sq:∀t,F (t+1)=Se.Oa (F t)) (hd:Dr l X S f (F t) E) (hS:S.length<=8) (hc:(vw (F t)).s.Ae+60<=9999) (hi:i0<=S.length) (htr:(vw (F t)).s.Aa.Al=A8 f i0) (hq3:(vw (F t)).s.quiet=3) (hri:Yg l (vw (F t))) (ht4:t<=3)
  (hr:∀v,Fj l v->∀q∈((vw (F (t+1))).r v).Aj,q.Ab∈X v):Ph l X S f i0 F ((vw (F t)).s.Ae - ((t:Nat):Int)) (t+1):=by
 have hc2:(vw (F t)).s.Ae < 9999:=EM
 obtain ⟨⟨g1,g2,E2,g3⟩,hq,hx,hcp⟩:=Awy ht hd hS hc2 hi htr hq3;have hw:=(Wq hd.g hc2).2;have hG:Gd l S f (vw (Se.Oa (F t))):=⟨Se.Oa (F t),E2,g1,g2,g3,rfl⟩;have hr2:=(hri.Oa hd hc2 hS).ri hG;rw [<-sq t] at g1 g2 g3 hq hx hcp hw hr2;refine ⟨ht,hS,hi,sq,EM,⟨E2,⟨g1,g2,g3,hq,fun v hv h0 hl=>hr v ⟨hv,h0,hl⟩,hx⟩⟩,hcp,EM,hr2,EM⟩
end
section
variable {f:Int} {S:ah} {r:Ay} {p:Ar} {es:ah} {d:Int} {i0:Nat}
theorem Amc (hS:S.length<=8) (hg:Eu r) (h:RcI S f r es) {j:Nat} (hj:j < S.length) (hz:Zr r (A8 f j)):Zr (Bj r d) (A8 f j):=by
 unfold Bj;by_cases hl:Cf r=[]
 ·rw [ar hl];exact hz
 ·rw [aq hl];obtain ⟨k,hw,hq⟩:=h.w hz.1;have hkl:=hw.le;have hmL:(Cf r).getLastD 0∈Cf r:=by
   rw [cG,cJ hl];exact dI hl
  obtain ⟨q,q1,q2⟩:=bB.1 hmL;have q3:=Ws q2;obtain ⟨jl,hjl,ej⟩:=hq q q1;have et:Ct (Cf r)=A8 f ((jl+1:Nat):Int):=by
   unfold Ct;rw [q3,ej,show A8 (A8 f (jl:Nat)) 1=A8 (A8 f (jl:Nat)) ((1:Nat):Int) from rfl,Lm]
  obtain ⟨-,b2,b3, -,b5⟩:=U1 (i:=jl+1) hg.w hw.n hw.s hkl EM EM;obtain ⟨-,b6, -, -⟩:=Na (t:=A8 f ((jl+1:Nat):Int)) hg.w;rw [et];generalize (Fm r.Aa (A8 f ((jl+1:Nat):Int))).length=n at b2 b3 b5 b6;refine ⟨hz.1,(Tc (w:=Gt r.Aa (A8 f ((jl+1:Nat):Int))) b3 EM EM).2 ?_⟩;by_cases c:j < k+n
  ·exact .inl c
  ·right;rw [b6,K0,show n+(j - (k+n))=j - k by omega];exact ((Tc hw.n EM EM).1 hz.2).resolve_left EM
def Lk (S:ah) (f:Int) (L:al) (r:Ay):Prop:=r.A1=true->∀j:Nat,j < S.length->Zr r (A8 f j)\/A8 f j∈L
theorem Lk.req {L:al} (h:Lk S f L r) (hg:Eu r) (hr:RcI S f r es):∀q∈r.Aj,q.Ab∈L:=fun q hq=>by
 obtain ⟨j,hj,ej⟩:=Aed hg hr hq;have hst:r.A1=true:=by
  cases c:r.A1
  ·rw [(hg.z c).2] at hq;cases hq
  ·rfl
 rcases h hst j hj with hz|hm
 ·have:=hz.rq hg;have h2:=Mh hg hq;rw [ej,this] at h2;cases h2
 ·rw [ej];exact hm
theorem Lk.tick {L:al} (h:Lk S f L r) (hS:S.length<=8) (hg:Eu r) (hr:RcI S f r es):Lk S f L (Bj r d):=fun hst j hj=>by
 have hs:r.A1=true:=by
  unfold Bj at hst
  split at hst <;> exact hst
 rcases h hs j hj with hz|hm
 ·exact .inl (Amc hS hg hr hj hz)
 ·exact .inr hm
theorem Lk.hear {L:al} (h:Lk S f L r) (hS:S.length<=8) (hg:Eu r) (hp:Bh p=true) (hr:RcI S f r es) (hpk:PkI S f p) (h5:r.A1=true\/Dq p=false\/(p.Bd=5/\p.Cy=A8 f S.length)):Lk S f L (Bt r p d):=fun hst j hj=>by
 by_cases hs:r.A1=true
 ·rcases h hs j hj with hz|hm
  ·exact .inl ((Ahg hS hg hp hr hpk hj).1 hz)
  ·exact .inr hm
 ·have hs':r.A1=false:=by cases c:r.A1;rfl;exact absurd c hs
  rcases h5 with h5|h5|⟨h5,hl⟩
  ·exact absurd h5 hs
  ·exfalso;unfold Bt at hst;rw [h5,aq EN] at hst
   split at hst <;> exact hs hst
  ·left;have hn:Dq p=true:=JH
   obtain ⟨i1,hi1,et⟩:=hpk.t hn;have e1:Bt r p d=Gb r p d:=FZ
   rw [e1];have e3:(Be r p).next=A8 f S.length:=by
    unfold Be C0;rw [ar h5];have e2:C8 r p=⟨p.Cy,r.Aa.Am⟩:=by unfold C8;rw [hs',aq EN,ar h5]
    rw [e2];unfold Jt;rw [et,show (⟨p.Cy,r.Aa.Am⟩:Ak).next=A8 f S.length from hl,Ky f EM EM,ay EM,aq EN];exact hl
   exact ⟨rfl,(Tc (w:=Be r p) e3 EM EM).2 (.inl hj)⟩
end
end Go.Proofs.YtmckdnddocfodaaGreatDoor.Se
