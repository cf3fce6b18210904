/- Part 6 of the proof: 30 texts, one behind the other. -/
import Derived.Test.YtkoldibamfjghaaGreatDoorM5
open _root_.Go.Proofs.Tryz
set_option maxRecDepth 100000
set_option maxHeartbeats 8000000
set_option linter.all false
set_option linter.unusedVariables false
set_option linter.unusedSimpArgs false
namespace Go.Proofs.YtkoldibamfjghaaGreatDoor
theorem AR{p:Prop}(h:p:=by apply Ci;rfl;intro _;refine dk ?_;refine dN 12 ?_;refine oS ?_;refine dk ?_;refine dN 13 ?_;refine oS ?_;refine dk ?_;refine dd ?_;refine Bh ((_,_):Nat × Nat) trivial):p:=h
theorem AZ{p:Prop}(h:p:=by refine Dg 3 4 ?_;refine ds 5 ?_;refine ds 6 ?_;refine ds 7 ?_;refine ds 8 ?_;refine ds 9 ?_;refine ds 10 ?_;refine ds 11 ?_;refine ds 12 ?_;refine ds 13 ?_;refine ds 14 ?_;refine ds 15 ?_;refine ds 16 ?_;refine Dg 17 18 ?_;refine dd ?_;exact AA):p:=h
theorem BH{p:Prop}(h:p:=by have h9:=hpk;unfold Bo Pk at h9;simp only [aw,aF] at h9;unfold maxLen;omega):p:=h
theorem BO{p:Prop}(h:p:=by have hz:n.up[i]=[]:=bt.1 (by omega);rw [show C4 n s=none by unfold C4;rw [aC (by omega),hq,aH (by omega)],ay h0,show n.up.set i (n.up[i].drop 1)=n.up by rw [hz,gj];rw [<-hz,bv]];refine go ?_;intros;refine ret (⟨a1,c1,F1,a2,c2,F2,a3,c3,F3,a4,c4,F4,a5,c5,F5,a6,c6,F6,a7,c7,J⟩,⟨0,none,0,[]⟩) trivial rfl):p:=h
theorem BX{p:Prop}(h:p:=by refine go ?_;refine ret () trivial ?_;rw [show Ff 1 s.Cq 6=true by unfold Ff;simp;omega];rfl):p:=h
theorem CX{p:Prop}(h:p:=by have:=(Mj (s:=s) hg).1;rw [hq] at this;unfold Fh at this;simp only [aw,aF] at this;exact this.1):p:=h
theorem DH{p:Prop}(h:p:=by refine ret ⟨_,_,_,_,_,[],_,_,_⟩ trivial rfl):p:=h
theorem DN{p:Prop}(h:p:=by refine go ?_;refine ret () trivial ?_;rw [bZ,cU];rfl):p:=h
theorem DP{p:Prop}(h:p:=by refine go ?_;refine ret () trivial ?_;rw [ay h2];rfl):p:=h
theorem DQ{p:Prop}(h:p:=by refine go ?_;refine ret () trivial ?_;rw [av h2];rfl):p:=h
theorem DS{p:Prop}(h:p:=by refine go ?_;refine Cb ⟨z.k+1,z.a,z.c,z.F⟩ (by show z.k+1<=t.Ad.length;omega) (by show t.Ad.length - (z.k+1) < t.Ad.length - z.k;omega)):p:=h
theorem EK{p:Prop}(h:p:=by refine go ?_;refine ret (⟨a1,c1,F1,a2,c2,F2,a3,c3,F3,a4,c4,F4,a5,c5,F5,a6,c6,F6,a7,c7,F7⟩,⟨0,none,0,[]⟩) trivial rfl):p:=h
theorem EM{p:Prop}(h:p:=by refine go ?_;refine ret (⟨x1,w1,K1,x2,w2,K2,x3,w3,K3,x4,w4,K4,x5,w5,K5,x6,w6,K6,x7,w7,K7⟩,⟨0,ea,ec,eF⟩) trivial rfl):p:=h
theorem EO{p:Prop}(h:p:=by refine Cb ⟨z.k+1,a9,c9,F9⟩ (by show z.k+1<=t.Ad.length;omega) (by show t.Ad.length - (z.k+1) < t.Ad.length - z.k;omega)):p:=h
theorem ES{p:Prop}(h:p:=by refine ret (⟨some ⟨gp,0,none⟩,c1,[gp],a2,c2,F2,z.a2,z.c2,z.F,a4,c4,F4,a5,c5,F5,a6,c6,J6,a7,c7,F7⟩:NV) trivial rfl):p:=h
theorem FY{p:Prop}(h:p:=by show n.Ap.Ad.length - (k+1) < n.Ap.Ad.length - k;omega):p:=h
theorem GD{p:Prop}(h:p:=by dsimp only;rw [hnx];exact hsE):p:=h
theorem GE{p:Prop}(h:p:=by dsimp only;rw [hnx];exact frE):p:=h
theorem ID{p:Prop}(h:p:=by unfold Gm;rw [hu,aH rfl,hi,bc]):p:=h
theorem IG{p:Prop}(h:p:=by unfold C4;rw [aC (by omega),hq,aH (by omega)]):p:=h
theorem JB{p:Prop}(h:p:=by show k+1+1<=_;omega):p:=h
theorem JK{p:Prop}(h:p:=by show n.Ap.Ad.length<=1000000;omega):p:=h
theorem JP{p:Prop}(h:p:=by rw [hlf];decide):p:=h
theorem JS{p:Prop}(h:p:=by unfold Gm;split <;> rfl):p:=h
end Go.Proofs.YtkoldibamfjghaaGreatDoor
namespace Go.Proofs.YtkoldibamfjghaaGreatDoor
open Go.RowKit
def Pp (n:Dt) (i:Nat):Bf:=n.Af.getD i ⟨0,[]⟩
def P4 (n:Dt) (i:Nat):A9:=n.Ac.getD i Bdd
def Zb (n:Dt) (i:Nat):ar:=Iq n.Ap.Ad ((i:Nat):Int)
def Aem (n:Dt) (i:Nat) (p:As):ar:=if p.Cq=2 then Um (Pp n i) p.Ae (Zb n i) else Zb n i
def C6 (n:Dt) (i:Nat) (p:As):Dt × ai :=
 if Es n.Ap.Ad ((i:Nat):Int) then (⟨n.Ap,n.Ab,n.Af,n.Ac.set i (Dm (P4 n i) p (M5 i)),n.down,n.up⟩,T9 i (Ii (P4 n i) p))
 else (⟨n.Ap,n.Ab,if p.Cq=2 then n.Af.set i (Px (Pp n i) p.Ae) else n.Af,n.Ac,Dp n.down (Aem n i p) [p],n.up⟩,[])
def Y4 (n:Dt) (i:Nat):Nat:=(n.Ap.Ad.getD i 0).toNat
def Zu (p:As):As:=⟨4,p.Ae,p.Am,p.Er,⟨#[]⟩⟩
def Qb (n:Dt) (i:Nat) (p:As):Dt :=
 if Y4 n i=0 then ⟨n.Ap,Mk n.Ab p.Ae,n.Af,n.Ac,Dp n.down [((i:Nat):Int)] (No n.Ab p),n.up⟩
 else ⟨n.Ap,n.Ab,n.Af.set (Y4 n i) (Nn (Pp n (Y4 n i)) p.Ae ((i:Nat):Int)),n.Ac,Dp n.down [((i:Nat):Int)] [Zu p],if Acf (Pp n (Y4 n i)) p.Ae then n.up.modify (Y4 n i) fun q=>Hf q [p] else n.up⟩
def Nj (n:Dt) (i:Nat):Dt × ai :=
 if Es n.Ap.Ad ((i:Nat):Int) then (⟨n.Ap,n.Ab,n.Af,n.Ac.set i (Cz (P4 n i) (M5 i)),n.down,n.up.modify i fun q=>Hf q (Fg (P4 n i))⟩,T9 i (Hg (P4 n i)))
 else (⟨n.Ap,n.Ab,n.Af.set i (Ep (Pp n i)),n.Ac,n.down,n.up⟩,[])
def Bg2 (n:Dt):Dt:=⟨n.Ap,M3 n.Ab,n.Af,n.Ac,Dp n.down (Zb n 0) (Nk n.Ab.Aa n.Ab.quiet),n.up⟩
def Bc (n:Dt):Nat->Dt × ai
 | 0=>(Bg2 n,[])
 | k+1=>((Nj (Bc n k).1 (k+1)).1,(Bc n k).2++(Nj (Bc n k).1 (k+1)).2)
def Gj (n:Dt):Dt × ai:=Bc n (n.Ap.Ad.length - 1)
def Ag3 (n:Dt) (s:au):Dt:=⟨n.Ap,Rd n.Ab s,n.Af,n.Ac,Dp n.down (Zb n 0) [Dv n.Ab.Aa s],n.up⟩
def Ql (n:Dt) (i:Nat):Dt:=⟨n.Ap,n.Ab,n.Af,n.Ac,n.down.modify i (·.drop 1),n.up⟩
def Og (n:Dt) (i:Nat):Dt:=⟨n.Ap,n.Ab,n.Af,n.Ac,n.down,n.up.modify i (·.drop 1)⟩
structure GN (ck:Nat->Int) (n:Dt):Prop where
 t:Hj n.Ap=true
 s:Cr n.Ab=true
 l:Lp n=true
 a:∀i (h1:i < n.Af.length) (h2:i < n.Ac.length) (h3:i < n.down.length) (h4:i < n.up.length),Qn n.Ap.Ad (ck i) i n.Af[i] n.Ac[i] n.down[i] n.up[i]=true
theorem Ax {n:Dt}:At n=true↔GN (fun _=>n.Ab.Ai) n:=by
 rw [Xj];constructor
 ·rintro ⟨h1,h2,h3,h4⟩;obtain ⟨q1,q2,q3,q4⟩:=Bk.1 h3;exact ⟨h1,h2,h3,fun i a b c d=>by rw [<-Yi a b c d];exact h4 i EV⟩
 ·rintro ⟨h1,h2,h3,h4⟩;obtain ⟨q1,q2,q3,q4⟩:=Bk.1 h3;exact ⟨h1,h2,h3,fun i hi=>by rw [Yi EV EV EV EV];exact h4 i _ _ _ _⟩
def Aes (ck:Nat->Int) (i:Nat) (c:Int):Nat->Int:=fun j=>if j=i then c else ck j
structure RN (par:ar) (clk:Int) (i:Nat) (e:Bf) (r:A9) (d u:List As):Prop where
 hd:Fh d=true
 hu:Fh u=true
 hk:upQ u=true
 hz:i=0->Ms e=true/\Tn r=true/\d.length=0/\u.length=0
 hf:i≠0->Es par ((i:Nat):Int)=true->Ms e=true/\By r=true/\r.Ai=clk
 hn:i≠0->Es par ((i:Nat):Int)=false->Ba e=true/\e.Ai=clk/\Tn r=true
theorem N0 {par:ar} {clk:Int} {i:Nat} {e:Bf} {r:A9} {d u:List As}:Qn par clk i e r d u=true↔RN par clk i e r d u:=by
 unfold Qn;constructor
 ·intro h;simp only [aw] at h;obtain ⟨⟨⟨h1,h2⟩,h3⟩,h4⟩:=h;refine ⟨h1,h2,h3,fun e=>?_,fun e l=>?_,fun e l=>?_⟩
  ·rw [aH e] at h4;simp only [aw,aF] at h4;exact ⟨h4.1.1.1,h4.1.1.2,h4.1.2,h4.2⟩
  ·rw [aC e,aH l] at h4;simp only [aw,aF] at h4;exact ⟨h4.1.1,h4.1.2,h4.2⟩
  ·rw [aC e,aC (by rw [l];decide)] at h4;simp only [aw,aF] at h4;exact ⟨h4.1.1,h4.1.2,h4.2⟩
 ·intro h;rw [h.hd,h.hu,h.hk,bT,bT,bT];by_cases e:i=0
  ·rw [aH e];obtain ⟨a,b,c,d⟩:=h.hz e;rw [a,b,av c,av d];rfl
  ·rw [aC e];cases l:Es par ((i:Nat):Int)
   ·obtain ⟨a,b,c⟩:=h.hn e l;rw [aC EW,a,av b,c];rfl
   ·obtain ⟨a,b,c⟩:=h.hf e l;rw [aH rfl,a,b,av c];rfl
theorem GN.rn {ck:Nat->Int} {n:Dt} (h:GN ck n) {i:Nat} (hi:i < n.Ap.Ad.length):∃(h1:i < n.Af.length) (h2:i < n.Ac.length) (h3:i < n.down.length) (h4:i < n.up.length),RN n.Ap.Ad (ck i) i n.Af[i] n.Ac[i] n.down[i] n.up[i]:=by
 obtain ⟨q1,q2,q3,q4⟩:=Bk.1 h.l;exact ⟨EV,EV,EV,EV,N0.1 (h.a i _ _ _ _)⟩
theorem GN.mk' {ck:Nat->Int} {n:Dt} (h1:Hj n.Ap=true) (h2:Cr n.Ab=true) (h3:Lp n=true) (h4:∀i (h1:i < n.Af.length) (h2:i < n.Ac.length) (h3:i < n.down.length) (h4:i < n.up.length),RN n.Ap.Ad (ck i) i n.Af[i] n.Ac[i] n.down[i] n.up[i]):GN ck n :=
 ⟨h1,h2,h3,fun i a b c d=>N0.2 (h4 i a b c d)⟩
theorem GN.src {ck:Nat->Int} {n:Dt} {s:Cs} (h:GN ck n) (hs:Cr s=true):GN ck ⟨n.Ap,s,n.Af,n.Ac,n.down,n.up⟩:=⟨h.t,hs,h.l,h.a⟩
theorem GN.el {ck:Nat->Int} {n:Dt} {i:Nat} {e:Bf} (h:GN ck n) (h0:i≠0) (hl:Es n.Ap.Ad ((i:Nat):Int)=false) (he:Ba e=true):GN (Aes ck i e.Ai) ⟨n.Ap,n.Ab,n.Af.set i e,n.Ac,n.down,n.up⟩:=by
 obtain ⟨q1,q2,q3,q4⟩:=Bk.1 h.l;refine .mk' h.t h.s (Bk.2 ⟨by simpa using q1,q2,q3,q4⟩) fun j h1 h2 h3 h4=>?_;have h1':j < n.Af.length:=HR
 have r:=N0.1 (h.a j h1' h2 h3 h4);refine ⟨r.hd,r.hu,r.hk,fun e0=>?_,fun e0 l=>?_,fun e0 l=>?_⟩
 ·have:=r.hz e0
  rwa [cZ EV]
 ·have hne:i≠j:=fun e1=>by subst e1;rw [hl] at l;cases l
  have:=r.hf e0 l;rw [cZ hne];unfold Aes;rw [aC (Ne.symm hne)];exact this
 ·have:=r.hn e0 l;by_cases e1:i=j
  ·subst e1;rw [eH];unfold Aes;rw [aH rfl];exact ⟨he,rfl,this.2.2⟩
  ·rw [cZ e1];unfold Aes;rw [aC (Ne.symm e1)];exact this
theorem GN.rc {ck:Nat->Int} {n:Dt} {i:Nat} {x:A9} (h:GN ck n) (h0:i≠0) (hl:Es n.Ap.Ad ((i:Nat):Int)=true) (he:By x=true):GN (Aes ck i x.Ai) ⟨n.Ap,n.Ab,n.Af,n.Ac.set i x,n.down,n.up⟩:=by
 obtain ⟨q1,q2,q3,q4⟩:=Bk.1 h.l;refine .mk' h.t h.s (Bk.2 ⟨q1,by simpa using q2,q3,q4⟩) fun j h1 h2 h3 h4=>?_;have h2':j < n.Ac.length:=HG
 have r:=N0.1 (h.a j h1 h2' h3 h4);refine ⟨r.hd,r.hu,r.hk,fun e0=>?_,fun e0 l=>?_,fun e0 l=>?_⟩
 ·have:=r.hz e0
  rwa [cZ EV]
 ·have:=r.hf e0 l;by_cases e1:i=j
  ·subst e1;rw [eH];unfold Aes;rw [aH rfl];exact ⟨this.1,he,rfl⟩
  ·rw [cZ e1];unfold Aes;rw [aC (Ne.symm e1)];exact this
 ·have hne:i≠j:=fun e1=>by subst e1;rw [hl] at l;cases l
  have:=r.hn e0 l;rw [cZ hne];unfold Aes;rw [aC (Ne.symm hne)];exact this
theorem Arz {q ps:List As} (hq:upQ q=true) (hp:∀p∈ps,p.Cq=3):upQ (Hf q ps)=true:=by
 unfold upQ Hf at *;rw [dV,hq,bT,aV];exact fun p h=>av (hp p (bR h))
theorem GN.dn {ck:Nat->Int} {n:Dt} (h:GN ck n) (i:Nat) (f:List As->List As) (h0:i=0->f []=[]) (hf:∀q,Fh q=true->Fh (f q)=true):GN ck ⟨n.Ap,n.Ab,n.Af,n.Ac,n.down.modify i f,n.up⟩:=by
 obtain ⟨q1,q2,q3,q4⟩:=Bk.1 h.l;refine .mk' h.t h.s (Bk.2 ⟨q1,q2,by simpa using q3,q4⟩) fun j h1 h2 h3 h4=>?_;have h3':j < n.down.length:=HT
 have r:=N0.1 (h.a j h1 h2 h3' h4);by_cases e1:i=j
 ·subst e1;simp only [fT];refine ⟨hf _ r.hd,r.hu,r.hk,fun e0=>?_,r.hf,r.hn⟩;obtain ⟨a,b,c,d⟩:=r.hz e0;refine ⟨a,b,?_,d⟩;rw [bt.1 c,h0 e0];rfl
 ·simp only [gz,aC e1];exact r
theorem GN.un {ck:Nat->Int} {n:Dt} (h:GN ck n) (i:Nat) (f:List As->List As) (h0:i=0->f []=[]) (hf:∀q,Fh q=true->upQ q=true->Fh (f q)=true/\upQ (f q)=true):GN ck ⟨n.Ap,n.Ab,n.Af,n.Ac,n.down,n.up.modify i f⟩:=by
 obtain ⟨q1,q2,q3,q4⟩:=Bk.1 h.l;refine .mk' h.t h.s (Bk.2 ⟨q1,q2,q3,by simpa using q4⟩) fun j h1 h2 h3 h4=>?_;have h4':j < n.up.length:=by simpa using h4
 have r:=N0.1 (h.a j h1 h2 h3 h4');by_cases e1:i=j
 ·subst e1;simp only [fT];refine ⟨r.hd,(hf _ r.hu r.hk).1,(hf _ r.hu r.hk).2,fun e0=>?_,r.hf,r.hn⟩;obtain ⟨a,b,c,d⟩:=r.hz e0;refine ⟨a,b,c,?_⟩;rw [bt.1 d,h0 e0];rfl
 ·simp only [gz,aC e1];exact r
theorem GN.sp {ck:Nat->Int} {ps:List As} (hp:∀p∈ps,Bo p=true):∀{nodes:ar} {n:Dt},GN ck n->(∀x∈nodes,x.toNat≠0)->GN ck ⟨n.Ap,n.Ab,n.Af,n.Ac,Dp n.down nodes ps,n.up⟩
 | [],_,h,_=>h
 | x::r,n,h,hx=>GN.sp hp (nodes:=r) (n:=⟨n.Ap,n.Ab,n.Af,n.Ac,n.down.modify x.toNat fun q=>Hf q ps,n.up⟩) (h.dn x.toNat _ (fun e=>absurd e (hx x EX)) fun q hq=>Ac4 hq hp) fun y hy=>hx y KM
theorem Af0 {q:List As} (h:Fh q=true):Fh (q.drop 1)=true:=by
 unfold Fh at *;simp only [aw,aF,aV] at h ⊢;exact ⟨JQ,fun p hp=>h.2 p (bq hp)⟩
theorem Az3 {q:List As} (h:upQ q=true):upQ (q.drop 1)=true:=by
 unfold upQ at *;simp only [aV] at h ⊢;exact fun p hp=>h p (bq hp)
theorem GN.pd {ck:Nat->Int} {n:Dt} (h:GN ck n) (i:Nat):GN ck (Ql n i):=h.dn i _ (fun _=>rfl) fun _=>Af0
theorem GN.pu {ck:Nat->Int} {n:Dt} (h:GN ck n) (i:Nat):GN ck (Og n i):=h.un i _ (fun _=>rfl) fun _ a b=>⟨Af0 a,Az3 b⟩
def V0 (l:List Hz):Prop:=∀s∈l,s.Dj.size<=8
theorem Ajm {s:au} (h:s.size<=8):(Agr s).size<=9:=by
 unfold Agr;have:(⟨#[43]⟩:au).size=1:=rfl;rw [aQ];omega
theorem Aqo {l:List Hz} (h:V0 l):(Gh l).size<=9:=by
 unfold Gh;cases l with
 | nil=>decide
 | cons s r =>
  dsimp only
  split
  ·exact Ajm (h s EX)
  ·decide
theorem Ays:∀(l:List Hz) (n:Int),V0 l->∀e∈(rel n l).2.2,e.size<=9
 | [],_,_,e,he=>by simp [rel] at he
 | s::r,n,h,e,he=>by
  unfold rel at he
  split at he
  ·rcases aG.1 he with rfl|he
   ·exact Ajm (h s EX)
   ·exact Ays r _ (fun x hx=>h x IA) e he
  ·simp at he
theorem Ar2 {w:Aj} (h:V0 w.Ao):∀e∈Rc w,e.size<=9:=Ays w.Ao w.next h
theorem Ari:∀(k:Nat) (w:Aj),V0 w.Ao->(∀e∈N8 k w,e.size<=9)/\V0 (I3 k w).Ao
 | 0,w,h=>⟨fun e he=>by simp [N8] at he,h⟩
 | k+1,w,h=>by
  have ih:=Ari k (Y6 w) fun s hs=>h s (bq hs);refine ⟨fun e he=>?_,ih.2⟩;unfold N8 at he;rcases aG.1 he with rfl|he
  ·exact Aqo h
  ·exact ih.1 e he
theorem Aaf {w:Aj} (h:Cy w=true):V0 w.Ao:=fun s hs=>by
 obtain ⟨n0,n1,hl,hit⟩:=Tt h;exact hit s hs
theorem Ani {w:Aj} {t:Int} (h:V0 w.Ao):∀e∈Je w t,e.size<=9:=fun e he=>by
 have hg:=Ari (Ew w.next t) w h;unfold Je at he;rcases aJ.1 he with he|he
 ·exact hg.1 e he
 ·exact Ar2 hg.2 e he
theorem Auk {w:Aj} {t:Int} (h:Cy w=true):(Je w t).length<=40000:=by
 have h1:=(Uy (t:=t) h).2.2.1;have h2:Ew w.next t<=32767:=by
  unfold Ew
  split
  ·rename_i hb;unfold To Ff at hb;simp only [aw,aF] at hb;omega
  ·omega
 omega
theorem Bcf {x:Aj} {k:Nat} {s:Hz} (h:V0 x.Ao) (hs:s.Dj.size<=8):V0 (Md x k s):=fun y hy=>by
 unfold Md at hy;rcases bC hy with hy|rfl
 ·unfold Mi at hy;rcases aJ.1 hy with hy|hy
  ·exact h y hy
  ·rw [List.eq_of_mem_replicate hy];decide
 ·exact hs
theorem Bbj {r:A9} {p:As} (hg:Lz r) (hp:Bo p=true):∀e∈Ii r p,e.size<=1000000:=fun e he=>by
 have hd:p.data.size<=8:=by
  unfold Bo Pk at hp;simp only [aw,aF] at hp;omega
 have hst:=(Qr hg hp).1;have htk:=(Tm hg hp).1;unfold Ii at he
 split at he
 ·unfold Mp at he;rcases aJ.1 he with he|he
  ·unfold Kw at he
   split at he
   ·simp at he
   ·unfold Lu at he
    split at he
    ·simp at he
    ·have:=Ar2 (w:=Y5 (Eb r p) p.Ae p.data) (Bcf (s:=⟨true,p.data⟩) (Aaf hst) hd) e he;omega
  ·unfold Ov at he
   split at he
   ·split at he
    ·have:=Ani (Aaf htk) e he;omega
    ·rw [aL] at he;subst he;decide
   ·simp at he
 ·simp at he
theorem Adc {r:A9} (hg:Lz r):(∀e∈Hg r,e.size<=1000000)/\(Hg r).length<=40000:=by
 unfold Hg
 split
 ·exact ⟨fun e he=>by simp at he,EX⟩
 ·exact ⟨fun e he=>by have:=Ani (Aaf hg.w) e he;omega,Auk hg.w⟩
theorem Agt {w:World} {t:TypeId} {a:aj} {c:Nat} {l:ar} {F:aq} (h:(Pc.ow Bb t (ab a l.length c) l F).P w):∃F',(Pc.isv Wh (.agg #[ab a l.length c]) ⟨l⟩ F').P w:=by
 obtain ⟨F', -,hs⟩:=h.2.read;exact ⟨F',_,rfl,_,rfl,hs⟩
theorem Zt (t:Q0) (node:Int) (v:Value) (F:aq) (hl:t.Ad.length<=1000000):Fn prog 190 [v,aa node] [.isv Wh v t F] [] (fun (_:KiS)=>True) (fun z=>.slice z.a (Iq t.Ad node).length z.c) (fun z=>[.ow Bb 3 (.slice z.a (Iq t.Ad node).length z.c) (Iq t.Ad node) z.F]):=by
 refine enter func190 rfl ntmps190 fun w0=>?_;refine Pw ?_;rintro a1 c1 F1 rfl l1;refine Cj Bb 3 ?_;refine go ?_;intros;refine Ca [1,4,9,10] (fun z:KiS=>[(5,.slice z.a (Ke t.Ad node z.k).length z.c),(11,aa (z.k:Nat))]) (fun z=>[.ow Bb 3 (.slice z.a (Ke t.Ad node z.k).length z.c) (Ke t.Ad node z.k) z.F]) (fun z=>z.k<=t.Ad.length) (fun z=>t.Ad.length - z.k) ⟨0,_,_,_⟩ (aE _) fun z hz=>?_;have hkl:=Af7 t.Ad node z.k;refine go ?_;refine A1 rfl (fun h1=>?_) (fun h1=>?_)
 ·have hh:z.k < t.Ad.length:=EV
  refine In (xs:=t.Ad) z.k ?_;rintro hi b o e1;rw [e1];refine go ?_;refine A1 rfl (fun h2=>?_) (fun h2=>?_)
  ·refine Ih ?_;intros;apply wO;refine Np (Oq _) Da fun a9 c9 F9=>?_;refine go ?_;rw [<-Apt hh h2];exact EO
  ·rw [<-Atq hh h2];exact DS
 ·rw [show Ke t.Ad node z.k=Iq t.Ad node by unfold Iq;rw [show z.k=t.Ad.length by omega]];exact CI
theorem Af3 {r:A9} {p:As} (hg:Lz r) (hp:Bo p=true):∀e∈Ii r p,e.size<=1000000:=Bbj hg hp
theorem Ark:∀(l:ar) (lo:Int),l.Pairwise (· < ·)->(∀z∈l,lo<=z/\z<=7)->(l.length:Int)<=max 0 (8 - lo)
 | [],_,_,_=>by simp;omega
 | x::r,lo,hp,hb=>by
  rw [dh] at hp;have:=Ark r (x+1) hp.2 fun z hz=>⟨by have:=hp.1 z hz;omega,(hb z IS).2⟩;have:=hb x EX;rw [aU];omega
theorem Pe {e:Bf} (hg:Ba e=true) {x:Gz} (hx:x∈e.Ah):x.Bg.length<=7:=by
 have h:=(Ph.1 ((Hb.1 hg).2.2.1 x hx)).2.2.1;have:=Ark x.Bg 1 h.1 h.2;omega
theorem Acb {i:Nat}:1<=M5 i/\M5 i<=8:=by unfold M5;omega
theorem Gp {n:Dt} {i:Nat} (h:i < n.Ac.length):P4 n i=n.Ac[i]:=Pq h _
theorem Js {n:Dt} {i:Nat} (h:i < n.Af.length):Pp n i=n.Af[i]:=Pq h _
theorem Asx (n:Dt) (i:Nat) (p:As) (g:Nat) (a1:aj) (c1:Nat) (F1:aq) (a2:aj) (c2:Nat) (F2:aq) (a3:aj) (c3:Nat) (F3:aq) (a4:aj) (c4:Nat) (F4:aq) (a5:aj) (c5:Nat) (F5:aq) (a6:aj) (c6:Nat) (F6:aq) (a7:aj) (c7:Nat) (F7:aq) (FT:aq) (hl:Lp n=true) (hi:i < n.Ap.Ad.length) (h8:O9 n.Ap.Ad) (hr:Es n.Ap.Ad (i:Nat)=true->By (P4 n i)=true) (he:Es n.Ap.Ad (i:Nat)=false->Ba (Pp n i)=true) (hp:Bo p=true) (hps:p.data.size<=maxLen) :
  Fn prog 265 [Gc g 0 0,aa (i:Nat),.agg #[aa (p).Cq,aa (p).Ae,aa (p).Am,aa (p).Er,af (p).data]] [Gk FT] [.row g 37 0 [] [ab a1 n.Ap.Ad.length c1,aa n.Ab.Aa.Am,aa n.Ab.Aa.size,ab a2 n.Ab.Aa.Ak.length c2,aa n.Ab.Ai,aa n.Ab.quiet,ab a3 n.Ab.holds.length c3,ab a4 n.Af.length c4,ab a5 n.Ac.length c5,ab a6 n.down.length c6,ab a7 n.up.length c7] [],.ow Bb 3 (ab a1 n.Ap.Ad.length c1) n.Ap.Ad F1,.ow A8 9 (ab a2 n.Ab.Aa.Ak.length c2) n.Ab.Aa.Ak F2,.ow Bx 191 (ab a3 n.Ab.holds.length c3) n.Ab.holds F3,.ow Ch 122 (ab a4 n.Af.length c4) n.Af F4,.ow B9 76 (ab a5 n.Ac.length c5) n.Ac F5,.ow (Kl Al 141) 125 (ab a6 n.down.length c6) n.down F6,.ow (Kl Al 141) 125 (ab a7 n.up.length c7) n.up F7] (fun (_:NV × KA)=>True) (fun z=>.slice z.2.a (C6 n i p).2.length z.2.c) (fun z=>[.row g 37 0 [] [ab z.1.a1 n.Ap.Ad.length z.1.c1,aa (C6 n i p).1.Ab.Aa.Am,aa (C6 n i p).1.Ab.Aa.size,.slice z.1.a2 (C6 n i p).1.Ab.Aa.Ak.length z.1.c2,aa (C6 n i p).1.Ab.Ai,aa (C6 n i p).1.Ab.quiet,.slice z.1.a3 (C6 n i p).1.Ab.holds.length z.1.c3,ab z.1.a4 n.Af.length z.1.c4,ab z.1.a5 n.Ac.length z.1.c5,ab z.1.a6 n.down.length z.1.c6,ab z.1.a7 n.up.length z.1.c7] [],.ow Bb 3 (ab z.1.a1 n.Ap.Ad.length z.1.c1) (C6 n i p).1.Ap.Ad z.1.F1,.ow A8 9 (.slice z.1.a2 (C6 n i p).1.Ab.Aa.Ak.length z.1.c2) (C6 n i p).1.Ab.Aa.Ak z.1.F2,.ow Bx 191 (.slice z.1.a3 (C6 n i p).1.Ab.holds.length z.1.c3) (C6 n i p).1.Ab.holds z.1.F3,.ow Ch 122 (ab z.1.a4 n.Af.length z.1.c4) (C6 n i p).1.Af z.1.F4,.ow B9 76 (ab z.1.a5 n.Ac.length z.1.c5) (C6 n i p).1.Ac z.1.F5,.ow (Kl Al 141) 125 (ab z.1.a6 n.down.length z.1.c6) (C6 n i p).1.down z.1.F6,.ow (Kl Al 141) 125 (ab z.1.a7 n.up.length z.1.c7) (C6 n i p).1.up z.1.F7,.ow A8 9 (.slice z.2.a (C6 n i p).2.length z.2.c) (C6 n i p).2 z.2.F]):=by
 obtain ⟨q1,q2,q3,q4⟩:=Bk.1 hl;have hn8:=h8.n1;obtain ⟨d0,d1_⟩:=Acb (i:=i);refine enter func265 rfl ntmps265 fun w0=>?_;refine go ?_;intros;refine cfr (fun w st=>by obtain ⟨Fq,hq⟩:=Agt (st.get (p:=.ow Bb 3 (ab a1 n.Ap.Ad.length c1) n.Ap.Ad F1) FA);exact ⟨_,I4 hq,rfl,Xm n.Ap i _ Fq⟩) (fun _ _=>?_);refine Oz ?_;cases hlf:Es n.Ap.Ad (i:Nat)
 rotate_left
 ·have hir:i < n.Ac.length:=EV
  have hgr:=Ej.1 (Gp hir▸hr hlf);have hev:=(Uo (d:=M5 i) hgr hp d0 d1_).2;rw [show C6 n i p=(⟨n.Ap,n.Ab,n.Af,n.Ac.set i (Dm n.Ac[i] p (M5 i)),n.down,n.up⟩,T9 i (Ii n.Ac[i] p)) by unfold C6;rw [aH hlf,Gp hir]];refine go ?_;refine Ace (xs:=n.Ac) (m:=5) i ?_ rfl hir;rintro _ g5 A5 cs B5 k1 k2 J1 Ji J2 rfl - hc5 hH5;refine Is ?_;rintro b1 d1 G1 b2 d2 G2 ev l1 l2;obtain rfl:=O3 ev;refine Ar [5,6] [] ?_;refine C8 0 1 2 3 ?_;refine C8 4 5 6 7 ?_;refine dt 8 ?_;refine dN 9 ?_;refine oC ?_;refine Be (Aim i EV) fun _ _=>?_;refine dk ?_;refine dN 10 ?_;refine oC ?_
  refine Be (Bau n.Ac[i] p (M5 i) g5 76 (0+i * 5) A5 B5 b1 d1 G1 b2 d2 G2 hgr hp d0 d1_) fun s _=>?_;refine dk ?_;refine dN 11 ?_;refine oC ?_;refine cfr (fun w st=>by obtain ⟨Fq, -,hq⟩:=(st.get (p:=.ow A8 9 (.slice s.ae (Ii n.Ac[i] p).length s.ce) (Ii n.Ac[i] p) s.Fe) FA).2.read;exact ⟨[.sl A8 (.slice s.ae (Ii n.Ac[i] p).length s.ce) (Ii n.Ac[i] p) Fq,Gk FT],Up ⟨EW,hq⟩ (st.get (p:=Gk FT) FA),rfl,Azx i _ _ _ Fq FT EV EV (Af3 hgr hp)⟩) (fun u _=>?_);refine Oz ?_;refine dk ?_;refine dt 12 ?_;refine dd ?_;refine go ?_;refine Kn (Dm n.Ac[i] p (M5 i)) ?_
  refine Wa _ hH5 rfl fun J5=>?_;refine ret (⟨a1,c1,F1,a2,c2,F2,a3,c3,F3,a4,c4,F4,_,c5,J5,a6,c6,F6,a7,c7,F7⟩,⟨0,_,_,_⟩) trivial rfl
 ·have hir:i < n.Af.length:=EV
  have hge:Ba n.Af[i]=true:=Js hir▸he hlf;have hel:=(Hb.1 hge).2.1;have hkl:=Uv n.Ap.Ad ((i:Nat):Int);have hkx:∀x∈Iq n.Ap.Ad ((i:Nat):Int),0<=x/\x.toNat < n.down.length:=fun x hx=>by have:=Ln h8 hx;omega
  refine go ?_;refine cfr (fun w st=>by obtain ⟨Fq,hq⟩:=Agt (st.get (p:=.ow Bb 3 (ab a1 n.Ap.Ad.length c1) n.Ap.Ad F1) FA);exact ⟨_,I4 hq,rfl,Zt n.Ap ((i:Nat):Int) _ Fq JK⟩) (fun u _=>?_);refine Oz ?_;refine Av (E:=Bb) (xs:=Iq n.Ap.Ad ((i:Nat):Int)) fun Fk=>?_;refine Cj A8 9 ?_;refine go ?_;refine A1 rfl (fun hk=>?_) (fun hk=>?_)
  ·rw [show C6 n i p=(⟨n.Ap,n.Ab,n.Af.set i (Px n.Af[i] p.Ae),n.Ac,Dp n.down (Um n.Af[i] p.Ae (Iq n.Ap.Ad ((i:Nat):Int))) [p],n.up⟩,[]) by unfold C6 Aem Zb;rw [aC JP,aH hk,aH hk,Js hir]];refine go ?_;refine Ace (xs:=n.Af) (m:=2) i ?_ rfl hir;rintro _ g5 A5 cs B5 k1 k2 J1 Ji J2 rfl - hc5 hH5;refine H8 ?_;rintro b1 d1 G1 ev l1;obtain rfl:=O3 ev;refine Ar [6,7] [] ?_;refine C8 0 1 2 3 ?_;refine C8 4 5 6 7 ?_;refine dt 8 ?_;refine dN 9 ?_;refine oC ?_
   refine Be (Ash n.Af[i] p.Ae (Iq n.Ap.Ad ((i:Nat):Int)) g5 122 (0+i * 2) A5 B5 b1 d1 G1 u.a u.c Fk EV (fun x hx=>by have:=Pe hge hx;omega) EV) fun s _=>?_;refine dk ?_;refine dt 10 ?_;refine dd ?_;refine Gt (Px n.Af[i] p.Ae) ?_;refine Wa _ hH5 rfl fun J5=>?_;refine Av (E:=Bb) (xs:=Um n.Af[i] p.Ae (Iq n.Ap.Ad ((i:Nat):Int))) fun Fk2=>?_;refine Ih ?_;intros;refine Eh (E:=Al) (xs:=[p]) (De p hps) ?_ EX;refine Av (E:=Al) (xs:=[p]) fun Fp=>?_;refine go ?_
   refine Be (Zv n.down (Um n.Af[i] p.Ae (Iq n.Ap.Ad ((i:Nat):Int))) [p] g _ _ _ _ _ _ _ _ _ _ a6 _ c6 F6 _ _ Fk2 _ _ Fp rfl (fun x hx=>hkx x (Aa0 x hx))) fun J6 _=>?_;refine go ?_;refine ret (⟨a1,c1,F1,a2,c2,F2,a3,c3,F3,_,c4,J5,a5,c5,F5,a6,c6,J6,a7,c7,F7⟩,⟨0,none,0,[]⟩) trivial rfl
  ·rw [show C6 n i p=(⟨n.Ap,n.Ab,n.Af,n.Ac,Dp n.down (Iq n.Ap.Ad ((i:Nat):Int)) [p],n.up⟩,[]) by unfold C6 Aem Zb;rw [aC JP,aC hk,aC hk]];refine Ih ?_;intros;refine Eh (E:=Al) (xs:=[p]) (De p hps) ?_ EX;refine Av (E:=Al) (xs:=[p]) fun Fp=>?_;refine go ?_;refine Be (Zv n.down (Iq n.Ap.Ad ((i:Nat):Int)) [p] g _ _ _ _ _ _ _ _ _ _ a6 _ c6 F6 _ _ Fk _ _ Fp rfl hkx) fun J6 _=>?_;refine go ?_;refine ret (⟨a1,c1,F1,a2,c2,F2,a3,c3,F3,a4,c4,F4,a5,c5,F5,a6,c6,J6,a7,c7,F7⟩,⟨0,none,0,[]⟩) trivial rfl
theorem Be8 (x:Cs) (n:Int):(Mk x n).Aa=x.Aa:=by unfold Mk;split <;> rfl
theorem Be6 (x:Cs) (n:Int):(Mk x n).Ai=x.Ai:=by unfold Mk;split <;> rfl
theorem Be7 (x:Cs) (n:Int):(Mk x n).quiet=x.quiet:=by unfold Mk;split <;> rfl
theorem Arx {n:Dt} {i k:Nat} (hg:O9 n.Ap.Ad) (hi:i < n.Ap.Ad.length) (h0:i≠0) (h:Y4 n i=k):n.Ap.Ad[i]=((k:Nat):Int)/\k < i/\Es n.Ap.Ad ((k:Nat):Int)=false:=by
 have h1:=hg.p i hi EV;have e:n.Ap.Ad.getD i 0=n.Ap.Ad[i]:=Pq hi 0;unfold Y4 at h;rw [e] at h;have e2:n.Ap.Ad[i]=((k:Nat):Int):=EV
 refine ⟨e2,EV,?_⟩;unfold Es;rw [<-e2,av (aB hi)];rfl
theorem Az4 (n:Dt) (i:Nat) (p:As) (g:Nat) (a1:aj) (c1:Nat) (F1:aq) (a2:aj) (c2:Nat) (F2:aq) (a3:aj) (c3:Nat) (F3:aq) (a4:aj) (c4:Nat) (F4:aq) (a5:aj) (c5:Nat) (F5:aq) (a6:aj) (c6:Nat) (F6:aq) (a7:aj) (c7:Nat) (F7:aq) (hl:Lp n=true) (h0:i≠0) (hi:i < n.Ap.Ad.length) (h8:O9 n.Ap.Ad) (hsrc:Cr n.Ab=true) (he:∀k,k≠0->k < n.Ap.Ad.length->Es n.Ap.Ad (k:Nat)=false->Ba (Pp n k)=true) (hp:Bo p=true) (hps:p.data.size<=maxLen) :
  Fn prog 266 [Gc g 0 0,aa (i:Nat),.agg #[aa (p).Cq,aa (p).Ae,aa (p).Am,aa (p).Er,af (p).data]] [] [.row g 37 0 [] [ab a1 n.Ap.Ad.length c1,aa n.Ab.Aa.Am,aa n.Ab.Aa.size,ab a2 n.Ab.Aa.Ak.length c2,aa n.Ab.Ai,aa n.Ab.quiet,ab a3 n.Ab.holds.length c3,ab a4 n.Af.length c4,ab a5 n.Ac.length c5,ab a6 n.down.length c6,ab a7 n.up.length c7] [],.ow Bb 3 (ab a1 n.Ap.Ad.length c1) n.Ap.Ad F1,.ow A8 9 (ab a2 n.Ab.Aa.Ak.length c2) n.Ab.Aa.Ak F2,.ow Bx 191 (ab a3 n.Ab.holds.length c3) n.Ab.holds F3,.ow Ch 122 (ab a4 n.Af.length c4) n.Af F4,.ow B9 76 (ab a5 n.Ac.length c5) n.Ac F5,.ow (Kl Al 141) 125 (ab a6 n.down.length c6) n.down F6,.ow (Kl Al 141) 125 (ab a7 n.up.length c7) n.up F7] (fun (_:NV)=>True) (fun _=>.tuple #[]) (fun z=>[.row g 37 0 [] [ab z.a1 n.Ap.Ad.length z.c1,aa (Qb n i p).Ab.Aa.Am,aa (Qb n i p).Ab.Aa.size,.slice z.a2 (Qb n i p).Ab.Aa.Ak.length z.c2,aa (Qb n i p).Ab.Ai,aa (Qb n i p).Ab.quiet,.slice z.a3 (Qb n i p).Ab.holds.length z.c3,ab z.a4 n.Af.length z.c4,ab z.a5 n.Ac.length z.c5,ab z.a6 n.down.length z.c6,ab z.a7 n.up.length z.c7] [],.ow Bb 3 (ab z.a1 n.Ap.Ad.length z.c1) (Qb n i p).Ap.Ad z.F1,.ow A8 9 (.slice z.a2 (Qb n i p).Ab.Aa.Ak.length z.c2) (Qb n i p).Ab.Aa.Ak z.F2,.ow Bx 191 (.slice z.a3 (Qb n i p).Ab.holds.length z.c3) (Qb n i p).Ab.holds z.F3,.ow Ch 122 (ab z.a4 n.Af.length z.c4) (Qb n i p).Af z.F4,.ow B9 76 (ab z.a5 n.Ac.length z.c5) (Qb n i p).Ac z.F5,.ow (Kl Al 141) 125 (ab z.a6 n.down.length z.c6) (Qb n i p).down z.F6,.ow (Kl Al 141) 125 (ab z.a7 n.up.length z.c7) (Qb n i p).up z.F7]):=by
 obtain ⟨q1,q2,q3,q4⟩:=Bk.1 hl;have hn8:=h8.n1;obtain ⟨n0,n1⟩:=Kr hp;have hone:∀x∈[((i:Nat):Int)],0<=x/\x.toNat < n.down.length:=fun x hx=>by
  rw [aL] at hx;subst hx;omega
 obtain ⟨k,hk⟩:∃k,Y4 n i=k:=⟨_,rfl⟩;obtain ⟨e1,e2,e3⟩:=Arx h8 hi h0 hk;refine enter func266 rfl ntmps266 fun w0=>?_;refine Rm (xs:=n.Ap.Ad) (m:=1) Ek i ?_ EZ rfl hi;rintro _ gp A0 cs B0 rfl rfl hr hH;obtain ⟨rfl, -⟩:=hr w0;rw [e1];refine go ?_;intros;refine P5 ((k:Nat):Int) hH (fun w=>⟨rfl,rfl⟩) ?_;rw [show n.Ap.Ad.set i ((k:Nat):Int)=n.Ap.Ad by rw [<-e1,bv]];refine A1 rfl (fun h5=>?_) (fun h5=>?_)
 ·obtain rfl:k=0:=EV
  rw [show Qb n i p=⟨n.Ap,Mk n.Ab p.Ae,n.Af,n.Ac,Dp n.down [((i:Nat):Int)] (No n.Ab p),n.up⟩ by unfold Qb;rw [aH hk]];dsimp only;rw [Be8,Be6,Be7];refine go ?_;refine Ar7 [ab (some ⟨gp,0,none⟩) n.Ap.Ad.length c1] [aa n.Ab.Aa.Am,aa n.Ab.Aa.size,ab a2 n.Ab.Aa.Ak.length c2,aa n.Ab.Ai,aa n.Ab.quiet,ab a3 n.Ab.holds.length c3] [ab a4 n.Af.length c4,ab a5 n.Ac.length c5,ab a6 n.down.length c6,ab a7 n.up.length c7] ?_;refine Ar [2] [] ?_;refine C8 0 1 3 4 ?_;refine Dg 5 6 ?_;refine dM 2 7 ?_ ?_
  ·apply Iz;rfl;rfl;rfl;rfl;exact Ir;exact Io;intro _;refine Eh (E:=Bb) (xs:=[((i:Nat):Int)]) (Oq _) ?_ EX;refine Av (E:=Bb) (xs:=[((i:Nat):Int)]) fun Fo=>?_;refine dk ?_;refine dN 7 ?_;refine oC ?_;refine Be (Afg n.Ab.Aa n.Ab.holds p g 37 (0+1) _ _ a2 a3 c2 c3 n.Ab.Ai n.Ab.quiet F2 F3 hsrc n0 n1 hps) fun z _=>?_
   refine Ahg [ab (some ⟨gp,0,none⟩) n.Ap.Ad.length c1] [aa n.Ab.Aa.Am,aa n.Ab.Aa.size,ab a2 n.Ab.Aa.Ak.length c2,aa n.Ab.Ai,aa n.Ab.quiet,.slice z.a2 (Mk n.Ab p.Ae).holds.length z.c2] [ab a4 n.Af.length c4,ab a5 n.Ac.length c5,ab a6 n.down.length c6,ab a7 n.up.length c7] ?_;refine Av (E:=Al) (xs:=No n.Ab p) fun Fq=>?_;refine dk ?_;refine dN 8 ?_;refine oC ?_;refine Be (Zv n.down [((i:Nat):Int)] (No n.Ab p) g _ _ _ _ _ _ _ _ _ _ a6 _ c6 F6 _ _ Fo _ _ Fq rfl hone) fun J6 _=>?_;refine dk ?_;refine dd ?_;refine go ?_
   exact ES
  ·refine oC ?_;refine Be (Afg n.Ab.Aa n.Ab.holds p g 37 (0+1) _ _ a2 a3 c2 c3 n.Ab.Ai n.Ab.quiet F2 F3 hsrc n0 n1 hps) fun z _=>?_;refine Ahg [ab (some ⟨gp,0,none⟩) n.Ap.Ad.length c1] [aa n.Ab.Aa.Am,aa n.Ab.Aa.size,ab a2 n.Ab.Aa.Ak.length c2,aa n.Ab.Ai,aa n.Ab.quiet,.slice z.a2 (Mk n.Ab p.Ae).holds.length z.c2] [ab a4 n.Af.length c4,ab a5 n.Ac.length c5,ab a6 n.down.length c6,ab a7 n.up.length c7] ?_;refine Av (E:=Al) (xs:=No n.Ab p) fun Fq=>?_;refine dk ?_;refine dN 2 ?_;apply Iz;rfl;rfl;rfl;rfl;exact Ir;exact Io;intro _
   refine Eh (E:=Bb) (xs:=[((i:Nat):Int)]) (Oq _) ?_ EX;refine Av (E:=Bb) (xs:=[((i:Nat):Int)]) fun Fo=>?_;refine dk ?_;refine dN 8 ?_;refine oC ?_;refine Be (Zv n.down [((i:Nat):Int)] (No n.Ab p) g _ _ _ _ _ _ _ _ _ _ a6 _ c6 F6 _ _ Fo _ _ Fq rfl hone) fun J6 _=>?_;refine dk ?_;refine dd ?_;refine go ?_;exact ES
 have h6:k≠0:=EV
 have hkl:k < n.Af.length:=EV
 have hku:k < n.up.length:=EV
 have hge:Ba n.Af[k]=true:=Js hkl▸he k h6 EV e3;have hel:=(Hb.1 hge).2.1;obtain ⟨hc0,hc1⟩:=Na.1 (Hb.1 hge).1;rw [show Qb n i p=⟨n.Ap,n.Ab,n.Af.set k (Nn n.Af[k] p.Ae ((i:Nat):Int)),n.Ac,Dp n.down [((i:Nat):Int)] [Zu p],if Acf n.Af[k] p.Ae then n.up.modify k fun q=>Hf q [p] else n.up⟩ by unfold Qb;rw [aC EV,hk,Js hkl]];refine go ?_;refine Ace (xs:=n.Af) (m:=2) k ?_ rfl hkl;rintro _ g5 A5 cs B5 k1 k2 J1 Ji J2 rfl - hc5 hH5;refine H8 ?_;rintro b1 d1 G1 ev l1;obtain rfl:=O3 ev;refine Ar [5,6] [] ?_;refine C8 0 1 2 3 ?_;refine C8 4 5 6 7 ?_;refine dt 8 ?_;refine dN 9 ?_
 refine oC ?_;refine Be (Ao2 n.Af[k] p.Ae ((i:Nat):Int) g5 122 (0+k * 2) A5 B5 b1 d1 G1 EV (fun x hx=>⟨by have:=Pe hge hx;omega,Amm hge hx⟩) EV EV) fun s _=>?_;refine dk ?_;refine dt 10 ?_;refine dd ?_;refine Gt (Nn n.Af[k] p.Ae ((i:Nat):Int)) ?_;refine Wa _ hH5 rfl fun J5=>?_;refine Ih ?_;intros;refine Eh (E:=Bb) (xs:=[((i:Nat):Int)]) (Oq _) ?_ EX;refine Av (E:=Bb) (xs:=[((i:Nat):Int)]) fun Fo=>?_;refine Eh (E:=Al) (xs:=[Zu p]) (De (Zu p) (aE _)) ?_ EX;refine Av (E:=Al) (xs:=[Zu p]) fun Fp=>?_;refine go ?_
 refine Be (Zv n.down [((i:Nat):Int)] [Zu p] g _ _ _ _ _ _ _ _ _ _ a6 _ c6 F6 _ _ Fo _ _ Fp rfl hone) fun J6 _=>?_;cases hf:Acf n.Af[k] p.Ae
 ·rw [aC EW];refine go ?_;refine V9 ?_;refine ret (⟨some ⟨gp,0,none⟩,c1,[gp],a2,c2,F2,a3,c3,F3,_,c4,J5,a5,c5,F5,a6,c6,J6,a7,c7,F7⟩:NV) trivial rfl
 ·rw [aH rfl,show (n.up.modify k fun q=>Hf q [p])=n.up.set k (U3 n.up[k] p) by rw [Ic hku,Ayk]];refine go ?_;refine Ar [0,6] [] ?_;refine C8 0 1 2 3 ?_;refine Dg 4 5 ?_;refine dN 6 ?_;refine oC ?_;refine Be (Ac1 n.up k p a7 _ c7 F7 rfl hku hps) fun J7 _=>?_;refine dk ?_;refine dd ?_;refine go ?_;refine V9 ?_;refine ret (⟨some ⟨gp,0,none⟩,c1,[gp],a2,c2,F2,a3,c3,F3,_,c4,J5,a5,c5,F5,a6,c6,J6,a7,c7,J7⟩:NV) trivial rfl
def Ax0 (es:List Gz) (ck:Int):List Gz:=es.filter fun x=>!decide (x.Cg<=ck)
theorem Aw1 (x:Gz) (ck:Int) (gb g o:Nat) (u q:Value) (G:aq):FV 311 [u,Gc gb 0 0] [.isv D5 u x G,.cel gb 0 [Gc g o 0],.cel g o [aa ck,q]] (.bool (decide (x.Cg<=ck))):=by
 refine enter func311 rfl ntmps311 fun w0=>?_;refine Ajk ?_;rintro a1 c1 F1 rfl l1;refine go ?_;intros;refine Ar [0,3,4] [] ?_;refine C8 0 1 2 3 ?_;refine C8 4 5 6 7 ?_;exact CQ
theorem Aw2 (es:List Gz) (ck:Int) (gb tb g t o:Nat) (A B:am) (a:aj) (c:Nat) (F:aq) :
  Fn prog 310 [ab a es.length c,.func (.func 311) #[] #[Gc gb 0 0]] [] [.ow Eu 193 (ab a es.length c) es F,.row gb tb 0 [] [Gc g o 0] [],.row g t o A [aa ck,ab a es.length c] B] (fun (_:aj × Nat × aq)=>True)
   (fun z=>.slice z.1 (Ax0 es ck).length z.2.1) (fun z=>[.ow Eu 193 (.slice z.1 (Ax0 es ck).length z.2.1) (Ax0 es ck) z.2.2,.row gb tb 0 [] [Gc g o 0] [],.row g t o A [aa ck,ab a es.length c] B]):=by
 refine Apn rfl fun w ⟨hnd,ho⟩ _ hk=>?_;refine (Ab1 _ (Ve EY) #[Gc gb 0 0] _ es F (fun x=>decide (x.Cg<=ck)) w ho hnd fun k hk2 wr u G hK hu=>?_).mono ?_
 ·have hr:=hk wr hK;have r1:=hr (.row gb tb 0 [] [Gc g o 0] []) EX;have r2:=hr (.row g t o A [aa ck,ab a es.length c] B) EX;refine (Aw1 es[k] ck gb g o u (ab a es.length c) G).val wr ?_;intro p hp;simp only [aG,aT,bl] at hp;rcases hp with rfl|rfl|rfl
  ·exact hu
  ·exact ⟨EX,Ik r1⟩
  ·exact ⟨EX,Ik r2⟩
 ·rintro e w' ⟨v',F',rfl,h1,h2,h3,h4⟩;exact CO
theorem Bap (e:Bf) (g t o:Nat) (A B:am) (a:aj) (c:Nat) (F:aq) (h0:-1000000<=e.Ai) (h1:e.Ai<=1000000) :
  Fn prog 260 [Gc g o 0] [] [.row g t o A [aa e.Ai,ab a e.Ah.length c] B,.ow Eu 193 (ab a e.Ah.length c) e.Ah F] (fun (_:aj × Nat × aq)=>True)
   (fun _=>.tuple #[]) (fun z=>[.row g t o A [aa (Ep e).Ai,.slice z.1 (Ep e).Ah.length z.2.1] B,.ow Eu 193 (.slice z.1 (Ep e).Ah.length z.2.1) (Ep e).Ah z.2.2]):=by
 refine enter func260 rfl ntmps260 fun w0=>?_;refine go ?_;intros;refine Ar [0,1] [9] ?_;refine C8 0 1 2 3 ?_;refine Dg 4 5 ?_;refine dN 6 ?_;refine oC ?_;refine Be (Aw2 e.Ah (e.Ai+1) _ _ g t o A B a c F) fun z _=>?_;refine dk ?_;refine Dg 7 8 ?_;refine dN 9 ?_;refine oS ?_;refine N2 ?_;refine dd ?_;refine V9 ?_;exact BM
theorem Apr {e:Bf} (h:Ba e=true) (hc:e.Ai < 9999):Ba (Ep e)=true:=by
 obtain ⟨h1,h2,h3,h4⟩:=Hb.1 h;have h5:=Na.1 h1;unfold Ep;refine Hb.2 ⟨Na.2 ⟨by show 0<=e.Ai+1;omega,by show e.Ai+1<=9999;omega⟩,bD (bJ _ _) h2,fun x hx=>?_,h4.filter _⟩;obtain ⟨hx1,hx2⟩:=bL.1 hx;obtain ⟨a,b,c,d,f⟩:=Ph.1 (h3 x hx1);simp only [bu,bM] at hx2;exact Ph.2 ⟨a,b,c,by show e.Ai+1+1<=x.Cg;omega,by show x.Cg<=e.Ai+1+6;omega⟩
theorem Auj {k n t l:Int} {s:au} (hk:1<=k/\k<=5) (hn:B8 n=true) (ht:B8 t=true) (hl:B8 l=true) (hg:gp t l<=32767) (hs:Pk s=true) (he:s=⟨#[]⟩\/k<=2):Bo ⟨k,n,t,l,s⟩=true:=by
 unfold Bo Ff;simp only [aw,bW,aF];refine ⟨⟨⟨⟨⟨⟨hk,hn⟩,ht⟩,hl⟩,hs⟩,hg⟩,?_⟩;rcases he with h|h
 ·exact .inl (.inl h)
 ·by_cases h1:k=1
  ·exact .inl (.inr h1)
  ·exact .inr EV
theorem Aez:Pk ⟨#[]⟩=true:=by decide
theorem Akz {x:Aw} (h:D6 x=true):B8 x.Am=true/\B8 (Lo x)=true/\gp x.Am (Lo x)<=32767:=by
 obtain ⟨⟨t0,t1⟩,⟨s0,s1⟩,hl, -⟩:=Dq.1 h;refine ⟨A4.2 ⟨t0,t1⟩,Pm _ _,?_⟩;unfold Lo gp Cd;omega
theorem Ajz {x:Aw} (h:D6 x=true):Bo (Rs x)=true:=by
 obtain ⟨a,b,c⟩:=Akz h;exact Auj EW a a b c Aez (.inl rfl)
theorem Aqx {x:Aw} {q:Int} (h:D6 x=true):∀p∈Nk x q,Bo p=true:=fun p hp=>by
 unfold Nk at hp
 split at hp
 ·simp at hp
 ·rw [aL] at hp;subst hp;exact Ajz h
theorem Awe {x:Aw} {n:Int} (h:D6 x=true) (hn:B8 n=true) (hh:I8 x n=true):Bo (Al7 x n)=true:=by
 obtain ⟨a,b,c⟩:=Akz h;have hi:=(Dq.1 h).2.2.2;have hl:=Aa6 hh;exact Auj EW hn a b c (by rw [Us hl];exact aV.1 hi _ (aB hl)) (.inr EW)
theorem Aij {x:Aw} {n:Int} (h:D6 x=true) (hn:B8 n=true):Bo (Aaw x n)=true:=by
 obtain ⟨a,b,c⟩:=Akz h;exact Auj EW hn a b c Aez (.inl rfl)
theorem Auz {x:Cs} {p:As} (h:D6 x.Aa=true) (hp:Bo p=true) (hk:p.Cq=3):∀r∈No x p,Bo r=true:=fun r hr=>by
 have hn:=A4.2 (Kr hp);unfold No at hr
 split at hr
 ·rename_i hh
  split at hr
  ·rw [aL] at hr;subst hr;exact Aij h hn
  ·simp only [aG,aT,bl] at hr;rcases hr with rfl|rfl
   ·exact Aij h hn
   ·rw [show Dn x.Aa p=(Al7 x.Aa p.Ae,true) by unfold Dn Kc;rw [h,hp,hh,av hk];rfl];exact Awe h hn hh
 ·rw [aL] at hr;subst hr;exact Ajz h
theorem Auq {x:Aw} {s:au} (h:D6 x=true) (hs:Pk s=true):Bo (Dv x s)=true:=by
 obtain ⟨⟨t0,t1⟩,⟨s0,s1⟩,hl, -⟩:=Dq.1 h;have hr:=Qp t0 t1;have hrl:(Df x).Ak.length<=6:=by
  unfold Df
  split
  ·show (x.Ak.drop 1).length<=6;rw [aX];omega
  ·omega
 refine Auj EW (Pm _ _) (A4.2 hr) (Pm _ _) ?_ hs (.inr EW);unfold gp Cd;omega
theorem Awr {p:As} (h:Bo p=true):Bo (Zu p)=true:=by
 unfold Bo at h;simp only [aw,aF] at h;exact Auj EW h.1.1.1.1.1.2 h.1.1.1.1.2 h.1.1.1.2 h.1.2 Aez (.inl rfl)
theorem Aed {r:A9} (h:Lz r):∀p∈Fg r,Bo p=true/\p.Cq=3:=fun p hp=>by
 unfold Fg at hp;obtain ⟨k,hk,rfl⟩:=bO.1 hp;obtain ⟨q,hq,hs⟩:=dZ.1 hk;obtain ⟨-, -,q2, -⟩:=Di.1 h.q;have hn:=(Et.1 (q2 q hq)).n;have hw:=Tt h.w;have e:k=q.Ae:=by
  unfold Qa at hs
  split at hs
  ·cases hs
  ·split at hs
   ·cases hs
   ·split at hs
    ·exact (Option.some.inj hs).symm
    ·cases hs
 subst e;have hx:=A4.2 ⟨hw.n0,hw.n1⟩;exact ⟨Auj EW hn hx hx (by unfold gp;omega) Aez (.inl rfl),rfl⟩
theorem GN.ck {ck ck':Nat->Int} {n:Dt} (h:GN ck n) (he:∀i,i≠0->i < n.Ap.Ad.length->ck i=ck' i):GN ck' n:=by
 obtain ⟨q1,q2,q3,q4⟩:=Bk.1 h.l;refine .mk' h.t h.s h.l fun i h1 h2 h3 h4=>?_;have r:=N0.1 (h.a i h1 h2 h3 h4);exact ⟨r.hd,r.hu,r.hk,r.hz,fun e0 l=>by rw [<-he i e0 EV];exact r.hf e0 l,fun e0 l=>by rw [<-he i e0 EV];exact r.hn e0 l⟩
theorem Aex {l:ar} (hg:O9 l) (i:Nat):∀x∈Iq l ((i:Nat):Int),x.toNat≠0:=fun x hx=>by have:=Ln hg hx;omega
theorem Aqv {ck:Nat->Int} {n:Dt} {i:Nat} (h:GN ck n) (h0:i≠0) (hi:i < n.Ap.Ad.length) (hc:ck i < 9999):GN (Aes ck i (ck i+1)) (Nj n i).1:=by
 obtain ⟨h1,h2,h3,h4,r⟩:=h.rn hi;obtain ⟨d0,d1⟩:1<=M5 i/\M5 i<=8:=by unfold M5;omega
 unfold Nj;cases hl:Es n.Ap.Ad ((i:Nat):Int)
 ·rw [aC EW];obtain ⟨he,e2,e3⟩:=r.hn h0 hl;have e:Pp n i=n.Af[i]:=by unfold Pp;rw [br,aD h1];rfl
  have:=h.el h0 hl (Apr (e:=n.Af[i]) he EV);rw [show (Ep n.Af[i]).Ai=ck i+1 by rw [<-e2];rfl] at this;rw [e];exact this
 ·rw [aH rfl];obtain ⟨he,e2,e3⟩:=r.hf h0 hl;have e:P4 n i=n.Ac[i]:=by unfold P4;rw [br,aD h2];rfl
  have hg:=Ej.1 e2;have ht:=Ave hg EV d0 d1;have:=h.rc h0 hl (Ej.2 ht);rw [show (Cz n.Ac[i] (M5 i)).Ai=ck i+1 by unfold Cz;split <;> (show n.Ac[i].Ai+1=_;rw [e3])] at this;rw [e];exact this.un i _ (fun e=>absurd e h0) fun q a b=>⟨Ac4 a fun p hp=>(Aed hg p hp).1,Arz b fun p hp=>(Aed hg p hp).2⟩
theorem Ahi (n:Dt) (i:Nat):(Nj n i).1.Ap=n.Ap/\(Nj n i).1.Ab=n.Ab:=by unfold Nj;split <;> exact ⟨rfl,rfl⟩
def ckT (c:Int) (k:Nat):Nat->Int:=fun j=>if j<=k then c+1 else c
theorem Pi {n:Dt} (hg:At n=true) (hc:n.Ab.Ai < 9999):∀k,k+1<=n.Ap.Ad.length->GN (ckT n.Ab.Ai k) (Bc n k).1/\(Bc n k).1.Ap=n.Ap/\(Bc n k).1.Ab=M3 n.Ab
 | 0,_=>by
  have h:=Ax.1 hg;have ht:=Hi h.t;refine ⟨?_,rfl,rfl⟩;have h2:=((h.src (Ath h.s hc)).sp (Aqx (q:=n.Ab.quiet) (Eo.1 h.s).1) (Aex ht 0)).ck (ck':=ckT n.Ab.Ai 0) fun i h0 _=>by unfold ckT;rw [aC EV]
  exact h2
 | k+1,hk=>by
  obtain ⟨h1,h2,h3⟩:=Pi hg hc k EV;obtain ⟨t1,t2⟩:=Ahi (Bc n k).1 (k+1);have e:ckT n.Ab.Ai k (k+1)=n.Ab.Ai:=by unfold ckT;rw [aC EV]
  have:=Aqv h1 (i:=k+1) EV (by rw [h2];omega) (by rw [e];exact hc);refine ⟨this.ck fun i h0 hi=>?_,t1.trans h2,t2.trans h3⟩;rw [e];unfold Aes ckT;by_cases c1:i=k+1
  ·rw [aH c1,aH EV]
  ·rw [aC c1];by_cases c2:i<=k
   ·rw [aH c2,aH EV]
   ·rw [aC c2,aC EV]
theorem Aqw {n:Dt} (hg:At n=true) (hc:n.Ab.Ai < 9999):At (Gj n).1=true:=by
 have h:=Ax.1 hg;have ht:=Hi h.t;have:=ht.n0;obtain ⟨h1,h2,h3⟩:=Pi hg hc (n.Ap.Ad.length - 1) EV;refine Ax.2 ?_;show GN (fun _=>(Bc n (n.Ap.Ad.length - 1)).1.Ab.Ai) _;rw [h3];exact h1.ck fun i h0 hi=>by rw [h2] at hi;unfold ckT;rw [aH EV];rfl
theorem Ay0 {g t o k:Nat} {A B X cs Y:am} (hk:X.length=k) {w:World}:(Pc.row g t (o+k) (A++X) cs (Y++B)).P w↔(Pc.row g t o A (X++cs++Y) B).P w:=by
 show ((A++X).length=o+k/\If w g t (A++X++cs++(Y++B)))↔(A.length=o/\If w g t (A++(X++cs++Y)++B));rw [aA,hk];have e:A++X++cs++(Y++B)=A++(X++cs++Y)++B:=GX
 rw [e];exact ⟨fun h=>⟨EV,h.2⟩,fun h=>⟨EV,h.2⟩⟩
theorem Axe {p q:Pc} {R:List Pc} {w:World} (h:p.P w->q.P w) (hH:Od (p::R) w):Od (q::R) w:=fun x hx=>by
 rcases aG.1 hx with rfl|hx
 ·exact h (hH p EX)
 ·exact hH x IA
theorem Ay9 {p q:Pc} {R:List Pc} (hm:p.mu=q.mu) (hF:p.F=q.F) (hS:Si (p::R)):Si (q::R):=⟨fun x hx hmu b hb=>hS.1 x hx (by rw [hm];exact hmu) b (by rw [hF];exact hb),hS.2⟩
theorem Aw8 {P:Program} {f:FuncId} {args:am} {A M':List Pc} {g t o k:Nat} {A' B X cs Y L:am} {σ:Type} {C:σ->Prop} {v:σ->Value} {cs' L':σ->am} {N':σ->List Pc}
  (h:Fn P f args A (.row g t (o+k) (A'++X) cs (Y++B)::M') C v (fun s=>.row g t (o+k) (A'++X) (cs' s) (Y++B)::N' s)) (hk:X.length=k) (hL:L=X++cs++Y) (hL':∀s,L' s=X++cs' s++Y) :
  Fn P f args A (.row g t o A' L B::M') C v (fun s=>.row g t o A' (L' s) B::N' s):=fun w hH hS=>by
 subst hL;refine (h w (Axe (Ay0 hk).2 hH) (Ay9 rfl rfl hS)).mono ?_;rintro e w' ⟨s,hC,he,h1,h2,h3,h4⟩;refine ⟨s,hC,he,?_,Ay9 rfl rfl h2,?_,?_⟩
 ·show Od (.row g t o A' (L' s) B::N' s) w';rw [hL' s];exact Axe (Ay0 hk).1 h1
 ·simpa [fp,Pc.mu,Pc.F] using h3
 ·intro p hp b hb;have hp':∃q∈(Pc.row g t (o+k) (A'++X) (cs' s) (Y++B)::N' s),q.mu=p.mu/\b∈q.F:=by
   rcases aG.1 hp with rfl|hp
   ·exact ⟨_,.head _,rfl,hb⟩
   ·exact ⟨p,.tail _ hp,rfl,hb⟩
  obtain ⟨q,hq,hm,hbq⟩:=hp';rcases h4 q hq b hbq with h|⟨x,hx,hbx⟩|⟨hm2,x,hx,hbx⟩
  ·exact .inl h
  ·refine .inr (.inl ?_);rcases aG.1 hx with rfl|hx
   ·exact ⟨_,.head _,hbx⟩
   ·exact ⟨x,.tail _ hx,hbx⟩
  ·exact .inr (.inr ⟨by rw [<-hm];exact hm2,x,hx,hbx⟩)
structure TkN where
 k:Nat
 z:NV
 a:aj
 c:Nat
 F:aq
theorem Bas (n:Dt) (g:Nat) (a1:aj) (c1:Nat) (F1:aq) (a2:aj) (c2:Nat) (F2:aq) (a3:aj) (c3:Nat) (F3:aq) (a4:aj) (c4:Nat) (F4:aq) (a5:aj) (c5:Nat) (F5:aq) (a6:aj) (c6:Nat) (F6:aq) (a7:aj) (c7:Nat) (F7:aq) (FT:aq) (hg:At n=true) (hc:n.Ab.Ai < 9999) :
  Fn prog 192 [Gc g 0 0] [Gk FT] [.row g 37 0 [] [ab a1 n.Ap.Ad.length c1,aa n.Ab.Aa.Am,aa n.Ab.Aa.size,ab a2 n.Ab.Aa.Ak.length c2,aa n.Ab.Ai,aa n.Ab.quiet,ab a3 n.Ab.holds.length c3,ab a4 n.Af.length c4,ab a5 n.Ac.length c5,ab a6 n.down.length c6,ab a7 n.up.length c7] [],.ow Bb 3 (ab a1 n.Ap.Ad.length c1) n.Ap.Ad F1,.ow A8 9 (ab a2 n.Ab.Aa.Ak.length c2) n.Ab.Aa.Ak F2,.ow Bx 191 (ab a3 n.Ab.holds.length c3) n.Ab.holds F3,.ow Ch 122 (ab a4 n.Af.length c4) n.Af F4,.ow B9 76 (ab a5 n.Ac.length c5) n.Ac F5,.ow (Kl Al 141) 125 (ab a6 n.down.length c6) n.down F6,.ow (Kl Al 141) 125 (ab a7 n.up.length c7) n.up F7] (fun (_:NV × KA)=>True) (fun z=>.slice z.2.a (Gj n).2.length z.2.c) (fun z=>[.row g 37 0 [] [ab z.1.a1 n.Ap.Ad.length z.1.c1,aa (Gj n).1.Ab.Aa.Am,aa (Gj n).1.Ab.Aa.size,.slice z.1.a2 (Gj n).1.Ab.Aa.Ak.length z.1.c2,aa (Gj n).1.Ab.Ai,aa (Gj n).1.Ab.quiet,.slice z.1.a3 (Gj n).1.Ab.holds.length z.1.c3,ab z.1.a4 n.Af.length z.1.c4,ab z.1.a5 n.Ac.length z.1.c5,ab z.1.a6 n.down.length z.1.c6,ab z.1.a7 n.up.length z.1.c7] [],.ow Bb 3 (ab z.1.a1 n.Ap.Ad.length z.1.c1) (Gj n).1.Ap.Ad z.1.F1,.ow A8 9 (.slice z.1.a2 (Gj n).1.Ab.Aa.Ak.length z.1.c2) (Gj n).1.Ab.Aa.Ak z.1.F2,.ow Bx 191 (.slice z.1.a3 (Gj n).1.Ab.holds.length z.1.c3) (Gj n).1.Ab.holds z.1.F3,.ow Ch 122 (ab z.1.a4 n.Af.length z.1.c4) (Gj n).1.Af z.1.F4,.ow B9 76 (ab z.1.a5 n.Ac.length z.1.c5) (Gj n).1.Ac z.1.F5,.ow (Kl Al 141) 125 (ab z.1.a6 n.down.length z.1.c6) (Gj n).1.down z.1.F6,.ow (Kl Al 141) 125 (ab z.1.a7 n.up.length z.1.c7) (Gj n).1.up z.1.F7,.ow A8 9 (.slice z.2.a (Gj n).2.length z.2.c) (Gj n).2 z.2.F]):=by
 have hG:=Ax.1 hg;have h8:=Hi hG.t;have hn8:=h8.n1;have hn2:=h8.n0;obtain ⟨q1,q2,q3,q4⟩:=Bk.1 hG.l;have hS:=J9 hG.s;obtain ⟨hq0,hq3⟩:=Anx hG.s;have hkl:=Uv n.Ap.Ad 0;have hkx:∀x∈Iq n.Ap.Ad 0,0<=x/\x.toNat < n.down.length:=fun x hx=>by have:=Ln (i:=0) h8 hx;omega
 refine enter func192 rfl ntmps192 fun w0=>?_;refine go ?_;refine dsI [.cel g 0 [ab a1 n.Ap.Ad.length c1]] [] ?_;refine dtI 0 (fun w h=>I4 (Ia (h (.row g _ 0 [] _ []) FA))) ?_;refine dtI 1 (fun w h=>I4 (Ia (h (.row g _ 0 [] _ []) FA))) ?_;refine dtI 2 (fun w h=>I4 (Ia (h (.row g _ 0 [] _ []) FA))) ?_;refine dtI 3 (fun w h=>I4 (Ia (h (.row g _ 0 [] _ []) FA))) ?_;refine dtI 4 (fun w h=>I4 (Ia (h (.row g _ 0 [] _ []) FA))) ?_;refine dtI 6 (fun w h=>I4 (Ia (h (.row g _ 0 [] _ []) FA))) ?_
 refine dtI 7 (fun w h=>I4 (Ia (h (.row g _ 0 [] _ []) FA))) ?_;refine dtI 8 (fun w h=>I4 (Ia (h (.row g _ 0 [] _ []) FA))) ?_;refine dN 5 ?_;refine oC ?_;refine cfr (fun w st=>by obtain ⟨Fq,hq⟩:=Agt (st.get (p:=.ow Bb 3 (ab a1 n.Ap.Ad.length c1) n.Ap.Ad F1) FA);exact ⟨_,I4 hq,rfl,Zt n.Ap 0 _ Fq JK⟩) (fun u _=>?_);refine Oz ?_;refine Av (E:=Bb) (xs:=Iq n.Ap.Ad 0) fun Fk=>?_;refine dkI (fun w h=>I4 (Ia (h (.row g _ 0 [] _ []) FA))) ?_;refine dN 9 ?_;refine oC ?_
 refine Be (Aw8 (X:=[ab a1 n.Ap.Ad.length c1]) (cs:=[aa n.Ab.Aa.Am,aa n.Ab.Aa.size,ab a2 n.Ab.Aa.Ak.length c2,aa n.Ab.Ai,aa n.Ab.quiet,ab a3 n.Ab.holds.length c3]) (Y:=[ab a4 n.Af.length c4,ab a5 n.Ac.length c5,ab a6 n.down.length c6,ab a7 n.up.length c7]) (L:=[ab a1 n.Ap.Ad.length c1,aa n.Ab.Aa.Am,aa n.Ab.Aa.size,ab a2 n.Ab.Aa.Ak.length c2,aa n.Ab.Ai,aa n.Ab.quiet,ab a3 n.Ab.holds.length c3,ab a4 n.Af.length c4,ab a5 n.Ac.length c5,ab a6 n.down.length c6,ab a7 n.up.length c7]) (L':=fun z:TiS=>[ab a1 n.Ap.Ad.length c1,aa n.Ab.Aa.Am,aa n.Ab.Aa.size,ab a2 n.Ab.Aa.Ak.length c2,aa (n.Ab.Ai+1),aa (Rt n.Ab.quiet),.slice z.a2 (Uu (n.Ab.Ai+1) n.Ab.holds).length z.c2,ab a4 n.Af.length c4,ab a5 n.Ac.length c5,ab a6 n.down.length c6,ab a7 n.up.length c7]) (cs':=fun z:TiS=>[aa n.Ab.Aa.Am,aa n.Ab.Aa.size,ab a2 n.Ab.Aa.Ak.length c2,aa (n.Ab.Ai+1),aa (Rt n.Ab.quiet),.slice z.a2 (Uu (n.Ab.Ai+1) n.Ab.holds).length z.c2]) (Bay n.Ab.Aa n.Ab.holds g 37 (0+1) _ _ a2 a3 c2 c3 n.Ab.Ai n.Ab.quiet F3 hS.t0 hS.t1 hS.l hS.k0 hS.k1 hq0 hq3) rfl rfl (fun _=>rfl)) fun z _=>?_
 refine Av (E:=Al) (xs:=Nk n.Ab.Aa n.Ab.quiet) fun Fp=>?_;refine dkI (fun w h=>I4 (Ia (h (.row g _ 0 [] _ []) FA))) ?_;refine dN 10 ?_;refine oC ?_;refine Be (Zv n.down (Iq n.Ap.Ad 0) (Nk n.Ab.Aa n.Ab.quiet) g _ _ _ _ _ _ _ _ _ _ a6 _ c6 F6 _ _ Fk _ _ Fp rfl hkx) fun J6 _=>?_;refine dkI (fun w h=>I4 (Ia (h (.row g _ 0 [] _ []) FA))) ?_;refine dd ?_;refine Cj A8 9 ?_;rw [show Dp n.down (Iq n.Ap.Ad 0) (Nk n.Ab.Aa n.Ab.quiet)=(Bc n 0).1.down from rfl];refine go ?_
 refine Ca [0,2] (fun s:TkN=>[(3,.slice s.a (Bc n s.k).2.length s.c),(4,aa ((s.k+1:Nat):Int))]) (fun s=>[.row g 37 0 [] [ab s.z.a1 n.Ap.Ad.length s.z.c1,aa (Bc n s.k).1.Ab.Aa.Am,aa (Bc n s.k).1.Ab.Aa.size,.slice s.z.a2 (Bc n s.k).1.Ab.Aa.Ak.length s.z.c2,aa (Bc n s.k).1.Ab.Ai,aa (Bc n s.k).1.Ab.quiet,.slice s.z.a3 (Bc n s.k).1.Ab.holds.length s.z.c3,ab s.z.a4 n.Af.length s.z.c4,ab s.z.a5 n.Ac.length s.z.c5,ab s.z.a6 n.down.length s.z.c6,ab s.z.a7 n.up.length s.z.c7] [],.ow Bb 3 (ab s.z.a1 n.Ap.Ad.length s.z.c1) (Bc n s.k).1.Ap.Ad s.z.F1,.ow A8 9 (.slice s.z.a2 (Bc n s.k).1.Ab.Aa.Ak.length s.z.c2) (Bc n s.k).1.Ab.Aa.Ak s.z.F2,.ow Bx 191 (.slice s.z.a3 (Bc n s.k).1.Ab.holds.length s.z.c3) (Bc n s.k).1.Ab.holds s.z.F3,.ow Ch 122 (ab s.z.a4 n.Af.length s.z.c4) (Bc n s.k).1.Af s.z.F4,.ow B9 76 (ab s.z.a5 n.Ac.length s.z.c5) (Bc n s.k).1.Ac s.z.F5,.ow (Kl Al 141) 125 (ab s.z.a6 n.down.length s.z.c6) (Bc n s.k).1.down s.z.F6,.ow (Kl Al 141) 125 (ab s.z.a7 n.up.length s.z.c7) (Bc n s.k).1.up s.z.F7,.ow A8 9 (.slice s.a (Bc n s.k).2.length s.c) (Bc n s.k).2 s.F]) (fun s=>s.k+1<=n.Ap.Ad.length/\(Bc n s.k).2.length<=40000 * s.k) (fun s=>n.Ap.Ad.length - s.k) ⟨0,⟨a1,c1,F1,a2,c2,F2,z.a2,z.c2,z.F,a4,c4,F4,a5,c5,F5,a6,c6,J6,a7,c7,F7⟩,none,0,[]⟩ ⟨by show 0+1<=_;omega,aK _⟩ fun s hs0=>?_
 obtain ⟨k,⟨x1,w1,K1,x2,w2,K2,x3,w3,K3,x4,w4,K4,x5,w5,K5,x6,w6,K6,x7,w7,K7⟩,ea,ec,eF⟩:=s;obtain ⟨hk,hel⟩:=hs0;dsimp only at hk hel ⊢;obtain ⟨hGN,hT,hSrc⟩:=Pi hg hc k EV;obtain ⟨r1,r2,r3,r4⟩:=Bk.1 hGN.l;rw [hT] at r1 r2 r3 r4;rw [hT,hSrc];refine go ?_;refine A1 rfl (fun h1=>?_) (fun h1=>?_)
 ·have hj:k+1 < n.Ap.Ad.length:=EV
  obtain ⟨i1,i2,i3,i4,hrn⟩:=hGN.rn (i:=k+1) (by rw [hT];exact hj);rw [hT] at hrn;obtain ⟨d0,d1_⟩:=Acb (i:=k+1);refine go ?_;refine cfr (fun w st=>by obtain ⟨Fq,hq⟩:=Agt (st.get (p:=.ow Bb 3 (ab x1 n.Ap.Ad.length w1) n.Ap.Ad K1) FA);exact ⟨_,I4 hq,rfl,Xm n.Ap ((k+1:Nat):Int) _ Fq⟩) (fun _ _=>?_);refine Oz ?_;cases hlf:Es n.Ap.Ad ((k+1:Nat):Int)
  ·obtain ⟨hge,hck, -⟩:=hrn.hn EV hlf;obtain ⟨hc0,hc1⟩:=Na.1 (Hb.1 hge).1;have hnx:Bc n (k+1)=(⟨n.Ap,M3 n.Ab,(Bc n k).1.Af.set (k+1) (Ep (Bc n k).1.Af[k+1]),(Bc n k).1.Ac,(Bc n k).1.down,(Bc n k).1.up⟩,(Bc n k).2++[]):=by
    show ((Nj (Bc n k).1 (k+1)).1,(Bc n k).2++(Nj (Bc n k).1 (k+1)).2)=_;unfold Nj;rw [hT,hlf,aC EW,Js i1,hSrc]
   rw [bg] at hnx;refine Ace (xs:=(Bc n k).1.Af) (m:=2) (k+1) ?_ rfl i1;rintro _ g5 A5 cs B5 k1 k2 J1 Ji J2 e5 - hc5 hH5;rw [e5];refine H8 ?_;rintro b1 d1 G1 ev l1;obtain rfl:=O3 ev;refine go ?_;refine Be (Bap (Bc n k).1.Af[k+1] g5 122 (0+(k+1) * 2) A5 B5 b1 d1 G1 EV EV) fun s9 _=>?_;refine Gt (Ep (Bc n k).1.Af[k+1]) ?_;refine Wa _ hH5 rfl fun J5=>?_;refine go ?_
   refine Cb ⟨k+1,⟨x1,w1,K1,x2,w2,K2,x3,w3,K3,_,w4,J5,x5,w5,K5,x6,w6,K6,x7,w7,K7⟩,ea,ec,eF⟩ ⟨JB,by rw [hnx];dsimp only;omega⟩ FY GE GD
  ·obtain ⟨-,hgr0,hck⟩:=hrn.hf EV hlf;have hgr:=Ej.1 hgr0;obtain ⟨hsm,hfew⟩:=Adc hgr;have hnx:Bc n (k+1)=(⟨n.Ap,M3 n.Ab,(Bc n k).1.Af,(Bc n k).1.Ac.set (k+1) (Cz (Bc n k).1.Ac[k+1] (M5 (k+1))),(Bc n k).1.down,Rb (Bc n k).1.up (k+1) (Fg (Bc n k).1.Ac[k+1])⟩,(Bc n k).2++T9 (k+1) (Hg (Bc n k).1.Ac[k+1])):=by
    show ((Nj (Bc n k).1 (k+1)).1,(Bc n k).2++(Nj (Bc n k).1 (k+1)).2)=_;unfold Nj;rw [hT,hlf,aH rfl,Gp i2,hSrc];rfl
   have htl:(T9 (k+1) (Hg (Bc n k).1.Ac[k+1])).length=(Hg (Bc n k).1.Ac[k+1]).length:=bf ..;generalize hR:(Bc n k).1.Ac[k+1]=R at *;refine go ?_;refine Ace (xs:=(Bc n k).1.Ac) (m:=5) (k+1) ?_ rfl i2;rintro _ g5 A5 cs B5 k1 k2 J1 Ji J2 e5 - hc5 hH5;rw [e5,hR];refine Is ?_;rintro b1 d1 G1 b2 d2 G2 ev l1 l2;obtain rfl:=O3 ev;refine Ar [5] [] ?_;refine C8 0 1 2 3 ?_;refine Dg 4 5 ?_;refine dt 6 ?_;refine dN 7 ?_;refine oC ?_;refine Be (Aim (k+1) EV) fun _ _=>?_;refine dk ?_;refine dN 8 ?_;refine oC ?_
   refine Be (Baw R (M5 (k+1)) g5 76 (0+(k+1) * 5) A5 B5 b1 d1 G1 b2 d2 G2 hgr EV EV) fun s9 _=>?_;refine dk ?_;refine C8 9 10 11 12 ?_;refine dt 13 ?_;refine dd ?_;refine Kn (Cz R (M5 (k+1))) ?_;refine Wa _ hH5 rfl fun J5=>?_;refine Av (E:=Al) (xs:=Fg R) fun Fp=>?_;refine Ali (E:=Al) (fun p:As=>p.data.size<=maxLen) (fun w cs x F h=>by obtain ⟨_,h,_⟩:=h;exact h) ?_;intro hz;refine Ww (E:=Al) (xs:=Fg R) ?_;rintro pa pc e9 hp1 hp2;clear e9;refine go ?_;rw [show (Bc n k).1.up=Rb (Bc n k).1.up (k+1) ((Fg R).take 0) by rw [fe,Ajo]]
   refine Ca [0,2,3,4,6,56,57] (fun y:KF=>[(58,aa (y.k:Nat))]) (fun y=>[.ow (Kl Al 141) 125 (ab x7 n.up.length w7) (Rb (Bc n k).1.up (k+1) ((Fg R).take y.k)) y.F]) (fun y=>y.k<=(Fg R).length) (fun y=>(Fg R).length - y.k) ⟨0,K7⟩ (aE _) fun y hy0=>?_;have hpl:=Ajn (Bc n k).1.up (k+1) ((Fg R).take y.k);refine go ?_;refine A1 rfl (fun h2=>?_) (fun h2=>?_)
   ·have hm:y.k < (Fg R).length:=EV
    refine Oj (xs:=Fg R) y.k ?_;rintro hi3 b3 o3 e3 s3;rw [e3];refine go ?_;intros;refine Ar [0,6] [] ?_;refine C8 0 1 2 3 ?_;refine Dg 4 5 ?_;refine dN 6 ?_;refine oC ?_;refine Be (Ac1 (Rb (Bc n k).1.up (k+1) ((Fg R).take y.k)) (k+1) (Fg R)[y.k] x7 _ w7 y.F EV EV s3) fun f1 _=>?_;rw [Ags i4 hm];refine dk ?_;refine dd ?_;refine go ?_;refine Cb ⟨y.k+1,f1⟩ hm (by show (Fg R).length - (y.k+1) < (Fg R).length - y.k;omega)
   ·rw [show (Fg R).take y.k=Fg R from aW EV];refine go ?_;refine cfr (fun w st=>by obtain ⟨Fq, -,hq⟩:=(st.get (p:=.ow A8 9 (.slice s9.a4 (Hg R).length s9.c4) (Hg R) s9.F4) FA).2.read;exact ⟨[.sl A8 (.slice s9.a4 (Hg R).length s9.c4) (Hg R) Fq,Gk FT],Up ⟨EW,hq⟩ (st.get (p:=Gk FT) FA),rfl,Azx (k+1) _ _ _ Fq FT EV EV hsm⟩) (fun u9 _=>?_);refine Oz ?_;refine Av (E:=A8) (xs:=T9 (k+1) (Hg R)) fun F8=>?_;apply wO;refine Nm (E:=A8) (xs:=(Bc n k).2) (ys:=T9 (k+1) (Hg R)) Dz Hv fun a9 c9 F9=>?_;refine go ?_
    refine Cb ⟨k+1,⟨x1,w1,K1,x2,w2,K2,x3,w3,K3,x4,w4,K4,_,w5,J5,x6,w6,K6,x7,w7,y.F⟩,a9,c9,F9⟩ ⟨JB,by rw [hnx];dsimp only;rw [aA,htl];omega⟩ FY GE GD
 ·have hke:n.Ap.Ad.length - 1=k:=EV
  rw [show Gj n=Bc n k by unfold Gj;rw [hke],hT,hSrc];exact EM
structure Jh where
 Cq:Int
 node:Int
 data:au
def Do (s:Jh):Bool:=if s.Cq=1 then decide (s.node=0) && Pk s.data else if s.Cq=4 then decide (s.node=0) && decide (s.data=⟨#[]⟩) else Ff 1 s.Cq 6 && Ol s.node && decide (s.data=⟨#[]⟩)
def Wu (s:Jh):Bool:=decide (s.Cq=5) || decide (s.Cq=6)
def T8 (n:Dt) (s:Jh):List As:=(if Wu s then n.up else n.down).getD s.node.toNat []
def Gm (n:Dt) (s:Jh):Dt:=if Wu s then Og n s.node.toNat else Ql n s.node.toNat
def C4 (n:Dt) (s:Jh):Option (Dt × ai) :=
 if (n.Ap.Ad.length:Int)<=s.node then none
 else if (T8 n s).length=0 then none
 else if s.Cq=2 then some (C6 (Gm n s) s.node.toNat (Nf (T8 n s)))
 else if s.Cq=5 then some (Qb (Gm n s) s.node.toNat (Nf (T8 n s)),[])
 else some (Gm n s,[])
def Bl (n:Dt) (s:Jh):Option (Dt × ai) :=
 if s.Cq=1 then some (Ag3 n s.data,[])
 else if s.Cq=4 then (if n.Ab.Ai=9999 then none else some (Gj n))
 else C4 n s
def Hq (n:Dt) (r:Option (Dt × ai)):Dt:=match r with|some x=>x.1|none=>n
def U2 (r:Option (Dt × ai)):ai:=match r with|some x=>x.2|none=>[]
theorem Au3 {n:Dt} {s:au} (h:At n=true) (hs:Pk s=true):At (Ag3 n s)=true:=by
 have hg:=Ax.1 h;have ht:=Hi hg.t;exact Ax.2 (((hg.src (Atg hg.s hs)).sp (fun p hp=>by rw [aL] at hp;subst hp;exact Auq (Eo.1 hg.s).1 hs) (Aex ht 0)))
theorem Adg {ck:Nat->Int} {i:Nat} {c:Int} (h:ck i=c):Aes ck i c=ck:=by
 funext j;unfold Aes;by_cases e:j=i
 ·rw [aH e,e,h]
 ·rw [aC e]
theorem As4 {e:Bf} {n:Int} {l:ar}:∀x∈Um e n l,x∈l:=Aa0
theorem Amu (r:A9) (p:As) (d:Int):(Dm r p d).Ai=r.Ai:=by
 unfold Dm
 split
 ·rfl
 ·split <;> rfl
theorem Aqf (e:Bf) (n f:Int):(Nn e n f).Ai=e.Ai:=by
 unfold Nn
 split
 ·rfl
 ·split <;> rfl
theorem Aqe (e:Bf) (n:Int):(Px e n).Ai=e.Ai:=by unfold Px;split <;> rfl
theorem Ape {n:Dt} {i:Nat} {p:As} (h:At n=true) (h0:i≠0) (hi:i < n.Ap.Ad.length) (hp:Bo p=true):At (C6 n i p).1=true:=by
 have hg:=Ax.1 h;have ht:=Hi hg.t;obtain ⟨h1,h2,h3,h4,r⟩:=hg.rn hi;have d0:1<=M5 i/\M5 i<=8:=by unfold M5;omega
 have ee:Pp n i=n.Af[i]:=by unfold Pp;rw [br,aD h1];rfl
 have er:P4 n i=n.Ac[i]:=by unfold P4;rw [br,aD h2];rfl
 have hps:∀q∈[p],Bo q=true:=fun q hq=>by rw [aL] at hq;rw [hq];exact hp
 unfold C6;cases hl:Es n.Ap.Ad ((i:Nat):Int)
 ·rw [aC EW];obtain ⟨he,e2, -⟩:=r.hn h0 hl;by_cases hk:p.Cq=2
  ·have:=(hg.el h0 hl (Ate (n:=p.Ae) he)).sp hps (nodes:=Um n.Af[i] p.Ae (Zb n i)) (fun x hx=>Aex ht i x (As4 x hx));rw [Adg (show (fun _=>n.Ab.Ai) i=(Px n.Af[i] p.Ae).Ai by rw [Aqe,e2])] at this;unfold Aem;rw [aH hk,aH hk,ee];exact Ax.2 this
  ·unfold Aem;rw [aC hk,aC hk];exact Ax.2 (hg.sp hps (Aex ht i))
 ·rw [aH rfl,er];obtain ⟨-,e2,e3⟩:=r.hf h0 hl;have:=hg.rc h0 hl (Ej.2 (Uo (d:=M5 i) (Ej.1 e2) hp d0.1 d0.2).1);rw [Adg (show (fun _=>n.Ab.Ai) i=(Dm n.Ac[i] p (M5 i)).Ai by rw [Amu,e3])] at this;exact Ax.2 this
theorem Bc4 {n:Dt} {i:Nat} {p:As} (h:At n=true) (h0:i≠0) (hi:i < n.Ap.Ad.length) (hp:Bo p=true) (hk:p.Cq=3):At (Qb n i p)=true:=by
 have hg:=Ax.1 h;have ht:=Hi hg.t;have hone:∀x∈[((i:Nat):Int)],x.toNat≠0:=fun x hx=>by rw [aL] at hx;subst hx;omega
 have h1:=ht.p i hi EV;have e:n.Ap.Ad.getD i 0=n.Ap.Ad[i]:=by rw [br,aD hi];rfl
 obtain ⟨k,hkk⟩:∃k,Y4 n i=k:=⟨_,rfl⟩;have hk2:n.Ap.Ad[i]=((k:Nat):Int):=by unfold Y4 at hkk;rw [e] at hkk;omega
 unfold Qb;rw [hkk];by_cases hz:k=0
 ·rw [aH hz];have:=(hg.src (Axb (n:=p.Ae) hg.s (Kr hp))).sp (Auz (Eo.1 hg.s).1 hp hk) hone;refine Ax.2 ?_;rw [show (Mk n.Ab p.Ae).Ai=n.Ab.Ai by unfold Mk;split <;> rfl];exact this
 ·rw [aC hz];have hkl:k < n.Ap.Ad.length:=EV
  obtain ⟨r1,r2,r3,r4,r⟩:=hg.rn hkl;have ee:Pp n k=n.Af[k]:=by unfold Pp;rw [br,aD r1];rfl
  have hl:Es n.Ap.Ad ((k:Nat):Int)=false:=by
   unfold Es;rw [<-hk2,av (aB hi)];rfl
  obtain ⟨he,e2, -⟩:=r.hn hz hl;rw [ee];have hf:Ol ((i:Nat):Int)=true:=Nb.2 ⟨EV,by have:=ht.n1;omega⟩;have:=(hg.el hz hl (Atf he (A4.2 (Kr hp)) hf)).sp (nodes:=[((i:Nat):Int)]) (ps:=[Zu p]) (fun q hq=>by rw [aL] at hq;rw [hq];exact Awr hp) hone;rw [Adg (show (fun _=>n.Ab.Ai) k=(Nn n.Af[k] p.Ae ((i:Nat):Int)).Ai by rw [Aqf,e2])] at this;refine Ax.2 ?_
  split
  ·exact this.un k _ (fun e=>absurd e hz) fun q a b=>⟨Ac4 a fun x hx=>by rw [aL] at hx;rw [hx];exact hp,Arz b fun x hx=>by rw [aL] at hx;rw [hx];exact hk⟩
  ·exact this
theorem Mj {n:Dt} {s:Jh} (h:At n=true):Fh (T8 n s)=true/\(Wu s=true->upQ (T8 n s)=true):=by
 have hg:=Ax.1 h;obtain ⟨q1,q2,q3,q4⟩:=Bk.1 hg.l;unfold T8;by_cases hi:s.node.toNat < n.Ap.Ad.length
 ·obtain ⟨h1,h2,h3,h4,r⟩:=hg.rn hi;cases Wu s
  ·rw [aC EW,Pq h3];exact ⟨r.hd,fun e=>by cases e⟩
  ·rw [aH rfl,Pq h4];exact ⟨r.hu,fun _=>r.hk⟩
 ·have e:((if Wu s then n.up else n.down).getD s.node.toNat [])=[]:=by
   rw [br,bn (by split <;> omega)];rfl
  rw [e];exact ⟨rfl,fun _=>rfl⟩
theorem Lr {n:Dt} {s:Jh} (h:At n=true):At (Gm n s)=true:=by
 have hg:=Ax.1 h;unfold Gm
 split
 ·exact Ax.2 (hg.pu _)
 ·exact Ax.2 (hg.pd _)
theorem Oo {q:List As} (h:0 < q.length):Nf q∈q:=by rw [Xz h];exact aB _
theorem M7 {q:List As} (h:Fh q=true) {p:As} (hp:p∈q):Bo p=true:=by
 unfold Fh at h;rw [aw] at h;exact aV.1 h.2 p hp
theorem Bc3 {q:List As} (h:upQ q=true) {p:As} (hp:p∈q):p.Cq=3:=dp (aV.1 h p hp)
theorem Aoh {n:Dt} {s:Jh} {r:Dt × ai} (h:At n=true) (hn:Ol s.node=true) (hr:C4 n s=some r):At r.1=true:=by
 have hf:=Nb.1 hn;have hpg:=Lr (s:=s) h;have hq:=Mj (s:=s) h;have htl:(Gm n s).Ap=n.Ap:=JS
 unfold C4 at hr
 split at hr
 ·cases hr
 ·rename_i h1
  split at hr
  ·cases hr
  ·rename_i h2;have hm:=Oo (q:=T8 n s) EV;have hpk:=M7 hq.1 hm;have hi:s.node.toNat < (Gm n s).Ap.Ad.length:=by rw [htl];omega
   split at hr
   ·cases hr;exact Ape hpg EV hi hpk
   ·split at hr
    ·rename_i h5;cases hr;exact Bc4 hpg EV hi hpk (Bc3 (hq.2 (by unfold Wu;rw [av h5];rfl)) hm)
    ·cases hr;exact hpg
theorem X7 {x:Cs} (h:Cr x=true):0<=x.Ai/\x.Ai<=9999:=by
 unfold Cr at h;simp only [aw] at h;exact Na.1 h.1.1.2
theorem Mn {n:Dt} {s:Jh} {r:Dt × ai} (h:At n=true) (hs:Do s=true) (hr:Bl n s=some r):At r.1=true:=by
 unfold Bl at hr;unfold Do at hs
 split at hr
 ·rename_i h1;rw [aH h1,aw] at hs;cases hr;exact Au3 h hs.2
 ·rename_i h1
  split at hr
  ·rename_i h4
   split at hr
   ·cases hr
   ·rename_i hc;cases hr;have:=X7 (Ax.1 h).s;exact Aqw h EV
  ·rename_i h4;rw [aC h1,aC h4] at hs;simp only [aw] at hs;exact Aoh h hs.1.2 hr
section
variable {c:Cx} {fr:Fr} {H:List Pc} {Φ:Gl}
end
theorem Bcx (n:Dt) (s:Jh) (g:Nat) (a1:aj) (c1:Nat) (F1:aq) (a2:aj) (c2:Nat) (F2:aq) (a3:aj) (c3:Nat) (F3:aq) (a4:aj) (c4:Nat) (F4:aq) (a5:aj) (c5:Nat) (F5:aq) (a6:aj) (c6:Nat) (F6:aq) (a7:aj) (c7:Nat) (F7:aq) (FT:aq) (hg:At n=true) (hf:Ol s.node=true) :
  Fn prog 193 [Gc g 0 0,.agg #[aa s.Cq,aa s.node,af s.data]] [Gk FT] [.row g 37 0 [] [ab a1 n.Ap.Ad.length c1,aa n.Ab.Aa.Am,aa n.Ab.Aa.size,ab a2 n.Ab.Aa.Ak.length c2,aa n.Ab.Ai,aa n.Ab.quiet,ab a3 n.Ab.holds.length c3,ab a4 n.Af.length c4,ab a5 n.Ac.length c5,ab a6 n.down.length c6,ab a7 n.up.length c7] [],.ow Bb 3 (ab a1 n.Ap.Ad.length c1) n.Ap.Ad F1,.ow A8 9 (ab a2 n.Ab.Aa.Ak.length c2) n.Ab.Aa.Ak F2,.ow Bx 191 (ab a3 n.Ab.holds.length c3) n.Ab.holds F3,.ow Ch 122 (ab a4 n.Af.length c4) n.Af F4,.ow B9 76 (ab a5 n.Ac.length c5) n.Ac F5,.ow (Kl Al 141) 125 (ab a6 n.down.length c6) n.down F6,.ow (Kl Al 141) 125 (ab a7 n.up.length c7) n.up F7] (fun (_:NV × KA)=>True) (fun z=>.tuple #[.slice z.2.a (U2 (C4 n s)).length z.2.c,.bool (C4 n s).isSome]) (fun z=>[.row g 37 0 [] [ab z.1.a1 n.Ap.Ad.length z.1.c1,aa (Hq n (C4 n s)).Ab.Aa.Am,aa (Hq n (C4 n s)).Ab.Aa.size,.slice z.1.a2 (Hq n (C4 n s)).Ab.Aa.Ak.length z.1.c2,aa (Hq n (C4 n s)).Ab.Ai,aa (Hq n (C4 n s)).Ab.quiet,.slice z.1.a3 (Hq n (C4 n s)).Ab.holds.length z.1.c3,ab z.1.a4 n.Af.length z.1.c4,ab z.1.a5 n.Ac.length z.1.c5,ab z.1.a6 n.down.length z.1.c6,ab z.1.a7 n.up.length z.1.c7] [],.ow Bb 3 (ab z.1.a1 n.Ap.Ad.length z.1.c1) (Hq n (C4 n s)).Ap.Ad z.1.F1,.ow A8 9 (.slice z.1.a2 (Hq n (C4 n s)).Ab.Aa.Ak.length z.1.c2) (Hq n (C4 n s)).Ab.Aa.Ak z.1.F2,.ow Bx 191 (.slice z.1.a3 (Hq n (C4 n s)).Ab.holds.length z.1.c3) (Hq n (C4 n s)).Ab.holds z.1.F3,.ow Ch 122 (ab z.1.a4 n.Af.length z.1.c4) (Hq n (C4 n s)).Af z.1.F4,.ow B9 76 (ab z.1.a5 n.Ac.length z.1.c5) (Hq n (C4 n s)).Ac z.1.F5,.ow (Kl Al 141) 125 (ab z.1.a6 n.down.length z.1.c6) (Hq n (C4 n s)).down z.1.F6,.ow (Kl Al 141) 125 (ab z.1.a7 n.up.length z.1.c7) (Hq n (C4 n s)).up z.1.F7,.ow A8 9 (.slice z.2.a (U2 (C4 n s)).length z.2.c) (U2 (C4 n s)) z.2.F]):=by
 have hG:=Ax.1 hg;have h8:=Hi hG.t;have hn8:=h8.n1;obtain ⟨q1,q2,q3,q4⟩:=Bk.1 hG.l;obtain ⟨f1,f2⟩:=Nb.1 hf;obtain ⟨i,hi⟩:∃i:Nat,s.node=((i:Nat):Int):=⟨s.node.toNat,EV⟩;have i0:i≠0:=EV
 refine enter func193 rfl ntmps193 fun w0=>?_;refine Cj A8 9 ?_;rw [hi];refine go ?_;intros;refine Ar [0,2] [] ?_;refine C8 0 1 2 3 ?_;refine C8 4 5 6 7 ?_;refine dt 8 ?_;refine dd ?_;refine go ?_;refine A1 rfl (fun h1=>?_) (fun h1=>?_)
 ·rw [show C4 n s=none by unfold C4;rw [aH EV]];exact EK
 have hil:i < n.Ap.Ad.length:=EV
 by_cases k5:s.Cq=5
 ·have hu:Wu s=true:=by unfold Wu;rw [av k5];rfl
  have hq:T8 n s=n.up[i]:=by unfold T8;rw [hu,aH rfl,hi,bc];exact Pq EV []
  have hpo:Gm n s=Og n i:=ID
  have h6:n.up[i].length<=6:=by
   exact CX
  refine go ?_;refine Dc rfl rfl (fun g5=>?_) (fun g5=>?_)
  rotate_left
  ·exact absurd k5 g5
  refine go ?_;refine Be (Agk n.up i a7 _ c7 F7 rfl EV h6) fun J _=>?_;by_cases h0:0 < n.up[i].length
  rotate_left
  ·exact BO
  have hmem:=Oo h0;have hpk:Bo (Nf n.up[i])=true:=M7 (hq▸(Mj (s:=s) hg).1) hmem;have hpz:(Nf n.up[i]).data.size<=maxLen:=by
   exact BH
  rw [av h0,show n.up.set i (n.up[i].drop 1)=(Og n i).up from (Ic EV).symm];have hgm:At (Og n i)=true:=hpo▸Lr hg;have hGm:=Ax.1 hgm;have hlm:n.up.length=(Og n i).up.length:=(dC ..).symm;generalize hP:Nf n.up[i]=P at *;have htk:C4 n s=some (Qb (Og n i) i P,[]):=by
   unfold C4;rw [aC EV,hq,aC EV,hpo,hP,hi,bc];rw [aC EV,aH k5]
  rw [htk];refine go ?_;intros;refine A1 rfl (fun k2=>?_) (fun k2=>?_)
  ·exact absurd k2 EV
  refine go ?_;refine A1 rfl (fun m5=>?_) (fun m5=>?_)
  rotate_left
  ·exact absurd k5 m5
  refine go ?_;rw [hlm];refine cf (Az4 (Og n i) i P g a1 c1 F1 a2 c2 F2 a3 c3 F3 a4 c4 F4 a5 c5 F5 a6 c6 F6 a7 c7 J hGm.l i0 hil (Hi hGm.t) hGm.s (fun k hk hkl hl=>?_) hpk hpz) fun z _=>?_
  rotate_left
  ·refine Oz ?_;refine go ?_;refine ret (z,⟨0,none,0,[]⟩) trivial rfl
  ·obtain ⟨x1,x2,x3,x4,r⟩:=hGm.rn (i:=k) hkl;rw [Js x1];exact (r.hn hk hl).1
 by_cases k6:s.Cq=6
 ·have hu:Wu s=true:=by unfold Wu;rw [av k6,gD]
  have hq:T8 n s=n.up[i]:=by unfold T8;rw [hu,aH rfl,hi,bc];exact Pq EV []
  have hpo:Gm n s=Og n i:=ID
  have h6:n.up[i].length<=6:=by
   exact CX
  refine go ?_;refine Dc rfl rfl (fun g5=>?_) (fun g5=>?_)
  ·exact absurd g5 EV
  refine go ?_;refine A1 rfl (fun g6=>?_) (fun g6=>?_)
  rotate_left
  ·exact absurd k6 g6
  refine go ?_;refine Be (Agk n.up i a7 _ c7 F7 rfl EV h6) fun J _=>?_;by_cases h0:0 < n.up[i].length
  rotate_left
  ·exact BO
  have hmem:=Oo h0;have hpk:Bo (Nf n.up[i])=true:=M7 (hq▸(Mj (s:=s) hg).1) hmem;have hpz:(Nf n.up[i]).data.size<=maxLen:=by
   exact BH
  rw [av h0,show n.up.set i (n.up[i].drop 1)=(Og n i).up from (Ic EV).symm];have hgm:At (Og n i)=true:=hpo▸Lr hg;have hGm:=Ax.1 hgm;have hlm:n.up.length=(Og n i).up.length:=(dC ..).symm;generalize hP:Nf n.up[i]=P at *;have htk:C4 n s=some (Og n i,[]):=by
   unfold C4;rw [aC EV,hq,aC EV,hpo,hP,hi,bc];rw [aC EV,aC EV]
  rw [htk];refine go ?_;intros;refine A1 rfl (fun k2=>?_) (fun k2=>?_)
  ·exact absurd k2 EV
  refine go ?_;refine A1 rfl (fun m5=>?_) (fun m5=>?_)
  ·exact absurd m5 EV
  refine go ?_;refine ret (⟨a1,c1,F1,a2,c2,F2,a3,c3,F3,a4,c4,F4,a5,c5,F5,a6,c6,F6,a7,c7,J⟩,⟨0,none,0,[]⟩) trivial rfl
 ·have hu:Wu s=false:=by unfold Wu;rw [ay k5,ay k6];rfl
  have hq:T8 n s=n.down[i]:=by unfold T8;rw [hu,aC EW,hi,bc];exact Pq EV []
  have hpo:Gm n s=Ql n i:=by unfold Gm;rw [hu,aC EW,hi,bc]
  have h6:n.down[i].length<=6:=by
   exact CX
  refine go ?_;refine Dc rfl rfl (fun g5=>?_) (fun g5=>?_)
  ·exact absurd g5 k5
  refine go ?_;refine A1 rfl (fun g6=>?_) (fun g6=>?_)
  ·exact absurd g6 k6
  refine go ?_;refine Be (Agk n.down i a6 _ c6 F6 rfl EV h6) fun J _=>?_;by_cases h0:0 < n.down[i].length
  rotate_left
  ·have hz:n.down[i]=[]:=bt.1 EV;rw [show C4 n s=none by unfold C4;rw [aC EV,hq,aH EV],ay h0,show n.down.set i (n.down[i].drop 1)=n.down by rw [hz,gj];rw [<-hz,bv]];refine go ?_;intros;refine ret (⟨a1,c1,F1,a2,c2,F2,a3,c3,F3,a4,c4,F4,a5,c5,F5,a6,c6,J,a7,c7,F7⟩,⟨0,none,0,[]⟩) trivial rfl
  have hmem:=Oo h0;have hpk:Bo (Nf n.down[i])=true:=M7 (hq▸(Mj (s:=s) hg).1) hmem;have hpz:(Nf n.down[i]).data.size<=maxLen:=by
   exact BH
  rw [av h0,show n.down.set i (n.down[i].drop 1)=(Ql n i).down from (Ic EV).symm];have hgm:At (Ql n i)=true:=hpo▸Lr hg;have hGm:=Ax.1 hgm;have hlm:n.down.length=(Ql n i).down.length:=(dC ..).symm;generalize hP:Nf n.down[i]=P at *;have htk:C4 n s=if s.Cq=2 then some (C6 (Ql n i) i P) else some (Ql n i,[]):=by
   unfold C4;rw [aC EV,hq,aC EV,hpo,hP,hi,bc]
   split
   ·rfl
   ·first|rfl|rw [aC k5]
  rw [htk];refine go ?_;intros;refine A1 rfl (fun k2=>?_) (fun k2=>?_)
  ·rw [aH k2];refine go ?_;rw [hlm];refine cf (Asx (Ql n i) i P g a1 c1 F1 a2 c2 F2 a3 c3 F3 a4 c4 F4 a5 c5 F5 a6 c6 J a7 c7 F7 FT hGm.l hil (Hi hGm.t) (fun hl=>?_) (fun hl=>?_) hpk hpz) fun z _=>?_
   rotate_left
   rotate_left
   ·refine Oz ?_;refine go ?_;refine ret (z.1,z.2) trivial rfl
   ·obtain ⟨x1,x2,x3,x4,r⟩:=hGm.rn (i:=i) hil;rw [Gp x2];exact (r.hf i0 hl).2.1
   ·obtain ⟨x1,x2,x3,x4,r⟩:=hGm.rn (i:=i) hil;rw [Js x1];exact (r.hn i0 hl).1
  ·rw [aC k2];refine go ?_;refine A1 rfl (fun m5=>?_) (fun m5=>?_)
   ·exact absurd m5 k5
   refine go ?_;refine ret (⟨a1,c1,F1,a2,c2,F2,a3,c3,F3,a4,c4,F4,a5,c5,F5,a6,c6,J,a7,c7,F7⟩,⟨0,none,0,[]⟩) trivial rfl
theorem Bff (n:Dt) (s:Jh) (g:Nat) (a1:aj) (c1:Nat) (F1:aq) (a2:aj) (c2:Nat) (F2:aq) (a3:aj) (c3:Nat) (F3:aq) (a4:aj) (c4:Nat) (F4:aq) (a5:aj) (c5:Nat) (F5:aq) (a6:aj) (c6:Nat) (F6:aq) (a7:aj) (c7:Nat) (F7:aq) (FT:aq) (hg:At n=true) (hs:Do s=true) (hss:s.data.size<=maxLen) :
  Fn prog 111 [Gc g 0 0,.agg #[aa s.Cq,aa s.node,af s.data]] [Gk FT] [.row g 37 0 [] [ab a1 n.Ap.Ad.length c1,aa n.Ab.Aa.Am,aa n.Ab.Aa.size,ab a2 n.Ab.Aa.Ak.length c2,aa n.Ab.Ai,aa n.Ab.quiet,ab a3 n.Ab.holds.length c3,ab a4 n.Af.length c4,ab a5 n.Ac.length c5,ab a6 n.down.length c6,ab a7 n.up.length c7] [],.ow Bb 3 (ab a1 n.Ap.Ad.length c1) n.Ap.Ad F1,.ow A8 9 (ab a2 n.Ab.Aa.Ak.length c2) n.Ab.Aa.Ak F2,.ow Bx 191 (ab a3 n.Ab.holds.length c3) n.Ab.holds F3,.ow Ch 122 (ab a4 n.Af.length c4) n.Af F4,.ow B9 76 (ab a5 n.Ac.length c5) n.Ac F5,.ow (Kl Al 141) 125 (ab a6 n.down.length c6) n.down F6,.ow (Kl Al 141) 125 (ab a7 n.up.length c7) n.up F7] (fun (_:NV × KA)=>True) (fun z=>.tuple #[.slice z.2.a (U2 (Bl n s)).length z.2.c,.bool (Bl n s).isSome]) (fun z=>[.row g 37 0 [] [ab z.1.a1 n.Ap.Ad.length z.1.c1,aa (Hq n (Bl n s)).Ab.Aa.Am,aa (Hq n (Bl n s)).Ab.Aa.size,.slice z.1.a2 (Hq n (Bl n s)).Ab.Aa.Ak.length z.1.c2,aa (Hq n (Bl n s)).Ab.Ai,aa (Hq n (Bl n s)).Ab.quiet,.slice z.1.a3 (Hq n (Bl n s)).Ab.holds.length z.1.c3,ab z.1.a4 n.Af.length z.1.c4,ab z.1.a5 n.Ac.length z.1.c5,ab z.1.a6 n.down.length z.1.c6,ab z.1.a7 n.up.length z.1.c7] [],.ow Bb 3 (ab z.1.a1 n.Ap.Ad.length z.1.c1) (Hq n (Bl n s)).Ap.Ad z.1.F1,.ow A8 9 (.slice z.1.a2 (Hq n (Bl n s)).Ab.Aa.Ak.length z.1.c2) (Hq n (Bl n s)).Ab.Aa.Ak z.1.F2,.ow Bx 191 (.slice z.1.a3 (Hq n (Bl n s)).Ab.holds.length z.1.c3) (Hq n (Bl n s)).Ab.holds z.1.F3,.ow Ch 122 (ab z.1.a4 n.Af.length z.1.c4) (Hq n (Bl n s)).Af z.1.F4,.ow B9 76 (ab z.1.a5 n.Ac.length z.1.c5) (Hq n (Bl n s)).Ac z.1.F5,.ow (Kl Al 141) 125 (ab z.1.a6 n.down.length z.1.c6) (Hq n (Bl n s)).down z.1.F6,.ow (Kl Al 141) 125 (ab z.1.a7 n.up.length z.1.c7) (Hq n (Bl n s)).up z.1.F7,.ow A8 9 (.slice z.2.a (U2 (Bl n s)).length z.2.c) (U2 (Bl n s)) z.2.F]):=by
 have hG:=Ax.1 hg;have h8:=Hi hG.t;have hn8:=h8.n1;have hn2:=h8.n0;obtain ⟨q1,q2,q3,q4⟩:=Bk.1 hG.l;have hS:=J9 hG.s;obtain ⟨-,⟨hz1, -⟩, -, -⟩:=Dq.1 hS.w;have hkl:=Uv n.Ap.Ad 0;have hkx:∀x∈Iq n.Ap.Ad 0,0<=x/\x.toNat < n.down.length:=fun x hx=>by have:=Ln (i:=0) h8 hx;omega
 refine enter func111 rfl ntmps111 fun w0=>?_;refine Cj A8 9 ?_;refine go ?_;intros;rename_i gs;refine A1 rfl (fun h1=>?_) (fun h1=>?_)
 ·rw [show Bl n s=some (Ag3 n s.data,[]) by unfold Bl;rw [aH h1]];refine go ?_;refine dsI [.cel g 0 [ab a1 n.Ap.Ad.length c1],.row gs 97 0 [] [aa s.Cq,aa s.node,af s.data] []] [] ?_;refine dtI 0 (fun w h=>Up (Ia (h (.row g _ 0 [] _ []) FA)) (h _ FA)) ?_;refine dtI 1 (fun w h=>Up (Ia (h (.row g _ 0 [] _ []) FA)) (h _ FA)) ?_;refine dtI 2 (fun w h=>Up (Ia (h (.row g _ 0 [] _ []) FA)) (h _ FA)) ?_;refine dtI 3 (fun w h=>Up (Ia (h (.row g _ 0 [] _ []) FA)) (h _ FA)) ?_
  refine dtI 4 (fun w h=>Up (Ia (h (.row g _ 0 [] _ []) FA)) (h _ FA)) ?_;refine dtI 6 (fun w h=>Up (Ia (h (.row g _ 0 [] _ []) FA)) (h _ FA)) ?_;refine dtI 7 (fun w h=>Up (Ia (h (.row g _ 0 [] _ []) FA)) (h _ FA)) ?_;refine dtI 8 (fun w h=>Up (Ia (h (.row g _ 0 [] _ []) FA)) (h _ FA)) ?_;refine dtI 9 (fun w h=>Up (Ia (h (.row g _ 0 [] _ []) FA)) (h _ FA)) ?_;refine dtI 10 (fun w h=>Up (Ia (h (.row g _ 0 [] _ []) FA)) (h _ FA)) ?_;refine dN 5 ?_;refine oC ?_
  refine cfr (fun w st=>by obtain ⟨Fq,hq⟩:=Agt (st.get (p:=.ow Bb 3 (ab a1 n.Ap.Ad.length c1) n.Ap.Ad F1) FA);exact ⟨_,I4 hq,rfl,Zt n.Ap 0 _ Fq JK⟩) (fun u _=>?_);refine Oz ?_;refine Av (E:=Bb) (xs:=Iq n.Ap.Ad 0) fun Fk=>?_;refine dkI (fun w h=>Up (Ia (h (.row g _ 0 [] _ []) FA)) (h _ FA)) ?_;refine dN 11 ?_;refine oC ?_
  refine Be (Aw8 (X:=[ab a1 n.Ap.Ad.length c1]) (cs:=[aa n.Ab.Aa.Am,aa n.Ab.Aa.size,ab a2 n.Ab.Aa.Ak.length c2,aa n.Ab.Ai,aa n.Ab.quiet,ab a3 n.Ab.holds.length c3]) (Y:=[ab a4 n.Af.length c4,ab a5 n.Ac.length c5,ab a6 n.down.length c6,ab a7 n.up.length c7]) (L:=[ab a1 n.Ap.Ad.length c1,aa n.Ab.Aa.Am,aa n.Ab.Aa.size,ab a2 n.Ab.Aa.Ak.length c2,aa n.Ab.Ai,aa n.Ab.quiet,ab a3 n.Ab.holds.length c3,ab a4 n.Af.length c4,ab a5 n.Ac.length c5,ab a6 n.down.length c6,ab a7 n.up.length c7]) (L':=fun z:SeS=>[ab a1 n.Ap.Ad.length c1,aa (Dh n.Ab.Aa s.data).Am,aa (Dh n.Ab.Aa s.data).size,.slice z.a (Dh n.Ab.Aa s.data).Ak.length z.c,aa n.Ab.Ai,aa 0,.slice z.a2 (Nt (Dh n.Ab.Aa s.data) n.Ab.holds).length z.c2,ab a4 n.Af.length c4,ab a5 n.Ac.length c5,ab a6 n.down.length c6,ab a7 n.up.length c7]) (cs':=fun z:SeS=>[aa (Dh n.Ab.Aa s.data).Am,aa (Dh n.Ab.Aa s.data).size,.slice z.a (Dh n.Ab.Aa s.data).Ak.length z.c,aa n.Ab.Ai,aa 0,.slice z.a2 (Nt (Dh n.Ab.Aa s.data) n.Ab.holds).length z.c2]) (Bax n.Ab.Aa s.data n.Ab.holds g 37 (0+1) _ _ a2 a3 c2 c3 n.Ab.Ai n.Ab.quiet F2 F3 hS.l hS.t0 hS.t1 hss hz1 hS.n) rfl rfl (fun _=>rfl)) fun z _=>?_
  refine dkI (fun w h=>Up (Ia (h (.row g _ 0 [] _ []) FA)) (h _ FA)) ?_;refine dN 12 ?_;apply Iz;rfl;rfl;rfl;rfl;exact Ir;exact Io;intro _;refine Eh (E:=Al) (xs:=[Dv n.Ab.Aa s.data]) (De (Dv n.Ab.Aa s.data) hss) ?_ EX;refine Av (E:=Al) (xs:=[Dv n.Ab.Aa s.data]) fun Fp=>?_;refine dkI (fun w h=>Up (Ia (h (.row g _ 0 [] _ []) FA)) (h _ FA)) ?_;refine dN 13 ?_;refine oC ?_;refine Be (Zv n.down (Iq n.Ap.Ad 0) [Dv n.Ab.Aa s.data] g _ _ _ _ _ _ _ _ _ _ a6 _ c6 F6 _ _ Fk _ _ Fp rfl hkx) fun J6 _=>?_
  refine dkI (fun w h=>Up (Ia (h (.row g _ 0 [] _ []) FA)) (h _ FA)) ?_;refine dd ?_;refine go ?_;refine ret (⟨a1,c1,F1,z.a,z.c,z.F,z.a2,z.c2,z.F2,a4,c4,F4,a5,c5,F5,a6,c6,J6,a7,c7,F7⟩,⟨0,none,0,[]⟩) trivial rfl
 refine go ?_;refine A1 rfl (fun h4=>?_) (fun h4=>?_)
 ·refine go ?_;refine A1 rfl (fun hc=>?_) (fun hc=>?_)
  ·rw [show Bl n s=none by unfold Bl;rw [aC h1,aH h4,aH hc]];exact EK
  ·rw [show Bl n s=some (Gj n) by unfold Bl;rw [aC h1,aH h4,aC hc]];have hck:=X7 hG.s;refine go ?_;refine Be (Bas n g a1 c1 F1 a2 c2 F2 a3 c3 F3 a4 c4 F4 a5 c5 F5 a6 c6 F6 a7 c7 F7 FT hg EV) fun z _=>?_;refine go ?_;refine ret (z.1,z.2) trivial rfl
 ·rw [show Bl n s=C4 n s by unfold Bl;rw [aC h1,aC h4]];have hf:Ol s.node=true:=by
   unfold Do at hs;rw [aC h1,aC h4] at hs;simp only [aw] at hs;exact hs.1.2
  refine go ?_;refine Be (Bcx n s g a1 c1 F1 a2 c2 F2 a3 c3 F3 a4 c4 F4 a5 c5 F5 a6 c6 F6 a7 c7 F7 FT hg hf) fun z _=>?_;refine go ?_;refine ret (z.1,z.2) trivial rfl
theorem Ahu (s:Jh) (hss:s.data.size<=maxLen):FV 110 [.agg #[aa s.Cq,aa s.node,af s.data]] [] (.bool (Do s)):=by
 refine enter func110 rfl ntmps110 fun w0=>?_;refine go ?_;intros;refine A1 rfl (fun h1=>?_) (fun h1=>?_)
 ·rw [show Do s=(decide (s.node=0) && Pk s.data) by unfold Do;rw [aH h1]];refine go ?_;refine Dc rfl rfl (fun h2=>?_) (fun h2=>?_)
  ·refine go ?_;refine cb (fun w st=>Aa7 s.data w hss) ?_;exact DQ
  ·exact DP
 refine go ?_;refine A1 rfl (fun h4=>?_) (fun h4=>?_)
 ·rw [show Do s=(decide (s.node=0) && decide (s.data=⟨#[]⟩)) by unfold Do;rw [aC h1,aH h4]];refine go ?_;refine Dc rfl rfl (fun h2=>?_) (fun h2=>?_)
  ·exact DQ
  ·exact DP
 rw [show Do s=(Ff 1 s.Cq 6 && Ol s.node && decide (s.data=⟨#[]⟩)) by unfold Do;rw [aC h1,aC h4]];refine go ?_;refine A1 rfl (fun k2=>?_) (fun k2=>?_)
 ·refine go ?_;refine A1 rfl (fun _=>?_) (fun hx=>absurd k2 hx);refine go ?_;refine ce (fun w st=>Uq s.node _) ?_;cases g5:Ol s.node
  ·exact DN
  ·exact BX
 ·refine go ?_;refine A1 rfl (fun k3=>?_) (fun k3=>?_)
  ·refine go ?_;refine A1 rfl (fun _=>?_) (fun hx=>absurd k3 hx);refine go ?_;refine ce (fun w st=>Uq s.node _) ?_;cases g5:Ol s.node
   ·exact DN
   ·exact BX
  ·refine go ?_;refine A1 rfl (fun k5=>?_) (fun k5=>?_)
   ·refine go ?_;refine A1 rfl (fun _=>?_) (fun hx=>absurd k5 hx);refine go ?_;refine ce (fun w st=>Uq s.node _) ?_;cases g5:Ol s.node
    ·exact DN
    ·exact BX
   ·refine go ?_;refine A1 rfl (fun k6=>?_) (fun k6=>?_)
    ·refine go ?_;refine ce (fun w st=>Uq s.node _) ?_;cases g5:Ol s.node
     ·exact DN
     ·exact BX
    ·refine go ?_;refine ret () trivial ?_;rw [show Ff 1 s.Cq 6=false by unfold Ff;simp;omega];rfl
def Sh:Dt:=⟨⟨[]⟩,Ban,[],[],[],[]⟩
theorem Hx {n:Dt} (h:At n=true):(∀x∈n.Af,Ba x=true)/\(∀x∈n.Ac,By x=true)/\(∀q∈n.down,Fh q=true)/\∀q∈n.up,Fh q=true:=by
 have hG:=Ax.1 h;obtain ⟨q1,q2,q3,q4⟩:=Bk.1 hG.l;refine ⟨fun x hx=>?_,fun x hx=>?_,fun x hx=>?_,fun x hx=>?_⟩
 all_goals
  obtain ⟨i,hi,rfl⟩:=bi hx;obtain ⟨h1,h2,h3,h4,r⟩:=hG.rn (i:=i) EV
 ·by_cases e:i=0
  ·exact Vk (r.hz e).1
  ·cases l:Es n.Ap.Ad ((i:Nat):Int)
   ·exact (r.hn e l).1
   ·exact Vk (r.hf e l).1
 ·by_cases e:i=0
  ·exact Vl (r.hz e).2.1
  ·cases l:Es n.Ap.Ad ((i:Nat):Int)
   ·exact Vl (r.hn e l).2.2
   ·exact (r.hf e l).2.1
 ·exact r.hd
 ·exact r.hu
theorem C5 {q:List As} (h:Fh q=true):q.length<=6/\∀p∈q,Bo p=true:=by
 unfold Fh at h;simpa [aV] using h
theorem Ox {n:Dt} (h:At n=true):Pl n:=by
 have hG:=Ax.1 h;have h8:=(Hi hG.t).n1;obtain ⟨q1,q2,q3,q4⟩:=Bk.1 hG.l;have hS:=J9 hG.s;have hl:=hS.l;have hm:=hS.m;obtain ⟨e1,e2,e3,e4⟩:=Hx h;refine ⟨EV,EV,EV,EV,fun x hx=>?_,fun x hx y hy=>?_,EV,fun x hx=>⟨?_,?_⟩,EV,fun q hq=>?_,EV,fun q hq=>?_⟩
 ·have:=(Hb.1 (e1 x hx)).2.1;omega
 ·have:=(Un (e1 x hx)).2.2 y hy;omega
 ·have:=(Ks (Ej.1 (e2 x hx)).w).1;omega
 ·have:=(Di.1 (Ej.1 (e2 x hx)).q).2.1;omega
 ·have:=(C5 (e3 q hq)).1;omega
 ·have:=(C5 (e4 q hq)).1;omega
theorem Aee (n:Dt):∀k,(Bc n k).1.Ap=n.Ap
 | 0=>rfl
 | k+1=>(Ahi _ _).1.trans (Aee n k)
theorem Sv {n:Dt} {s:Jh} {r:Dt × ai} (hr:Bl n s=some r):r.1.Ap=n.Ap:=by
 have hd:∀(n:Dt) i p,(C6 n i p).1.Ap=n.Ap:=fun n i p=>by unfold C6;split <;> rfl
 have hu:∀(n:Dt) i p,(Qb n i p).Ap=n.Ap:=fun n i p=>by unfold Qb;split <;> rfl
 have hp:(Gm n s).Ap=n.Ap:=JS
 unfold Bl C4 at hr
 split at hr
 ·cases hr;rfl
 split at hr
 ·split at hr
  ·cases hr
  ·cases hr;exact Aee n _
 split at hr
 ·cases hr
 split at hr
 ·cases hr
 split at hr
 ·cases hr;exact (hd _ _ _).trans hp
 split at hr
 ·cases hr;exact (hu _ _ _).trans hp
 ·cases hr;exact hp
theorem Bbx {n m:Dt} (h1:At n=true) (h2:At m=true) (h:m.Ap=n.Ap):n.Ap.Ad.length=m.Ap.Ad.length/\n.Af.length=m.Af.length/\n.Ac.length=m.Ac.length/\n.down.length=m.down.length/\n.up.length=m.up.length:=by
 obtain ⟨p1,p2,p3,p4⟩:=Bk.1 (Ax.1 h1).l;obtain ⟨q1,q2,q3,q4⟩:=Bk.1 (Ax.1 h2).l;rw [h] at q1 q2 q3 q4;exact ⟨by rw [h],EV,EV,EV,EV⟩
def Bi (n:Dt) (s:Jh):Dt × ai × Bool:=if At n && Do s then (match Bl n s with
 | some r=>(r.1,r.2,true)
 | none=>(Sh,[],false)) else (Sh,[],false)
def okQ (up:Bool) (p:As):Bool:=Bo p && (!up || decide (p.Cq=3))
theorem Arv (up:Bool) (l:List As):(l.all (okQ up) && decide (l.length<=6))=(Fh l && (!up || upQ l)):=by
 have h:l.all (okQ up)=(l.all Bo && (!up || upQ l)):=by
  unfold upQ okQ
  induction l with
  | nil=>cases up <;> rfl
  | cons p l ih =>
   simp only [dL,ih];cases Bo p <;> cases up <;> cases decide (p.Cq=3) <;> cases l.all Bo <;> simp
 rw [h];unfold Fh;cases decide (l.length<=6) <;> cases l.all Bo <;> simp
theorem Ayd {up:Bool} {l:List As} {k:Nat} (h:k < l.length) (hp:okQ up l[k]=false):(Fh l && (!up || upQ l))=false:=by
 rw [<-Arv,show l.all (okQ up)=false from cP.2 ⟨l[k],aB h,HD⟩];rfl
theorem Agb (l:List As) (up:Bool) (a:aj) (c:Nat) (F:aq) (hl:l.length<=9223372036854775807):FV 207 [ab a l.length c,.bool up] [.sl Al (ab a l.length c) l F] (.bool (Fh l && (!up || upQ l))):=by
 refine enter func207 rfl ntmps207 fun w0=>?_;refine go ?_;refine Dk [0,1,4] (fun k:Nat=>[(5,aa (k:Nat))]) (fun k=>k<=l.length/\∀j,j < k->∀h:j < l.length,okQ up l[j]=true) (fun k=>l.length - k) 0 ⟨aE _,fun j h=>by omega⟩ fun k hk=>?_;obtain ⟨hk1,hk2⟩:=hk;refine go ?_;refine A1 rfl (fun h1=>?_) (fun h1=>?_)
 ·have hh:k < l.length:=EV
  refine Oj (xs:=l) k ?_;rintro hi b o e1 s1;rw [e1];refine go ?_;refine Be (Am7 l[k] s1) fun _ _=>?_;cases g:Bo l[k]
  ·rw [Ayd hh (by unfold okQ;rw [g];rfl)];exact AA
  cases up
  ·refine go ?_;refine Cb (k+1) ⟨hh,fun j hj h=>?_⟩ GO;rcases ba (bA.1 hj) with h'|rfl
   ·exact hk2 j h' h
   ·unfold okQ;rw [g];rfl
  ·refine go ?_;refine A1 rfl (fun h3=>?_) (fun h3=>?_)
   ·rw [Ayd hh (by unfold okQ;rw [g,ay h3];rfl)];exact AA
   ·refine go ?_;refine Cb (k+1) ⟨hh,fun j hj h=>?_⟩ GO;rcases ba (bA.1 hj) with h'|rfl
    ·exact hk2 j h' h
    ·unfold okQ;rw [g,av EV];rfl
 ·obtain rfl:k=l.length:=EV
  refine go ?_;refine ret () trivial ?_;rw [<-Arv,show l.all (okQ up)=true from aV.2 fun p hp=>by obtain ⟨j,hj,rfl⟩:=bi hp;exact hk2 j hj hj,bT];by_cases h6:l.length<=6
  ·rw [av h6,av EV];rfl
  ·rw [ay h6,ay EV];rfl
theorem Wl (e:Bf) (v:Value) (F:aq):FV 153 [v] [.isv Bv v e F] (.bool (Ms e)):=by
 refine enter func153 rfl ntmps153 fun w0=>?_;refine D9 ?_;rintro a1 c1 F1 rfl l1;refine go ?_;intros;refine Dc rfl rfl (fun h1=>?_) (fun h1=>?_)
 ·refine go ?_;refine ret () trivial ?_;unfold Ms;rw [av h1,bT];by_cases h:e.Ah.length=0
  ·rw [av h,av EV];rfl
  ·rw [ay h,ay EV];rfl
 ·refine go ?_;refine ret () trivial ?_;unfold Ms;rw [ay h1];rfl
theorem Beo (p:As) (hs:p.data.size<=maxLen):FV 222 [.agg #[aa (p).Cq,aa (p).Ae,aa (p).Am,aa (p).Er,af (p).data]] [] (.bool (!Bo p)):=by
 refine enter func222 rfl ntmps222 fun w0=>?_;refine go ?_;intros;refine Be (Wi p hs) fun _ _=>?_;exact AA
theorem Ai4 (l:List As) (a:aj) (c:Nat) (F:aq):FV 150 [ab a l.length c] [.sl Al (ab a l.length c) l F] (.bool (Fh l)):=by
 refine enter func150 rfl ntmps150 fun w0=>?_;refine Ali (E:=Al) (fun p:As=>p.data.size<=maxLen) (fun w cs x F h=>by obtain ⟨_,h,_⟩:=h;exact h) ?_;intro hz;refine go ?_;refine Dc rfl rfl (fun h1=>?_) (fun h1=>?_)
 ·refine go ?_;refine cb (fun w st=>(Aq6 222 [] [] [] rfl l a c F (fun p=>!Bo p) EY EV (fun p hp w _=>(Beo p (hz p hp)).val w (by intro q hq;cases hq))).val w (I4 (st.get (p:=.sl _ _ _ _) FA))) ?_;refine go ?_;refine ret () trivial ?_;unfold Fh;rw [av (show l.length<=6 by omega),eh];simp;rfl
 ·refine go ?_;refine ret () trivial ?_;unfold Fh;rw [ay (show ¬l.length<=6 by omega)];rfl
theorem Ur (r:A9) (v:Value) (F:aq):FV 154 [v] [.isv Bz v r F] (.bool (Tn r)):=by
 have key:∀b:Bool,(b=(!r.Bd && decide (r.Ai=0) && (decide (r.Aa.next=0) && decide (r.Aa.Ao.length=0) && decide (r.An.length=0))))->b=Tn r:=fun b h=>h;refine enter func154 rfl ntmps154 fun w0=>?_;refine Fj ?_;rintro a1 c1 F1 a2 c2 F2 rfl l1 l2;unfold maxLen at l1 l2;cases hs:r.Bd <;> rw [hs] at key
 ·refine go ?_;intros;refine Dc rfl rfl (fun h1=>?_) (fun h1=>?_)
  ·refine go ?_;refine Dc rfl rfl (fun h2=>?_) (fun h2=>?_)
   ·refine go ?_;refine Dc rfl rfl (fun h3=>?_) (fun h3=>?_)
    ·refine go ?_;refine ret () trivial ?_;rw [<-key (decide ((r.An.length:Int)=0)) (by simp [h1,h2,show r.Aa.Ao.length=0 by omega])];rfl
    ·refine go ?_;refine ret () trivial ?_;rw [<-key false (by simp [show ¬r.Aa.Ao=[] from fun e=>h3 (by rw [e];rfl)])];rfl
   ·refine go ?_;refine ret () trivial ?_;rw [<-key false (by simp [h2])];rfl
  ·refine go ?_;refine ret () trivial ?_;rw [<-key false (by simp [h1])];rfl
 ·refine go ?_;intros;refine ret () trivial ?_;rw [<-key false EX];rfl
theorem Ben (p:As):FV 152 [.agg #[aa (p).Cq,aa (p).Ae,aa (p).Am,aa (p).Er,af (p).data]] [] (.bool (!decide (p.Cq=3))):=by
 refine enter func152 rfl ntmps152 fun w0=>?_;refine go ?_;intros;refine ret () trivial ?_;rw [<-decide_not];rfl
theorem Bc2 (l:List As):(l.any fun p=>!decide (p.Cq=3)) = !upQ l:=by
 unfold upQ;rw [ei]
theorem Arn {α:Type} (l:List α):decide ((l.length:Int)=0)=decide (l.length=0):=by
 by_cases h:l.length=0
 ·rw [av h,av EV]
 ·rw [ay h,ay EV]
theorem Ayy {par:ar} {clk:Int} {i:Nat} {e:Bf} {r:A9} {d u:List As} (h:(Fh d && Fh u && upQ u)=false):Qn par clk i e r d u=false:=by unfold Qn;rw [h];rfl
theorem Be9 {par:ar} {clk:Int} {i:Nat} {e:Bf} {r:A9} {d u:List As} (h:(Fh d && Fh u && upQ u)=true):Qn par clk i e r d u=(if i=0 then Ms e && Tn r && decide (d.length=0) && decide (u.length=0)
  else if Es par i then Ms e && By r && decide (r.Ai=clk) else Ba e && decide (e.Ai=clk) && Tn r):=by unfold Qn;rw [h,bT]
theorem Ah2 (n:Dt) (i:Nat) (v:Value) (F:aq) (hl:Lp n=true) (hi:i < n.Ap.Ad.length):FV 81 [v,aa (i:Nat)] [.isv Oi v n F] (.bool (Sy n i)):=by
 obtain ⟨q1,q2,q3,q4⟩:=Bk.1 hl;rw [Yi EV EV EV EV];refine enter func81 rfl ntmps81 fun w0=>?_;refine Fb ?_;rintro a1 c1 F1 a2 c2 F2 a3 c3 F3 a4 c4 F4 a5 c5 F5 a6 c6 F6 a7 c7 F7 rfl l1 l2 l3 l4 l5 l6 l7;unfold maxLen at l1 l2 l3 l4 l5 l6 l7;refine Jw n.Ap ?_;refine N3 (xs:=n.Af) i ?_;rintro hi4 b4 o4 a8 c8 F8 rfl l8;refine Ex n.Af[i] ?_;refine Jc (xs:=n.Ac) i ?_;rintro hi5 b5 o5 a9 c9 F9 a10 c10 F10 rfl l9 l10;refine Dy n.Ac[i] ?_;refine Mf (E:=Al) (hz:=EW) (xs:=n.down) i ?_;rintro hi6 b6 o6 a11 c11 F11 rfl l11
 refine Mf (E:=Al) (hz:=EW) (xs:=n.up) i ?_;rintro hi7 b7 o7 a12 c12 F12 rfl l12;unfold maxLen at l8 l9 l10 l11 l12;refine go ?_;intros;refine Du [1,2,4] [0,1,2,3,4,5,6,7,8,9,10,11,12,13,14,15,16,17,18,19,20] (fun z:Nat × Nat=>[(5,Gc z.1 0 0),(6,Gc z.2 0 0)]) (fun z=>[.row z.1 122 0 [] [aa n.Af[i].Ai,.slice a8 n.Af[i].Ah.length c8] [],.row z.2 76 0 [] [.bool n.Ac[i].Bd,aa n.Ac[i].Ai,aa n.Ac[i].Aa.next,.slice a9 n.Ac[i].Aa.Ao.length c9,.slice a10 n.Ac[i].An.length c10] []]) (fun _=>True) ?_ fun z _=>?_
 ·refine Ar [0,6,10] [] ?_;refine C8 0 1 2 3 ?_;refine C8 4 5 6 7 ?_;refine Dg 8 9 ?_;refine dM 10 11 ?_ ?_
  ·apply Ci;rfl;intro _;refine dk ?_;refine dN 11 ?_;exact AR
  ·apply Ci;rfl;intro _;refine dk ?_;refine dN 10 ?_;exact AR
 refine go ?_;refine Be (Ai4 n.down[i] _ _ F11) fun _ _=>?_;cases g1:Fh n.down[i]
 ·rw [Ayy (by rw [g1];rfl)];exact AA
 refine go ?_;refine Be (Ai4 n.up[i] _ _ F12) fun _ _=>?_;cases g2:Fh n.up[i]
 ·rw [Ayy (by rw [g1,g2];rfl)];exact AA
 have u6:n.up[i].length<=6:=by
  unfold Fh at g2;simp only [aw,aF] at g2;exact g2.1
 refine go ?_;refine cb (fun w st=>(Aq6 152 [] [] [] rfl n.up[i] a12 c12 F12 (fun p=>!decide (p.Cq=3)) EY EV (fun p hp w _=>(Ben p).val w (by intro q hq;cases hq))).val w (I4 (st.get (p:=.sl _ _ _ _) FA))) ?_;rw [Bc2];cases g3:upQ n.up[i]
 ·rw [Ayy (by rw [g1,g2,g3];rfl)];exact AA
 rw [Be9 (by rw [g1,g2,g3];rfl)];refine go ?_;refine A1 rfl (fun h0=>?_) (fun h0=>?_)
 ·obtain rfl:i=0:=EV
  rw [aH rfl];refine go ?_;refine Be (Wl n.Af[0] _ F8) fun _ _=>?_;cases g4:Ms n.Af[0]
  ·exact AA
  refine go ?_;refine Be (Ur n.Ac[0] _ (F9++F10)) fun _ _=>?_;cases g5:Tn n.Ac[0]
  ·exact AA
  refine go ?_;refine Dc rfl rfl (fun h6=>?_) (fun h6=>?_)
  ·refine go ?_;refine ret () trivial ?_;rw [<-Arn n.down[0],<-Arn n.up[0],av h6];rfl
  ·refine go ?_;refine ret () trivial ?_;rw [<-Arn n.down[0],ay h6];rfl
 rw [aC EV];refine go ?_;refine Be (Xm n.Ap i _ F1) fun _ _=>?_;cases g6:Es n.Ap.Ad i
 ·rw [aC EW];refine go ?_;refine cb (fun w st=>Ue _ n.Af[i] F8 w (st.get (p:=.isv _ _ _ _) FA)) ?_;cases g4:Ba n.Af[i]
  ·exact AA
  refine go ?_;refine Dc rfl rfl (fun h7=>?_) (fun h7=>?_)
  ·refine go ?_;refine Be (Ur n.Ac[i] _ (F9++F10)) fun _ _=>?_;refine go ?_;refine ret () trivial ?_;rw [av h7];rfl
  ·refine go ?_;refine ret () trivial ?_;rw [ay h7];rfl
 ·rw [aH rfl];refine go ?_;refine Be (Wl n.Af[i] _ F8) fun _ _=>?_;cases g4:Ms n.Af[i]
  ·exact AA
  refine go ?_;refine Be (Ts n.Ac[i] _ (F9++F10)) fun _ _=>?_;cases g5:By n.Ac[i]
  ·exact AA
  exact AA
theorem Aap (n:Dt) (v:Value) (F:aq):FV 42 [v] [.isv Oi v n F] (.bool (At n)):=by
 refine enter func42 rfl ntmps42 fun w0=>?_;refine Fb ?_;rintro a1 c1 F1 a2 c2 F2 a3 c3 F3 a4 c4 F4 a5 c5 F5 a6 c6 F6 a7 c7 F7 rfl l1 l2 l3 l4 l5 l6 l7;unfold maxLen at l1 l2 l3 l4 l5 l6 l7;refine Jw n.Ap ?_;refine En n.Ab ?_;refine go ?_;intros;refine Be (Ahv n.Ap _ F1) fun _ _=>?_;cases g1:Hj n.Ap
 ·rw [show At n=false by unfold At;rw [g1];rfl];exact AA
 refine go ?_;refine Be (Aeh n.Ab _ (F2++F3)) fun _ _=>?_;cases g2:Cr n.Ab
 ·rw [show At n=false by unfold At;rw [g1,g2];rfl];exact AA
 refine go ?_;refine Dc rfl rfl (fun m0=>?_) (fun m0=>?_)
 ·rw [show At n=false by
   have:Lp n=false:=by
    cases hl:Lp n
    ·rfl
    ·obtain ⟨q1,q2,q3,q4⟩:=Bk.1 hl;exact absurd EV m0
   unfold At;rw [this];simp]
  exact AA
 refine go ?_;refine Dc rfl rfl (fun m1=>?_) (fun m1=>?_)
 ·rw [show At n=false by
   have:Lp n=false:=by
    cases hl:Lp n
    ·rfl
    ·obtain ⟨q1,q2,q3,q4⟩:=Bk.1 hl;exact absurd EV m1
   unfold At;rw [this];simp]
  exact AA
 refine go ?_;refine Dc rfl rfl (fun m2=>?_) (fun m2=>?_)
 ·rw [show At n=false by
   have:Lp n=false:=by
    cases hl:Lp n
    ·rfl
    ·obtain ⟨q1,q2,q3,q4⟩:=Bk.1 hl;exact absurd EV m2
   unfold At;rw [this];simp]
  exact AA
 refine go ?_;refine A1 rfl (fun m3=>?_) (fun m3=>?_)
 ·rw [show At n=false by
   have:Lp n=false:=by
    cases hl:Lp n
    ·rfl
    ·obtain ⟨q1,q2,q3,q4⟩:=Bk.1 hl;exact absurd EV m3
   unfold At;rw [this];simp]
  exact AA
 have q1:n.Af.length=n.Ap.Ad.length:=EV
 have q2:n.Ac.length=n.Ap.Ad.length:=EV
 have q3:n.down.length=n.Ap.Ad.length:=EV
 have q4:n.up.length=n.Ap.Ad.length:=EV
 have hl:=Bk.2 ⟨q1,q2,q3,q4⟩;refine go ?_;refine Dk [1,2,47] (fun k:Nat=>[(48,aa (k:Nat))]) (fun k=>k<=n.Ap.Ad.length/\∀j,j < k->Sy n j=true) (fun k=>n.Ap.Ad.length - k) 0 ⟨aE _,fun j h=>by omega⟩ fun k hk=>?_;obtain ⟨hk1,hk2⟩:=hk;refine go ?_;refine A1 rfl (fun h1=>?_) (fun h1=>?_)
 ·have hh:k < n.Ap.Ad.length:=EV
  refine go ?_;refine Be (Ah2 n k _ F hl hh) fun _ _=>?_;cases g:Sy n k
  ·rw [Afz hh g];exact AA
  refine go ?_;refine Cb (k+1) ⟨hh,fun j hj=>?_⟩ FY;rcases ba (bA.1 hj) with h|rfl
  ·exact hk2 j h
  ·exact g
 ·obtain rfl:k=n.Ap.Ad.length:=EV
  refine go ?_;refine ret () trivial ?_;rw [Xj.2 ⟨g1,g2,hl,hk2⟩];rfl
theorem Ar3 {par:ar} {clk:Int} {i:Nat} {e:Bf} {r:A9} {d u:List As} (h:(Ba e && By r && Fh d && (Fh u && upQ u))=false):Qn par clk i e r d u=false:=by rw [<-Ajs];unfold Ak9;rw [h];rfl
theorem Bfa {par:ar} {clk:Int} {i:Nat} {e:Bf} {r:A9} {d u:List As} (h:(Ba e && By r && Fh d && (Fh u && upQ u))=true):Qn par clk i e r d u=(if i=0 then Ms e && (!r.Bd && decide (r.Ai=0)) && decide (d.length+u.length=0)
  else if Es par i then Ms e && decide (r.Ai=clk) else (!r.Bd && decide (r.Ai=0)) && decide (e.Ai=clk)):=by rw [<-Ajs];unfold Ak9;rw [h,bT]
theorem Bbs (n:Dt) (i:Nat) (v:Value) (F:aq) (hl:Lp n=true) (hi:i < n.Ap.Ad.length) (hg:O9 n.Ap.Ad):FV 120 [v,aa (i:Nat)] [.isv Oi v n F] (.bool (Sy n i)):=by
 obtain ⟨q1,q2,q3,q4⟩:=Bk.1 hl;rw [Yi EV EV EV EV];refine enter func120 rfl ntmps120 fun w0=>?_;refine Fb ?_;rintro a1 c1 F1 a2 c2 F2 a3 c3 F3 a4 c4 F4 a5 c5 F5 a6 c6 F6 a7 c7 F7 rfl l1 l2 l3 l4 l5 l6 l7;unfold maxLen at l1 l2 l3 l4 l5 l6 l7;refine Jw n.Ap ?_;refine N3 (xs:=n.Af) i ?_;rintro hi4 b4 o4 a8 c8 F8 rfl l8;refine Ex n.Af[i] ?_;refine Jc (xs:=n.Ac) i ?_;rintro hi5 b5 o5 a9 c9 F9 a10 c10 F10 rfl l9 l10;refine Dy n.Ac[i] ?_;refine Mf (E:=Al) (hz:=EW) (xs:=n.down) i ?_;rintro hi6 b6 o6 a11 c11 F11 rfl l11
 refine Mf (E:=Al) (hz:=EW) (xs:=n.up) i ?_;rintro hi7 b7 o7 a12 c12 F12 rfl l12;unfold maxLen at l8 l9 l10 l11 l12;refine go ?_;intros;refine Du [1,2,4] [0,1,2,3,4,5,6,7,8,9,10,11,12,13,14,15,16,17,18,19,20] (fun z:Nat × Nat=>[(5,Gc z.1 0 0),(6,Gc z.2 0 0)]) (fun z=>[.row z.1 122 0 [] [aa n.Af[i].Ai,.slice a8 n.Af[i].Ah.length c8] [],.row z.2 76 0 [] [.bool n.Ac[i].Bd,aa n.Ac[i].Ai,aa n.Ac[i].Aa.next,.slice a9 n.Ac[i].Aa.Ao.length c9,.slice a10 n.Ac[i].An.length c10] []]) (fun _=>True) ?_ fun z _=>?_
 ·refine Ar [0,6,10] [] ?_;refine C8 0 1 2 3 ?_;refine C8 4 5 6 7 ?_;refine Dg 8 9 ?_;refine dM 10 11 ?_ ?_
  ·apply Ci;rfl;intro _;refine dk ?_;refine dN 11 ?_;exact AR
  ·apply Ci;rfl;intro _;refine dk ?_;refine dN 10 ?_;exact AR
 refine go ?_;refine cb (fun w st=>Ai9 _ n.Af[i] F8 w (st.get (p:=.isv _ _ _ _) FA)) ?_;cases g1:Ba n.Af[i]
 ·rw [Ar3 (by rw [g1];rfl)];exact AA
 refine go ?_;refine Be (Ai8 n.Ac[i] _ (F9++F10)) fun _ _=>?_;cases g2:By n.Ac[i]
 ·rw [Ar3 (by rw [g1,g2];rfl)];exact AA
 refine go ?_;refine Be (Agb n.down[i] false _ _ F11 EV) fun _ _=>?_;rw [show (Fh n.down[i] && (!false || upQ n.down[i]))=Fh n.down[i] by simp];cases g3:Fh n.down[i]
 ·rw [Ar3 (by rw [g1,g2,g3];rfl)];exact AA
 refine go ?_;refine Be (Agb n.up[i] true _ _ F12 EV) fun _ _=>?_;rw [show (Fh n.up[i] && (!true || upQ n.up[i]))=(Fh n.up[i] && upQ n.up[i]) by simp];cases g4:(Fh n.up[i] && upQ n.up[i])
 ·rw [Ar3 (by rw [g1,g2,g3,g4];rfl)];exact AA
 rw [Bfa (by rw [g1,g2,g3,g4];rfl)]
 repeat (first|apply N7|(apply wO;apply oc;rfl;exact ydE)|apply T3|apply Xu|(apply Aot;rfl;rfl)|(apply Aos;rfl;rfl;rfl;rfl)|(apply Aou;rfl;rfl;rfl)|(apply c_t;rfl)|(apply c_f;rfl)|apply Vf|apply Rz|apply Ad1)
 refine Du [1,2,4,5,6] [0,1,2,3,4,5,6,7,8,9,10,11,12,13,14,15,16,17,18,19,20,21,22] (fun _:Unit=>[(7,.bool (Ms n.Af[i]))]) (fun _=>[]) (fun _=>True) ?_ fun _ _=>?_
 ·refine go ?_;refine Dc rfl rfl (fun h1=>?_) (fun h1=>?_)
  ·refine go ?_;rw [show decide ((n.Af[i].Ah.length:Int)=0)=Ms n.Af[i] by unfold Ms;rw [av h1,Arn];rfl];refine Bh () trivial
  ·refine go ?_;rw [show false=Ms n.Af[i] by unfold Ms;rw [ay h1];rfl];refine Bh () trivial
 repeat (first|apply N7|(apply wO;apply oc;rfl;exact ydE)|apply T3|apply Xu|(apply Aot;rfl;rfl)|(apply Aos;rfl;rfl;rfl;rfl)|(apply Aou;rfl;rfl;rfl)|(apply c_t;rfl)|(apply c_f;rfl)|apply Vf|apply Rz|apply Ad1)
 refine Du [1,2,4,5,6,7] [0,1,2,3,4,5,6,7,8,9,10,11,12,13,14,15,16,17,18,19,20,21,22] (fun _:Unit=>[(8,.bool (!n.Ac[i].Bd && decide (n.Ac[i].Ai=0)))]) (fun _=>[]) (fun _=>True) ?_ fun _ _=>?_
 ·cases hs:n.Ac[i].Bd
  ·exact CN
  ·exact CN
 refine Oz ?_;generalize hzr:(!n.Ac[i].Bd && decide (n.Ac[i].Ai=0))=zr;refine go ?_;refine A1 rfl (fun h0=>?_) (fun h0=>?_)
 ·obtain rfl:i=0:=EV
  rw [aH rfl];have hd6:(n.down[0].length:Int)+(n.up[0].length:Int)<=12:=by
   unfold Fh at g3 g4;simp only [aw,aF] at g3 g4;omega
  cases hze:Ms n.Af[0] <;> cases zr
  ·refine go ?_;refine Ar [2,3,5] [] ?_;refine Dg 0 1 ?_;refine ds 2 ?_;exact AZ
  ·refine go ?_;refine Ar [2,3,5] [] ?_;refine Dg 0 1 ?_;refine ds 2 ?_;exact AZ
  ·refine go ?_;refine Ar [2,3,5] [] ?_;refine Dg 0 1 ?_;refine Dd 2 ?_;exact AZ
  ·refine go ?_;refine Ar [2,3,5] [] ?_;refine Dg 0 1 ?_;refine Dd 2 ?_;refine Dg 3 4 ?_;refine Dd 5 ?_;refine Dd 6 ?_;refine Dd 7 ?_;refine Dd 8 ?_;refine Dd 9 ?_;refine Dd 10 ?_;refine Dd 11 ?_;refine Dd 12 ?_;refine Dd 13 ?_;refine Dd 14 ?_;refine Dd 15 ?_;refine Dd 16 ?_;refine Dg 17 18 ?_;refine dd ?_;refine go ?_;refine ret () trivial ?_;rw [show decide ((n.down[0].length:Int)+(n.up[0].length:Int)=0)=decide (n.down[0].length+n.up[0].length=0) by congr 1;rw [eq_iff_iff];omega];rfl
 rw [aC EV];refine go ?_;refine Be (N4 n.Ap i _ F1 hg EV) fun _ _=>?_;cases g6:Es n.Ap.Ad i
 ·rw [aC EW];cases zr
  ·exact AA
  ·exact AA
 ·rw [aH rfl];cases hze:Ms n.Af[i]
  ·exact AA
  ·exact AA
theorem Acr (n:Dt) (v:Value) (F:aq):FV 59 [v] [.isv Oi v n F] (.bool (At n)):=by
 refine enter func59 rfl ntmps59 fun w0=>?_;refine Fb ?_;rintro a1 c1 F1 a2 c2 F2 a3 c3 F3 a4 c4 F4 a5 c5 F5 a6 c6 F6 a7 c7 F7 rfl l1 l2 l3 l4 l5 l6 l7;unfold maxLen at l1 l2 l3 l4 l5 l6 l7;refine Jw n.Ap ?_;refine En n.Ab ?_;refine go ?_;intros;refine Be (Agc n.Ap _ F1) fun _ _=>?_;cases g1:Hj n.Ap
 ·rw [show At n=false by unfold At;rw [g1];rfl];exact AA
 refine go ?_;refine Be (Ai7 n.Ab _ (F2++F3)) fun _ _=>?_;cases g2:Cr n.Ab
 ·rw [show At n=false by unfold At;rw [g1,g2];rfl];exact AA
 refine go ?_;refine Dc rfl rfl (fun m0=>?_) (fun m0=>?_)
 ·rw [show At n=false by
   have:Lp n=false:=by
    cases hl:Lp n
    ·rfl
    ·obtain ⟨q1,q2,q3,q4⟩:=Bk.1 hl;exact absurd EV m0
   unfold At;rw [this];simp]
  exact AA
 refine go ?_;refine Dc rfl rfl (fun m1=>?_) (fun m1=>?_)
 ·rw [show At n=false by
   have:Lp n=false:=by
    cases hl:Lp n
    ·rfl
    ·obtain ⟨q1,q2,q3,q4⟩:=Bk.1 hl;exact absurd EV m1
   unfold At;rw [this];simp]
  exact AA
 refine go ?_;refine Dc rfl rfl (fun m2=>?_) (fun m2=>?_)
 ·rw [show At n=false by
   have:Lp n=false:=by
    cases hl:Lp n
    ·rfl
    ·obtain ⟨q1,q2,q3,q4⟩:=Bk.1 hl;exact absurd EV m2
   unfold At;rw [this];simp]
  exact AA
 refine go ?_;refine A1 rfl (fun m3=>?_) (fun m3=>?_)
 ·rw [show At n=false by
   have:Lp n=false:=by
    cases hl:Lp n
    ·rfl
    ·obtain ⟨q1,q2,q3,q4⟩:=Bk.1 hl;exact absurd EV m3
   unfold At;rw [this];simp]
  exact AA
 have q1:n.Af.length=n.Ap.Ad.length:=EV
 have q2:n.Ac.length=n.Ap.Ad.length:=EV
 have q3:n.down.length=n.Ap.Ad.length:=EV
 have q4:n.up.length=n.Ap.Ad.length:=EV
 have hl:=Bk.2 ⟨q1,q2,q3,q4⟩;refine go ?_;refine Dk [1,2,3] (fun k:Nat=>[(4,aa (k:Nat))]) (fun k=>k<=n.Ap.Ad.length/\∀j,j < k->Sy n j=true) (fun k=>n.Ap.Ad.length - k) 0 ⟨aE _,fun j h=>by omega⟩ fun k hk=>?_;obtain ⟨hk1,hk2⟩:=hk;refine go ?_;refine A1 rfl (fun h1=>?_) (fun h1=>?_)
 ·have hh:k < n.Ap.Ad.length:=EV
  refine go ?_;refine Be (Bbs n k _ F hl hh (Hi g1)) fun _ _=>?_;cases g:Sy n k
  ·rw [Afz hh g];exact AA
  refine go ?_;refine Cb (k+1) ⟨hh,fun j hj=>?_⟩ FY;rcases ba (bA.1 hj) with h|rfl
  ·exact hk2 j h
  ·exact g
 ·obtain rfl:k=n.Ap.Ad.length:=EV
  refine go ?_;refine ret () trivial ?_;rw [Xj.2 ⟨g1,g2,hl,hk2⟩];rfl
structure StZ where
 cs:am
 F:aq
 a:aj
 c:Nat
 Fe:aq
theorem Aoj {n:Dt} (hg:At n=true) (hc:n.Ab.Ai < 9999):∀k,k+1<=n.Ap.Ad.length->(Bc n k).2.length<=40000 * k
 | 0,_=>aK _
 | k+1,hk=>by
  have h:=Aoj hg hc k EV;obtain ⟨hGN,hT,hSrc⟩:=Pi hg hc k EV;obtain ⟨i1,i2,i3,i4,hrn⟩:=hGN.rn (i:=k+1) (by rw [hT];omega);show ((Bc n k).2++(Nj (Bc n k).1 (k+1)).2).length<=_;rw [aA];have:(Nj (Bc n k).1 (k+1)).2.length<=40000:=by
   unfold Nj
   split
   ·rename_i hl;have hgr:=Ej.1 (hrn.hf EV hl).2.1;obtain ⟨-,hfew⟩:=Adc hgr;rw [Gp i2];show ((Hg _).map _).length<=_;rw [bf];omega
   ·exact aE _
  omega
theorem Aod {n:Dt} {s:Jh} {r:Dt × ai} (hg:At n=true) (hs:Do s=true) (hr:Bl n s=some r):r.2.length<=400000:=by
 have hG:=Ax.1 hg;have h8:=Hi hG.t;have hn8:=h8.n1;have hn2:=h8.n0;have hck:=X7 hG.s;have hr0:=hr;unfold Bl at hr
 split at hr
 ·cases hr;exact aE _
 split at hr
 ·split at hr
  ·cases hr
  ·cases hr;have:=Aoj hg EV (n.Ap.Ad.length - 1) EV;show (Bc n (n.Ap.Ad.length - 1)).2.length<=_;omega
 unfold C4 at hr
 split at hr
 ·cases hr
 split at hr
 ·cases hr
 split at hr
 ·rename_i h1 h4 hlt h0 hk;cases hr;have hgp:=Lr (s:=s) hg;have hGp:=Ax.1 hgp;have hf:Ol s.node=true:=by
   have:=hs;unfold Do at this;rw [aC h1,aC h4] at this;simp only [aw] at this;exact this.1.2
  obtain ⟨f1,f2⟩:=Nb.1 hf;have hpt:(Gm n s).Ap=n.Ap:=JS
  obtain ⟨i1,i2,i3,i4,hrn⟩:=hGp.rn (i:=s.node.toNat) (by rw [hpt];omega);unfold C6
  split
  ·rename_i hl;have hgr:=Ej.1 (hrn.hf EV hl).2.1;obtain ⟨d0,d1⟩:=Acb (i:=s.node.toNat);have hp:Bo (Nf (T8 n s))=true:=M7 (Mj (s:=s) hg).1 (Oo EV);have:=(Uo hgr hp d0 d1).2;rw [Gp i2];show ((Ii _ _).map _).length<=_;rw [bf];omega
  ·exact aE _
 split at hr
 ·cases hr;exact aE _
 ·cases hr;exact aE _
abbrev NE:=Dt × ai
def I7 (i:Nat):Jh:=⟨2,(i:Int),⟨#[]⟩⟩
def L9 (i:Nat):Jh:=⟨5,(i:Int),⟨#[]⟩⟩
def My (x:NE) (s:Jh):NE:=(Hq x.1 (Bl x.1 s),x.2++U2 (Bl x.1 s))
def Ars (x:NE) (i:Nat):NE:=My (My x (I7 i)) (L9 i)
def Hp (x:NE):Nat->NE
 | 0=>x
 | k+1=>Ars (Hp x k) (k+1)
def Vz (x:NE):NE:=Hp x (x.1.Ap.Ad.length - 1)
def Qj (x:NE):Nat->Bool
 | 0=>false
 | k+1=>Qj x k || (Bl (Hp x k).1 (I7 (k+1))).isSome || (Bl (My (Hp x k) (I7 (k+1))).1 (L9 (k+1))).isSome
def qd (l:List (List As)):Nat:=(l.map List.length).sum
def X0 (n:Dt):Nat:=qd n.down+qd n.up
def vd (i:Nat):Nat:=8 ^ (7 - i)
def vu (i:Nat):Nat:=524289 * i
def wN (n:Dt):Nat:=Me vd 0 n.down+Me vu 0 n.up
def S0:Nat->NE->NE
 | 0,x=>x
 | f+1,x=>if X0 x.1=0 then x else S0 f (Vz x)
def drE (x:NE):NE:=S0 (wN x.1) x
def Qf (n:Dt):NE:=drE (n,[])
theorem Az9 (i:Nat):0 < vd i:=Nat.pow_pos EW
theorem Bdv {i:Nat} (h:1<=i):vd i<=262144:=bD (dJ (n:=8) EW (show 7 - i<=6 by omega)) EW
theorem Az8 {nodes:ar} {i:Nat} (hl:nodes.length<=7) (h:∀x∈nodes,i < x.toNat/\x.toNat<=7):Aaj vd nodes+1<=vd i:=by
 cases nodes with
 | nil=>exact Az9 i
 | cons x r =>
  obtain ⟨a,b⟩:=h x EX;have h1:=Aj8 vd (8 ^ (6 - i)) (x::r) fun y hy=>by
   have:=h y hy;exact dJ EW EV
  have h2:=cF (8 ^ (6 - i)) hl;have h3:0 < 8 ^ (6 - i):=Nat.pow_pos EW;have h4:vd i=8 ^ (6 - i) * 8:=by unfold vd;rw [<-ed];congr 1;omega
  omega
theorem Bdw {i p:Nat} (h0:1<=i) (h:p < i):2 * vd i+vu p+1<=vu i:=by
 have h1:=Bdv h0;unfold vu;omega
theorem Axp {l:ar} (hg:O9 l) (i:Nat):(Iq l (i:Int)).length<=7:=by
 have h0:=hg.n0;have h1:=hg.n1;rw [<-Ai5 (Sp hg.z (dB i)) (k:=l.length - 1) EV];have:=Ai6 l (i:Int) (l.length - 1);omega
theorem Aml {e:Bf} (he:Ba e=true) {n:Int} {l:ar} (hl:l.length<=7):(Um e n l).length<=7:=by
 unfold Um
 split
 ·rename_i x hx;exact bD (bJ _ _) ((Un he).2.2 x (bX hx))
 ·split
  ·exact hl
  ·exact aE _
theorem Bbd {n:Dt} (hg:At n=true) (i:Nat) (p:As):(Aem n i p).length<=7/\∀x∈Aem n i p,i < x.toNat/\x.toNat<=7:=by
 have hG:=Ax.1 hg;have h8:=Hi hG.t;have hn8:=h8.n1;have hk:=Axp h8 i;have hb:∀x∈Zb n i,i < x.toNat/\x.toNat<=7:=fun x hx=>by
  have:=Ln h8 hx;omega
 unfold Aem
 split
 ·refine ⟨?_,fun x hx=>hb x (Aa0 x hx)⟩;by_cases hi:i < n.Af.length
  ·have ee:Pp n i=n.Af[i]:=by unfold Pp;rw [br,aD hi];rfl
   rw [ee];exact Aml ((Hx hg).1 _ (aB hi)) hk
  ·have ee:Pp n i=⟨0,[]⟩:=by unfold Pp;rw [br,bn EV];rfl
   rw [ee];exact Aml EW hk
 ·exact ⟨hk,hb⟩
theorem Bba {n:Dt} (hg:At n=true) (i:Nat) (p:As):wN (C6 n i p).1+1<=wN n+vd i:=by
 have h0:=Az9 i;unfold C6
 split
 ·show wN n+1<=_;omega
 ·obtain ⟨h1,h2⟩:=Bbd hg i p;have h3:=Az8 h1 h2;have h4:=T4 vd [p] (Aem n i p) n.down;show Me vd 0 (Dp n.down (Aem n i p) [p])+Me vu 0 n.up+1<=Me vd 0 n.down+Me vu 0 n.up+vd i;simp only [dF,gE] at h4;omega
theorem Ayv (x:Cs) (p:As):(No x p).length<=2:=by
 unfold No
 split
 ·split
  ·exact (by decide:1<=2)
  ·exact (by decide:2<=2)
 ·exact (by decide:1<=2)
theorem Bh8 {n:Dt} (hg:At n=true) {i:Nat} (h0:1<=i) (hi:i < n.Ap.Ad.length) (p:As):wN (Qb n i p)+1<=wN n+vu i:=by
 have hG:=Ax.1 hg;have h8:=Hi hG.t;have hn8:=h8.n1;have hv:=Bdv h0;have hone:Aaj vd [((i:Nat):Int)]=vd i:=by show vd ((i:Nat):Int).toNat+0=_;rfl
 unfold Qb
 split
 ·have h4:=T4 vd (No n.Ab p) [((i:Nat):Int)] n.down;have h5:=cF (vd i) (Ayv n.Ab p);rw [hone] at h4;have h6:=Bdw (p:=0) h0 EV;show Me vd 0 (Dp n.down [((i:Nat):Int)] (No n.Ab p))+Me vu 0 n.up+1<=Me vd 0 n.down+Me vu 0 n.up+vu i;omega
 ·rename_i hp;have hlt:Y4 n i < i:=by
   have:=h8.p i hi EV;unfold Y4;rw [br,aD hi];show (n.Ap.Ad[i]).toNat < i;omega
  have h4:=T4 vd [Zu p] [((i:Nat):Int)] n.down;rw [hone] at h4;simp only [dF,gE] at h4;have h6:=Bdw h0 hlt;have h7:=Aow vu n.up (Y4 n i) [p];simp only [dF,gE] at h7;show Me vd 0 (Dp n.down [((i:Nat):Int)] [Zu p])+Me vu 0 (if Acf (Pp n (Y4 n i)) p.Ae then n.up.modify (Y4 n i) fun q=>Hf q [p] else n.up)+1<=Me vd 0 n.down+Me vu 0 n.up+vu i
  split <;> omega
theorem Bdq (f:Nat->Nat) {l:List (List As)} {i:Nat} (hi:i < l.length) (h0:¬(l.getD i []).length=0):Me f 0 (l.modify i (·.drop 1))+f i=Me f 0 l:=by
 rw [Pq hi] at h0;rw [Ic hi];exact Bag f l i hi EV
theorem Yx {n:Dt} {i:Nat} (hi:i < n.Ap.Ad.length):Bl n (I7 i)=if (n.down.getD i []).length=0 then none else some (C6 (Ql n i) i (Nf (n.down.getD i []))):=by
 unfold Bl;rw [aC (by show ¬(2:Int)=1;decide),aC (by show ¬(2:Int)=4;decide)];unfold C4;rw [aC (by show ¬((n.Ap.Ad.length:Int)<=(i:Int));omega)];rfl
theorem V2 {n:Dt} {i:Nat} (hi:i < n.Ap.Ad.length):Bl n (L9 i)=if (n.up.getD i []).length=0 then none else some (Qb (Og n i) i (Nf (n.up.getD i [])),[]):=by
 unfold Bl;rw [aC (by show ¬(5:Int)=1;decide),aC (by show ¬(5:Int)=4;decide)];unfold C4;rw [aC (by show ¬((n.Ap.Ad.length:Int)<=(i:Int));omega)];rfl
theorem Bb6 {i:Nat} (h0:1<=i) (h:i<=7):Do (I7 i)=true:=by
 unfold Do;rw [aC (by show ¬(2:Int)=1;decide),aC (by show ¬(2:Int)=4;decide)];have:Ol (I7 i).node=true:=Nb.2 (by show 1<=((i:Nat):Int)/\((i:Nat):Int)<=7;omega);rw [this];rfl
theorem Ayf {i:Nat} (h0:1<=i) (h:i<=7):Do (L9 i)=true:=by
 unfold Do;rw [aC (by show ¬(5:Int)=1;decide),aC (by show ¬(5:Int)=4;decide)];have:Ol (L9 i).node=true:=Nb.2 (by show 1<=((i:Nat):Int)/\((i:Nat):Int)<=7;omega);rw [this];rfl
theorem Asw {n:Dt} (hg:At n=true) {i:Nat} {p:As} (hp:Bo p=true) (h0:1<=i) (hi:i < n.Ap.Ad.length):(C6 n i p).2.length<=24:=by
 obtain ⟨i1,i2,i3,i4,hrn⟩:=(Ax.1 hg).rn hi;unfold C6
 split
 ·rename_i hl;have hgr:=Ej.1 (hrn.hf EV hl).2.1;obtain ⟨d0,d1⟩:=Acb (i:=i);have:=(Uo hgr hp d0 d1).2;rw [Gp i2];show ((Ii _ _).map _).length<=_;rw [bf];exact this
 ·exact aE _
theorem Bgg (n:Dt) (i:Nat) (p:As):(C6 n i p).1.Ab=n.Ab:=by unfold C6;split <;> rfl
theorem Bgh (n:Dt) (i:Nat) (p:As):(Qb n i p).Ab.Ai=n.Ab.Ai:=by
 unfold Qb
 split
 ·show (Mk n.Ab p.Ae).Ai=_;unfold Mk
  split <;> rfl
 ·rfl
structure Vb (x y:NE):Prop where
 g:At y.1=true
 t:y.1.Ap=x.1.Ap
 c:y.1.Ab.Ai=x.1.Ab.Ai
 e:y.2.length+24 * wN y.1<=x.2.length+24 * wN x.1
 w:wN y.1<=wN x.1
theorem Vb.refl {x:NE} (h:At x.1=true):Vb x x:=⟨h,rfl,rfl,aK _,aK _⟩
theorem Vb.trans {x y z:NE} (h:Vb x y) (k:Vb y z):Vb x z:=⟨k.g,k.t.trans h.t,k.c.trans h.c,bD k.e h.e,bD k.w h.w⟩
theorem Jy {x:NE} {s:Jh} (h:Bl x.1 s=none):My x s=x:=by
 unfold My;rw [h];show (x.1,x.2++[])=x;rw [bg]
theorem Yz {x:NE} {s:Jh} {r:NE} (h:Bl x.1 s=some r):My x s=(r.1,x.2++r.2):=by
 unfold My;rw [h];rfl
theorem Aol {x:NE} (hg:At x.1=true) {i:Nat} (h0:1<=i) (hi:i < x.1.Ap.Ad.length):Vb x (My x (I7 i))/\((Bl x.1 (I7 i)).isSome=true->wN (My x (I7 i)).1 < wN x.1):=by
 have hG:=Ax.1 hg;have hn8:=(Hi hG.t).n1;obtain ⟨q1,q2,q3,q4⟩:=Bk.1 hG.l;cases e:Bl x.1 (I7 i) with
 | none =>
  rw [Jy e];exact ⟨.refl hg,fun h=>by cases h⟩
 | some r =>
  have hr:=Mn hg (Bb6 h0 EV) e;have ht:=Sv e;rw [Yz e];rw [Yx hi] at e
  split at e
  ·cases e
  ·rename_i hq;cases e;have hp:=GN.pd (Ax.1 hg) i;have hpg:At (Ql x.1 i)=true:=Ax.2 hp;have h1:=Bba hpg i (Nf (x.1.down.getD i []));have h2:wN (Ql x.1 i)+vd i=wN x.1:=by
    have:=Bdq vd (l:=x.1.down) (i:=i) EV hq;show Me vd 0 (x.1.down.modify i (·.drop 1))+Me vu 0 x.1.up+vd i=Me vd 0 x.1.down+Me vu 0 x.1.up;omega
   have hpk:Bo (Nf (x.1.down.getD i []))=true:=M7 (Mj (s:=I7 i) hg).1 (Oo (by show 0 < (x.1.down.getD i []).length;omega));have h3:=Asw hpg hpk h0 hi;have hlt:wN (C6 (Ql x.1 i) i (Nf (x.1.down.getD i []))).1 < wN x.1:=EV
   refine ⟨⟨hr,ht,by rw [Bgg];rfl,?_,Nat.le_of_lt hlt⟩,fun _=>hlt⟩;show (x.2++_).length+24 * wN (C6 (Ql x.1 i) i (Nf (x.1.down.getD i []))).1<=_;rw [aA];omega
theorem Azz {x:NE} (hg:At x.1=true) {i:Nat} (h0:1<=i) (hi:i < x.1.Ap.Ad.length):Vb x (My x (L9 i))/\((Bl x.1 (L9 i)).isSome=true->wN (My x (L9 i)).1 < wN x.1)/\(My x (L9 i)).2=x.2:=by
 have hG:=Ax.1 hg;have hn8:=(Hi hG.t).n1;obtain ⟨q1,q2,q3,q4⟩:=Bk.1 hG.l;cases e:Bl x.1 (L9 i) with
 | none =>
  rw [Jy e];exact ⟨.refl hg,fun h=>(by cases h),rfl⟩
 | some r =>
  have hr:=Mn hg (Ayf h0 EV) e;have ht:=Sv e;rw [Yz e];rw [V2 hi] at e
  split at e
  ·cases e
  ·rename_i hq;cases e;have hp:=GN.pu (Ax.1 hg) i;have hpg:At (Og x.1 i)=true:=Ax.2 hp;have h1:=Bh8 hpg h0 hi (Nf (x.1.up.getD i []));have h2:wN (Og x.1 i)+vu i=wN x.1:=by
    have:=Bdq vu (l:=x.1.up) (i:=i) EV hq;show Me vd 0 x.1.down+Me vu 0 (x.1.up.modify i (·.drop 1))+vu i=Me vd 0 x.1.down+Me vu 0 x.1.up;omega
   have hlt:wN (Qb (Og x.1 i) i (Nf (x.1.up.getD i []))) < wN x.1:=EV
   refine ⟨⟨hr,ht,by rw [Bgh];rfl,?_,Nat.le_of_lt hlt⟩,fun _=>hlt,bg _⟩;show (x.2++[]).length+24 * wN (Qb (Og x.1 i) i (Nf (x.1.up.getD i [])))<=_;rw [bg];omega
theorem O6 {x:NE} (hg:At x.1=true):∀k,k+1<=x.1.Ap.Ad.length->Vb x (Hp x k)/\(Qj x k=true->wN (Hp x k).1 < wN x.1)/\(Qj x k=false->Hp x k=x/\∀i,1<=i->i<=k->Bl x.1 (I7 i)=none/\Bl x.1 (L9 i)=none)
 | 0,_=>⟨.refl hg,fun h=>(by cases h),fun _=>⟨rfl,fun i a b=>by omega⟩⟩
 | k+1,hk=>by
  obtain ⟨f1,m1,z1⟩:=O6 hg k EV;have hk1:k+1 < (Hp x k).1.Ap.Ad.length:=by rw [f1.t];omega
  obtain ⟨f2,m2⟩:=Aol f1.g EV hk1;have hk2:k+1 < (My (Hp x k) (I7 (k+1))).1.Ap.Ad.length:=by rw [f2.t];exact hk1
  obtain ⟨f3,m3,e3⟩:=Azz f2.g EV hk2;have w2:=f2.w;have w3:=f3.w;have w1:=f1.w;refine ⟨(f1.trans f2).trans f3,fun h=>?_,fun h=>?_⟩
  ·show wN (My (My (Hp x k) (I7 (k+1))) (L9 (k+1))).1 < _;unfold Qj at h;rw [bW,bW] at h;rcases h with (h|h)|h
   ·have:=m1 h;omega
   ·have:=m2 h;omega
   ·have:=m3 h;omega
  ·unfold Qj at h;rw [dr,dr] at h;obtain ⟨⟨h1,h2⟩,h3⟩:=h;obtain ⟨e1,z⟩:=z1 h1;have n2:Bl (Hp x k).1 (I7 (k+1))=none:=HG
   have n3:Bl (My (Hp x k) (I7 (k+1))).1 (L9 (k+1))=none:=HT
   have e2:=Jy n2;rw [e2] at n3;refine ⟨?_,fun i a b=>?_⟩
   ·show My (My (Hp x k) (I7 (k+1))) (L9 (k+1))=x;rw [e2,Jy n3,e1]
   ·by_cases hi:i=k+1
    ·subst hi;rw [e1] at n2 n3;exact ⟨n2,n3⟩
    ·exact z i a EV
theorem Abf:∀{l:List (List As)},qd l=0↔∀q∈l,q=[]
 | []=>by simp [qd]
 | x::r=>by
  have ih:=Abf (l:=r);show x.length+qd r=0↔_;rw [Nat.add_eq_zero_iff,bt,ih];simp
theorem Aa3 {l:List (List As)} {i:Nat} (h:qd l=0):(l.getD i []).length=0:=by
 rw [br];cases e:l[i]? with
 | none=>rfl
 | some q=>rw [Abf.1 h q (bX e)];rfl
theorem Abc {n:Dt} (hg:At n=true):(n.down.getD 0 []).length=0/\(n.up.getD 0 []).length=0:=by
 have hG:=Ax.1 hg;have h2:=(Hi hG.t).n0;obtain ⟨h1,h2,h3,h4,r⟩:=hG.rn (i:=0) EV;obtain ⟨-, -,a,b⟩:=r.hz rfl;rw [Pq h3,Pq h4];exact ⟨a,b⟩
theorem Bcg {n:Dt} (hg:At n=true) (h:∀i,1<=i->i < n.Ap.Ad.length->Bl n (I7 i)=none/\Bl n (L9 i)=none):X0 n=0:=by
 have hG:=Ax.1 hg;obtain ⟨q1,q2,q3,q4⟩:=Bk.1 hG.l;obtain ⟨z1,z2⟩:=Abc hg;have hd:qd n.down=0:=Abf.2 fun q hq=>by
  obtain ⟨i,hi,rfl⟩:=bi hq;rw [<-bt,<-Pq hi []];by_cases e:i=0
  ·rw [e];exact z1
  ·have:=(h i EV EV).1;rw [Yx EV] at this
   split at this
   ·assumption
   ·cases this
 have hu:qd n.up=0:=Abf.2 fun q hq=>by
  obtain ⟨i,hi,rfl⟩:=bi hq;rw [<-bt,<-Pq hi []];by_cases e:i=0
  ·rw [e];exact z2
  ·have:=(h i EV EV).2;rw [V2 EV] at this
   split at this
   ·assumption
   ·cases this
 unfold X0;omega
theorem Agj {x:NE} (hg:At x.1=true):Qj x (x.1.Ap.Ad.length - 1)=false↔X0 x.1=0:=by
 have h2:=(Hi (Ax.1 hg).t).n0;constructor
 ·intro h;obtain ⟨-,hz⟩:=(O6 hg (x.1.Ap.Ad.length - 1) EV).2.2 h;exact Bcg hg fun i a b=>hz i a EV
 ·intro h;have hd:qd x.1.down=0:=by unfold X0 at h;omega
  have hu:qd x.1.up=0:=by unfold X0 at h;omega
  have:∀k,k+1<=x.1.Ap.Ad.length->Qj x k=false:=by
   intro k
   induction k with
   | zero=>intro _;rfl
   | succ k ih =>
    intro hk;have h1:=ih EV;have e1:=((O6 hg k EV).2.2 h1).1;unfold Qj;have n1:Bl x.1 (I7 (k+1))=none:=by rw [Yx EV,aH (Aa3 hd)]
    have n2:Bl x.1 (L9 (k+1))=none:=by rw [V2 EV,aH (Aa3 hu)]
    rw [h1,e1,Jy n1,n1,n2];rfl
  exact this _ EV
theorem Aql {x:NE} (hg:At x.1=true) (h:X0 x.1=0):Vz x=x:=by
 have h2:=(Hi (Ax.1 hg).t).n0;exact ((O6 hg (x.1.Ap.Ad.length - 1) EV).2.2 ((Agj hg).2 h)).1
theorem Mr {x:NE} (hg:At x.1=true):Vb x (Vz x)/\(¬X0 x.1=0->wN (Vz x).1 < wN x.1):=by
 have h2:=(Hi (Ax.1 hg).t).n0;obtain ⟨a,b, -⟩:=O6 hg (x.1.Ap.Ad.length - 1) EV;refine ⟨a,fun h=>b ?_⟩;cases e:Qj x (x.1.Ap.Ad.length - 1)
 ·exact absurd ((Agj hg).1 e) h
 ·rfl
theorem Q4 {f:Nat} {x:NE} (h:X0 x.1=0):S0 f x=x:=by
 cases f
 ·rfl
 ·unfold S0;rw [aH h]
theorem Adn:∀(f g:Nat) {x:NE},At x.1=true->wN x.1<=f->wN x.1<=g->S0 f x=S0 g x
 | 0,g,x,hg,h,_=>by
  have hz:X0 x.1=0:=by
   by_cases h0:X0 x.1=0
   ·exact h0
   ·have:=(Mr hg).2 h0;omega
  rw [Q4 hz,Q4 hz]
 | f+1,g,x,hg,h,h2=>by
  by_cases hz:X0 x.1=0
  ·rw [Q4 hz,Q4 hz]
  ·obtain ⟨hf,hw⟩:=Mr hg;have hw:=hw hz;obtain ⟨m,rfl⟩:∃m,g=m+1:=⟨g - 1,EV⟩;unfold S0;rw [aC hz,aC hz];exact Adn f m hf.g EV EV
theorem Ah0 {f:Nat} {x:NE} (hg:At x.1=true) (h:wN x.1<=f):S0 f x=S0 (wN x.1) x:=Adn _ _ hg h (aK _)
theorem Aax {x:NE} (h:X0 x.1=0):drE x=x:=Q4 h
theorem Afp {x:NE} (hg:At x.1=true) (h:¬X0 x.1=0):drE x=drE (Vz x):=by
 obtain ⟨hf,hw⟩:=Mr hg;have hw:=hw h;obtain ⟨m,hm⟩:∃m,wN x.1=m+1:=⟨wN x.1 - 1,EV⟩;unfold drE;rw [hm];show (if X0 x.1=0 then x else S0 m (Vz x))=_;rw [aC h,Ah0 hf.g EV]
theorem Afo {x:NE} (hg:At x.1=true):Vb x (drE x)/\X0 (drE x).1=0:=by
 obtain ⟨k,hk⟩:∃k,wN x.1<=k:=⟨_,aK _⟩
 induction k generalizing x with
 | zero =>
  have hz:X0 x.1=0:=by
   by_cases h:X0 x.1=0
   ·exact h
   ·have:=(Mr hg).2 h;omega
  rw [Aax hz];exact ⟨.refl hg,hz⟩
 | succ k ih =>
  by_cases h:X0 x.1=0
  ·rw [Aax h];exact ⟨.refl hg,h⟩
  ·obtain ⟨hf,hw⟩:=Mr hg;have hw:=hw h;rw [Afp hg h];obtain ⟨a,b⟩:=ih hf.g EV;exact ⟨hf.trans a,b⟩
theorem Alq (f:Nat->Nat) (B:Nat):∀(l:List (List As)) (k:Nat),(∀q∈l,q.length<=6)->(∀i,k<=i->i < k+l.length->f i<=B)->Me f k l<=l.length * (6 * B)
 | [],_,_,_=>aE _
 | x::r,k,h,hB=>by
  have ih:=Alq f B r (k+1) (fun q hq=>h q FX) fun i a b=>hB i EV (by simp only [aU];omega);have h1:=Nat.mul_le_mul (h x EX) (hB k (aK _) (by simp only [aU];omega));show x.length * f k+Me f (k+1) r<=(r.length+1) * (6 * B);rw [gB];omega
theorem Bad {n:Dt} (hg:At n=true):wN n<=280000000:=by
 have hG:=Ax.1 hg;have h8:=(Hi hG.t).n1;obtain ⟨q1,q2,q3,q4⟩:=Bk.1 hG.l;obtain ⟨-, -,e3,e4⟩:=Hx hg;have h1:=Alq vd 2097152 n.down 0 (fun q hq=>(C5 (e3 q hq)).1) fun i _ _=>bD (dJ (n:=8) EW (show 7 - i<=7 by omega)) EW;have h2:=Alq vu 3670023 n.up 0 (fun q hq=>(C5 (e4 q hq)).1) fun i _ _=>by unfold vu;omega
 have h3:=cF (6 * 2097152) (show n.down.length<=8 by omega);have h4:=cF (6 * 3670023) (show n.up.length<=8 by omega);unfold wN;omega
theorem Ard {n:Dt} (hg:At n=true):(Qf n).2.length<=6720000000:=by
 have h:=(Afo (x:=(n,[])) hg).1.e;have:=Bad hg;show (drE (n,[])).2.length<=_;simp only [aY] at h;omega
def kst (m i:Nat):Jh:=⟨if m=0 then 2 else 5,(i:Int),⟨#[]⟩⟩
def Ta (y:NE) (i:Nat):Nat->NE
 | 0=>y
 | m+1=>My (Ta y i m) (kst m i)
def Ads (b:Bool) (y:NE) (i:Nat):Nat->Bool
 | 0=>b
 | m+1=>Ads b y i m || (Bl (Ta y i m).1 (kst m i)).isSome
theorem Abj (x:NE) (k:Nat):Hp x (k+1)=Ta (Hp x k) (k+1) 2:=rfl
theorem Anh (x:NE) (k:Nat):Qj x (k+1)=Ads (Qj x k) (Hp x k) (k+1) 2:=rfl
theorem Bh4 {m i:Nat} (h0:1<=i) (h:i<=7) (hm:m < 2):Do (kst m i)=true:=by
 rcases (show m=0\/m=1 by omega) with rfl|rfl
 ·exact Bb6 h0 h
 ·exact Ayf h0 h
theorem Ati {y:NE} (hg:At y.1=true) {i:Nat} (h0:1<=i) (hi:i < y.1.Ap.Ad.length):∀m,m<=2->Vb y (Ta y i m)
 | 0,_=>.refl hg
 | 1,_=>(Aol hg h0 hi).1
 | 2,_=>by
  have f1:=(Aol hg h0 hi).1;exact f1.trans (Azz f1.g h0 (by rw [f1.t];exact hi)).1
 | m+3,h=>by omega
def Ev (x:NE):Nat->NE
 | 0=>x
 | k+1=>Ars (Ev x k) k
theorem Bfi {x:NE} (hg:At x.1=true) {i:Nat} (hi:i < x.1.Ap.Ad.length):Vb x (My x (I7 i)):=by
 by_cases h0:i=0
 ·subst h0;rw [Jy (by rw [Yx hi,aH (Abc hg).1])];exact .refl hg
 ·exact (Aol hg EV hi).1
theorem Bfj {x:NE} (hg:At x.1=true) {i:Nat} (hi:i < x.1.Ap.Ad.length):Vb x (My x (L9 i))/\(My x (L9 i)).2=x.2:=by
 by_cases h0:i=0
 ·subst h0;rw [Jy (by rw [V2 hi,aH (Abc hg).2])];exact ⟨.refl hg,rfl⟩
 ·have:=Azz hg EV hi;exact ⟨this.1,this.2.2⟩
theorem Ad9 {x:NE} (hg:At x.1=true):∀k,k<=x.1.Ap.Ad.length->Vb x (Ev x k)
 | 0,_=>.refl hg
 | k+1,hk=>by
  have f1:=Ad9 hg k EV;have f2:=Bfi f1.g (i:=k) (by rw [f1.t];omega);have f3:=(Bfj f2.g (i:=k) (by rw [f2.t,f1.t];omega)).1;exact (f1.trans f2).trans f3
theorem Ajt {x:NE} (hg:At x.1=true):∀k,Ev x (k+1)=Hp x k
 | 0=>by
  have h2:=(Hi (Ax.1 hg).t).n0;show My (My x (I7 0)) (L9 0)=x;rw [Jy (x:=x) (s:=I7 0) (by rw [Yx EV,aH (Abc hg).1]),Jy (by rw [V2 EV,aH (Abc hg).2])]
 | k+1=>by
  show Ars (Ev x (k+1)) (k+1)=Ars (Hp x k) (k+1);rw [Ajt hg k]
theorem Aqk {x:NE} (hg:At x.1=true):Ev x x.1.Ap.Ad.length=Vz x:=by
 have h2:=(Hi (Ax.1 hg).t).n0;obtain ⟨m,hm⟩:∃m,x.1.Ap.Ad.length=m+1:=⟨x.1.Ap.Ad.length - 1,EV⟩;unfold Vz;rw [hm,Ajt hg,d9]
theorem N5 {l:List (List As)} (h:∀q∈l,q.length<=6):∀k,qd (l.take k)<=6 * k:=by
 induction l with
 | nil=>intro k;rw [List.take_nil];exact aE _
 | cons q r ih =>
  intro k;cases k with
  | zero=>exact aK _
  | succ k =>
   have:=ih (fun q hq=>h q FX) k;have:=h q EX;show q.length+qd (r.take k)<=_;omega
theorem Ak6 {l:List (List As)} {k:Nat} (hk:k < l.length):qd (l.take (k+1))=qd (l.take k)+l[k].length:=by
 unfold qd;rw [aR hk,bB,List.sum_append];simp
theorem Axy (a b:Int):FV 331 [aa a,aa b] [] (aa (min a b)):=by
 refine enter func331 rfl ntmps331 fun w0=>?_;refine go ?_;refine A1 rfl (fun h=>?_) (fun h=>?_)
 ·refine go ?_;rw [show min a b=a by omega];exact BC
 ·refine go ?_;rw [show min a b=b by omega];exact BC
theorem At0 (r:A9) (p:As) (d:Int) (v:Value) (F:aq) (hg:Lz r) (hp:Bo p=true) (d0:1<=d) (d1:d<=8) :
  Fn prog 293 [v,.agg #[aa p.Cq,aa p.Ae,aa p.Am,aa p.Er,af p.data],aa d] [.isv Bz v r F] [] (fun (_:NwS)=>True) (fun s=>.tuple #[.agg #[.bool ((Ld r p d)).Bd,aa ((Ld r p d)).Ai,aa ((Ld r p d)).Aa.next,.slice s.a1 ((Ld r p d)).Aa.Ao.length s.c1,.slice s.a2 ((Ld r p d)).An.length s.c2],.slice s.ae (Mp r p).length s.ce])
   (fun s=>[.isv Bz (.agg #[.bool ((Ld r p d)).Bd,aa ((Ld r p d)).Ai,aa ((Ld r p d)).Aa.next,.slice s.a1 ((Ld r p d)).Aa.Ao.length s.c1,.slice s.a2 ((Ld r p d)).An.length s.c2]) (Ld r p d) s.F1,.ow A8 9 (.slice s.ae (Mp r p).length s.ce) (Mp r p) s.Fe]):=by
 have k0:=hg.k0;have k1:=hg.k1;obtain ⟨-,q1,q2, -⟩:=Di.1 hg.q;have hser:∀q∈r.An,B8 q.Ae=true:=fun q hq=>(X4 hg hq).1;obtain ⟨hsg, -⟩:=Qr hg hp;obtain ⟨htg, -,htl⟩:=Tm hg hp;obtain ⟨hng,hnq, -,hnl⟩:=Ys hg hp d0 d1 EV;obtain ⟨s0_,s1_⟩:=Ij hsg;obtain ⟨w0_,w1_⟩:=Ij htg;obtain ⟨v0_,v1_⟩:=Ij hng;obtain ⟨hw8,hit⟩:=Ks hsg;obtain ⟨hu8,hiu⟩:=Ks htg;obtain ⟨n0,n1⟩:=Kr hp;have hrw:=(Ks hg.w).1;have hp2:=hp;unfold Bo at hp2;simp only [aw] at hp2;obtain ⟨t0_,t1_⟩:=A4.1 hp2.1.1.1.1.2;obtain ⟨l0_,l1_⟩:=A4.1 hp2.1.1.1.2;have hps:p.data.size<=8:=Ut hp2.1.1.2
 refine enter func293 rfl ntmps293 fun w0=>?_;refine Fj (v:=v) (x:=r) (F:=F) ?_;rintro a1 c1 F1 a2 c2 F2 rfl - -;refine go ?_;intros;refine Be (Tc r _ F EV EV) fun u _=>?_;refine Is ?_;rintro a5 c5 F5 a6 c6 F6 e6 - -;rw [e6];refine Av (E:=Cv) fun G5=>?_;refine Av (E:=Ay) fun G6=>?_;refine go ?_;intros;rename_i g3 g4 g6 g8 g9;refine C1 A8 ?_
 refine Du [2,4,6,8,9] [0,2,4,5] (fun _:aq=>[]) (fun s=>[.row g8 76 0 [] [.bool true,aa r.Ai,aa (Eb r p).next,.slice a5 (Eb r p).Ao.length c5,ab a6 r.An.length c6] [],.isv Br (.agg #[aa (Eb r p).next,.slice a5 (Eb r p).Ao.length c5]) (Eb r p) s]) (fun _=>True) ?_ fun G7 _=>?_
 ·cases hs:r.Bd
  ·by_cases hk:p.Cq=5
   ·have e:Eb r p=⟨p.Er,r.Aa.Ao⟩:=by unfold Eb;rw [hs,aH hk];rfl
    rw [e];refine go ?_;refine A1 rfl (fun _=>?_) (fun h=>absurd hk h);refine Ce (a1:=a5) ⟨p.Er,r.Aa.Ao⟩ ?_;refine go ?_;refine Bh G5 trivial
   ·have e:Eb r p=⟨p.Ae,r.Aa.Ao⟩:=by unfold Eb;rw [hs,aC hk];rfl
    rw [e];refine go ?_;refine A1 rfl (fun h=>absurd h hk) (fun _=>?_);refine Ce (a1:=a5) ⟨p.Ae,r.Aa.Ao⟩ ?_;refine go ?_;refine Bh G5 trivial
  ·have e:Eb r p=r.Aa:=by unfold Eb;rw [hs];rfl
   rw [e];refine Ce (a1:=a5) r.Aa ?_;refine go ?_;refine Bh G5 trivial
 repeat (first|apply Vf|apply Xu|apply N7)
 refine Ba8 [2,4,6,8] [3,4,5] (fun s:SkS=>[(9,.slice s.ae (Kw r p).length s.ce)]) (fun s=>[.row g8 76 0 [] [.bool true,aa r.Ai,aa (Ga r p).next,.slice s.a (Ga r p).Ao.length s.c,ab a6 r.An.length c6] [],.isv Br (.agg #[aa (Ga r p).next,.slice s.a (Ga r p).Ao.length s.c]) (Ga r p) s.F,.ow A8 9 (.slice s.ae (Kw r p).length s.ce) (Kw r p) s.Fe]) (fun _=>True) ?_ fun s _=>?_
 ·by_cases hk:p.Cq=5
  ·have e1:Ga r p=Eb r p:=by unfold Ga;rw [aH hk]
   have e2:Kw r p=[]:=by unfold Kw;rw [aH hk]
   rw [e1,e2];refine go ?_;rw [ay (show ¬ ¬p.Cq=5 from fun h=>h hk)];refine go ?_;refine Bh (⟨a5,c5,G7,_,_,_⟩:SkS) trivial
  ·have e1:Ga r p=L8 (Eb r p) p.Ae p.data:=by unfold Ga;rw [aC hk]
   have e2:Kw r p=Lu (Eb r p) p.Ae p.data:=by unfold Kw;rw [aC hk]
   rw [e1,e2];refine go ?_;rw [av (show ¬p.Cq=5 from hk)];refine go ?_;refine Be (Apv (Eb r p) p.Ae _ G7 s0_ s1_ n0 n1 hw8) fun _ _=>?_;cases hok:Ng (Eb r p) p.Ae
   ·have e:(Gs (Eb r p) p.Ae || !decide (gp (Eb r p).next p.Ae < 8))=true:=by unfold Ng at hok;simp only [dr] at hok;rw [hok.1,hok.2];rfl
    have e3:L8 (Eb r p) p.Ae p.data=Eb r p:=by unfold L8;rw [aH e]
    have e4:Lu (Eb r p) p.Ae p.data=[]:=by unfold Lu;rw [aH e]
    rw [e3,e4];refine go ?_;refine Bh (⟨a5,c5,G7,_,_,_⟩:SkS) trivial
   ·refine go ?_;refine Be (Ats (Eb r p) p.Ae p.data _ G7 s0_ s1_ n0 n1 hw8 hit hps hok) fun y hy=>?_;obtain ⟨hy1,hy2⟩:=hy;have hyl:y.es.length<=8:=by rw [hy2,<-e2];exact htl
    refine Av (E:=A8) (xs:=y.es) fun G8=>?_;refine go ?_;intros;apply wO;refine Nm (ys:=y.es) Dz Hv fun a9 c9 F9=>?_;rw [aZ];rw [<-hy1,<-hy2];refine go ?_;refine Bh (⟨y.a,y.c,y.F,_,_,_⟩:SkS) trivial
 obtain ⟨a3,c3,F3,ae,cE,Fe⟩:=s;dsimp only;refine go ?_;refine ce (fun w s=>Qi _ _ _ EV EV) ?_;refine go ?_;refine Du [2,4,6,8] [3,4,5] (fun s:SkS=>[(9,.slice s.ae (Mp r p).length s.ce)]) (fun s=>[.row g8 76 0 [] [.bool true,aa r.Ai,aa (Ct r p).next,.slice s.a (Ct r p).Ao.length s.c,ab a6 r.An.length c6] [],.isv Br (.agg #[aa (Ct r p).next,.slice s.a (Ct r p).Ao.length s.c]) (Ct r p) s.F,.ow A8 9 (.slice s.ae (Mp r p).length s.ce) (Mp r p) s.Fe]) (fun _=>True) ?_ fun s _=>?_
 ·cases hb:To (Ga r p).next p.Am
  ·have e1:Ct r p=Ga r p:=by show Ob _ _=_;unfold Ob;rw [hb];rfl
   have e2:Mp r p=Kw r p:=by unfold Mp Ov;rw [hb];simp
   rw [e1,e2];refine go ?_;refine Bh (⟨a3,c3,F3,_,_,_⟩:SkS) trivial
  refine go ?_;refine ce (fun w s=>Jm _ _ _ EV EV) ?_;refine go ?_;refine A1 rfl (fun h4=>?_) (fun h4=>?_)
  ·have e1:Ct r p=Jf (Ga r p) p.Am:=by show Ob _ _=_;unfold Ob;rw [hb,aH rfl,aH h4]
   have e2:Mp r p=Kw r p++Je (Ga r p) p.Am:=by unfold Mp Ov;rw [hb,aH rfl,aH h4]
   have hl2:=hnl;rw [e2,aA] at hl2;refine go ?_;refine Be (Tv (Ga r p) p.Am _ F3 w0_ w1_ t0_ t1_ hu8 hiu) fun y hy=>?_;obtain ⟨hy1,hy2⟩:=hy;have hyl:y.es.length<=24:=by rw [hy2];show (Je (Ga r p) p.Am).length<=24;omega
   refine Av (E:=A8) (xs:=y.es) fun G8=>?_;refine go ?_;intros;apply wO;refine Nm (ys:=y.es) Dz Hv fun a9 c9 F9=>?_;rw [e1,e2,show Jf (Ga r p) p.Am=y.y from hy1.symm,show Je (Ga r p) p.Am=y.es from hy2.symm];refine go ?_;refine Bh (⟨y.a,y.c,y.F,_,_,_⟩:SkS) trivial
  ·have e1:Ct r p=⟨p.Am,[]⟩:=by show Ob _ _=_;unfold Ob;rw [hb,aH rfl,aC h4]
   have e2:Mp r p=Kw r p++[⟨#[33]⟩]:=by unfold Mp Ov;rw [hb,aH rfl,aC h4]
   rw [e1,e2];refine go ?_;intros;apply wO;refine Np (Tx ⟨#[33]⟩ EW) Dz fun a9 c9 F9=>?_;refine Cm Cv EW ?_;refine Ce (a1:=none) ⟨p.Am,[]⟩ ?_;refine go ?_;refine Bh (⟨none,0,_,_,_,_⟩:SkS) trivial
 obtain ⟨a7,c7,F7,ae,cE,Fe⟩:=s;dsimp only;refine go ?_;refine Be (Adw r.An (Ct r p) a6 c6 G6 _ F7 EV hser v0_ v1_) fun z _=>?_;refine go ?_;refine ce (fun w s=>Qi _ _ _ EV EV) ?_;have hNq8:=(Di.1 hnq).2.1;cases hb:To (Ct r p).next p.Er
 ·have e1:Ld r p d=⟨true,r.Ai,Ct r p,Ed r.An (Ct r p)⟩:=by unfold Ld Pn;rw [hb];rfl
  rw [e1];refine go ?_;refine Av (E:=Ay) (xs:=Ed r.An (Ct r p)) fun F8=>?_;refine Ck (x:=Ct r p) ?_;rintro b1 dd1 G1 e5 m1;simp only [Value.agg.injEq,Array.mk.injEq,List.cons.injEq,Value.slice.injEq,cJ,cK] at e5;obtain ⟨rfl,rfl⟩:=e5;refine Dy ⟨true,r.Ai,Ct r p,Ed r.An (Ct r p)⟩ ?_;exact DH
 obtain ⟨k,hk⟩:∃k,k=Zq (Ct r p) p.Er:=⟨_,rfl⟩;have hk8:k<=8:=by rw [hk];exact Sk _ _
 have hgb:=Ll (Ct r p).next p.Er
 have hkm:((k:Nat):Int)=min (gp (Ct r p).next p.Er) 8:=by rw [hk];unfold Zq;omega
 obtain ⟨N,hN⟩:∃N,N=N9 (Ct r p) k:=⟨_,rfl⟩;have hNl:N.length<=8:=by have:=Ac0 (Ct r p) k;rw [hN];omega
 have e1:Ld r p d=⟨true,r.Ai,Ct r p,Le (Ct r p).next (r.Ai+d) (Ed r.An (Ct r p)) N⟩:=by unfold Ld Pn;rw [hb,aH rfl,hN,hk]
 rw [e1];have T6:=Jb (Ct r p).next (min (gp (Ct r p).next p.Er) 8)
 have hgp:gp (Ct r p).next (Cd (Ct r p).next (min (gp (Ct r p).next p.Er) 8))=(k:Nat):=by rw [<-hkm];unfold gp Cd;omega
 refine go ?_;refine ce (fun w s=>Jm _ _ _ EV EV) ?_;refine go ?_;refine Be (Axy _ _) fun _ _=>?_;refine go ?_;refine ce (fun w s=>Ht _ _ _ EV EV) ?_;refine go ?_;refine Be (Akv (Ct r p) _ k _ F7 v0_ v1_ EV EV hgp) fun m _=>?_;rw [<-hN];refine Av (E:=Bb) (xs:=N) fun GN=>?_;refine Av (E:=Ay) (xs:=Ed r.An (Ct r p)) fun F8=>?_;refine go ?_
 refine Ca [2,6,8,9,14,16] (fun s:AwS=>[(17,aa (s.i:Nat))]) (fun s=>[.row g8 76 0 [] [.bool true,aa r.Ai,aa (Ct r p).next,.slice a7 (Ct r p).Ao.length c7,.slice s.a (Le (Ct r p).next (r.Ai+d) (Ed r.An (Ct r p)) (N.take s.i)).length s.c] [],.sl Ay (.slice s.a (Le (Ct r p).next (r.Ai+d) (Ed r.An (Ct r p)) (N.take s.i)).length s.c) (Le (Ct r p).next (r.Ai+d) (Ed r.An (Ct r p)) (N.take s.i)) s.F]) (fun s=>s.i<=N.length) (fun s=>N.length - s.i) ⟨0,z.1,z.2.1,F8⟩ (aE _) fun s hs=>?_;obtain ⟨i,a3,c3,F3⟩:=s;dsimp only at hs ⊢
 have hall:=Q1 (w:=Ct r p) (u:=r.Ai+d) EV EV (N.take i) (Ed r.An (Ct r p)) (fun n hn=>by
  have:=Q9 (w:=Ct r p) (n:=n) hk8 (by rw [<-hN];exact bR hn);exact ⟨this.1,this.2.2⟩) hnq Pg
 have hLs:∀h:i < N.length,Le (Ct r p).next (r.Ai+d) (Ed r.An (Ct r p)) (N.take (i+1))=Uf (Ct r p).next (Le (Ct r p).next (r.Ai+d) (Ed r.An (Ct r p)) (N.take i)) N[i] (r.Ai+d):=fun h=>Adl h
 generalize hLd:Le (Ct r p).next (r.Ai+d) (Ed r.An (Ct r p)) (N.take i)=L at *
 have hLq:=hall.1;have hL8:=(Di.1 hLq).2.1;refine go ?_;refine A1 rfl (fun h4=>?_) (fun h4=>?_)
 ·have hi:i < N.length:=EV
  have hni:=Q9 (w:=Ct r p) (n:=N[i]) hk8 (by rw [<-hN];exact aB hi);refine In (xs:=N) i ?_;rintro hi2 b o2 e;rw [e];refine go ?_;refine Ar [0,1] [12] ?_;refine C8 0 1 2 3 ?_;refine C8 4 5 6 7 ?_;refine Dg 8 9 ?_;refine dN 10 ?_;refine oC ?_;refine Be (Axq L (Ct r p).next N[i] r.Ai d a3 c3 F3 hLq hni.1 k0 k1 d0 d1) fun u _=>?_;rw [<-hLs hi];refine dk ?_;refine dt 11 ?_;refine dN 12 ?_;refine oS ?_;refine N2 ?_;refine dd ?_;refine Av (E:=Ay) fun F9=>?_;refine go ?_;exact CL
 have hi:i=N.length:=EV
 subst hi;rw [bm] at hLd;rw [hLd];refine go ?_;refine Ck (x:=Ct r p) ?_;rintro b1 dd1 G1 e5 m1;simp only [Value.agg.injEq,Array.mk.injEq,List.cons.injEq,Value.slice.injEq,cJ,cK] at e5;obtain ⟨rfl,rfl⟩:=e5;refine Dy ⟨true,r.Ai,Ct r p,L⟩ ?_;exact DH
theorem Aco (r:A9) (p:As) (d:Int) (v:Value) (F:aq) (hg:Lz r) (hp:Bo p=true) (d0:1<=d) (d1:d<=8) :
  Fn prog 241 [v,.agg #[aa p.Cq,aa p.Ae,aa p.Am,aa p.Er,af p.data],aa d] [.isv Bz v r F] [] (fun (_:NwS)=>True) (fun s=>.tuple #[.agg #[.bool ((Dm r p d)).Bd,aa ((Dm r p d)).Ai,aa ((Dm r p d)).Aa.next,.slice s.a1 ((Dm r p d)).Aa.Ao.length s.c1,.slice s.a2 ((Dm r p d)).An.length s.c2],.slice s.ae (Ii r p).length s.ce])
   (fun s=>[.isv Bz (.agg #[.bool ((Dm r p d)).Bd,aa ((Dm r p d)).Ai,aa ((Dm r p d)).Aa.next,.slice s.a1 ((Dm r p d)).Aa.Ao.length s.c1,.slice s.a2 ((Dm r p d)).An.length s.c2]) (Dm r p d) s.F1,.ow A8 9 (.slice s.ae (Ii r p).length s.ce) (Ii r p) s.Fe]):=by
 have k0:=hg.k0;have k1:=hg.k1;have hrw:=(Ks hg.w).1;obtain ⟨-,q1,q2, -⟩:=Di.1 hg.q;obtain ⟨n0,n1⟩:=Kr hp;have hkd:1<=p.Cq/\p.Cq<=5:=by unfold Bo Ff at hp;simp only [aw,aF] at hp;exact hp.1.1.1.1.1.1
 refine enter func241 rfl ntmps241 fun w0=>?_;refine Fj (v:=v) (x:=r) (F:=F) ?_;rintro a1 c1 F1 a2 c2 F2 rfl - -;refine go ?_;intros;by_cases hk4:p.Cq=4
 ·have hn:Lx p=false:=by unfold Lx;simp [hk4]
  have eE:Ii r p=[]:=by unfold Ii;rw [hn];rfl
  rw [av hk4];cases hs:r.Bd
  ·have eR:Dm r p d=r:=by unfold Dm;rw [hn,hs];simp
   refine go ?_;rw [av hk4];refine go ?_;refine Be (Tc r _ F EV EV) fun u _=>?_;refine Is ?_;rintro a5 c5 F5 a6 c6 F6 e6 - -;rw [e6];refine Av (E:=Cv) fun G5=>?_;refine Av (E:=Ay) fun G6=>?_;refine go ?_;intros;refine C1 A8 ?_;refine Dy (a1:=a5) r ?_;rw [eR,eE];rw [hs];exact DH
  ·have eR:Dm r p d=Amg r p:=by unfold Dm;rw [hn,hs,av hk4];rfl
   refine go ?_;refine Be (Tc r _ F EV EV) fun u _=>?_;refine Is ?_;rintro a5 c5 F5 a6 c6 F6 e6 - -;rw [e6];refine Av (E:=Cv) fun G5=>?_;refine go ?_;intros;refine Be (Akx r.An r.Aa.next p.Ae r.Ai a2 c2 F2 hg.q (A4.2 ⟨n0,n1⟩) k0 k1) fun y _=>?_;refine Av (E:=Ay) (xs:=Q3 r.Aa.next r.An p.Ae (r.Ai+4)) fun G6=>?_;refine go ?_;intros;refine C1 A8 ?_;refine Dy (a1:=a5) (Amg r p) ?_;rw [eR,eE];exact DH
 rw [ay hk4];refine go ?_;rw [ay hk4];refine go ?_;by_cases hk3:p.Cq=3
 ·have hn:Lx p=false:=by unfold Lx;simp [hk3]
  have eE:Ii r p=[]:=by unfold Ii;rw [hn];rfl
  have eR:Dm r p d=r:=by unfold Dm;rw [hn,ay hk4];rfl
  rw [av hk3];refine go ?_;refine Be (Tc r _ F EV EV) fun u _=>?_;refine Is ?_;rintro a5 c5 F5 a6 c6 F6 e6 - -;rw [e6];refine Av (E:=Cv) fun G5=>?_;refine Av (E:=Ay) fun G6=>?_;refine go ?_;intros;refine C1 A8 ?_;refine Dy (a1:=a5) r ?_;rw [eR,eE];exact DH
 have hn:Lx p=true:=by
  unfold Lx;have:p.Cq=1\/p.Cq=2\/p.Cq=5:=EV
  rcases this with h|h|h <;> simp [h]
 have eE:Ii r p=Mp r p:=by unfold Ii;rw [hn];rfl
 have eR:Dm r p d=Ld r p d:=by unfold Dm;rw [hn];rfl
 rw [ay hk3,eE,eR];refine go ?_;refine Be (At0 r p d _ F hg hp d0 d1) fun s _=>?_;refine go ?_;refine ret ⟨s.a1,s.c1,s.F1,s.a2,s.c2,[],s.ae,s.ce,_⟩ trivial rfl
end Go.Proofs.YtkoldibamfjghaaGreatDoor
namespace Go.Proofs.YtkoldibamfjghaaGreatDoor

open Go.RowKit
end Go.Proofs.YtkoldibamfjghaaGreatDoor
namespace Go.Proofs.YtkoldibamfjghaaGreatDoor
open Go.RowKit
def Aer (x:A9):Bool:=x.Bd && decide ((x.An.length:Int)=0) && decide ((x.Aa.Ao.length:Int)=0)
theorem Adt (x:A9) (v:Value) (F:aq):FV 267 [v] [.isv Bz v x F] (.bool (Aer x)):=by
 refine enter func267 rfl ntmps267 fun w0=>?_;refine Fj (v:=v) (x:=x) (F:=F) ?_;rintro a1 c1 F1 a2 c2 F2 rfl l1 l2;unfold maxLen at l1 l2;refine go ?_;intros;cases hs:x.Bd
 ·refine go ?_;refine ret () trivial ?_;unfold Aer;rw [hs];rfl
 refine go ?_;refine Dc rfl rfl (fun h1=>?_) (fun h1=>?_)
 rotate_left
 ·refine go ?_;refine ret () trivial ?_;unfold Aer;rw [hs,ay h1];rfl
 refine go ?_;refine ret () trivial ?_;unfold Aer;rw [hs,av h1];rfl
def P9 (l:ar) (k:Nat):ar:=((List.range k).filter fun i=>Es l ((i:Nat):Int)).map fun (i:Nat)=>((i:Nat):Int)
def lvs (l:ar):ar:=P9 l l.length
theorem Agh (l:ar) (k:Nat):P9 l (k+1)=P9 l k++if Es l (k:Int)=true then [(k:Int)] else []:=by
 unfold P9;rw [dz,bY,bB]
 split <;> simp_all
theorem Aug {l:ar} {k:Nat} (h:Es l (k:Int)=true):P9 l (k+1)=P9 l k++[(k:Int)]:=by rw [Agh,aH h]
theorem Ax1 {l:ar} {k:Nat} (h:Es l (k:Int)=false):P9 l (k+1)=P9 l k:=by rw [Agh,aC (by rw [h];decide),bg]
theorem Ajh (l:ar) (k:Nat):(P9 l k).length<=k:=by
 unfold P9;rw [bf];exact bD (bJ _ _) EX
theorem Aro {l:ar} {x:Int} {k:Nat} (h:x∈P9 l k):∃i,i < k/\x=((i:Nat):Int)/\Es l x=true:=by
 unfold P9 at h;obtain ⟨i,hi,rfl⟩:=bO.1 h;obtain ⟨h1,h2⟩:=bL.1 hi;exact ⟨i,cO.1 h1,rfl,h2⟩
theorem Bcp {l:ar} (hg:O9 l):Es l ((0:Nat):Int)=false:=by
 have h1:=hg.n0;have h2:=hg.p 1 EV EV;have h3:(((0:Nat):Int))∈l:=by
  have:l[1]=((0:Nat):Int):=EV
  rw [<-this];exact aB _
 unfold Es;rw [av h3];rfl
theorem Bes {l:ar} {k:Nat} (h:k < (lvs l).length):∃i,i < l.length/\(lvs l)[k]=((i:Nat):Int)/\Es l ((i:Nat):Int)=true:=by
 obtain ⟨i,hi,e,hl⟩:=Aro (aB h);exact ⟨i,hi,e,e▸hl⟩
theorem Azi {n:Dt} {s:Jh} (hg:At n=true) (hs:Do s=true) {y:NE} (e:Bl n s=some y):Bi n s=(y.1,y.2,true):=by
 unfold Bi;rw [hg,hs,e];rfl
theorem Ava {n:Dt} {s:Jh} (e:Bl n s=none):(Bi n s).2.2=false:=by
 unfold Bi;rw [e];cases At n <;> cases Do s <;> rfl
theorem V3 {n:Dt} {s:Jh} (h:(Bi n s).2.2=true):At (Bi n s).1=true:=by
 cases g:At n
 ·exact absurd h (by unfold Bi;rw [g];cases Do s <;> exact Bool.false_ne_true)
 cases k:Do s
 ·exact absurd h (by unfold Bi;rw [g,k];exact Bool.false_ne_true)
 cases e:Bl n s with
 | none=>rw [Ava e] at h;cases h
 | some y=>rw [Azi g k e];exact Mn g k e
theorem Awx {n:Dt} (hg:At n=true):At (Qf n).1=true/\X0 (Qf n).1=0:=⟨(Afo (x:=(n,[])) hg).1.g,(Afo (x:=(n,[])) hg).2⟩
def Qm (n:Dt):Int × Int × Bool:=if At n then (((qd n.down:Nat):Int),((qd n.up:Nat):Int),true) else (0,0,false)
def Aci (n:Dt) (i:Nat):Bool:=Aer (P4 n i) && decide ((P4 n i).Aa.next=Cd n.Ab.Aa.Am n.Ab.Aa.Ak.length)
def Y7 (n:Dt):Bool:=decide (X0 n=0) && (lvs n.Ap.Ad).all fun x=>Aci n x.toNat
def Gg (n:Dt):Bool × Bool:=if At n then (Y7 n,true) else (false,false)
theorem Ayn {l:List (List As)} (h:∀i (hi:i < l.length),l[i].length=0):qd l=0:=by
 refine Abf.2 fun q hq=>?_;obtain ⟨i,hi,rfl⟩:=bi hq;exact bt.1 (h i hi)
theorem Ax2 {l:ar} {i:Nat} (hi:i < l.length) (h:Es l ((i:Nat):Int)=true):((i:Nat):Int)∈lvs l:=by
 unfold lvs P9;exact bO.2 ⟨i,bL.2 ⟨cO.2 hi,h⟩,rfl⟩
theorem Azj {n:Dt} (h:¬X0 n=0):Y7 n=false:=by unfold Y7;rw [ay h];rfl
theorem Ahf {n:Dt} {i:Nat} (hi:i < n.Ap.Ad.length) (h:Es n.Ap.Ad ((i:Nat):Int)=true) (hb:Aci n i=false):Y7 n=false:=by
 unfold Y7;rw [Bool.and_eq_false_iff];right;rw [cP];exact ⟨_,Ax2 hi h,by rw [show ((i:Nat):Int).toNat=i from rfl,hb];decide⟩
theorem Aoe {n:Dt} (h:X0 n=0) (hl:∀i,i < n.Ap.Ad.length->Es n.Ap.Ad ((i:Nat):Int)=true->Aci n i=true):Y7 n=true:=by
 unfold Y7;rw [av h,bT,aV];intro x hx;obtain ⟨i,hi,rfl,h2⟩:=Aro hx;exact hl i hi h2
def Xo:au:=⟨#[33]⟩
def SlI (S:ai) (k:Nat) (l:List Hz):Prop:=∀(j:Nat) s,l[j]?=some s->s.T6=true->S[k+j]?=some s.Dj
def EvI (S:ai) (b:Nat) (es:ai):Prop:=∀(i:Nat) e,es[i]?=some e->e=Anf\/∃t,S[b+i]?=some t/\e=Agr t
section
variable {S:ai} {f:Int} {k b:Nat}
theorem EvI.nil:EvI S b []:=fun i e h=>by simp at h
theorem EvI.app {x y:ai} (h:EvI S b x) (h2:EvI S (b+x.length) y):EvI S b (x++y):=fun i e he=>by
 by_cases hi:i < x.length
 ·rw [bx hi] at he;exact h i e he
 ·rw [bU EV] at he;have:=h2 _ e he
  rwa [show b+x.length+(i - x.length)=b+i by omega] at this
theorem SlI.drop {l:List Hz} (h:SlI S k l) (m:Nat):SlI S (k+m) (l.drop m):=fun j s hs hv=>by
 rw [dw] at hs;have:=h _ s hs hv
 rwa [show k+(m+j)=k+m+j by omega] at this
theorem SlI.nil:SlI S k []:=fun j s h=>by simp at h
theorem EvI.mono {S2:ai} {es:ai} (h:EvI S b es):EvI (S++S2) b es:=fun i e he=>by
 rcases h i e he with h|⟨t,h,e2⟩
 ·exact .inl h
 ·exact .inr ⟨t,by rw [bx (cj.1 h).1];exact h,e2⟩
theorem SlI.mono {S2:ai} {l:List Hz} (h:SlI S k l):SlI (S++S2) k l:=fun j s hs hv=>by
 have:=h j s hs hv;rw [bx (cj.1 this).1];exact this
structure PkI (S:ai) (f:Int) (p:As):Prop where
 t:Lx p=true->∃i:Nat,i<=S.length/\p.Am=Cd f i
 l:Lx p=true->∃i:Nat,i<=S.length/\p.Er=Cd f i
 n:Lx p=true->p.Cq≠5->∃i:Nat,S[i]?=some p.data/\p.Ae=Cd f i
theorem PkI.mono {S2:ai} {p:As} (h:PkI S f p):PkI (S++S2) f p :=
 ⟨fun hn=>by obtain ⟨i,a,e⟩:=h.t hn;exact ⟨i,IJ,e⟩,fun hn=>by obtain ⟨i,a,e⟩:=h.l hn;exact ⟨i,IJ,e⟩,
  fun hn h5=>by obtain ⟨i,a,e⟩:=h.n hn h5;exact ⟨i,by rw [bx (cj.1 a).1];exact a,e⟩⟩
structure WnI (S:ai) (f:Int) (w:Aj) (es:ai) (k:Nat):Prop where
 le:k<=S.length
 n:w.next=Cd f k
 s:SlI S k w.Ao
 e:Xo∈es\/∃b,b+es.length=k/\EvI S b es
theorem WnI.on {w w2:Aj} {es e2:ai} (h:WnI S f w es k) (h1:EvI S k e2) (h2:k+e2.length<=S.length) (h3:w2.next=Cd f ((k+e2.length:Nat):Int)) (h4:SlI S (k+e2.length) w2.Ao):WnI S f w2 (es++e2) (k+e2.length) :=
 ⟨h2,h3,h4,by
  rcases h.e with h|⟨b,hb,he⟩
  ·exact .inl (cA _ h)
  ·exact .inr ⟨b,IJ,he.app (by rw [hb];exact h1)⟩⟩
theorem WnI.mono {S2:ai} {w:Aj} {es:ai} (h:WnI S f w es k):WnI (S++S2) f w es k :=
 ⟨by rw [aA];have:=h.le;omega,h.n,h.s.mono,by
  rcases h.e with h|⟨b,hb,he⟩
  ·exact .inl h
  ·exact .inr ⟨b,hb,he.mono⟩⟩
structure RcI (S:ai) (f:Int) (r:A9) (es:ai):Prop where
 z:r.Bd=false->es=[]
 w:r.Bd=true->∃k,WnI S f r.Aa es k/\∀q∈r.An,∃j:Nat,j < S.length/\q.Ae=Cd f j
theorem RcI.mono {S2:ai} {r:A9} {es:ai} (h:RcI S f r es):RcI (S++S2) f r es :=
 ⟨h.z,fun hs=>by obtain ⟨k,a,c⟩:=h.w hs;exact ⟨k,a.mono,fun q hq=>by obtain ⟨j,hj,e⟩:=c q hq;exact ⟨j,IJ,e⟩⟩⟩
end
theorem goL {X:Prop} {c:Cx} {fr:Fr} {H:List Pc} {Φ:Gl} (h:X) (hs:Kp X->T c fr H Φ:=by intro hX;(repeat (first|apply N7|apply Aif|(apply wO;apply oc;rfl;exact ydE)|(apply wO;apply oc;rfl;apply Bfu;rfl;exact Bn;assumption)|apply T3|apply Xu|(apply Aot;rfl;rfl)|(apply Aos;rfl;rfl;rfl;rfl)|(apply Aou;rfl;rfl;rfl)|(apply c_t;rfl)|(apply c_f;rfl)|apply Vf|apply Rz|apply Ad1|apply Ao8|apply Awy|apply Bed|apply Bee|(apply Aph;rfl)|apply Awp|(apply wO;apply Ap5;rfl;rfl;rfl;exact hX;clear hX;intro _ hX)|(apply wO;apply Agm;rfl;exact hX;clear hX;intro _ hX)|(apply wO;apply Ap7;rfl;rfl;rfl;(first|exact AggC.s|exact OneC.s);rfl;exact Ag0;exact Aur;rfl)|(apply wO;apply Bgw;rfl;rfl;exact AggC.s;exact Ag0;assumption;rfl;assumption)|(apply wO;apply Ak1;rfl;kernel_rfl;exact Vi)|(refine A1 rfl (fun h=>absurd h (by first|omega|simp)) (fun h=>?_);clear h)|(refine Dc rfl rfl (fun h=>absurd h (by first|omega|simp)) (fun h=>?_);clear h)));exact hX.h):T c fr H Φ:=hs ⟨h⟩
end Go.Proofs.YtkoldibamfjghaaGreatDoor
