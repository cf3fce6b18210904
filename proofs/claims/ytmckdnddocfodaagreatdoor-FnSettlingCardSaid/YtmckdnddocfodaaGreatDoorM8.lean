/- Part 8 of the proof: 21 texts, one behind the other. -/
import Derived.Laws.IdiomStrings
import Derived.Laws.Bits64b
import Derived.Test.YtmckdnddocfodaaGreatDoorM7
open _root_.Go.Proofs.Tryz
set_option maxRecDepth 100000
set_option maxHeartbeats 8000000
set_option linter.all false
set_option linter.unusedVariables false
set_option linter.unusedSimpArgs false
namespace Go.Proofs.YtmckdnddocfodaaGreatDoor
theorem BG{p:Prop}(h:p:=by refine go ?_;refine Bw (Rs _ g F s6 3 h6 (by omega) (by omega) (by omega)) fun l hl=>?_;obtain ⟨hl1,hl2⟩:=hl;refine go ?_;refine ret ⟨⟨1,0,l.1⟩,l.2⟩ ⟨by show (decide ((0:Int)=0) && Qd l.1)=true;rw [All (by omega) hl1.2.2];rfl,by show l.1.size<=maxLen;unfold maxLen;omega,hl2.mono (by omega)⟩ rfl):p:=h
theorem BJ{p:Prop}(h:p:=by refine go ?_;refine ret ⟨⟨2,((z.n:Nat):Int),⟨#[]⟩⟩,s6⟩ ⟨okq (by decide) z1 z2,by show (0:Nat)<=maxLen;exact aD _,h6.mono (by omega)⟩ rfl):p:=h
theorem CV{p:Prop}(h:p:=by obtain ⟨Xs,hR⟩:=h.rf hs.gt;exact ⟨S,E,Xs,hs,by have:=h.sle;have:=h.cr;omega,hR⟩):p:=h
theorem EK{p:Prop}(h:p:=by refine go ?_;refine ret ⟨⟨4,0,⟨#[]⟩⟩,s6⟩ ⟨rfl,by show (0:Nat)<=maxLen;exact aD _,h6.mono (by omega)⟩ rfl):p:=h
theorem GO{p:Prop}(h:p:=by show z.i - 1 < z.i;omega):p:=h
theorem IM{p:Prop}(h:p:=by rw [IntKind.wrap_u64];omega):p:=h
end Go.Proofs.YtmckdnddocfodaaGreatDoor
namespace Go.Proofs.YtmckdnddocfodaaGreatDoor.Se
open Go.RowKit
def Ai9 (e:Bg) (i:Int):Prop:=∃y∈e.Af,i∈y.Bp
section
variable {e:Bg} {n i g:Int} {below:al}
theorem Ar8 (h:Ai9 (Jz e n) i):Ai9 e i:=by
 unfold Jz at h
 split at h
 ·obtain ⟨y,hy,hf⟩:=h;rcases aG.1 hy with hy|hy
  ·exact ⟨y,bg hy,hf⟩
  ·exact ⟨y,bj hy,hf⟩
 ·exact h
theorem Aoy (h:Ai9 (Cn e) i):Ai9 e i:=by
 obtain ⟨y,hy,hf⟩:=h;exact ⟨y,(aO.1 (show y∈e.Af.filter _ from hy)).1,hf⟩
theorem Ar7 (h5:e.Af.length≠5) (h:i∈Pr e n below):Ai9 e i:=by
 unfold Pr at h
 split at h
 ·rename_i x hx;obtain ⟨hlt,rfl⟩:=bh.1 hx;exact ⟨_,aE hlt,(aO.1 h).1⟩
 ·rw [aq h5] at h;cases h
theorem Ar9 (h:Ai9 (Ka e n g) i):Ai9 e i\/i=g:=by
 unfold Ka at h
 split at h
 ·rename_i x hx;obtain ⟨hlt,rfl⟩:=bh.1 hx;obtain ⟨y,hy,hf⟩:=h;rcases bq hy with hy|rfl
  ·exact .inl ⟨y,hy,hf⟩
  ·rcases Zi.1 hf with rfl|hf
   ·exact .inr rfl
   ·exact .inl ⟨_,aE hlt,hf⟩
 ·split at h
  ·obtain ⟨y,hy,hf⟩:=h;rcases aG.1 hy with hy|hy
   ·exact .inl ⟨y,hy,hf⟩
   ·rw [aH] at hy;subst hy;exact .inr (aH.1 hf)
  ·exact DS
end
def Un (l:al) (S:ah) (f:Int) (a:Vw):Prop:=∀v,Fj l v->(a.r v).A1=false ->
 a.u v=[]/\(∀p∈a.d v,p.Bd=4\/(p.Bd=5/\p.Cy=A8 f S.length))/\(Cp l v≠0->¬Ai9 (a.e (Cp l v)) ((v:Nat):Int))
section
variable {l:al} {X:Nat->al} {S:ah} {f:Int} {a:Vw} {i:Nat}
theorem Un.ul (h:Un l S f a) (ht:Tx l X) (hi:i < l.length) (h0:i≠0):Un l S f (Qx l a i):=fun v hv hs=>by
 have key:(a.r v).A1=false:=by
  unfold Qx at hs
  split at hs
  ·exact hs
  ·split at hs <;> exact hs
 obtain ⟨h1,h2,h3⟩:=h v hv key;unfold Qx;cases e:a.u i with
 | nil=>exact ⟨h1,h2,h3⟩
 | cons p q =>
  have hne:v≠i:=fun c=>by rw [c,e] at h1;cases h1
  dsimp only
  split
  ·dsimp only;rw [aq hne,aq hne];exact ⟨h1,h2,h3⟩
  ·rename_i hp;dsimp only;rw [aq hne,aq hne];refine ⟨?_,h2,fun hp0=>?_⟩
   ·split
    ·rename_i c;exact absurd c.1.symm (Zd ht.t hv.2.2 hi h0)
    ·exact h1
   ·split
    ·rename_i c;intro hh;rcases Ar9 hh with hh|hh
     ·exact h3 hp0 (by rw [c];exact hh)
     ·exact hne EM
    ·exact h3 hp0
theorem Avw {r:Ay} {p:Ar} {d:Int} (h:(Bt r p d).A1=false):r.A1=false:=by
 unfold Bt at h
 split at h
 ·cases h
 ·split at h <;> exact h
theorem Un.dl (h:Un l S f a) (ht:Tx l X) (i0:i≠0) (h5:Br l ((i:Nat):Int)=false->(a.e i).Af.length≠5) (hpk:∀p∈a.d i,(p.Bd=2\/p.Bd=4\/p.Bd=5)/\(Dq p=true->p.Cy=A8 f S.length)):Un l S f (Qw l a i):=fun v hv hs=>by
 have key:(a.r v).A1=false:=by
  unfold Qw at hs
  split at hs
  ·exact hs
  ·split at hs
   ·dsimp only at hs
    split at hs
    ·subst_vars;exact Avw hs
    ·exact hs
   ·exact hs
 obtain ⟨h1,h2,h3⟩:=h v hv key;unfold Qw;cases e:a.d i with
 | nil=>exact ⟨h1,h2,h3⟩
 | cons p q =>
  dsimp only
  split
  ·refine ⟨h1,?_,h3⟩;dsimp only
   split
   ·rename_i c;subst c;rw [e] at h2;exact fun z hz=>h2 z (aN _ hz)
   ·exact h2
  ·rename_i hl;have h5:=h5 FQ;have hne:v≠i:=fun c=>hl (c▸hv.2.2);refine ⟨h1,?_,fun hp0=>?_⟩
   ·dsimp only;rw [aq hne]
    split
    ·rename_i hf;have hp:=hpk p FH;intro z hz;rcases I9 hz with hz|rfl
     ·exact h2 z hz
     ·rcases hp.1 with k|k|k
      ·exfalso;unfold fcs at hf;rw [ar k] at hf;have hF:=Ar7 h5 hf;have hk:((v:Nat):Int)∈E7 l ((i:Nat):Int):=by
        unfold Pr at hf
        split at hf
        ·exact bP (aO.1 hf).2
        ·rw [aq h5] at hf;cases hf
       have hpv:=((Lr ht.t).1 hk).2.2;exact h3 EM (by rw [hpv];exact hF)
      ·exact .inl k
      ·exact .inr ⟨k,hp.2 (by unfold Dq;rw [k];rfl)⟩
    ·exact h2
   ·dsimp only
    split
    ·rename_i c;intro hh;exact h3 hp0 (by rw [c.1];exact Ar8 hh)
    ·exact h3 hp0
end
section
variable {l:al} {X:Nat->al} {S:ah} {f:Int} {a:Vw} {k:Nat}
theorem Axa {r:Ay} {d:Int} (h:(Bj r d).A1=false):r.A1=false:=by
 unfold Bj at h
 split at h <;> exact h
theorem Un.tk (h:Un l S f a) (hG:Gd l S f a):Un l S f (Nm l a k):=fun v hv hs=>by
 have key:(a.r v).A1=false:=by
  unfold Nm at hs;dsimp only at hs
  split at hs
  ·exact Axa hs
  ·exact hs
 obtain ⟨h1,h2,h3⟩:=h v hv key;obtain ⟨g1, -⟩:=hG.rc hv.1 hv.2.1 hv.2.2;have hr:(a.r v).Aj=[]:=(g1.z key).2;unfold Nm;refine ⟨?_,?_,fun hp0=>?_⟩
 ·dsimp only
  split
  ·have e:Db (a.r v)=[]:=by unfold Db;rw [hr];rfl
   rw [e,h1];unfold Da;simp
  ·exact h1
 ·dsimp only
  split
  ·intro p hp;unfold Da at hp;rcases aG.1 hp with hp|hp
   ·exact h2 p hp
   ·have:=Nl (bg hp);subst this;exact .inr ⟨rfl,hG.sri.Cy⟩
  ·exact h2
 ·dsimp only
  split
  ·exact fun hh=>h3 hp0 (Aoy hh)
  ·exact h3 hp0
end
section
variable {l:al} {X:Nat->al} {S:ah} {f:Int} {a:Vw} {i k:Nat}
def LkV (l:al) (X:Nat->al) (S:ah) (f:Int) (a:Vw):Prop:=∀v,Fj l v->Lk S f (X v) (a.r v)
theorem LkV.ul (h:LkV l X S f a):LkV l X S f (Qx l a i):=fun v hv=>by
 unfold Qx
 split
 ·exact h v hv
 ·split
  ·exact h v hv
  ·exact h v hv
theorem LkV.tk (h:LkV l X S f a) (hG:Gd l S f a) (hS:S.length<=8):LkV l X S f (Nm l a k):=fun v hv=>by
 obtain ⟨g1, -⟩:=hG.rc hv.1 hv.2.1 hv.2.2;obtain ⟨es,hr⟩:=hG.rci hv.1;unfold Nm;dsimp only
 split
 ·exact (h v hv).tick hS g1 hr
 ·exact h v hv
theorem LkV.dl (h:LkV l X S f a) (hU:Un l S f a) (hG:Gd l S f a) (hS:S.length<=8):LkV l X S f (Qw l a i):=fun v hv=>by
 obtain ⟨g1, -⟩:=hG.rc hv.1 hv.2.1 hv.2.2;obtain ⟨es,hr⟩:=hG.rci hv.1;unfold Qw;cases e:a.d i with
 | nil=>exact h v hv
 | cons p q =>
  dsimp only
  split
  ·dsimp only
   split
   ·rename_i c;subst c;have hm:p∈a.d v:=FH
    refine (h v hv).hear hS g1 (hG.que.1 p hm) hr (hG.pki p hm) ?_;cases hs:(a.r v).A1
    ·right;rcases (hU v hv hs).2.1 p hm with k4|k5
     ·left;unfold Dq;rw [k4];rfl
     ·exact .inr k5
    ·exact .inl rfl
   ·exact h v hv
  ·exact h v hv
end
section
variable {l:al} {X:Nat->al} {S:ah} {f x c:Int} {a:Vw} {n:Du} {E:ah} {i k j:Nat}
def Pks (S:ah) (f:Int) (a:Vw):Prop:=∀v,∀p∈a.d v,(p.Bd=2\/p.Bd=4\/p.Bd=5)/\(Dq p=true->p.Cy=A8 f S.length)
theorem Pks.dl (h:Pks S f a):Pks S f (Qw l a i):=fun v p hp=>by
 unfold Qw at hp;cases e:a.d i with
 | nil=>rw [e] at hp;exact h v p hp
 | cons p0 q =>
  rw [e] at hp;dsimp only at hp
  split at hp
  ·dsimp only at hp
   split at hp
   ·exact h i p (by rw [e];simp [hp])
   ·exact h v p hp
  ·dsimp only at hp
   split at hp
   ·exact h i p (by rw [e];simp [hp])
   ·split at hp
    ·rcases I9 hp with hp|rfl
     ·exact h v p hp
     ·exact h i p FH
    ·exact h v p hp
theorem Pks.ul (h:Pks S f a) (hG:Gd l S f a):Pks S f (Qx l a i):=fun v r hr=>by
 unfold Qx at hr;cases e:a.u i with
 | nil=>rw [e] at hr;exact h v r hr
 | cons p q =>
  have hpk:=hG.que.2 p (show p∈a.u i by rw [e];simp);rw [e] at hr;dsimp only at hr
  split at hr
  ·dsimp only at hr
   split at hr
   ·unfold Da at hr;rcases aG.1 hr with hr|hr
    ·exact h i r hr
    ·obtain ⟨m1,m2⟩:=Zf hG.src hpk.1 hpk.2 (bg hr);exact ⟨m1,fun hn=>(m2 hn).1.trans hG.sri.Cy⟩
   ·exact h v r hr
  ·dsimp only at hr
   split at hr
   ·rcases I9 hr with hr|rfl
    ·exact h i r hr
    ·exact ⟨.inr (.inl rfl),fun hn=>by cases hn⟩
   ·exact h v r hr
theorem Dr.pks (h:Dr l X S f n E):Pks S f (Nm l (vw n) (l.length - 1)):=fun v p hp=>by
 rw [h.dn v] at hp
 split at hp
 ·have:=Nl hp;subst this;exact ⟨.inr (.inr rfl),fun _=>h.gd.sri.Cy⟩
 ·cases hp
theorem Awx (ht:Tx l X) (h:Dr l X S f n E) (hS:S.length<=8) (hc:(vw n).s.Ae < 9999) (hk:LkV l X S f (vw n)) (hu:Un l S f (vw n)) :
  (∃E2,Dr l X S f (Oa n) E2)/\LkV l X S f (vw (Oa n))/\Un l S f (vw (Oa n))/\∀X2,LkV l X2 S f (vw n)->LkV l X2 S f (vw (Oa n)):=by
 obtain ⟨t1,t2,t3,t4⟩:=h.tick hc hS
 have key:=fun X2 (hk2:LkV l X2 S f (vw n))=>Ki (l:=l) (S:=S) (f:=f) (P:=fun k a=>(∃o po hm,Jv l X k o po hm a)/\Pks S f a/\Un l S f a/\LkV l X2 S f a) EM
  (fun k a hk hG ⟨⟨o,po,hm,a1⟩,a2,a3,a4⟩=>by
   obtain ⟨po',c1,c2, -⟩:=a1.dl ht hG hk;have hG2:=hG.dl EM (show 1<=k+1 by omega) hk;obtain ⟨hm',c4⟩:=c1.ul ht hG2 (i:=k+1) EM hk c2;have b3:=a3.dl ht (show k+1≠0 by omega) (fun hl=>by
    have h1:=Vr (l:=(a.e (k+1)).Af) (X:=X (k+1)) (g:=Et.Ab) (D6.1 (hG.el hk EM hl).1).2.2.2 (a1.qx (k+1) hk EM hl);have:=ht.s (k+1);omega) (fun p hp=>a2 (k+1) p hp)
   exact ⟨⟨_,po',hm',c4⟩,a2.dl.ul hG2,b3.ul ht hk EM,(a4.dl a3 hG hS).ul⟩)
  (fun a _ ⟨⟨o,po,hm,a1⟩,a2⟩=>⟨⟨o,po,hm,a1.wrap⟩,a2⟩) t1 t2 t3 (by
   rw [t4];exact ⟨⟨z2,z2,z2,h.J ht⟩,h.pks,hu.tk h.gd,hk2.tk h.gd hS⟩)
 obtain ⟨⟨⟨o,po,hm,a1⟩,a2,a3,a4⟩,⟨g1,g2,E2,g3⟩,hq⟩:=key X hk;have hG:Gd l S f (vw (Oa n)):=⟨Oa n,E2,g1,g2,g3,rfl⟩;refine ⟨⟨E2,⟨g1,g2,g3,hq,fun v hv h0 hl q hq'=>?_,a1.qx⟩⟩,a4,a3,fun X2 hk2=>(key X2 hk2).1.2.2.2⟩;obtain ⟨es,hr⟩:=hG.rci hv;exact (a4 v ⟨hv,h0,hl⟩).req (hG.rc hv h0 hl).1 hr q hq'
theorem Aqa (h:Dr l X S f n E) (hS:S.length<=8) (hc:(vw n).s.Ae < 9999):(vw (Oa n)).s.quiet=L9 (vw n).s.quiet:=by
 obtain ⟨t1,t2,t3,t4⟩:=h.tick hc hS
 exact (Ki (l:=l) (S:=S) (f:=f) (P:=fun _ a=>a.s.quiet=L9 (vw n).s.quiet) EM
  (fun k a _ _ hP=>by
   have e:(Qw l a (k+1)).s.quiet=L9 (vw n).s.quiet:=by rw [Rg];exact hP
   show (Qx l (Qw l a (k+1)) (k+1)).s.quiet=_;rw [<-e];unfold Qx
   split
   ·rfl
   ·split
    ·show (Hb _ _).quiet=_;unfold Hb;split <;> rfl
    ·rfl)
  (fun _ _ hP=>hP) t1 t2 t3 (by rw [t4];rfl)).1
theorem Zr.dl (hG:Gd l S f a) (hS:S.length<=8) (hj:j < S.length) {M:Nat} (hM:Fj l M) (h:Zr (a.r M) (A8 f j)):Zr ((Qw l a i).r M) (A8 f j):=by
 unfold Qw;cases e:a.d i with
 | nil=>exact h
 | cons p q =>
  dsimp only
  split
  ·dsimp only
   split
   ·rename_i c;subst c;have hm:p∈a.d M:=FH
    obtain ⟨es,hr⟩:=hG.rci hM.1;exact (Ahg hS (hG.rc hM.1 hM.2.1 hM.2.2).1 (hG.que.1 p hm) hr (hG.pki p hm) hj).1 h
   ·exact h
  ·exact h
theorem Auo:(Qx l a i).r=a.r:=by
 unfold Qx
 split
 ·rfl
 ·split <;> rfl
theorem Zr.Oa (hd:Dr l X S f n E) (hS:S.length<=8) (hc:(vw n).s.Ae < 9999) (hj:j < S.length) {M:Nat} (hM:Fj l M) (h:Zr ((vw n).r M) (A8 f j)):Zr ((vw (Oa n)).r M) (A8 f j):=by
 obtain ⟨t1,t2,t3,t4⟩:=hd.tick hc hS
 refine (Ki (l:=l) (S:=S) (f:=f) (P:=fun _ a=>Zr (a.r M) (A8 f j)) EM
  (fun k a _ hG hP=>by
   show Zr ((Qx l (Qw l a (k+1)) (k+1)).r M) _;rw [Auo];exact hP.dl hG hS hj hM)
  (fun _ _ hP=>hP) t1 t2 t3 ?_).1
 rw [t4,Pe hM];obtain ⟨es,hr⟩:=hd.gd.rci hM.1;exact Amc hS (hd.gd.rc hM.1 hM.2.1 hM.2.2).1 hr hj h
end
section
variable {l:al} {X:Nat->al} {S:ah} {f x c:Int} {a:Vw} {n:Du} {E:ah} {i k j:Nat} {r:Ay} {p:Ar} {d:Int}
theorem Ahh (hg:Eu r) (hp:Bh p=true) (h4:p.Bd=4->p.Ab≠x) (h:∀q,rq r x=some q->q.Dh=1):∀q,rq (Bt r p d) x=some q->q.Dh=1:=fun q hq=>by
 cases hn:Dq p
 ·by_cases hk:p.Bd=4
  ·cases hs:r.A1
   ·have e:Bt r p d=r:=by unfold Bt;rw [hn,aq EN,hs,bV];rfl
    rw [e] at hq;exact h q hq
   ·rw [Ab9 hg hp hk hs,aq (fun e=>h4 hk e.symm)] at hq;exact h q hq
  ·have e:Bt r p d=r:=by unfold Bt;rw [hn,aq EN,ay hk];rfl
   rw [e] at hq;exact h q hq
 ·have e:Bt r p d=Gb r p d:=FZ
  rw [e] at hq;obtain ⟨q1,q2⟩:=Es hq;have old:q∈C3 r.Aj (Be r p)->q.Dh=1:=fun hm=>by
   have:=Mh hg (aO.1 hm).1;rw [q2] at this;exact h q this
  have q1':q∈H8 (Be r p) (C3 r.Aj (Be r p)) p.Cy (r.Ae+d):=q1;unfold H8 at q1'
  split at q1'
  ·rcases V4 _ _ q1' with hm|⟨n,rfl⟩
   ·exact old hm
   ·rfl
  ·exact old q1'
def Cx (x:Int) (i:Nat) (a:Vw):Prop:=(∀v,∀p∈a.d v,p.Bd=4->p.Ab≠x)/\∀q,rq (a.r i) x=some q->q.Dh=1
theorem Cx.dl (h:Cx x i a) (hG:Gd l S f a) (hi:Fj l i):Cx x i (Qw l a k):=by
 unfold Qw;cases e:a.d k with
 | nil=>exact h
 | cons p q =>
  dsimp only;have hm:p∈a.d k:=FH
  split
  ·refine ⟨fun v r hr=>?_,fun q' hq'=>?_⟩
   ·dsimp only at hr
    split at hr
    ·exact h.1 k r GF
    ·exact h.1 v r hr
   ·dsimp only at hq'
    split at hq'
    ·rename_i c;subst c;exact Ahh (hG.rc hi.1 hi.2.1 hi.2.2).1 (hG.que.1 p hm) (h.1 i p hm) h.2 q' hq'
    ·exact h.2 q' hq'
  ·refine ⟨fun v r hr=>?_,h.2⟩;dsimp only at hr
   split at hr
   ·exact h.1 k r GF
   ·split at hr
    ·rcases I9 hr with hr|rfl
     ·exact h.1 v r hr
     ·exact h.1 k _ hm
    ·exact h.1 v r hr
theorem Cx.ul (h:Cx x i a) (hG:Gd l S f a) (hn:∀p∈a.u k,p.Ab≠x):Cx x i (Qx l a k):=by
 unfold Qx;cases e:a.u k with
 | nil=>exact h
 | cons p q =>
  dsimp only;have hm:p∈a.u k:=FH
  have hpk:=hG.que.2 p hm;have hne:=hn p hm
  split
  ·refine ⟨fun v r hr h4=>?_,h.2⟩;dsimp only at hr
   split at hr
   ·unfold Da at hr;rcases aG.1 hr with hr|hr
    ·exact h.1 k r hr h4
    ·intro hx;have h0:=Agk (s:=a.s) (p:=p) hne;have:r∈(Ib a.s p).filter fun p=>decide (p.Bd=4) && decide (p.Ab=x):=aO.2 ⟨bg hr,by rw [au h4,au hx];rfl⟩;have:=dh this;unfold My at h0;omega
   ·exact h.1 v r hr h4
  ·refine ⟨fun v r hr h4=>?_,h.2⟩;dsimp only at hr
   split at hr
   ·rcases I9 hr with hr|rfl
    ·exact h.1 k r hr h4
    ·exact hne
   ·exact h.1 v r hr h4
theorem Ani (ht:Tx l X) (h:Dr l X S f n E) (hS:S.length<=8) (hc:(vw n).s.Ae < 9999) (hj:j < S.length) (hx:x=A8 f j) (hh:E5 (vw n).s.Aa x=true)
  (hon:onB (vw n).s.holds x=false) (hen:∀V,V < l.length->V≠0->Br l ((V:Nat):Int)=false->en ((vw n).e V) x=none) (hz:∀M,Fj l M->¬Zr ((vw (Oa n)).r M) x) :
  (∀M,¬Snd l x ((vw n).s.Ae+1) (vw n) M)/\onB (vw (Oa n)).s.holds x=false/\(∀V,V < l.length->V≠0->Br l ((V:Nat):Int)=false->en ((vw (Oa n)).e V) x=none) /\
   ∀i,Fj l i->(∀q,rq ((vw n).r i) x=some q->q.Dh=1)->∀q,rq ((vw (Oa n)).r i) x=some q->q.Dh=1:=by
 obtain ⟨t1,t2,t3,t4⟩:=h.tick hc hS;obtain ⟨⟨U,hR⟩, -⟩:=Avm ht hS hj hx t1 t2 t3 (by rw [t4];exact h.J ht) (mk:=fun _=>False) (by rw [t4];exact h.K ht hc hh);have hR:Rk l x ((vw n).s.Ae+1) (Snd l x ((vw n).s.Ae+1) (vw n)) (Onx l x (vw n)) U (vw (Oa n)):=hR;have hon2:onB (vw (Oa n)).s.holds x=false:=by
  refine cN.2 fun H hH hn=>?_;have hn2:H.Ab=x:=by simpa using hn
  rcases Aai h hc hS hH with ho|ho
  ·have:=cN.1 hon H ho;exact this hn
  ·obtain ⟨M,hM,hZ⟩:=hR.hd ⟨H,hH,hn2,EM⟩;exact hz M hM.1 hZ
 have hO:∀V,V < l.length->V≠0->Br l ((V:Nat):Int)=false->∀u,¬Onx l x (vw n) V u:=fun V hV V0 hl u hu=>by
  obtain ⟨y,hy, -⟩:=hu;have hge:=h.gd.el hV V0 hl;have e1:(Nm l (vw n) (l.length - 1)).e V=Cn ((vw n).e V):=by
   exact CU
  rw [e1,Acb hge.1,hen V hV V0 hl] at hy;cases hy
 have hns:∀M,¬Snd l x ((vw n).s.Ae+1) (vw n) M:=fun M hM=>by
  have:=(Ate ht hR (M+1) M EM hM.1.1 hM.1.2.1 (hR.s M hM) fun V a b c _=>hO V a b c).2;rw [hon2] at this;cases this
 refine ⟨hns,hon2,fun V hV V0 hl=>?_,fun i hi hst=>?_⟩
 ·cases c:en ((vw (Oa n)).e V) x with
  | none=>rfl
  | some y =>
   exfalso;rcases hR.e V hV V0 hl y c with ⟨ho, -⟩|hU
   ·exact hO V hV V0 hl _ ho
   ·obtain ⟨M, -,hM⟩:=hR.w V hV V0 hU;exact hns M hM
 ·have key:=(Ki (l:=l) (S:=S) (f:=f) (P:=fun k a=>(∃o po hm mk,Jv l X k o po hm a/\Kv l x ((vw n).s.Ae+1) (Snd l x ((vw n).s.Ae+1) (vw n)) (Onx l x (vw n)) o mk a)/\Cx x i a) EM
   (fun k a hk hG ⟨⟨o,po,hm,mk,a1,a2⟩,a3⟩=>by
    obtain ⟨po',c1,c2, -⟩:=a1.dl ht hG hk;have c3:=a2.dl a1 ht hG hS hj hx hk;have hG2:=hG.dl EM (show 1<=k+1 by omega) hk;obtain ⟨hm',c4⟩:=c1.ul ht hG2 (i:=k+1) EM hk c2;obtain ⟨mk',c5⟩:=c3.ul c1 ht hG2 (i:=k+1) EM hk c2;refine ⟨⟨_,po',hm',mk',c4,c5⟩,(a3.dl hG hi).ul hG2 fun p hp hpx=>?_⟩;obtain ⟨M, -,hM⟩:=c3.g6 (k+1) hk EM (.inl (by
     unfold J4;exact dh (aO.2 ⟨hp,au hpx⟩)))
    exact hns M hM)
   (fun a _ ⟨⟨o,po,hm,mk,a1,a2⟩,a3⟩=>⟨⟨o,po,hm,mk,a1.wrap,a2⟩,a3⟩) t1 t2 t3 (by
    rw [t4];refine ⟨⟨z2,z2,z2,fun _=>False,h.J ht,h.K ht hc hh⟩,fun v p hp h4=>?_,fun q' hq'=>?_⟩
    ·exfalso;rw [h.dn v] at hp
     split at hp
     ·rw [Nl hp] at h4;cases h4
     ·cases hp
    ·obtain ⟨g1,g2⟩:=h.gd.rc hi.1 hi.2.1 hi.2.2;obtain ⟨d0,d1⟩:=Lp i;rw [Pe hi] at hq';obtain ⟨q,hq,ho⟩:=Ah7 g1 (by rw [g2];omega) d0 d1 hq';have s1:=hst q hq;unfold Qh at ho
     split at ho
     ·cases ho;exact s1
     ·rename_i c1
      split at ho
      ·cases ho
      ·rename_i c2;exfalso;refine hns i ⟨hi,q,hq,?_⟩;rw [g2] at c1;unfold Nq;rw [aq c1,aq c2,ar s1,(Es hq).2])).1
  exact key.2.2
end
section
variable {l:al} {X:Nat->al} {S:ah} {f:Int} {i0:Nat} {F:Nat->Du} {c0:Int} {b:Nat}
theorem Ph.hM (h:Ph l X S f i0 F c0 b) (pre:∀t,t<=b->(∃E,Dr l X S f (F t) E)/\(vw (F t)).s.Ae=c0+((t:Nat):Int)/\(vw (F t)).s.Aa=(vw (F b)).s.Aa)
  (hen:∀V,V < l.length->V≠0->Br l ((V:Nat):Int)=false->((vw (F 0)).e V).Af=[])
  (hst:∀i,Fj l i->Cp l i≠0->∀q∈((vw (F 0)).r i).Aj,q.Dh=1)
  (hold:∀j:Nat,i0<=j->j < S.length->onB (vw (F 0)).s.holds (A8 f j)=true->∀i,Fj l i->Cp l i≠0->rq ((vw (F b)).r i) (A8 f j)=none) :
  ∀j:Nat,i0<=j->j < S.length->(∃i z,elB l i=true/\Re l c0 (A8 f j) F 9 i=some z)->∃M,Fj l M/\Re l c0 (A8 f j) F 9 M=none:=fun j hj hjS ⟨i,z,ei,ez⟩=>by
 refine Classical.byContradiction fun hno=>?_;have hb:=h.bl;have h9:=h.c9;have hp0:Cp l i≠0:=by unfold elB at ei;exact bP ei
 have hi:=(Lz ez).2.1;have all:∀M,Fj l M->∃z,Re l c0 (A8 f j) F 9 M=some z:=fun M hM=>by
  cases e:Re l c0 (A8 f j) F 9 M with
  | none=>exact absurd ⟨M,hM,e⟩ hno
  | some z=>exact ⟨z,rfl⟩
 have dr:∀t,t<=9->(∃E,Dr l X S f (F t) E)/\(vw (F t)).s.Ae=c0+((t:Nat):Int)/\E5 (vw (F t)).s.Aa (A8 f j)=true:=fun t ht=>by
  rcases Nat.le_total t b with c|c
  ·obtain ⟨p1,p2,p3⟩:=pre t c;obtain ⟨E,p4⟩:=p1;refine ⟨⟨E,p4⟩,p2,Ahi p4.gd.sri h.hS ?_ h.hi hj hjS⟩;rw [p3];exact h.p.2
  ·obtain ⟨⟨E,a1⟩,a2,a3, -⟩:=h.at' c EM;exact ⟨⟨E,a1⟩,a3,Ahi a1.gd.sri h.hS a2.2 h.hi hj hjS⟩
 have noZ:∀m t,t+m=9->∀M,Fj l M->¬Zr ((vw (F t)).r M) (A8 f j):=fun m=>by
  induction m with
  | zero =>
   intro t ht M hM hZ;obtain rfl:t=9:=EM
   obtain ⟨⟨E,a1⟩, -⟩:=dr 9 EM;obtain ⟨z,e⟩:=all M hM;rw [Aet (hZ.rq (a1.gd.rc hM.1 hM.2.1 hM.2.2).1)] at e;cases e
  | succ m ih =>
   intro t ht M hM hZ;obtain ⟨⟨E,a1⟩,a2, -⟩:=dr t EM;refine ih (t+1) EM M hM ?_;rw [h.sq t];exact hZ.Oa a1 h.hS EM hjS hM
 have bk:∀m t,t+m=9->b<=t->∃x r,Re l c0 (A8 f j) F t i=some (x,r):=fun m=>by
  induction m with
  | zero=>intro t ht _;obtain rfl:t=9:=by omega
          exact ⟨z.1,z.2,ez⟩
  | succ m ih =>
   intro t ht hbt;obtain ⟨x,r,e⟩:=ih (t+1) EM EM;exact h.back hj hjS hbt e
 have main:∀t,t<=9->onB (vw (F t)).s.holds (A8 f j)=false/\(∀V,V < l.length->V≠0->Br l ((V:Nat):Int)=false->en ((vw (F t)).e V) (A8 f j)=none)/\∀q,rq ((vw (F t)).r i) (A8 f j)=some q->q.Dh=1:=fun t=>by
  induction t with
  | zero =>
   intro _;refine ⟨?_,fun V hV V0 hl=>?_,fun q hq=>hst i hi hp0 q (Es hq).1⟩
   ·cases c:onB (vw (F 0)).s.holds (A8 f j)
    ·rfl
    ·exfalso;obtain ⟨x,r,e⟩:=bk (9 - b) b EM (aA b);rw [Aet (hold j hj hjS c i hi hp0)] at e;cases e
   ·rw [O5,hen V hV V0 hl];exact fun y hy=>by cases hy
  | succ t ih =>
   intro ht;obtain ⟨b1,b2,b3⟩:=ih EM;obtain ⟨⟨E,a1⟩,a2,a3⟩:=dr t EM;have hz:=noZ (9 - (t+1)) (t+1) EM;rw [h.sq t] at hz ⊢;obtain ⟨-,c1,c2,c3⟩:=Ani h.ht a1 h.hS EM hjS rfl a3 b1 b2 hz;exact ⟨c1,c2,c3 i hi b3⟩
 -- the time of the next send does not change
 obtain ⟨xb,rb,eb⟩:=bk (9 - b) b EM (aA b);have con:∀m,b+m<=9->∃r,Re l c0 (A8 f j) F (b+m) i=some (xb,r):=fun m=>by
  induction m with
  | zero=>intro _;exact ⟨rb,eb⟩
  | succ m ih =>
   intro hm;obtain ⟨r,e⟩:=ih EM;obtain ⟨x',r',e'⟩:=bk (9 - (b+m+1)) (b+m+1) EM EM;refine ⟨r',?_⟩;show Re l c0 (A8 f j) F (b+m+1) i=_;rw [e'];obtain ⟨b1,b2,b3⟩:=main (b+m) EM;obtain ⟨⟨E0,a1⟩,a2,a3⟩:=dr (b+m) EM;have hz:=noZ (9 - (b+m+1)) (b+m+1) EM;rw [h.sq (b+m)] at hz;obtain ⟨hns, -⟩:=Ani h.ht a1 h.hS EM hjS rfl a3 b1 b2 hz;obtain ⟨E,U,d1,d2,d3,d4,d5,d6,d7⟩:=h.rd (t:=b+m) EM EM hj hjS;obtain ⟨y1,y2,q',y3,y4,y5⟩:=Lz e';obtain ⟨v1,v2,q1,v3,v4,v5⟩:=Lz e;rw [h.sq (b+m)] at y3;obtain ⟨q,w1,w2, -⟩:=Ua d1 rfl d2 d3 d6 d7 y2 y3
   rw [v3] at w1;cases w1;rcases w2 with ⟨-, -,s3, -⟩|⟨-, -, -,s4|⟨-, -,u,u1,u2, -,u4⟩⟩
   ·exact absurd s3 (hns i)
   ·dsimp only at y4 v4;rw [show x'=xb by rw [y4,v4,s4]]
   ·obtain ⟨M, -,hM⟩:=d6.w u u1 u2 u4;exact absurd hM (hns M)
 obtain ⟨r9,e9⟩:=con (9 - b) EM;rw [show b+(9 - b)=9 by omega] at e9;have l9:=h.tlo (t:=9) EM e9;obtain ⟨v1,v2,q1,v3,v4,v5⟩:=Lz eb;obtain ⟨-, -,a3,a4⟩:=h.at' (t:=b) (aA b) EM;have s1:=(main b EM).2.2 q1 v3;have s2:=(a4 i v2 q1 (Es v3).1).2.1 s1;have hun:un i q1=q1.Bl:=by
  unfold un;by_cases c:q1.Ch=3
  ·rw [ar c]
  ·rw [aq c,ar s1]
 dsimp only at v4;have:=Qb i;have:=Ry i;omega
end
section
variable {f:Int} {S:ah} {k j:Nat} {r:Ay} {p:Ar} {es:ah} {d:Int}
theorem Agb (hS:S.length<=8) (hg:Eu r) (hp:Bh p=true) (hw:WnI S f (C8 r p) es k) (hpk:PkI S f p) (hn:Dq p=true) :
  ∃k3,k<=k3/\k3<=S.length/\(Be r p).next=A8 f (k3:Nat)/\(p.Bd≠5->∃j:Nat,j < S.length/\p.Ab=A8 f j/\(j < k3\/C2 (Be r p).Am (j - k3)=true)):=by
 have hkl:=hw.le;have hsg:=(Jj hg hp).1;have htg:=(Oh hg hp).1;obtain ⟨k2,a1,a2,a3,a4,a6⟩:∃k2,k<=k2/\k2<=S.length/\(C0 r p).next=A8 f (k2:Nat)/\SlI S k2 (C0 r p).Am/\(p.Bd≠5->∃j:Nat,j < S.length/\p.Ab=A8 f j/\(j < k2\/C2 (C0 r p).Am (j - k2)=true)):=by
  unfold C0;by_cases h5:p.Bd=5
  ·rw [ar h5];exact ⟨k,aA _,hkl,hw.n,hw.s,fun h=>absurd h5 h⟩
  ·rw [aq h5];obtain ⟨j,hj,ej⟩:=hpk.n hn h5;have hjl:=(bh.1 hj).1;rw [ej];obtain ⟨k2,b1,b2,b3,b4,b5⟩:=Acr (t:=p.data) hsg hw.n EM (show j<=2000 by omega) EM;obtain ⟨-,c2,c3,c4⟩:=Al8 (t:=p.data) hsg hw.n hw.s hkl hj EM;generalize (Jb (C8 r p) (A8 f j) p.data).length=n at c2 c3 c4;have hle:k2<=S.length:=by
    by_cases c:k2<=k
    ·omega
    ·rcases b5 (k2 - 1) EM EM with h|h
     ·obtain ⟨s,hs1,hs2⟩:=Ahf h;have:=(bh.1 (hw.s (k2 - 1 - k) s hs1 hs2)).1;omega
     ·omega
   have hk2:k2=k+n:=Oy f EM EM (b2.symm.trans c3);exact ⟨k2,b1,hle,b2,by rw [hk2];exact c4,fun _=>⟨j,hjl,rfl,b4⟩⟩
 obtain ⟨i0,hi0,et⟩:=hpk.t hn;unfold Be Jt;rw [a3,et,Ky f EM EM];by_cases c:k2 < i0
 ·rw [au c,ar rfl,ar HN];obtain ⟨-,b2,b3, -,b5⟩:=U1 (i:=i0) htg a3 a4 EM hi0 EM;obtain ⟨-,b6, -, -⟩:=Na (t:=A8 f (i0:Nat)) htg;generalize (Fm (C0 r p) (A8 f (i0:Nat))).length=n at b2 b3 b5 b6;refine ⟨k2+n,EM,b2,b3,fun h5=>?_⟩;obtain ⟨j,hj,ej,hh⟩:=a6 h5;refine ⟨j,hj,ej,?_⟩;by_cases c2:j < k2+n
  ·exact .inl c2
  ·right;rw [b6,K0,show n+(j - (k2+n))=j - k2 by omega];exact hh.resolve_left EM
 ·rw [ay c,aq EN];exact ⟨k2,a1,a2,a3,a6⟩
theorem Ayx (hS:S.length<=8) (hg:Eu r) (hp:Bh p=true) (h:RcI S f r es) (hpk:PkI S f p) (h1:p.Bd=1) (hj:j < S.length) (hx:p.Ab=A8 f j):Zr (Bt r p d) (A8 f j):=by
 have hn:Dq p=true:=by unfold Dq;rw [h1];rfl
 have e1:Bt r p d=Gb r p d:=FZ
 obtain ⟨k,hw⟩:=Ah1 hg h hpk hn;obtain ⟨k3,b1,b2,b3,b4⟩:=Agb hS hg hp hw hpk hn;obtain ⟨j2,c1,c2,c3⟩:=b4 (by rw [h1];decide);have:j2=j:=Oy f EM EM (c2.symm.trans hx);subst this;rw [e1];exact ⟨rfl,(Tc (w:=Be r p) b3 EM EM).2 c3⟩
theorem Asb (hS:S.length<=8) (h1:1<=S.length) (hg:Eu r) (hp:Bh p=true) (h:RcI S f r es) (hpk:PkI S f p) (hz:r.A1=true->Zr r (A8 f (0:Nat))) (h5:p.Bd=5->∃m:Nat,1<=m/\m<=S.length/\p.Cy=A8 f m) (hs:(Bt r p d).A1=true):Zr (Bt r p d) (A8 f (0:Nat)):=by
 cases hst:r.A1
 ·cases hn:Dq p
  ·exfalso;unfold Bt at hs;rw [hn,aq EN,hst,bV,aq EN,hst] at hs;cases hs
  ·have e1:Bt r p d=Gb r p d:=FZ
   obtain ⟨k,hw⟩:=Ah1 hg h hpk hn;obtain ⟨k3,b1,b2,b3,b4⟩:=Agb hS hg hp hw hpk hn;have hkl:=hw.le;rw [e1];refine ⟨rfl,(Tc (w:=Be r p) b3 EM EM).2 ?_⟩;by_cases c5:p.Bd=5
   ·obtain ⟨m,m1,m2,m3⟩:=h5 c5;have e2:(C8 r p).next=p.Cy:=by unfold C8;rw [hst,aq EN,ar c5]
    have:m=k:=Oy f EM EM ((m3.symm.trans e2.symm).trans hw.n);left;omega
   ·obtain ⟨j,c1,c2,c3⟩:=b4 c5;have e2:(C8 r p).next=p.Ab:=by unfold C8;rw [hst,aq EN,aq c5]
    have:j=k:=Oy f EM EM ((c2.symm.trans e2.symm).trans hw.n);rcases bQ k3 with z|z
    ·right;have hj0:j=0:=EM
     rw [hj0] at c3;exact c3.resolve_left EM
    ·exact .inl z
 ·exact (Ahg hS hg hp h hpk (j:=0) EM).1 (hz hst)
end
section
variable {l:al} {X:Nat->al} {S:ah} {f:Int} {a:Vw} {i k j:Nat} {G:Nat->Prop}
def Dat (f:Int) (j:Nat) (q:List Ar):Prop:=∃p∈q,p.Bd=1/\p.Ab=A8 f j
def Z0 (l:al) (S:ah) (f:Int) (a:Vw):Prop:=(∀L,Fj l L->(a.r L).A1=true->Zr (a.r L) (A8 f (0:Nat)))/\∀v,∀p∈a.d v,p.Bd=5->∃m:Nat,1<=m/\m<=S.length/\p.Cy=A8 f m
theorem Z0.dl (h:Z0 l S f a) (hG:Gd l S f a) (hS:S.length<=8) (h1:1<=S.length):Z0 l S f (Qw l a i):=by
 unfold Qw;cases e:a.d i with
 | nil=>exact h
 | cons p q =>
  dsimp only;have hm:p∈a.d i:=FH
  split
  ·refine ⟨fun L hL hs=>?_,fun v r hr=>?_⟩
   ·dsimp only at hs ⊢
    split at hs
    ·rename_i c;subst c;rw [ar rfl];obtain ⟨es,hr⟩:=hG.rci hL.1;exact Asb hS h1 (hG.rc hL.1 hL.2.1 hL.2.2).1 (hG.que.1 p hm) hr (hG.pki p hm) (h.1 L hL) (h.2 L p hm) hs
    ·rename_i c;rw [aq c];exact h.1 L hL hs
   ·dsimp only at hr
    split at hr
    ·exact h.2 i r GF
    ·exact h.2 v r hr
  ·refine ⟨h.1,fun v r hr=>?_⟩;dsimp only at hr
   split at hr
   ·exact h.2 i r GF
   ·split at hr
    ·rcases I9 hr with hr|rfl
     ·exact h.2 v r hr
     ·exact h.2 i _ hm
    ·exact h.2 v r hr
theorem Z0.ul (h:Z0 l S f a) (hG:Gd l S f a) (h1:1<=S.length):Z0 l S f (Qx l a i):=by
 refine ⟨fun L hL hs=>?_,fun v r hr h5=>?_⟩
 ·rw [Auo] at hs ⊢;exact h.1 L hL hs
 ·unfold Qx at hr;cases e:a.u i with
  | nil=>rw [e] at hr;exact h.2 v r hr h5
  | cons p q =>
   have hpk:=hG.que.2 p (show p∈a.u i by rw [e];simp);rw [e] at hr;dsimp only at hr
   split at hr
   ·dsimp only at hr
    split at hr
    ·unfold Da at hr;rcases aG.1 hr with hr|hr
     ·exact h.2 i r hr h5
     ·obtain ⟨m1,m2⟩:=Zf hG.src hpk.1 hpk.2 (bg hr);exact ⟨S.length,h1,aA _,(m2 JH).1.trans hG.sri.Cy⟩
    ·exact h.2 v r hr h5
   ·dsimp only at hr
    split at hr
    ·rcases I9 hr with hr|rfl
     ·exact h.2 i r hr h5
     ·cases h5
    ·exact h.2 v r hr h5
structure Fd (l:al) (k:Nat) (a:Vw):Prop where
 b:∀v,v < l.length->v≠0->Cp l v≠0->(a.d v).length<=5+if Cp l v<=k/\k < v then 1 else 0
 u:∀v,v < l.length->v≠0->¬(Cp l v=0/\Br l ((v:Nat):Int)=true)->a.u v=[]
 e:∀v,v < l.length->v≠0->Br l ((v:Nat):Int)=false->(a.e v).Af=[]
 n:∀v,v < l.length->v≠0->¬(Cp l v=0/\Br l ((v:Nat):Int)=true)->∀p∈a.d v,p.Bd≠4
 s:∀L,Fj l L->Cp l L≠0->∀x q,rq (a.r L) x=some q->q.Dh=1
theorem Fd.dl (h:Fd l k a) (ht:Tx l X) (hG:Gd l S f a) (hk:k+1 < l.length):Fd l (k+1) (Qw l a (k+1)):=by
 have flag:∀v,v≠k+1->(if Cp l v<=k/\k < v then 1 else 0)<=if Cp l v<=k+1/\k+1 < v then 1 else 0:=fun v hv=>by
  split
  ·rw [ar EM];exact aA _
  ·exact aD _
 unfold Qw;cases e:a.d (k+1) with
 | nil =>
  refine ⟨fun v hv h0 hp=>?_,h.u,h.e,h.n,h.s⟩;dsimp only;by_cases c:v=k+1
  ·subst c;rw [e];exact aD _
  ·have:=h.b v hv h0 hp;have:=flag v c;omega
 | cons p q =>
  dsimp only;have hm:p∈a.d (k+1):=FH
  have hq:Cp l (k+1)≠0->q.length<=5:=fun hp=>by
   have:=h.b (k+1) hk EM hp;rw [e,aK] at this
   split at this <;> omega
  split
  ·rename_i hl;refine ⟨fun v hv h0 hp=>?_,h.u,h.e,fun v hv h0 hn r hr=>?_,fun L hL hp x q' hq'=>?_⟩
   ·dsimp only;by_cases c:v=k+1
    ·subst c;rw [ar rfl];have:=hq hp;omega
    ·rw [aq c];have:=h.b v hv h0 hp;have:=flag v c;omega
   ·dsimp only at hr
    split at hr
    ·rename_i c;subst c;exact h.n _ hv h0 hn r GF
    ·exact h.n v hv h0 hn r hr
   ·dsimp only at hq'
    split at hq'
    ·rename_i c;subst c;exact Ahh (hG.rc hL.1 hL.2.1 hL.2.2).1 (hG.que.1 p hm) (fun h4=>absurd h4 (h.n (k+1) hk EM (fun c=>hp c.1) p hm)) (h.s (k+1) hL hp x) q' hq'
    ·exact h.s L hL hp x q' hq'
  ·rename_i hl;have hl:Br l ((k+1:Nat):Int)=false:=FQ
   refine ⟨fun v hv h0 hp=>?_,h.u,fun v hv h0 hlv=>?_,fun v hv h0 hn r hr=>?_,h.s⟩
   ·dsimp only;by_cases c:v=k+1
    ·subst c;rw [ar rfl];have:=hq hp;omega
    ·rw [aq c];have h1:=h.b v hv h0 hp;by_cases c2:((v:Nat):Int)∈fcs l a (k+1) p
     ·exact DN
     ·rw [aq c2];have:=flag v c;omega
   ·dsimp only
    split
    ·rename_i c;have h0':=h.e v hv h0 hlv;rw [c.1] at h0';unfold Jz;rw [h0'];exact h0'
    ·exact h.e v hv h0 hlv
   ·dsimp only at hr
    split at hr
    ·rename_i c;subst c;exact h.n _ hv h0 hn r GF
    ·split at hr
     ·rcases I9 hr with hr|rfl
      ·exact h.n v hv h0 hn r hr
      ·exact h.n (k+1) hk EM (fun c=>by rw [hl] at c;cases c.2) _ hm
     ·exact h.n v hv h0 hn r hr
theorem Fd.top (h:Fd l k a) (hi:i < l.length) (h0:i≠0) {p:Ar} {q:List Ar} (e:a.u i=p::q):Cp l i=0/\Br l ((i:Nat):Int)=true :=
 Classical.byContradiction fun c=>by rw [h.u i hi h0 c] at e;cases e
theorem Fd.ul (h:Fd l k a) (hi:i < l.length) (h0:i≠0):Fd l k (Qx l a i):=by
 unfold Qx;cases e:a.u i with
 | nil=>exact h
 | cons p q =>
  dsimp only;have ht:=h.top hi h0 e;rw [ar ht.1];refine ⟨fun v hv v0 hp=>?_,fun v hv v0 hn=>?_,h.e,fun v hv v0 hn=>?_,h.s⟩
  ·dsimp only;rw [aq (fun c=>hp (by rw [c];exact ht.1))];exact h.b v hv v0 hp
  ·dsimp only;rw [aq (fun c=>hn (by rw [c];exact ht))];exact h.u v hv v0 hn
  ·dsimp only;rw [aq (fun c=>hn (by rw [c];exact ht))];exact h.n v hv v0 hn
theorem Fd.wrap (h:Fd l (l.length - 1) a):Fd l 0 a:=⟨fun v hv h0 hp=>by
 have:=h.b v hv h0 hp;rw [aq EM] at this;omega,h.u,h.e,h.n,h.s⟩
def Fw (l:al) (f:Int) (j:Nat) (G:Nat->Prop) (a:Vw):Prop:=∀L,Fj l L->G L->Zr (a.r L) (A8 f j)\/∃v,v < l.length/\v≠0/\Tk l v L/\Dat f j (a.d v)
theorem Dat.push {q:List Ar} {p:Ar} (h:Dat f j q):Dat f j (Er q p):=by
 obtain ⟨r,h1,h2⟩:=h;refine ⟨r,?_,h2⟩;unfold Er
 split
 ·exact bC _ h1
 ·exact h1
theorem Dat.put {q ps:List Ar} (h:Dat f j q):Dat f j (Da q ps):=by
 obtain ⟨r,h1,h2⟩:=h;exact ⟨r,bC _ h1,h2⟩
theorem Fw.dl (h:Fw l f j G a) (hF:Fd l k a) (ht:Tx l X) (hG:Gd l S f a) (hS:S.length<=8) (hj:j < S.length) (hk:k+1 < l.length):Fw l f j G (Qw l a (k+1)):=fun L hL hGL=>by
 rcases h L hL hGL with hz|⟨v,v1,v2,v3,v4⟩
 ·exact .inl (hz.dl hG hS hj hL)
 ·unfold Qw;cases e:a.d (k+1) with
  | nil=>exact .inr ⟨v,v1,v2,v3,v4⟩
  | cons p q =>
   dsimp only;have hm:p∈a.d (k+1):=FH
   by_cases hv:v=k+1
   ·subst hv;by_cases hp:p.Bd=1/\p.Ab=A8 f j
    ·split
     ·rename_i hl;left;have hLe:=v3.leaf ht.t hl;subst hLe;dsimp only;rw [ar rfl];obtain ⟨es,hr⟩:=hG.rci hL.1;exact Ayx hS (hG.rc hL.1 hL.2.1 hL.2.2).1 (hG.que.1 p hm) hr (hG.pki p hm) hp.1 hj hp.2
     ·rename_i hl;right;cases v3 with
      | nil=>exact absurd hL.2.2 hl
      | @cons _ w _ w1 w2 w3 w4 =>
       have hkid:((w:Nat):Int)∈fcs l a (k+1) p:=by
        unfold fcs;rw [aq (by rw [hp.1];decide)];exact (Lr ht.t).2 ⟨w1,w2,w3⟩
       have hne:w≠k+1:=by have:=ht.plt w1 w2;omega
       have hb:=hF.b w w1 w2 EM;rw [aq EM] at hb;refine ⟨w,w1,w2,w4,p,?_,hp⟩;dsimp only;rw [aq hne,ar hkid];unfold Er;rw [ar EM];simp
    ·have hq:Dat f j q:=by
      obtain ⟨r,r1,r2⟩:=v4;rw [e] at r1;rcases aF.1 r1 with rfl|r1
      ·exact absurd r2 hp
      ·exact ⟨r,r1,r2⟩
     right
     split
     ·exact ⟨k+1,v1,v2,v3,by dsimp only;rw [ar rfl];exact hq⟩
     ·exact ⟨k+1,v1,v2,v3,by dsimp only;rw [ar rfl];exact hq⟩
   ·right
    split
    ·exact ⟨v,v1,v2,v3,by dsimp only;rw [aq hv];exact v4⟩
    ·refine ⟨v,v1,v2,v3,?_⟩;dsimp only;rw [aq hv]
     split
     ·exact v4.push
     ·exact v4
theorem Fw.ul (h:Fw l f j G a):Fw l f j G (Qx l a i):=fun L hL hGL=>by
 rw [Auo];rcases h L hL hGL with hz|⟨v,v1,v2,v3,v4⟩
 ·exact .inl hz
 ·right;refine ⟨v,v1,v2,v3,?_⟩;unfold Qx
  split
  ·exact v4
  ·split
   ·dsimp only
    split
    ·rename_i c;subst c;exact v4.put
    ·exact v4
   ·dsimp only
    split
    ·rename_i c;subst c;exact v4.push
    ·exact v4
end
def Rc (l:al) (g:Nat):Prop:=g < l.length/\g≠0/\Cp l g=0
structure Rf (l:al) (S:ah) (f:Int) (Xs:ak) (a:Vw):Prop where
 x:Xs.Nodup/\Xs.length<=3/\∀j∈Xs,j < 8
 d:Fd l 0 a
 w:∀j,j < S.length->j∈Xs\/(∀g,Rc l g->Dat f j (a.d g))\/(j=0/\Z0 l S f a)
 h:((∀v,a.u v=[])/\a.s.holds=[])\/∀j,j < S.length->(∀g,Rc l g->Br l ((g:Nat):Int)=false->Dat f j (a.d g))\/(j=0/\Z0 l S f a)
def Xf (f:Int) (Xs:ak):Nat->al:=fun _=>Xs.map fun j=>A8 f ((j:Nat):Int)
section
variable {l:al} {S:ah} {f:Int} {a:Vw} {n:Du} {E:ah} {Xs:ak}
theorem Wb (ht:Hf l):Tx l (fun _=>[]):=⟨ht,fun _ _=>rfl,fun _=>fH,fun _=>aD _⟩
theorem Rf.tx (h:Rf l S f Xs a) (ht:Hf l):Tx l (Xf f Xs):=by
 obtain ⟨h1,h2,h3⟩:=h.x;refine ⟨ht,fun _ _=>rfl,fun _=>?_,fun _=>by unfold Xf;rw [cg];exact h2⟩;unfold Xf;have:∀(L:ak),L.Nodup->(∀j∈L,j < 8)->(L.map fun j=>A8 f ((j:Nat):Int)).Nodup:=fun L=>by
  induction L with
  | nil=>intro _ _;exact fH
  | cons x L ih =>
   intro hn hb;obtain ⟨n1,n2⟩:=cy.1 hn;rw [bL];refine cy.2 ⟨fun hm=>?_,ih n2 fun j hj=>hb j (by simp [hj])⟩;obtain ⟨y,hy,e⟩:=bU.1 hm;have h7:=hb y HQ;have h8:=hb x EO;have:y=x:=Oy f EM EM e;subst this;exact n1 hy
 exact this Xs h1 h3
theorem Axe {i:Nat} (h:a.u i=[]):Qx l a i=a:=by unfold Qx;rw [h]
theorem Ahb {Q:Vw->Prop} (ht:Hf l) (hS:S.length<=8) (hg:At n=true) (hl:n.Ao.Ad=l) (hJ:Ug S f n E) (hF:Fd l 0 (vw n))
  (qd:∀k a,k+1 < l.length->Gd l S f a->Fd l k a->Q a->Q (Qw l a (k+1))) (qu:∀i a,Gd l S f a->Q a->Q (Qx l a i)) (h0:Q (vw n)) :
  (Fd l 0 (vw (Jk n).1)/\Q (vw (Jk n).1))/\(At (Jk n).1=true/\(Jk n).1.Ao.Ad=l/\∃E2,Ug S f (Jk n).1 E2)/\∀v,(vw (Jk n).1).d v=[]/\(vw (Jk n).1).u v=[] :=
 Ki (l:=l) (S:=S) (f:=f) (P:=fun k a=>Fd l k a/\Q a) EM
  (fun k a hk hG ⟨h1,h2⟩=>by
   have hG2:=hG.dl EM (show 1<=k+1 by omega) hk;exact ⟨(h1.dl (Wb ht) hG hk).ul hk EM,qu _ _ hG2 (qd k a hk hG h1 h2)⟩)
  (fun _ _ ⟨h1,h2⟩=>⟨h1.wrap,h2⟩) hg hl hJ ⟨hF,h0⟩
theorem Ai4 (ht:Hf l) (hS:S.length<=8) (hg:At n=true) (hl:n.Ao.Ad=l) (hJ:Ug S f n E) (hR:Rf l S f Xs (vw n)) (hri:Yg l (vw n)) :
  (∃E2,Dr l (Xf f Xs) S f (Jk n).1 E2)/\LkV l (Xf f Xs) S f (vw (Jk n).1)/\Un l S f (vw (Jk n).1)/\Yg l (vw (Jk n).1) /\
   (∀V,V < l.length->V≠0->Br l ((V:Nat):Int)=false->((vw (Jk n).1).e V).Af=[])/\(∀i,Fj l i->Cp l i≠0->∀q∈((vw (Jk n).1).r i).Aj,q.Dh=1) /\
   ((vw (Jk n).1).s.holds=[]\/LkV l (fun v=>if Cp l v≠0 then [] else Xf f Xs v) S f (vw (Jk n).1)):=by
 have hx:=Wb ht;obtain ⟨⟨b1,b2⟩,⟨g1,g2,E2,g3⟩,hq⟩:=Ahb (Q:=Yg l) ht hS hg hl hJ hR.d (fun k a _ _ _ h=>h.dl _) (fun i a _ h=>h.ul _) hri;have hG:Gd l S f (vw (Jk n).1):=⟨_,E2,g1,g2,g3,rfl⟩;have flow:∀(j:Nat) (G:Nat->Prop),j < S.length->(∀L,Fj l L->G L->Dat f j ((vw n).d (Uh l L)))->∀L,Fj l L->G L->Zr ((vw (Jk n).1).r L) (A8 f j):=fun j G hj h L hL hGL=>by
  have:=(Ahb (Q:=Fw l f j G) ht hS hg hl hJ hR.d (fun k a hk hG hF hQ=>hQ.dl hF hx hG hS hj hk) (fun i a _ hQ=>hQ.ul) (fun L hL hGL=>by
   obtain ⟨c1,c2,c3,c4⟩:=S8 hx (L+1) L EM hL.1 hL.2.1;exact .inr ⟨Uh l L,c4,c2,c1,h L hL hGL⟩)).1.2
  rcases this L hL hGL with hz|⟨v, -, -, -,p,hp, -⟩
  ·exact hz
  ·rw [(hq v).1] at hp;cases hp
 have zero:0 < S.length->Z0 l S f (vw n)->∀L,Fj l L->((vw (Jk n).1).r L).A1=true->Zr ((vw (Jk n).1).r L) (A8 f (0:Nat)):=fun h1 hz =>
  (Ahb (Q:=Z0 l S f) ht hS hg hl hJ hR.d (fun k a _ hG _ hQ=>hQ.dl hG hS h1) (fun i a hG hQ=>hQ.ul hG h1) hz).1.2.1
 have rcg:∀L,Fj l L->Rc l (Uh l L):=fun L hL=>by
  obtain ⟨c1,c2,c3,c4⟩:=S8 hx (L+1) L EM hL.1 hL.2.1;exact ⟨c4,c2,c3⟩
 have ent:∀V,V < l.length->V≠0->Br l ((V:Nat):Int)=false->((vw (Jk n).1).e V).Af=[]:=b1.e;have lk:LkV l (Xf f Xs) S f (vw (Jk n).1):=fun L hL hst j hj=>by
  rcases hR.w j hj with h|h|⟨rfl,h⟩
  ·exact .inr (bU.2 ⟨j,h,rfl⟩)
  ·exact .inl (flow j (fun _=>True) hj (fun L hL _=>h _ (rcg L hL)) L hL trivial)
  ·exact .inl (zero hj h L hL hst)
 refine ⟨⟨E2,⟨g1,g2,g3,hq,fun v hv h0 hlv q hq'=>?_,fun v hv h0 hlv y hy=>?_⟩⟩,lk,fun v hv _=>⟨(hq v).2,fun p hp=>?_,fun hp0 hF=>?_⟩,b2,ent,fun i hi hp q hq'=>?_,?_⟩
 ·obtain ⟨es,hr⟩:=hG.rci hv;exact (lk v ⟨hv,h0,hlv⟩).req (hG.rc hv h0 hlv).1 hr q hq'
 ·rw [ent v hv h0 hlv] at hy;cases hy
 ·rw [(hq v).1] at hp;cases hp
 ·obtain ⟨y,hy, -⟩:=hF;have hlt:=hx.plt hv.1 hv.2.1;rw [ent _ (by have:=hv.1;omega) hp0 (Tv ht hv.1 hv.2.1)] at hy;cases hy
 ·exact b1.s i hi hp q.Ab q (Mh (hG.rc hi.1 hi.2.1 hi.2.2).1 hq')
 ·rcases hR.h with ⟨h1,h2⟩|h
  ·left;exact (Ahb (Q:=fun a=>(∀v,a.u v=[])/\a.s.holds=[]) ht hS hg hl hJ hR.d (fun k a _ _ _ hQ=>⟨fun v=>by
     have:(Qw l a (k+1)).u=a.u:=by
      unfold Qw
      split
      ·rfl
      ·split <;> rfl
     rw [this];exact hQ.1 v,by rw [Rg];exact hQ.2⟩) (fun i a _ hQ=>by rw [Axe (hQ.1 i)];exact hQ) ⟨h1,h2⟩).1.2.2
  ·right;intro L hL hst j hj;by_cases hp:Cp l L≠0
   ·left;rcases h j hj with h|⟨rfl,h⟩
    ·refine flow j (fun L=>Cp l L≠0) hj (fun L hL hp=>h _ (rcg L hL) ?_) L hL hp;cases c:Br l ((Uh l L:Nat):Int)
     ·rfl
     ·exfalso;obtain ⟨c1,c2,c3,c4⟩:=S8 hx (L+1) L EM hL.1 hL.2.1;have:=c1.leaf ht c;rw [<-this] at c3;exact hp c3
    ·exact zero hj h L hL hst
   ·show _\/_∈(if Cp l L≠0 then _ else _);rw [aq hp];exact lk L hL hst j hj
end
def Cln (s t:Nat) (f:Int) (p:Nat) (r:Ay):Prop:=r.Aj=[]/\(r.A1=true->1<=p/\∃k:Nat,k<=s/\r.Aa.next=A8 f k/\(1<=k\/4<=t)/\∀i,C2 r.Aa.Am i=false)
def Dty (s t p g:Nat):Prop:=2<=p/\2<=g/\((3<=s/\3<=g)\/4<=t)
theorem Cln.mono {s t p s' t' p':Nat} {f:Int} {r:Ay} (h:Cln s t f p r) (h1:s<=s') (h2:t<=t') (h3:p<=p'):Cln s' t' f p' r:=by
 refine ⟨h.1,fun hs=>?_⟩;obtain ⟨a,k,b,c,d,e⟩:=h.2 hs;exact ⟨EM,k,EM,c,EM,e⟩
theorem Dty.mono {s t p g s' t' p' g':Nat} (h:Dty s t p g) (h1:s<=s') (h2:t<=t') (h3:p<=p') (h4:g<=g'):Dty s' t' p' g':=by
 unfold Dty at *;omega
section
variable {f:Int} {S:ah} {j k t pL:Nat} {r:Ay} {p:Ar} {es:ah} {d:Int} {w:Ak} {b:am}
theorem Aw4 (hn:w.next=A8 f k) (hk:k<=8) (hj:j < k):Hy w (A8 f j) b=w:=by
 unfold Hy;rw [ar];rw [(Tc hn EM (show j<=2000 by omega)).2 (.inl hj)];rfl
theorem Anu (hg:C7 w=true) (hn:w.next=A8 f k) (hk:k<=8) (hv:∀i,C2 w.Am i=false) (hb:Qd b=true):(Hy w (A8 f k) b).next=A8 f ((k+1:Nat):Int)/\∀i,C2 (Hy w (A8 f k) b).Am i=false:=by
 obtain ⟨k2,b1,b2,b3,b4,b5⟩:=Acr (t:=b) hg hn EM (show k<=2000 by omega) EM;have hG:=(Ags (n:=A8 f k) (s:=b) hg (N8 _ _) hb).1;have h1:k2<=k+1:=Nat.le_of_not_lt fun c=>by
  rcases b5 (k+1) EM EM with h|h
  ·rw [hv] at h;cases h
  ·omega
 have h2:k2=k+1:=by
  refine Classical.byContradiction fun c=>?_;obtain rfl:k2=k:=EM
  rcases b4 with h|h
  ·omega
  ·rw [fv] at h;unfold C7 at hG;rw [av] at hG;have hE:=hG.2;unfold Sq at hE;rw [h,bJ] at hE;rcases hE with e|e
   ·rw [Lq (by have:=bP e;omega)] at h;cases h
   ·cases e
 subst h2;refine ⟨b2,fun i=>?_⟩;have:=b3 (i+(k+1)) EM;rw [hv,ay EM,show i+(k+1) - (k+1)=i by omega] at this;exact this
theorem Am4 {kk:Nat} (hr:r.Aj=[]) (hn:(Be r p).next=A8 f kk) (hk:kk<=9) {m:Nat} (hl:p.Cy=A8 f m) (hm:m<=kk):(Gb r p d).Aj=[]:=by
 show H8 (Be r p) (C3 r.Aj (Be r p)) p.Cy (r.Ae+d)=[];rw [hr,show C3 [] (Be r p)=[] from rfl];unfold H8;rw [hn,hl,Ky f EM EM,ay EM,aq EN]
theorem Ann {kk:Nat} (hn:w.next=A8 f kk) (hk:kk<=9) {i:Nat} (hi:i<=kk):Jt w (A8 f i)=w:=by
 unfold Jt;rw [hn,Ky f EM EM,ay EM,aq EN]
theorem Cln.data (h:Cln S.length t f pL r) (hS:S.length<=8) (hg:Eu r) (hp:Bh p=true) (h1:p.Bd=1) (hj:j < S.length) (hx:p.Ab=A8 f j) {i:Nat} (hi:i<=j) (ht:p.Al=A8 f i) (hl:p.Cy=A8 f ((j+1:Nat):Int)) :
  Cln S.length t f (pL+1) (Bt r p d)\/(r.A1=true/\1<=pL/\∃k,k < j/\(1<=k\/4<=t)):=by
 have hn:Dq p=true:=by unfold Dq;rw [h1];rfl
 have e1:Bt r p d=Gb r p d:=FZ
 have hb:Qd p.data=true:=by
  unfold Bh at hp;simp only [av] at hp;exact hp.1.1.2
 have k5:¬p.Bd=5:=by rw [h1];decide
 have et:C0 r p=Hy (C8 r p) (A8 f j) p.data:=by unfold C0;rw [aq k5,hx]
 have fin:∀kk:Nat,kk<=S.length->1<=kk\/4<=t->j+1<=kk->(C0 r p).next=A8 f kk->(∀i,C2 (C0 r p).Am i=false)->Cln S.length t f (pL+1) (Bt r p d):=fun kk a1 a2 a3 a4 a5=>by
  have hw:Be r p=C0 r p:=by
   unfold Be;rw [ht];exact Ann a4 EM EM
  rw [e1];refine ⟨Am4 h.1 (by rw [hw];exact a4) EM hl a3,fun _=>⟨EM,kk,a1,?_,a2,?_⟩⟩
  ·show (Be r p).next=_
   rw [hw];exact a4
  ·show ∀i,C2 (Be r p).Am i=false;rw [hw];exact a5
 cases hst:r.A1
 ·left;have e2:C8 r p=⟨A8 f j,[]⟩:=by unfold C8;rw [hst,aq EN,aq k5,hx,(hg.z hst).1]
  have hsg:=(Jj hg hp).1;rw [e2] at hsg et;obtain ⟨c1,c2⟩:=Anu (w:=⟨A8 f j,[]⟩) (f:=f) (k:=j) hsg rfl EM (fun i=>Lq (aD i)) hb;rw [<-et] at c1 c2;exact fin (j+1) EM EM (aA _) c1 c2
 ·obtain ⟨q1,k,q2,q3,q4,q5⟩:=h.2 hst;rw [(Jj hg hp).2 hst] at et;rcases d8 j k with c|c|c
  ·left;rw [Aw4 q3 EM c] at et;exact fin k q2 q4 c (by rw [et];exact q3) (by rw [et];exact q5)
  ·subst c;left;obtain ⟨c1,c2⟩:=Anu hg.w q3 EM q5 hb;rw [<-et] at c1 c2;exact fin (j+1) EM EM (aA _) c1 c2
  ·exact .inr ⟨rfl,q1,k,c,q4⟩
theorem Cln.stat (h:Cln S.length t f pL r) (hS:S.length<=8) (hg:Eu r) (hp:Bh p=true) (hpk:PkI S f p) (h5:p.Bd=5) (h4:4<=t) (hs:r.A1=false):Cln S.length t f (pL+1) (Bt r p d):=by
 have hn:Dq p=true:=JH
 have e1:Bt r p d=Gb r p d:=FZ
 obtain ⟨m,hm,el⟩:=hpk.l hn;obtain ⟨i,hi,et⟩:=hpk.t hn;have him:i<=m:=by
  unfold Bh at hp;simp only [av,aC] at hp;have:=hp.1.2;rw [el,et] at this;rcases cw m i with c|c
  ·rw [Ahe f EM EM c] at this;omega
  ·exact c
 have e2:C0 r p=⟨A8 f m,[]⟩:=by unfold C0 C8;rw [ar h5,hs,aq EN,ar h5,el,(hg.z hs).1]
 have hw:Be r p=⟨A8 f m,[]⟩:=by
  unfold Be;rw [e2,et];exact Ann (f:=f) (kk:=m) rfl EM him
 rw [e1];refine ⟨Am4 h.1 (kk:=m) (f:=f) (by rw [hw]) EM el (aA _),fun _=>⟨EM,m,hm,?_,.inr h4,fun i=>?_⟩⟩
 ·show (Be r p).next=_
  rw [hw]
 ·show C2 (Be r p).Am i=false;rw [hw];exact Lq (aD i)
end
def Dp (l:al) (v:Nat):Prop:=v < l.length/\v≠0/\Cp l v≠0
def Pk (s t g:Nat) (f:Int) (b:Prop) (p:Ar):Prop:=(p.Bd=1/\∃j i:Nat,j < s/\i<=j/\p.Ab=A8 f j/\p.Al=A8 f i/\p.Cy=A8 f ((j+1:Nat):Int)/\(b\/j+1<=g))\/(p.Bd=5/\4<=t/\(b\/1<=g))
theorem Pk.mono {s t g s' t' g':Nat} {f:Int} {b:Prop} {p:Ar} (h:Pk s t g f b p) (h1:s<=s') (h2:t<=t') (h3:g<=g'):Pk s' t' g' f b p:=by
 rcases h with ⟨a,j,i,c1,c2,c3,c4,c5,c6⟩|⟨a,c1,c2⟩
 ·exact .inl ⟨a,j,i,EM,c2,c3,c4,c5,c6.imp_right fun h=>by omega⟩
 ·exact .inr ⟨a,EM,c2.imp_right fun h=>by omega⟩
structure Rn (l:al) (S:ah) (f:Int) (N t:Nat) (P:Nat->Nat) (a:Vw):Prop where
 ct:∀v w,v≠w->S.length+t+P v+P w<=N
 cr:N<=8
 q:0<=a.s.quiet/\a.s.quiet<=((t:Nat):Int)
 ra:∀c,Rc l c->∀j,j < S.length->Dat f j (a.d c)\/j+1<=P c\/6<=j
 rb:N<=7->∀c,Rc l c->∀(i j:Nat) p,(a.d c)[i]?=some p->p.Bd=1->p.Ab=A8 f j->j<=8->j<=P c+i
 rc:N<=7->∀c,Rc l c->S.length<=P c+(a.d c).length\/7<=S.length
 rd:∀c,Rc l c->N<=7\/Br l ((c:Nat):Int)=false->4 * ((P c+(a.d c).length:Nat):Int)+a.s.quiet<=((4 * S.length+t:Nat):Int)
 dd:∀v,Dp l v->P v+(a.d v).length<=P (Cp l v)
 pk:∀v,v < l.length->v≠0->N<=7\/Br l ((Uh l v:Nat):Int)=false->∀p∈a.d v,Pk S.length t (P (Uh l v)) f (Cp l v=0) p
 lf:∀L,Fj l L->Cln S.length t f (P L) (a.r L)\/Dty S.length t (P L) (P (Uh l L))
 e:∀v,v < l.length->v≠0->Br l ((v:Nat):Int)=false->(a.e v).Af=[]
 u:∀v,v < l.length->v≠0->¬(Cp l v=0/\Br l ((v:Nat):Int)=true)->a.u v=[]
 h:((∀v,a.u v=[])/\a.s.holds=[])\/∃c,Rc l c/\Br l ((c:Nat):Int)=true/\1<=t/\2<=P c/\((3<=S.length/\3<=P c)\/5<=t)
 z:t<=3->Z0 l S f a
 st:∀L,Fj l L->Cp l L≠0->∀x q,rq (a.r L) x=some q->q.Dh=1
section
variable {l:al} {S:ah} {f:Int} {a:Vw} {N t:Nat} {P:Nat->Nat} {i:Nat} {p:Ar} {q:List Ar}
theorem Azc (ht:Hf l) {v:Nat} (hv:v < l.length) (h0:v≠0):Cp l v < v:=(Wb ht).plt hv h0
theorem Rn.le (h:Rn l S f N t P a) (ht:Hf l):∀(n v:Nat),v < n->v < l.length->v≠0->P v<=P (Uh l v)
 | 0,v,h,_,_=>by omega
 | n+1,v,hn,hv,h0=>by
  by_cases c:Cp l v=0
  ·rw [Q6 c];exact aA _
  ·have h1:=Azc ht hv h0;have h2:=h.le ht n (Cp l v) EM EM c;have h3:=h.dd v ⟨hv,h0,c⟩;rw [Ut (Wb ht) hv c];omega
theorem Rn.sle (h:Rn l S f N t P a):S.length+t<=N:=by have:=h.ct 0 1 EN;omega
theorem Alm (ht:Hf l) (v:Nat):((v:Nat):Int)∈E7 l 0↔Rc l v:=Lr (i:=0) ht
theorem Rn.send (h:Rn l S f N t P a) (hN:N<=7) (ht:Hf l) {x:am} {s':Cc} (k1:p.Bd=1) (kn:p.Ab=A8 f S.length) (kl:p.Cy=A8 f ((S.length+1:Nat):Int)) (kt:∃i:Nat,i<=S.length/\p.Al=A8 f i) (hq:s'.quiet=0) (hh:a.s.holds=[]->s'.holds=[]) :
  Rn l (S++[x]) f (N+1) t P ⟨fun v=>if ((v:Nat):Int)∈E7 l 0 then Er (a.d v) p else a.d v,a.u,a.r,a.e,s'⟩:=by
 have hl:(S++[x]).length=S.length+1:=EO
 have hs:=h.sle;have root:∀c,Rc l c->(if ((c:Nat):Int)∈E7 l 0 then Er (a.d c) p else a.d c)=Er (a.d c) p:=fun c hc=>ar ((Alm ht c).2 hc);have full:∀c,Rc l c->¬(a.d c).length < 6->6<=S.length:=fun c hc hf=>by
  have h1:=h.rd c hc (.inl hN);have h2:=h.ct c 0 hc.2.1;have h3:=h.q.1;omega
 refine ⟨fun v w hvw=>?_,EM,?_,fun c hc j hj=>?_,fun hN2 c hc i j r hr hr1 hrn hj=>?_,fun hN2 c hc=>?_,fun c hc hor=>?_,fun v hv=>?_,fun v hv h0 hor r hr=>?_,fun L hL=>?_,h.e,h.u,?_,fun ht3=>?_,h.st⟩
 ·have:=h.ct v w hvw;omega
 ·show 0<=s'.quiet/\s'.quiet<=_;rw [hq];omega
 ·dsimp only;rw [root c hc];by_cases hjs:j < S.length
  ·rcases h.ra c hc j hjs with g|g
   ·exact .inl g.push
   ·exact .inr g
  ·obtain rfl:j=S.length:=EM
   by_cases hf:(a.d c).length < 6
   ·left;refine ⟨p,?_,k1,kn⟩;unfold Er;rw [ar hf];simp
   ·have:=full c hc hf;omega
 ·dsimp only at hr;rw [root c hc] at hr;unfold Er at hr
  split at hr
  ·by_cases hi:i < (a.d c).length
   ·rw [bo hi] at hr;exact h.rb hN c hc i j r hr hr1 hrn hj
   ·rw [br EM] at hr;have hm:=bM hr;rw [aH] at hm;subst hm;have hjs:j=S.length:=Oy f EM EM (hrn.symm.trans kn);have:=h.rc hN c hc;omega
  ·exact h.rb hN c hc i j r hr hr1 hrn hj
 ·rw [hl];dsimp only;rw [root c hc];have:=h.rc hN c hc;unfold Er
  split
  ·rw [aw,bY];omega
  ·have:=full c hc ‹_›;omega
 ·have h1:=h.rd c hc (.inl hN);have h3:=h.q.1;dsimp only;rw [root c hc,hq,hl];have:=T6 (a.d c) p;omega
 ·dsimp only;rw [aq (fun c=>hv.2.2 ((Alm ht v).1 c).2.2)];exact h.dd v hv
 ·dsimp only at hr
  split at hr
  ·rename_i c;have hc:=(Alm ht v).1 c;rcases I9 hr with hr|rfl
   ·exact (h.pk v hv h0 (.inl hN) r hr).mono EM (aA _) (aA _)
   ·obtain ⟨i,hi,ei⟩:=kt;exact .inl ⟨k1,S.length,i,EM,hi,kn,ei,kl,.inl hc.2.2⟩
  ·exact (h.pk v hv h0 (.inl hN) r hr).mono EM (aA _) (aA _)
 ·rcases h.lf L hL with g|g
  ·exact .inl (g.mono EM (aA _) (aA _))
  ·exact .inr (g.mono EM (aA _) (aA _) (aA _))
 ·rcases h.h with ⟨g1,g2⟩|⟨c,c1,c2,c3,c4,c5⟩
  ·exact .inl ⟨g1,hh g2⟩
  ·exact .inr ⟨c,c1,c2,c3,c4,EM⟩
 ·obtain ⟨z1,z2⟩:=h.z ht3;have hS1:S.length<=(S++[x]).length:=EM
  refine ⟨z1,fun v r hr h5=>?_⟩;have old:r∈a.d v->∃m:Nat,1<=m/\m<=(S++[x]).length/\r.Cy=A8 f m:=fun hm=>by
   obtain ⟨m,m1,m2,m3⟩:=z2 v r hm h5;exact ⟨m,m1,EM,m3⟩
  dsimp only at hr
  split at hr
  ·rcases I9 hr with hr|rfl
   ·exact old hr
   ·rw [k1] at h5;cases h5
  ·exact old hr
def Ui (P:Nat->Nat) (i:Nat):Nat->Nat:=fun v=>if v=i then P v+1 else P v
theorem Yc (P:Nat->Nat) (i v:Nat):P v<=Ui P i v:=by unfold Ui;split <;> omega
theorem Ti (P:Nat->Nat) (i:Nat):Ui P i i=P i+1:=ar rfl
theorem Rn.pop (h:Rn l S f N t P a) (hN:N<=7) (h0:i≠0) (hi:i < l.length) (e:a.d i=p::q) {r':Nat->Ay}
  (hlf:∀L,Fj l L->Cln S.length t f (Ui P i L) (r' L)\/Dty S.length t (Ui P i L) (Ui P i (Uh l L)))
  (hz:t<=3->∀L,Fj l L->(r' L).A1=true->Zr (r' L) (A8 f (0:Nat)))
  (hst:∀L,Fj l L->Cp l L≠0->∀x q,rq (r' L) x=some q->q.Dh=1) :
  Rn l S f (N+1) t (Ui P i) ⟨fun v=>if v=i then q else a.d v,a.u,r',a.e,a.s⟩:=by
 have hs:=h.sle;have up:=Yc P i;have hlen:(a.d i).length=q.length+1:=by rw [e];rfl
 refine ⟨fun v w hvw=>?_,EM,h.q,fun c hc j hj=>?_,fun hN2 c hc m j r hr hr1 hrn hj=>?_,fun hN2 c hc=>?_,fun c hc hor=>?_,fun v hv=>?_,fun v hv v0 hor r hr=>?_,hlf,h.e,h.u,?_,fun ht3=>⟨hz ht3,fun v r hr h5=>?_⟩,hst⟩
 ·have h1:=h.ct v w hvw;unfold Ui;by_cases c:v=i
  ·rw [ar c,aq (fun d=>hvw (c.trans d.symm))];omega
  ·rw [aq c]
   split <;> omega
 ·dsimp only;by_cases c1:c=i
  ·subst c1;rw [ar rfl,Ti];rcases h.ra c hc j hj with ⟨r,g1,g2,g3⟩|g|g
   ·rw [e] at g1;rcases aF.1 g1 with rfl|g1
    ·right;left;have:=h.rb hN c hc 0 j r (by rw [e];rfl) g2 g3 EM;omega
    ·exact .inl ⟨r,g1,g2,g3⟩
   ·right;left;omega
   ·exact .inr (.inr g)
  ·rw [aq c1];have:=up c;rcases h.ra c hc j hj with g|g|g
   ·exact .inl g
   ·right;left;omega
   ·exact .inr (.inr g)
 ·dsimp only at hr;by_cases c1:c=i
  ·subst c1;rw [ar rfl] at hr;have:=h.rb hN c hc (m+1) j r (by rw [e];exact hr) hr1 hrn hj;rw [Ti];omega
  ·rw [aq c1] at hr;have:=h.rb hN c hc m j r hr hr1 hrn hj;have:=up c;omega
 ·have h1:=h.rc hN c hc;dsimp only;by_cases c1:c=i
  ·subst c1;rw [ar rfl,Ti];omega
  ·rw [aq c1];have:=up c;omega
 ·have h1:=h.rd c hc (.inl hN);dsimp only;by_cases c1:c=i
  ·subst c1;rw [ar rfl,Ti];omega
  ·rw [aq c1];unfold Ui;rw [aq c1];omega
 ·have h1:=h.dd v hv;dsimp only;have:=up (Cp l v);by_cases c1:v=i
  ·subst c1;rw [ar rfl,Ti];omega
  ·rw [aq c1];have:Ui P i v=P v:=aq c1;omega
 ·dsimp only at hr;have h1:r∈a.d v:=by
   split at hr
   ·rename_i c;subst c;rw [e];exact aN _ hr
   ·exact hr
  exact (h.pk v hv v0 (.inl hN) r h1).mono (aA _) (aA _) (up _)
 ·rcases h.h with g|⟨c,c1,c2,c3,c4,c5⟩
  ·exact .inl g
  ·have:=up c;exact .inr ⟨c,c1,c2,c3,EM,EM⟩
 ·dsimp only at hr;have h1:r∈a.d v:=by
   split at hr
   ·rename_i c;subst c;rw [e];exact aN _ hr
   ·exact hr
  exact (h.z ht3).2 v r h1 h5
theorem Rn.lf_up (h:Rn l S f N t P a) {L:Nat} (hL:Fj l L):Cln S.length t f (Ui P i L) (a.r L)\/Dty S.length t (Ui P i L) (Ui P i (Uh l L)):=by
 rcases h.lf L hL with g|g
 ·exact .inl (g.mono (aA _) (aA _) (Yc _ _ _))
 ·exact .inr (g.mono (aA _) (aA _) (Yc _ _ _) (Yc _ _ _))
theorem Rn.lose (h:Rn l S f N t P a) (hN:N<=7) (h0:i≠0) (hi:i < l.length) (e:a.d i=p::q):Rn l S f (N+1) t (Ui P i) ⟨fun v=>if v=i then q else a.d v,a.u,a.r,a.e,a.s⟩ :=
 h.pop hN h0 hi e (fun _ hL=>h.lf_up hL) (fun h3=>(h.z h3).1) h.st
theorem Rn.dl (h:Rn l S f N t P a) (hN:N<=7) (ht:Hf l) (hG:Gd l S f a) (hS:S.length<=8) (h0:i≠0) (hi:i < l.length) (e:a.d i=p::q):Rn l S f (N+1) t (Ui P i) (Qw l a i):=by
 have hm:p∈a.d i:=FH
 have hpk:=h.pk i hi h0 (.inl hN) p hm;have hgp:=hG.que.1 p hm;have hpi:=hG.pki p hm;have hle:=h.le ht (i+1) i EM hi h0;have hgle:P i+1<=Ui P i (Uh l i)\/Cp l i≠0:=by
  by_cases c:Cp l i=0
  ·left;rw [Q6 c,Ti];exact aA _
  ·exact .inr c
 -- what goes on below
 have hon:∀j:Nat,Pk S.length t (P (Uh l i)) f (Cp l i=0) p->p.Bd=1->p.Ab=A8 f j->j < S.length->S.length<=8->j+1<=Ui P i (Uh l i):=fun j hp k1 kn hj h8=>by
  rcases hp with ⟨-,j2,i2,c1,c2,c3,c4,c5,c6⟩|⟨c1, -⟩
  ·have:j2=j:=Oy f EM EM (c3.symm.trans kn);subst this;by_cases c:Cp l i=0
   ·have:=h.rb hN i ⟨hi,h0,c⟩ 0 j2 p (by rw [e];rfl) k1 kn EM;rw [Q6 c,Ti];omega
   ·have:=c6.resolve_left c;have:=Yc P i (Uh l i);omega
  ·rw [k1] at c1;cases c1
 have h1s:S.length=0->t<=3->False:=fun hs0 h3=>by
  rcases hpk with ⟨-,j, -,c, -⟩|⟨-,c, -⟩ <;> omega
 cases hl:Br l ((i:Nat):Int)
 ·have hb:=h.lose hN h0 hi e;have hk2:¬p.Bd=2:=by
   rcases hpk with ⟨c, -⟩|⟨c, -⟩ <;> rw [c] <;> decide
  have hvd:Qw l a i=⟨fun v=>if v=i then q else if Cp l v=i/\v < l.length/\v≠0 then Er (a.d v) p else a.d v,a.u,a.r,a.e,a.s⟩:=by
   unfold Qw;rw [e];dsimp only;rw [hl,aq (show ¬(false=true) by decide)];refine Aex (funext fun v=>?_) rfl rfl (funext fun v=>?_) rfl
   ·dsimp only;refine ifc Iff.rfl rfl (ifc ?_ rfl rfl);unfold fcs;rw [aq hk2,Lr ht];exact ⟨fun d=>⟨d.2.2,d.1,d.2.1⟩,fun d=>⟨d.2.1,d.2.2,d.1⟩⟩
   ·dsimp only;rw [aq (fun d=>hk2 d.2)]
  rw [hvd];have root:∀c,Rc l c->(if c=i then q else if Cp l c=i/\c < l.length/\c≠0 then Er (a.d c) p else a.d c)=if c=i then q else a.d c:=fun c hc=>by
   rw [aq (show ¬(Cp l c=i/\c < l.length/\c≠0) from fun d=>h0 (by rw [<-d.1,hc.2.2]))]
  refine ⟨hb.ct,hb.cr,hb.q,fun c hc j hj=>?_,fun hN2 c hc m j r hr=>?_,fun hN2 c hc=>?_,fun c hc hor=>?_,fun v hv=>?_,fun v hv v0 hor r hr=>?_,hb.lf,hb.e,hb.u,hb.h,fun h3=>⟨(hb.z h3).1,fun v r hr h5=>?_⟩,hb.st⟩
  ·have:=hb.ra c hc j hj;dsimp only at this ⊢;rw [root c hc];exact this
  ·have:=hb.rb hN2 c hc m j r;dsimp only at this hr;rw [root c hc] at hr;exact this hr
  ·have:=hb.rc hN2 c hc;dsimp only at this ⊢;rw [root c hc];exact this
  ·have:=hb.rd c hc hor;dsimp only at this ⊢;rw [root c hc];exact this
  ·dsimp only;by_cases c1:v=i
   ·have:=hb.dd v hv;dsimp only at this;rw [ar c1] at this ⊢;exact this
   ·rw [aq c1];by_cases c2:Cp l v=i/\v < l.length/\v≠0
    ·rw [ar c2];have h1:=h.dd v hv;have:=T6 (a.d v) p;rw [c2.1] at h1 ⊢;rw [Ti,show Ui P i v=P v from aq c1];omega
    ·rw [aq c2];have:=hb.dd v hv;dsimp only at this;rw [aq c1] at this;exact this
  ·dsimp only at hr;have old:r∈(if v=i then q else a.d v)->Pk S.length t (Ui P i (Uh l v)) f (Cp l v=0) r:=fun hm=>hb.pk v hv v0 hor r hm;by_cases c1:v=i
   ·rw [ar c1] at hr;exact old (by rw [ar c1];exact hr)
   ·rw [aq c1] at hr
    split at hr
    ·rename_i c2;rcases I9 hr with hr|rfl
     ·exact old (by rw [aq c1];exact hr)
     ·have hgr:Uh l v=Uh l i:=by rw [Ut (Wb ht) hv (by rw [c2.1];exact h0),c2.1]
      rw [hgr];rcases hpk with ⟨k1,j,i2,c1,c2,c3,c4,c5,c6⟩|⟨k5,c1,c2⟩
      ·exact .inl ⟨k1,j,i2,c1,c2,c3,c4,c5,.inr (hon j (.inl ⟨k1,j,i2,c1,c2,c3,c4,c5,c6⟩) k1 c3 c1 hS)⟩
      ·refine .inr ⟨k5,c1,.inr ?_⟩;rcases hgle with g|g
       ·omega
       ·have:=c2.resolve_left g;have:=Yc P i (Uh l i);omega
    ·exact old (by rw [aq c1];exact hr)
  ·dsimp only at hr;have old:=(h.z h3).2
   split at hr
   ·rename_i c;subst c;exact old v r (by rw [e];exact aN _ hr) h5
   ·split at hr
    ·rcases I9 hr with hr|rfl
     ·exact old v r hr h5
     ·exact old i _ hm h5
    ·exact old v r hr h5
 ·have hvd:Qw l a i=⟨fun v=>if v=i then q else a.d v,a.u,fun v=>if v=i then Bt (a.r i) p (Ij i) else a.r v,a.e,a.s⟩:=by
   unfold Qw;rw [e];dsimp only;rw [hl,ar rfl]
  rw [hvd];have hiL:Fj l i:=⟨hi,h0,hl⟩;obtain ⟨es,hrc⟩:=hG.rci hi;obtain ⟨g1, -⟩:=hG.rc hi h0 hl;refine h.pop hN h0 hi e (fun L hL=>?_) (fun h3 L hL hs=>?_) (fun L hL hp x q' hq'=>?_)
  ·by_cases c:L=i
   ·subst c;rw [ar rfl,Ti];have hgg:P (Uh l L)<=Ui P L (Uh l L):=Yc _ _ _;rcases h.lf L hL with g|g
    ·rcases hpk with ⟨k1,j,i2,c1,c2,c3,c4,c5,c6⟩|⟨k5,c1,c2⟩
     ·rcases g.data (d:=Ij L) hS g1 hgp k1 c1 c3 c2 c4 c5 with g|⟨s1,s2,k,s3,s4⟩
      ·exact .inl g
      ·right;have:=hon j (.inl ⟨k1,j,i2,c1,c2,c3,c4,c5,c6⟩) k1 c3 c1 hS;unfold Dty;omega
     ·cases hs:(a.r L).A1
      ·exact .inl (g.stat hS g1 hgp hpi k5 c1 hs)
      ·right;obtain ⟨s1, -⟩:=g.2 hs;have:2<=Ui P L (Uh l L):=by
        by_cases d:Cp l L=0
        ·rw [Q6 d,Ti];omega
        ·have h1:=h.dd L ⟨hi,h0,d⟩;have hlt:=Azc ht hi h0;have h2:=h.le ht (Cp l L+1) (Cp l L) EM EM d;rw [<-Ut (Wb ht) hi d,e,aK] at *;omega
       unfold Dty;omega
    ·exact .inr (g.mono (aA _) (aA _) EM hgg)
   ·rw [aq c];exact h.lf_up hL
  ·split at hs
   ·rename_i c;subst c;rw [ar rfl];have hs1:1<=S.length:=by
     rcases bQ S.length with c|c
     ·exact (h1s c h3).elim
     ·exact c
    exact Asb hS hs1 g1 hgp hrc hpi ((h.z h3).1 L hL) ((h.z h3).2 L p hm) hs
   ·rename_i c;rw [aq c];exact (h.z h3).1 L hL hs
  ·split at hq'
   ·rename_i c;subst c;refine Ahh g1 hgp (fun h4=>?_) (h.st L hL hp x) q' hq';rcases hpk with ⟨c, -⟩|⟨c, -⟩ <;> rw [c] at h4 <;> cases h4
   ·exact h.st L hL hp x q' hq'
end
section
variable {l:al} {S:ah} {f:Int} {a:Vw} {N t:Nat} {P:Nat->Nat} {i:Nat} {p:Ar} {q:List Ar}
theorem Agh (q:List Ar):Da q []=q:=by unfold Da;simp
theorem Qg {r:Ay} {d:Int} (h:r.Aj=[]):Bj r d=⟨r.A1,r.Ae+1,r.Aa,[]⟩/\Db r=[]:=by
 have e1:Cf r=[]:=by unfold Cf;rw [h];rfl
 have e2:Ir r d=[]:=by unfold Ir;rw [h];rfl
 refine ⟨by unfold Bj;rw [ar e1,e2],by unfold Db;rw [h];rfl⟩
theorem Aw9 {r:Ay} {d:Int}:(Bj r d).A1=r.A1:=by unfold Bj;split <;> rfl
theorem Azw (w:Ax) (q:Int):(G0 w q=[]/\L9 q=q+1/\q+1 < 4)\/(G0 w q=[Kd w]/\L9 q=0/\¬q+1 < 4):=by
 unfold G0 L9;by_cases h:q+1 < 4
 ·left;rw [ar h,ar h];exact ⟨rfl,rfl,h⟩
 ·right;rw [aq h,aq h];exact ⟨rfl,rfl,h⟩
theorem Rn.deep (h:Rn l S f N t P a) (hN:N<=7) (ht:Hf l) {L:Nat} (hL:Fj l L) (hp:Cp l L≠0):(a.r L).Aj=[]:=by
 rcases h.lf L hL with g|g
 ·exact g.1
 ·exfalso;obtain ⟨c1,c2,c3,c4⟩:=S8 (Wb ht) (L+1) L EM hL.1 hL.2.1;have:=h.ct L (Uh l L) (fun d=>hp (by rw [d];exact c3));unfold Dty at g;omega
theorem Z0.tk (h:Z0 l S f a) (hG:Gd l S f a) (hS:S.length<=8) (hd:∀p∈G0 a.s.Aa a.s.quiet,∃m:Nat,1<=m/\m<=S.length/\p.Cy=A8 f m):Z0 l S f (Nm l a (l.length - 1)):=by
 refine ⟨fun L hL hs=>?_,fun v r hr h5=>?_⟩
 ·rw [Pe hL] at hs ⊢;rw [Aw9] at hs;have hz:=h.1 L hL hs;cases e:(a.r L).Aj with
  | nil=>rw [(Qg e).1];exact hz
  | cons q0 t0 =>
   obtain ⟨es,hr⟩:=hG.rci hL.1;obtain ⟨g1, -⟩:=hG.rc hL.1 hL.2.1 hL.2.2;obtain ⟨j,hj, -⟩:=Aed g1 hr (q:=q0) FH;exact Amc hS g1 hr (j:=0) EM hz
 ·have hr2:r∈(if ((v:Nat):Int)∈E7 l 0 then Da (a.d v) (G0 a.s.Aa a.s.quiet) else a.d v):=hr
  split at hr2
  ·unfold Da at hr2;rcases aG.1 hr2 with hm|hm
   ·exact h.2 v r hm h5
   ·exact hd r (bg hm)
  ·exact h.2 v r hr2 h5
theorem Rn.tk (h:Rn l S f N t P a) (hN:N<=7) (ht:Hf l) (hG:Gd l S f a) (hS:S.length<=8):Rn l S f (N+1) (t+1) P (Nm l a (l.length - 1)):=by
 have hD:=Azw a.s.Aa a.s.quiet;have hq:=h.q;have root:∀c,Rc l c->(Nm l a (l.length - 1)).d c=Da (a.d c) (G0 a.s.Aa a.s.quiet):=fun c hc=>ar ((Alm ht c).2 hc);have deep:∀v,¬Rc l v->(Nm l a (l.length - 1)).d v=a.d v:=fun v hv=>aq fun c=>hv ((Alm ht v).1 c);have hen:∀v,v < l.length->v≠0->Br l ((v:Nat):Int)=false->(Nm l a (l.length - 1)).e v=Cn (a.e v):=fun v hv h0 hl=>ar ⟨⟨h0,EM⟩,hl⟩;have hu1:∀v,Fj l v->(Nm l a (l.length - 1)).u v=Da (a.u v) (Db (a.r v)):=fun v hv=>ar ⟨⟨hv.2.1,by have:=hv.1;omega⟩,hv.2.2⟩
 have hu2:∀v,¬Fj l v->v < l.length->(Nm l a (l.length - 1)).u v=a.u v:=fun v hv hl=>aq fun c=>hv ⟨hl,c.1.1,c.2⟩;refine ⟨fun v w hvw=>?_,EM,?_,fun c hc j hj=>?_,fun hN2 c hc m j r hr hr1 hrn hj=>?_,fun hN2 c hc=>?_,fun c hc hor=>?_,fun v hv=>?_,fun v hv v0 hor r hr=>?_,fun L hL=>?_,fun v hv h0 hl=>?_,fun v hv h0 hn=>?_,?_,fun h3=>?_,fun L hL hp x q' hq'=>?_⟩
 ·have:=h.ct v w hvw;omega
 ·show 0<=L9 a.s.quiet/\L9 a.s.quiet<=_;rcases hD with ⟨-,d2, -⟩|⟨-,d2, -⟩ <;> rw [d2] <;> omega
 ·rw [root c hc];rcases h.ra c hc j hj with g|g
  ·exact .inl g.put
  ·exact .inr g
 ·rw [root c hc] at hr;unfold Da at hr;by_cases hm:m < (a.d c).length
  ·rw [bo hm] at hr;exact h.rb hN c hc m j r hr hr1 hrn hj
  ·rw [br EM] at hr;have:=Nl (bg (bM hr));rw [this] at hr1;cases hr1
 ·rw [root c hc];have:=h.rc hN c hc;have:(a.d c).length<=(Da (a.d c) (G0 a.s.Aa a.s.quiet)).length:=by unfold Da;rw [aw];omega
  omega
 ·rw [root c hc];have h1:=h.rd c hc (.inl hN);show 4 * ((P c+(Da (a.d c) (G0 a.s.Aa a.s.quiet)).length:Nat):Int)+L9 a.s.quiet<=_;rcases hD with ⟨d1,d2,d3⟩|⟨d1,d2,d3⟩
  ·rw [d1,d2,Agh];omega
  ·rw [d1,d2,T7];have:=T6 (a.d c) (Kd a.s.Aa);omega
 ·rw [deep v fun c=>hv.2.2 c.2.2];exact h.dd v hv
 ·by_cases c:Rc l v
  ·rw [root v c] at hr;unfold Da at hr;rcases aG.1 hr with hm|hm
   ·exact (h.pk v hv v0 (.inl hN) r hm).mono (aA _) EM (aA _)
   ·have hm2:=bg hm;have e5:=Nl hm2;right;refine ⟨by rw [e5];rfl,?_,.inl c.2.2⟩;rcases hD with ⟨d1, -, -⟩|⟨-, -,d3⟩
    ·rw [d1] at hm2;cases hm2
    ·omega
  ·rw [deep v c] at hr;exact (h.pk v hv v0 (.inl hN) r hr).mono (aA _) EM (aA _)
 ·rw [Pe hL];rcases h.lf L hL with g|g
  ·left;rw [(Qg g.1).1];exact (show Cln S.length t f (P L) ⟨(a.r L).A1,(a.r L).Ae+1,(a.r L).Aa,[]⟩ from ⟨rfl,g.2⟩).mono (aA _) EM (aA _)
  ·exact .inr (g.mono (aA _) EM (aA _) (aA _))
 ·rw [hen v hv h0 hl];unfold Cn;rw [h.e v hv h0 hl];rfl
 ·by_cases c:Fj l v
  ·rw [hu1 v c,h.u v hv h0 hn,(Qg (d:=1) (h.deep hN ht c fun d=>hn ⟨d,c.2.2⟩)).2];rfl
  ·rw [hu2 v c hv];exact h.u v hv h0 hn
 ·rcases h.h with ⟨g1,g2⟩|⟨c,c1,c2,c3,c4,c5⟩
  ·by_cases hall:∀L,Fj l L->(a.r L).Aj=[]
   ·left;refine ⟨fun v=>?_,?_⟩
    ·show (if (v≠0/\v<=l.length - 1)/\Br l ((v:Nat):Int)=true then Da (a.u v) (Db (a.r v)) else a.u v)=[]
     split
     ·rename_i c;have:=ht.n0;rw [g1 v,(Qg (d:=1) (hall v ⟨EM,c.1.1,c.2⟩)).2];rfl
     ·exact g1 v
    ·show Qs (a.s.Ae+1) a.s.holds=[];rw [g2];rfl
   ·right;obtain ⟨L,hL⟩:=Classical.not_forall.1 hall;obtain ⟨hL1,hL2⟩:=Classical.not_imp.1 hL;have hp:Cp l L=0:=Classical.byContradiction fun hp=>hL2 (h.deep hN ht hL1 hp);rcases h.lf L hL1 with g|g
    ·exact absurd g.1 hL2
    ·rw [Q6 hp] at g;unfold Dty at g;exact ⟨L,⟨hL1.1,hL1.2.1,hp⟩,hL1.2.2,EM,EM,EM⟩
  ·exact .inr ⟨c,c1,c2,EM,c4,EM⟩
 ·refine (h.z EM).tk hG hS fun p hp=>?_;exfalso;rcases hD with ⟨d1, -, -⟩|⟨-, -,d3⟩
  ·rw [d1] at hp;cases hp
  ·omega
 ·rw [Pe hL,(Qg (h.deep hN ht hL hp)).1] at hq';cases hq'
theorem Rn.late (h:Rn l S f N t P a) (e:a.u i=p::q):7<=N/\(t<=3->1<=S.length)/\∃c,Rc l c/\Br l ((c:Nat):Int)=true/\1<=t/\2<=P c/\((3<=S.length/\3<=P c)\/5<=t):=by
 rcases h.h with ⟨g, -⟩|⟨c,c1,c2,c3,c4,c5⟩
 ·rw [g i] at e;cases e
 ·have:=h.ct c 0 c1.2.1;exact ⟨EM,EM,c,c1,c2,c3,c4,c5⟩
theorem Rn.top (h:Rn l S f N t P a) (hi:i < l.length) (h0:i≠0) (e:a.u i=p::q):Cp l i=0/\Br l ((i:Nat):Int)=true :=
 Classical.byContradiction fun c=>by rw [h.u i hi h0 c] at e;cases e
theorem Rn.upl (h:Rn l S f N t P a) (hN:N<=7) (hi:i < l.length) (h0:i≠0) (e:a.u i=p::q) {D:List Ar} {s':Cc} (hs:s'.quiet=a.s.quiet)
  (hz:t<=3->Z0 l S f ⟨fun v=>if v=i then Da (a.d i) D else a.d v,fun v=>if v=i then q else a.u v,a.r,a.e,s'⟩):Rn l S f (N+1) t P ⟨fun v=>if v=i then Da (a.d i) D else a.d v,fun v=>if v=i then q else a.u v,a.r,a.e,s'⟩:=by
 obtain ⟨h7, -,hc2⟩:=h.late e;obtain ⟨tp,tl⟩:=h.top hi h0 e;refine ⟨fun v w hvw=>?_,EM,by dsimp only;rw [hs];exact h.q,fun c hc j hj=>?_,fun hN2=>by omega,fun hN2=>by omega,fun c hc hor=>?_,fun v hv=>?_,fun v hv v0 hor r hr=>?_,h.lf,h.e,fun v hv v0 hn=>?_,.inr hc2,hz,h.st⟩
 ·have:=h.ct v w hvw;omega
 ·dsimp only
  split
  ·rename_i c1;subst c1;rcases h.ra c hc j hj with g|g
   ·exact .inl g.put
   ·exact .inr g
  ·exact h.ra c hc j hj
 ·dsimp only;have hci:c≠i:=fun d=>by
   rcases hor with g|g
   ·omega
   ·rw [d,tl] at g;cases g
  rw [aq hci,hs];exact h.rd c hc (.inl hN)
 ·dsimp only;rw [aq (fun d=>hv.2.2 (by rw [d];exact tp))];exact h.dd v hv
 ·dsimp only at hr;have hvi:v≠i:=fun d=>by
   rcases hor with g|g
   ·omega
   ·rw [d,Q6 tp,tl] at g;cases g
  rw [aq hvi] at hr;exact h.pk v hv v0 (.inl hN) r hr
 ·dsimp only;rw [aq (fun d=>hn (by rw [d];exact ⟨tp,tl⟩))];exact h.u v hv v0 hn
theorem Rn.ul (h:Rn l S f N t P a) (hN:N<=7) (hG:Gd l S f a) (hi:i < l.length) (h0:i≠0) (e:a.u i=p::q):Rn l S f (N+1) t P (Qx l a i):=by
 have tp:=(h.top hi h0 e).1;have hv:Qx l a i=⟨fun v=>if v=i then Da (a.d i) (Ib a.s p) else a.d v,fun v=>if v=i then q else a.u v,a.r,a.e,Hb a.s p.Ab⟩:=by
  unfold Qx;rw [e];dsimp only;rw [ar tp]
 rw [hv];refine h.upl hN hi h0 e (by unfold Hb;split <;> rfl) fun h3=>?_;rw [<-hv];exact (h.z h3).ul hG ((h.late e).2.1 h3)
theorem Rn.ulose (h:Rn l S f N t P a) (hN:N<=7) (hi:i < l.length) (h0:i≠0) (e:a.u i=p::q):Rn l S f (N+1) t P ⟨a.d,fun v=>if v=i then q else a.u v,a.r,a.e,a.s⟩:=by
 have hd:(fun v=>if v=i then Da (a.d i) [] else a.d v)=a.d:=funext fun v=>by
  split
  ·rename_i c;rw [Agh,c]
  ·rfl
 have:=h.upl (D:=[]) (s':=a.s) hN hi h0 e rfl;rw [hd] at this;exact this fun h3=>h.z h3
end
section
variable {l:al} {S:ah} {f:Int} {a:Vw} {N t:Nat} {P:Nat->Nat} {n:Du} {E:ah} {i:Nat}
theorem An1 (hg:At n=true) (x:am):vw (Xb n x)=⟨fun v=>if ((v:Nat):Int)∈E7 n.Ao.Ad 0 then Er ((vw n).d v) (Di n.Ac.Aa x) else (vw n).d v,(vw n).u,(vw n).r,(vw n).e,Pp n.Ac x⟩:=by
 have hG:=Av.1 hg;have hT:=Ev hG.t;obtain ⟨q1,q2,q3,q4⟩:=Bk.1 hG.l;refine Aex (funext fun v=>?_) rfl rfl rfl rfl;show (Dc n.down (Sc n 0) [Di n.Ac.Aa x]).getD v []=_;rw [Qr [Di n.Ac.Aa x] (Sc n 0) n.down v (Uv _ _) (fun x hx=>by
  have:=If hT (i:=0) hx;exact ⟨this.2.2,EM⟩),T7]
 rfl
theorem Anz (hg:At n=true) (hi:i < n.Ao.Ad.length):vw (Mg n i)=⟨fun v=>if v=i then ((vw n).d i).drop 1 else (vw n).d v,(vw n).u,(vw n).r,(vw n).e,(vw n).s⟩:=by
 obtain ⟨q1,q2,q3,q4⟩:=Bk.1 (Av.1 hg).l;refine Aex (funext fun v=>?_) rfl rfl rfl rfl;show (n.down.modify i (·.drop 1)).getD v []=_;rw [M3];exact ifc ⟨fun c=>c.1,fun c=>⟨c,EM⟩⟩ rfl rfl
theorem An0 (hg:At n=true) (hi:i < n.Ao.Ad.length):vw (Lv n i)=⟨(vw n).d,fun v=>if v=i then ((vw n).u i).drop 1 else (vw n).u v,(vw n).r,(vw n).e,(vw n).s⟩:=by
 obtain ⟨q1,q2,q3,q4⟩:=Bk.1 (Av.1 hg).l;refine Aex rfl (funext fun v=>?_) rfl rfl rfl;show (n.up.modify i (·.drop 1)).getD v []=_;rw [M3];exact ifc ⟨fun c=>c.1,fun c=>⟨c,EM⟩⟩ rfl rfl
theorem Awm {w:Ax} (h:SrI S f w) (hs:1<=w.size) (x:am):(Di w x).Ab=A8 f S.length/\(Di w x).Cy=A8 f ((S.length+1:Nat):Int)/\∃i:Nat,i<=S.length/\(Di w x).Al=A8 f i:=by
 obtain ⟨i,h1,h2, -⟩:=(h.Cw hs).h;refine ⟨h.Cy,?_,i,EM,h2⟩;show A8 (Cw w).Al ((Cw w).An.length+1)=_;rw [h2,show (((Cw w).An.length:Int)+1)=(((Cw w).An.length+1:Nat):Int) by omega,Lm,show i+((Cw w).An.length+1)=S.length+1 by omega]
structure St (l:al) (S:ah) (f:Int) (n:Du) (E:ah):Prop where
 g:At n=true
 t:n.Ao.Ad=l
 j:Ug S f n E
 r:Yg l (vw n)
theorem St.gd (h:St l S f n E):Gd l S f (vw n):=⟨n,E,h.g,h.t,h.j,rfl⟩
theorem St.gt (h:St l S f n E):Hf l:=by
 have:=Ev (Av.1 h.g).t
 rwa [h.t] at this
theorem Aci {α:Type} {q:List α} (h:¬q.length=0):∃p r,q=p::r:=by
 cases q with
 | nil=>exact absurd rfl h
 | cons p r=>exact ⟨p,r,rfl⟩
theorem Rn.step {s:Gf} {y:NE} (h:Rn l S f N t P (vw n)) (hN:N<=7) (hs:St l S f n E) (hok:D5 s=true) (e:Bm n s=some y):∃t' P',Rn l (S++if s.Bd=1 then [s.data] else []) f (N+1) t' P' (vw y.1)/\Yg l (vw y.1):=by
 have ht:=hs.gt;have hG:=hs.gd;have hg:=hs.g;have hl:=hs.t;have hS:S.length<=8:=by have:=h.sle;omega
 by_cases h1:s.Bd=1
 ·unfold Bm at e;rw [ar h1] at e;cases e;rw [ar h1];obtain ⟨k1,k2,k3⟩:=Awm hG.sri (D0.1 (Dd.1 hG.src).1).2.1.1 s.data;refine ⟨t,P,?_,?_⟩
  ·show Rn l _ f _ t P (vw (Xb n s.data));rw [An1 hg,hl];exact h.send hN ht rfl k1 k2 k3 rfl fun hh=>by
    show Mv _ (vw n).s.holds=[];rw [hh];rfl
  ·show Yg l (vw (Xb n s.data));rw [An1 hg];exact hs.r
 rw [aq h1,aP];by_cases h4:s.Bd=4
 ·unfold Bm at e;rw [aq h1,ar h4] at e
  split at e
  ·cases e
  ·cases e;have hn0:=ht.n0;have hv:=Acs hg (n.Ao.Ad.length - 1) (by rw [hl];omega);rw [hl] at hv;have hv:vw (Bv n).1=Nm l (vw n) (l.length - 1):=by
    show vw (A4 n (n.Ao.Ad.length - 1)).1=_;rw [hl];exact hv
   exact ⟨t+1,P,by rw [hv];exact h.tk hN ht hG hS,by rw [hv];exact hs.r.tk _⟩
 have hok2:=hok;unfold D5 at hok2;rw [aq h1,aq h4] at hok2;simp only [av,aC] at hok2;obtain ⟨⟨hk,hf⟩,hd⟩:=hok2;obtain ⟨f1,f2⟩:=Jy.1 hf;unfold Ht at hk;simp only [av,aC] at hk;obtain ⟨i,hi⟩:∃i:Nat,s.node=(i:Int):=⟨s.node.toNat,EM⟩;have hlt:i < n.Ao.Ad.length:=Nat.lt_of_not_le fun c=>by
  unfold Bm C4 at e;rw [aq h1,aq h4,ar (by rw [hi];omega)] at e;cases e
 have hil:i < l.length:=by rw [<-hl];exact hlt
 by_cases h2:s.Bd=2
 ·have hse:s=Gz i:=by
   obtain ⟨k,nd,dt⟩:=s;dsimp only at h2 hi hd;subst h2 hi hd;rfl
  subst hse;have hv:=Aup (E:=E) hg (show 1<=i by omega) hlt;rw [P6 (x:=(n,E)) e,hl] at hv;have hv:vw y.1=Qw l (vw n) i:=hv;rw [S0 hlt] at e
  split at e
  ·cases e
  ·rename_i hq;obtain ⟨p,q,epq⟩:=Aci hq;exact ⟨t,Ui P i,by rw [hv];exact h.dl hN ht hG hS EM hil epq,by rw [hv];exact hs.r.dl i⟩
 by_cases h5:s.Bd=5
 ·have hse:s=Jw i:=by
   obtain ⟨k,nd,dt⟩:=s;dsimp only at h5 hi hd;subst h5 hi hd;rfl
  subst hse;have hv:=Auq (E:=E) hg (show 1<=i by omega) hlt;rw [P6 (x:=(n,E)) e,hl] at hv;have hv:vw y.1=Qx l (vw n) i:=hv;rw [Rb hlt] at e
  split at e
  ·cases e
  ·rename_i hq;obtain ⟨p,q,epq⟩:=Aci hq;exact ⟨t,P,by rw [hv];exact h.ul hN hG hil EM epq,by rw [hv];exact hs.r.ul i⟩
 unfold Bm C4 at e;rw [aq h1,aq h4,aq (show ¬(n.Ao.Ad.length:Int)<=s.node by rw [hi];omega)] at e;by_cases hq:(Qu n s).length=0
 ·rw [ar hq] at e;cases e
 ·rw [aq hq,aq h2,aq h5] at e;cases e;have hti:s.node.toNat=i:=EM
  have h36:s.Bd=3\/s.Bd=6:=EM
  rcases h36 with h3|h6
  ·have hu:Q7 s=false:=by unfold Q7;rw [h3];rfl
   have hp:Do n s=Mg n i:=by unfold Do;rw [hu,hti];rfl
   have hqq:¬((vw n).d i).length=0:=by
    unfold Qu at hq;rw [hu,hti] at hq;exact hq
   obtain ⟨p,q,epq⟩:=Aci hqq;refine ⟨t,Ui P i,?_,?_⟩
   ·show Rn l S f (N+1) t (Ui P i) (vw (Do n s));rw [hp,Anz hg hlt,epq];exact h.lose hN EM hil epq
   ·show Yg l (vw (Do n s));rw [hp,Anz hg hlt];exact hs.r
  ·have hu:Q7 s=true:=by unfold Q7;rw [h6];rfl
   have hp:Do n s=Lv n i:=by unfold Do;rw [hu,hti];rfl
   have hqq:¬((vw n).u i).length=0:=by
    unfold Qu at hq;rw [hu,hti] at hq;exact hq
   obtain ⟨p,q,epq⟩:=Aci hqq;refine ⟨t,P,?_,?_⟩
   ·show Rn l S f (N+1) t P (vw (Do n s));rw [hp,An0 hg hlt,epq];exact h.ulose hN hil EM epq
   ·show Yg l (vw (Do n s));rw [hp,An0 hg hlt];exact hs.r
theorem Rn.rf (h:Rn l S f N t P a) (ht:Hf l):∃Xs,Rf l S f Xs a:=by
 have hcr:=h.cr;have c0:=fun c (hc:c≠0)=>h.ct c 0 hc;have hx:=Wb ht;have gin:∀v,v < l.length->v≠0->¬(Cp l v=0/\Br l ((v:Nat):Int)=true)->Br l ((Uh l v:Nat):Int)=false:=fun v hv v0 hn=>by
  cases c:Br l ((Uh l v:Nat):Int)
  ·rfl
  ·exfalso;obtain ⟨d1,d2,d3,d4⟩:=S8 hx (v+1) v EM hv v0;have:=d1.leaf ht c;rw [<-this] at d3 c;exact hn ⟨d3,c⟩
 have fd:Fd l 0 a:=by
  refine ⟨fun v hv v0 hp=>?_,h.u,h.e,fun v hv v0 hn p hp h4=>?_,h.st⟩
  ·obtain ⟨d1,d2,d3,d4⟩:=S8 hx (v+1) v EM hv v0;have h1:=h.rd (Uh l v) ⟨d4,d2,d3⟩ (.inr (gin v hv v0 fun c=>hp c.1));have h2:=c0 (Uh l v) d2;have h3:=h.dd v ⟨hv,v0,hp⟩;have hlt:=Azc ht hv v0;have h4:=h.le ht (Cp l v+1) (Cp l v) EM EM hp;rw [<-Ut hx hv hp] at h4;have h5:=h.q.1;omega
  ·rcases h.pk v hv v0 (.inr (gin v hv v0 hn)) p hp with ⟨c, -⟩|⟨c, -⟩ <;> rw [c] at h4 <;> cases h4
 have dat:∀g,Rc l g->∀j,j < S.length->¬j+1<=P g->¬6<=j->Dat f j (a.d g):=fun g hg j hj h1 h2=>(h.ra g hg j hj).resolve_right fun c=>c.elim h1 h2;have hh:((∀v,a.u v=[])/\a.s.holds=[])\/∀j,j < S.length->(∀g,Rc l g->Br l ((g:Nat):Int)=false->Dat f j (a.d g))\/(j=0/\Z0 l S f a):=by
  rcases h.h with g|⟨c,c1,c2,c3,c4,c5⟩
  ·exact .inl g
  ·right;intro j hj;by_cases hj0:j=0/\t<=3
   ·exact .inr ⟨hj0.1,h.z hj0.2⟩
   ·left;intro g hg hgl;have hcg:c≠g:=fun d=>by rw [d,hgl] at c2;cases c2
    have:=h.ct c g hcg;exact dat g hg j hj EM EM
 by_cases h4:4<=t
 ·refine ⟨[0,1],⟨⟨EN,EN,EN⟩,fd,fun j hj=>?_,hh⟩⟩;by_cases hj2:j<=1
  ·left;simp;omega
  ·right;left;intro g hg;have:=c0 g hg.2.1;exact dat g hg j hj EM EM
 ·have hz:=h.z EM;by_cases h7:7<=S.length
  ·refine ⟨[6,7],⟨⟨EN,EN,EN⟩,fd,fun j hj=>?_,hh⟩⟩;have h8:S.length<=8:=by have:=h.sle;omega
   by_cases hj6:6<=j
   ·left;simp;omega
   ·right;by_cases hj0:j=0
    ·exact .inr ⟨hj0,hz⟩
    ·left;intro g hg;have:=c0 g hg.2.1;exact dat g hg j hj EM hj6
  ·refine ⟨[1,2,3],⟨⟨EN,EN,EN⟩,fd,fun j hj=>?_,hh⟩⟩;by_cases hj3:1<=j/\j<=3
   ·left;simp;omega
   ·right;by_cases hj0:j=0
    ·exact .inr ⟨hj0,hz⟩
    ·left;intro g hg;have:=c0 g hg.2.1;exact dat g hg j hj EM EM
end
section
variable {l:al} {S:ah} {f:Int} {a:Vw} {N t:Nat} {P:Nat->Nat} {n:Du} {E:ah} {Xs:ak}
structure Tl (l:al) (S:ah) (f:Int) (Xs:ak) (a:Vw):Prop where
 r:Rf l S f Xs a
 c:∀L,Fj l L->Cp l L≠0->(a.r L).Aj=[]
 h:(((∀v,a.u v=[])/\a.s.holds=[])/\∀L,Fj l L->(a.r L).Aj=[])\/∀j,j < S.length->(∀g,Rc l g->Br l ((g:Nat):Int)=false->Dat f j (a.d g))\/(j=0/\Z0 l S f a)
theorem Rn.sec (h:Rn l S f N t P a) {c:Nat} (c2:Br l ((c:Nat):Int)=true) (hb:∀g,c≠g->(P g<=1/\S.length<=5)\/P g+S.length<=1) (h3:t<=3\/S.length<=1/\∀g,c≠g->P g+S.length<=1) :
  ∀j,j < S.length->(∀g,Rc l g->Br l ((g:Nat):Int)=false->Dat f j (a.d g))\/(j=0/\Z0 l S f a):=fun j hj=>by
 by_cases hj0:j=0/\t<=3
 ·exact .inr ⟨hj0.1,h.z hj0.2⟩
 ·left;intro g hg hgl;have hcg:c≠g:=fun d=>by rw [d,hgl] at c2;cases c2
  have h1:=hb g hcg;have h2:t<=3\/P g+S.length<=1:=h3.imp_right fun d=>d.2 g hcg;exact (h.ra g hg j hj).resolve_right fun d=>by omega
theorem Rn.tl (h:Rn l S f N t P a) (hN:N<=7) (ht:Hf l):∃Xs,Tl l S f Xs a:=by
 obtain ⟨Xs,hR⟩:=h.rf ht;refine ⟨Xs,hR,fun L hL hp=>h.deep hN ht hL hp,?_⟩;have main:∀c,Br l ((c:Nat):Int)=true->2<=P c->(3<=S.length/\3<=P c)\/4<=t->∀j,j < S.length->(∀g,Rc l g->Br l ((g:Nat):Int)=false->Dat f j (a.d g))\/(j=0/\Z0 l S f a):=fun c c2 c3 c4=>by
  rcases c4 with c4|c4
  ·refine h.sec c2 (fun g hg=>?_) (.inl ?_)
   ·have:=h.ct c g hg;omega
   ·have:=h.sle;by_cases hc:c=0
    ·have:=h.ct c 1 EM;omega
    ·have:=h.ct c 0 hc;omega
  ·refine h.sec c2 (fun g hg=>?_) (.inr ⟨?_,fun g hg=>?_⟩)
   ·have:=h.ct c g hg;omega
   ·by_cases hc:c=0
    ·have:=h.ct c 1 EM;omega
    ·have:=h.ct c 0 hc;omega
   ·have:=h.ct c g hg;omega
 by_cases hall:∀L,Fj l L->(a.r L).Aj=[]
 ·rcases h.h with g|⟨c,c1,c2,c3,c4,c5⟩
  ·exact .inl ⟨g,hall⟩
  ·exact .inr (main c c2 c4 EM)
 ·right;obtain ⟨L,hL⟩:=Classical.not_forall.1 hall;obtain ⟨hL1,hL2⟩:=Classical.not_imp.1 hL;have hp:Cp l L=0:=Classical.byContradiction fun hp=>hL2 (h.deep hN ht hL1 hp);rcases h.lf L hL1 with g|g
  ·exact absurd g.1 hL2
  ·rw [Q6 hp] at g;exact main L hL1.2.2 g.1 g.2.2
theorem Tl.tk (h:Tl l S f Xs a) (ht:Hf l) (hG:Gd l S f a) (hS:S.length<=8):Tl l S f Xs (Nm l a (l.length - 1)):=by
 have root:∀c,Rc l c->(Nm l a (l.length - 1)).d c=Da (a.d c) (G0 a.s.Aa a.s.quiet):=fun c hc=>ar ((Alm ht c).2 hc);have deep:∀v,¬Rc l v->(Nm l a (l.length - 1)).d v=a.d v:=fun v hv=>aq fun c=>hv ((Alm ht v).1 c);have hen:∀v,v < l.length->v≠0->Br l ((v:Nat):Int)=false->(Nm l a (l.length - 1)).e v=Cn (a.e v):=fun v hv h0 hl=>ar ⟨⟨h0,EM⟩,hl⟩;have hu1:∀v,Fj l v->(Nm l a (l.length - 1)).u v=Da (a.u v) (Db (a.r v)):=fun v hv=>ar ⟨⟨hv.2.1,by have:=hv.1;omega⟩,hv.2.2⟩;have hu2:∀v,¬Fj l v->v < l.length->(Nm l a (l.length - 1)).u v=a.u v:=fun v hv hl=>aq fun c=>hv ⟨hl,c.1.1,c.2⟩
 have z:∀j,j < S.length->Z0 l S f a->Z0 l S f (Nm l a (l.length - 1)):=fun j hj hz=>hz.tk hG hS fun p hp=>by
  rw [Nl hp];exact ⟨S.length,EM,aA _,hG.sri.Cy⟩
 have hh:(((∀v,(Nm l a (l.length - 1)).u v=[])/\(Nm l a (l.length - 1)).s.holds=[])/\∀L,Fj l L->((Nm l a (l.length - 1)).r L).Aj=[])\/∀j,j < S.length->(∀g,Rc l g->Br l ((g:Nat):Int)=false->Dat f j ((Nm l a (l.length - 1)).d g))\/(j=0/\Z0 l S f (Nm l a (l.length - 1))):=by
  rcases h.h with ⟨⟨g1,g2⟩,g3⟩|g
  ·left;refine ⟨⟨fun v=>?_,?_⟩,fun L hL=>?_⟩
   ·show (if (v≠0/\v<=l.length - 1)/\Br l ((v:Nat):Int)=true then Da (a.u v) (Db (a.r v)) else a.u v)=[]
    split
    ·rename_i c;have:=ht.n0;rw [g1 v,(Qg (d:=1) (g3 v ⟨EM,c.1.1,c.2⟩)).2];rfl
    ·exact g1 v
   ·show Qs (a.s.Ae+1) a.s.holds=[];rw [g2];rfl
   ·rw [Pe hL,(Qg (g3 L hL)).1]
  ·right;intro j hj;rcases g j hj with k|⟨k1,k2⟩
   ·left;intro c hc hcl;rw [root c hc];exact (k c hc hcl).put
   ·exact .inr ⟨k1,z j hj k2⟩
 refine ⟨⟨h.r.x,⟨fun v hv v0 hp=>?_,fun v hv v0 hn=>?_,fun v hv v0 hl=>?_,fun v hv v0 hn p hp=>?_,fun L hL hp x q hq=>?_⟩,fun j hj=>?_,hh.imp (fun k=>k.1) id⟩,fun L hL hp=>?_,hh⟩
 ·rw [deep v fun c=>hp c.2.2];exact h.r.d.b v hv v0 hp
 ·by_cases c:Fj l v
  ·rw [hu1 v c,h.r.d.u v hv v0 hn,(Qg (d:=1) (h.c v c fun d=>hn ⟨d,c.2.2⟩)).2];rfl
  ·rw [hu2 v c hv];exact h.r.d.u v hv v0 hn
 ·rw [hen v hv v0 hl];unfold Cn;rw [h.r.d.e v hv v0 hl];rfl
 ·by_cases c:Rc l v
  ·rw [root v c] at hp;unfold Da at hp;rcases aG.1 hp with hm|hm
   ·exact h.r.d.n v hv v0 hn p hm
   ·rw [Nl (bg hm)];show ¬(5:Int)=4;decide
  ·rw [deep v c] at hp;exact h.r.d.n v hv v0 hn p hp
 ·rw [Pe hL,(Qg (h.c L hL hp)).1] at hq;cases hq
 ·rcases h.r.w j hj with k|k|⟨k1,k2⟩
  ·exact .inl k
  ·right;left;intro g hg;rw [root g hg];exact (k g hg).put
  ·exact .inr (.inr ⟨k1,z j hj k2⟩)
 ·rw [Pe hL,(Qg (h.c L hL hp)).1]
def Fin (l:al) (f:Int) (m:Du):Prop:=∃S E Xs,St l S f m E/\S.length<=8/\Rf l S f Xs (vw m)
theorem St.on {s:Gf} {y:NE} (h:St l S f n E) (hS:S.length<=1999) (hok:D5 s=true) (e:Bm n s=some y) (hr:Yg l (vw y.1)):St l (S++if s.Bd=1 then [s.data] else []) f y.1 (E++y.2) :=
 ⟨Kk h.g hok e,by rw [P4 e];exact h.t,At4 h.j h.g hok e hS,hr⟩
theorem Anl:∀(L:List Gf) {n:Du} {E E0 S:ah} {N t i:Nat} {P:Nat->Nat},St l S f n E->Rn l S f N t P (vw n)->N+L.length<=8->(∀s∈L,D5 s=true)->Fin l f (Q9 (n,E0) L i).1.1
 | [],n,E,E0,S,N,t,i,P,hs,h,hN,_=>by
  exact CV
 | s::L,n,E,E0,S,N,t,i,P,hs,h,hN,hok=>by
  rw [aK] at hN;unfold Q9;cases e:Bm n s with
  | none =>
   exact CV
  | some y =>
   obtain ⟨t2,P2,h2,hr⟩:=h.step EM hs (hok s EO) e;exact Anl L (hs.on (by have:=h.sle;omega) (hok s EO) e hr) h2 EM fun z hz=>hok z HP
theorem Akb:∀(k:Nat) {n:Du} {E E0 S:ah} {i:Nat},St l S f n E->Tl l S f Xs (vw n)->S.length<=8->Fin l f (Q9 (n,E0) (List.replicate k Aby) i).1.1
 | 0,n,E,E0,S,i,hs,h,hS=>⟨S,E,Xs,hs,hS,h.r⟩
 | k+1,n,E,E0,S,i,hs,h,hS=>by
  rw [cW];unfold Q9;cases e:Bm n Aby with
  | none=>exact ⟨S,E,Xs,hs,hS,h.r⟩
  | some y =>
   have hok:D5 Aby=true:=EN
   have hv:vw y.1=Nm l (vw n) (l.length - 1):=by
    have e2:=e;unfold Bm at e2;rw [aq (by show ¬(4:Int)=1;decide),ar (by show (4:Int)=4;rfl)] at e2
    split at e2
    ·cases e2
    ·cases e2;have hn0:=hs.gt.n0;have hv:=Acs hs.g (n.Ao.Ad.length - 1) (by rw [hs.t];omega);rw [hs.t] at hv;show vw (A4 n (n.Ao.Ad.length - 1)).1=_;rw [hs.t];exact hv
   have hs2:=hs.on EM hok e (by rw [hv];exact hs.r.tk _);rw [aq (by show ¬(4:Int)=1;decide),aP] at hs2;exact Akb k hs2 (by rw [hv];exact h.tk hs.gt hs.gd hS) hS
theorem Aka {k:Nat}:∀(L:List Gf) {n:Du} {E E0 S:ah} {N t i:Nat} {P:Nat->Nat},St l S f n E->Rn l S f N t P (vw n)->N+L.length<=7->(∀s∈L,D5 s=true)->Fin l f (Q9 (n,E0) (L++List.replicate k Aby) i).1.1
 | [],n,E,E0,S,N,t,i,P,hs,h,hN,_=>by
  obtain ⟨Xs,hT⟩:=h.tl (by simpa using hN) hs.gt;exact Akb k hs hT (by have:=h.sle;have:=h.cr;omega)
 | s::L,n,E,E0,S,N,t,i,P,hs,h,hN,hok=>by
  rw [aK] at hN;rw [List.cons_append];unfold Q9;cases e:Bm n s with
  | none =>
   exact CV
  | some y =>
   obtain ⟨t2,P2,h2,hr⟩:=h.step EM hs (hok s EO) e;exact Aka L (hs.on (by have:=h.sle;omega) (hok s EO) e hr) h2 EM fun z hz=>hok z HP
theorem Yz {α:Type} (m v:Nat) (x:α):(List.replicate m x).getD v x=x:=by
 rw [aT,List.getElem?_replicate]
 split <;> rfl
theorem Awe {T:Oc} {y:Int} (hg:At (Jp T f y)=true) (hf:0<=f/\f<=65535):St T.Ad [] f (Jp T f y) []/\Rn T.Ad [] f 0 0 (fun _=>0) (vw (Jp T f y)):=by
 have hd:∀v,(vw (Jp T f y)).d v=[]:=fun v=>Yz _ _ _;have hu:∀v,(vw (Jp T f y)).u v=[]:=fun v=>Yz _ _ _;have hr:∀v,(vw (Jp T f y)).r v=Aks:=fun v=>Yz _ _ _;have he:∀v,(vw (Jp T f y)).e v=⟨0,[]⟩:=fun v=>Yz _ _ _
 refine ⟨⟨hg,rfl,Ba5 hf,fun i _ q hq=>?_⟩,⟨fun v w _=>aA _,EM,⟨cQ _,cQ _⟩,fun c _ j hj=>(by cases hj),fun _ c _ i j p hp=>?_,fun _ c _=>.inl (aD _),fun c _ _=>?_,fun v _=>?_,fun v _ _ _ p hp=>?_,fun L _ =>   .inl ⟨(by rw [hr];rfl),fun hs=>?_⟩,fun v _ _ _=>(by rw [he]),fun v _ _ _=>hu v,.inl ⟨hu,rfl⟩,fun _=>⟨fun L _ hs=>?_,fun v p hp=>?_⟩,fun L _ _ x q hq=>?_⟩⟩
 ·rw [hr] at hq;cases hq
 ·rw [hd] at hp;cases hp
 ·rw [hd];exact cQ _
 ·rw [hd];exact aA _
 ·rw [hd] at hp;cases hp
 ·rw [hr] at hs;cases hs
 ·rw [hr] at hs;cases hs
 ·rw [hd] at hp;cases hp
 ·rw [hr] at hq;cases hq
end
section
variable {l:al} {S:ah} {f:Int} {n m:Du} {E:ah} {Xs:ak}
theorem Aoj (hS:S.length<=8) (hg:At n=true) (hl:n.Ao.Ad=l) (hJ:Ug S f n E):(vw (Jk n).1).s.Aa=(vw n).s.Aa :=
 (Ki (l:=l) (S:=S) (f:=f) (P:=fun _ a=>a.s.Aa=(vw n).s.Aa) EM
  (fun k a _ _ hP=>by
   have e:(Qw l a (k+1)).s.Aa=(vw n).s.Aa:=by rw [Rg];exact hP
   show (Qx l (Qw l a (k+1)) (k+1)).s.Aa=_;rw [<-e];unfold Qx
   split
   ·rfl
   ·split
    ·exact Sh _ _
    ·rfl)
  (fun _ _ hP=>hP) hg hl hJ rfl).1
theorem Aoi (hg:At n=true):(Jk n).1.Ac.Ae=n.Ac.Ae:=(Qo (x:=(n,[])) hg).1.c
theorem Azq (hF:Fin l f m) (hc:m.Ac.Ae<=9000):Ab5 (By m 60).1=true/\(By m 60).1.Ac.Aa=m.Ac.Aa:=by
 obtain ⟨S,E,Xs,hs,hS,hR⟩:=hF;have ht:=hs.gt;have tx:=hR.tx ht;obtain ⟨F,hFe⟩:∃F:Nat->Du,F=fun t=>(By m t).1:=⟨_,rfl⟩;have F0:F 0=(Jk m).1:=by rw [hFe];rfl
 have Fs:∀t,F (t+1)=Se.Oa (F t):=fun t=>by rw [hFe];rfl
 have F60:(By m 60).1=F 60:=by rw [hFe]
 obtain ⟨⟨E2,d0⟩,lk0,un0,ri0,en0,st0,ho0⟩:=Ai4 ht hS hs.g hs.t hs.j hR hs.r;have hw0:=Aoj hS hs.g hs.t hs.j;have hk0:=Aoi hs.g;rw [<-F0] at d0 lk0 un0 ri0 en0 st0 ho0 hw0 hk0;obtain ⟨c0,hc0⟩:∃c0,c0=(vw (F 0)).s.Ae:=⟨_,rfl⟩;have hc1:c0<=9000:=by rw [hc0];show (F 0).Ac.Ae<=_;omega
 obtain ⟨i0,hi0,htr⟩:=d0.gd.sri.Al;obtain ⟨-, -,hq, -⟩:=Dd.1 d0.gd.src;unfold Ht at hq;simp only [av,aC] at hq;obtain ⟨q0,hq0,hq3⟩:∃q0:Nat,(vw (F 0)).s.quiet=((q0:Nat):Int)/\q0<=3:=by
  exact ⟨(vw (F 0)).s.quiet.toNat,EM,EM⟩
 have pre:∀t,t<=4->(∃E,Dr l (Xf f Xs) S f (F t) E)/\LkV l (Xf f Xs) S f (vw (F t))/\Un l S f (vw (F t))/\Yg l (vw (F t))/\(vw (F t)).s.Ae=c0+((t:Nat):Int)/\(vw (F t)).s.Aa=(vw (F 0)).s.Aa /\
   (q0+t<=3->(vw (F t)).s.quiet=((q0+t:Nat):Int))/\∀X2,LkV l X2 S f (vw (F 0))->LkV l X2 S f (vw (F t)):=fun t=>by
  induction t with
  | zero=>intro _;exact ⟨⟨E2,d0⟩,lk0,un0,ri0,by rw [hc0];simp,rfl,fun _=>hq0,fun _ h=>h⟩
  | succ t ih =>
   intro h4;obtain ⟨⟨E3,a1⟩,a2,a3,a4,a5,a6,a7,a8⟩:=ih EM;have hc:(vw (F t)).s.Ae < 9999:=EM
   obtain ⟨b1,b2,b3,b4⟩:=Awx tx a1 hS hc a2 a3;obtain ⟨w1,w2⟩:=Wq a1.g hc;have hqt:=Aqa a1 hS hc;rw [Fs t];refine ⟨b1,b2,b3,a4.Oa a1 hc hS,by rw [w2,a5];omega,by rw [w1,a6],fun h3=>?_,fun X2 h2=>b4 X2 (a8 X2 h2)⟩;rw [hqt,a7 EM];unfold L9;rw [ar EM];omega
 obtain ⟨t0,ht0⟩:∃t0,t0+q0=3:=⟨3 - q0,EM⟩;obtain ⟨⟨E3,a1⟩,a2,a3,a4,a5,a6,a7,a8⟩:=pre t0 EM;obtain ⟨⟨E4,e1⟩, -⟩:=pre (t0+1) EM;have hP:=As8 tx Fs a1 hS EM hi0 (by rw [a6];exact htr) (by rw [a7 EM];omega) a4 EM fun v hv=>e1.r v hv.1 hv.2.1 hv.2.2;rw [show (vw (F t0)).s.Ae - ((t0:Nat):Int)=c0 by omega] at hP;have hwb:∀t,t<=4->(vw (F t)).s.Aa=(vw (F (t0+1))).s.Aa:=fun t h4=>by
  rw [(pre t h4).2.2.2.2.2.1,(pre (t0+1) EM).2.2.2.2.2.1]
 have hM:=hP.hM (fun t h4=>⟨(pre t EM).1,(pre t EM).2.2.2.2.1,hwb t EM⟩) en0 st0 fun j hj hjS hon i hi hp=>by
  rcases ho0 with h|h
  ·rw [h] at hon;cases hon
  ·have h2:=(pre (t0+1) EM).2.2.2.2.2.2.2 _ h i hi;obtain ⟨es,hr⟩:=e1.gd.rci hi.1;cases c:rq ((vw (F (t0+1))).r i) (A8 f j) with
   | none=>rfl
   | some q =>
    exfalso;have h3:=h2.req (e1.gd.rc hi.1 hi.2.1 hi.2.2).1 hr q (Es c).1;rw [ar hp] at h3;cases h3
 obtain ⟨s1,s2⟩:=hP.settled hM;rw [F60];refine ⟨s1,s2.trans ?_⟩;have:(vw (F (t0+1))).s.Aa=(vw m).s.Aa:=by rw [<-hwb 0 EM,hw0]
 exact this
def Drw (L:List Gf):Prop:=L.length<=8\/∃L0 k,L0.length<=7/\L=L0++List.replicate k Aby
theorem Aqg {s:Gf} {y:NE} (e:Bm n s=some y):y.1.Ac.Ae<=n.Ac.Ae+1:=by
 unfold Bm at e
 split at e
 ·cases e;show n.Ac.Ae<=_;omega
 ·split at e
  ·split at e
   ·cases e
   ·cases e;show (A4 _ _).1.Ac.Ae<=_;rw [Uc];exact cQ _
  ·have hp:(Do n s).Ac=n.Ac:=HB
   unfold C4 at e
   split at e
   ·cases e
   ·split at e
    ·cases e
    ·split at e
     ·cases e;rw [Axx,hp];omega
     ·split at e
      ·cases e;rw [Axy,hp];omega
      ·cases e;rw [hp];omega
theorem Ank:∀(L:List Gf) (x:NE) (i:Nat),(Q9 x L i).1.1.Ac.Ae<=x.1.Ac.Ae+((L.length:Nat):Int)
 | [],x,i=>by show x.1.Ac.Ae<=_;simp
 | s::L,x,i=>by
  unfold Q9;cases e:Bm x.1 s with
  | none=>show x.1.Ac.Ae<=_;omega
  | some y =>
   have h1:=Ank L (y.1,x.2++y.2) (i+1);have h2:=Aqg e;rw [aK];dsimp only at h1 ⊢;omega
theorem Alr {T:Oc} {y:Int} {L:List Gf} (hg:At (Jp T f y)=true) (hf:0<=f/\f<=65535) (hL:Drw L) (h30:L.length<=30) (hok:∀s∈L,D5 s=true) :
  Po (Q9 (Jp T f y,[]) L 0).1.1 60=true/\Ab5 (By (Q9 (Jp T f y,[]) L 0).1.1 60).1=true/\(By (Q9 (Jp T f y,[]) L 0).1.1 60).1.Ac.Aa=(Q9 (Jp T f y,[]) L 0).1.1.Ac.Aa:=by
 obtain ⟨s0,r0⟩:=Awe hg hf;have hc:=Ank L (Jp T f y,[]) 0;have hc2:(Jp T f y,([]:ah)).1.Ac.Ae=0:=rfl;have hF:Fin T.Ad f (Q9 (Jp T f y,[]) L 0).1.1:=by
  rcases hL with h|⟨L0,k,h,rfl⟩
  ·exact Anl L s0 r0 EM hok
  ·exact Aka L0 s0 r0 EM fun s hs=>hok s (bC _ hs)
 obtain ⟨a,b⟩:=Azq hF EM;refine ⟨?_,a,b⟩;obtain ⟨S,E,Xs,hs, -, -⟩:=hF;unfold Po;rw [hs.g,show Ht 0 60 60=true from rfl,au (show (Q9 (Jp T f y,[]) L 0).1.1.Ac.Ae+60<=9999 by omega)];rfl
end
end Go.Proofs.YtmckdnddocfodaaGreatDoor.Se
namespace Go.Proofs.YtmckdnddocfodaaGreatDoor
open Go.RowKit
def Iy:B8 Int where
 sz:=1
 L5 _ cs z F:=cs=[.int .u8 z]/\0<=z/\z<=255/\F=[]
 len h:=by simp [h.1]
 lt h:=by simp [h.2.2.2]
 frame h _:=h
def Agx (w:World) (g:Nat) (l:List UInt8):Prop :=
 g < w.heap.size/\∀j (hj:j < l.length),w.cell? ⟨g,j,none⟩=some (.int .u8 (l[j].toNat:Int))/\w.frozen? ⟨g,j,none⟩=false
theorem Agx.set {w g l} (h:Agx w g l) (k:Nat) (b:UInt8) (hk:k < l.length):Agx (w.setCell ⟨g,k,none⟩ (.int .u8 (b.toNat:Int))) g (l.set k b):=by
 refine ⟨by simp [h.1],fun j hj=>?_⟩;rw [bw] at hj;refine ⟨?_,?_⟩
 ·by_cases e:k=j
  ·subst e;rw [World.cell?_setCell_same _ _ _ (h.2 k hk).1];simp
  ·rw [World.cell?_setCell_other _ _ _ _ (by intro q;cases q;exact e rfl),(h.2 j hj).1];simp [dv,e]
 ·rw [World.frozen?_setCell];exact (h.2 j hj).2
structure CuF where
 Cd:al
 a:ai
 c:Nat
 bs:ak
structure Rh where
 k:Nat
 Ic:Int
structure Ih (B:Nat) (s:Rh):Prop where
 k:s.k<=B
 s0:0<=s.Ic
 s1:s.Ic < 18446744073709551616
theorem Ih.mono {B B':Nat} {s:Rh} (h:Ih B s) (hb:B<=B'):Ih B' s:=⟨bi h.k hb,h.s0,h.s1⟩
section
variable {P:Program} {n:Nat} {fr:Fr} {H:List Pc} {ty t t':TypeId} {x y:Operand} {a b:Int}
theorem An4 [hS:IntC P t .u64] (hx:ev fr x=some (.int .u64 a)) (hy:ev fr y=some (.int .u64 b)):Yd P n fr H (.binOp .mul t x y t') ty (.int .u64 (IntKind.u64.wrap (a * b))):=.mk fun c w d pos A8 gd hA _=>by
 simp [execOp,hA.ev hx,hA.ev hy,eqGuard_mul,binOp_mul,Op.intArith]
theorem Acv [hS:IntC P t .u64] (hx:ev fr x=some (.int .u64 a)) (hy:ev fr y=some (.int .u64 b)):Yd P n fr H (.binOp .add t x y t') ty (.int .u64 (IntKind.u64.wrap (a+b))):=.mk fun c w d pos A8 gd hA _=>by
 simp [execOp,hA.ev hx,hA.ev hy,eqGuard_add,binOp_add,Op.intArith]
theorem Auy (hx:ev fr x=some (.int .u64 a)):Yd P n fr H (.binOp .shr t x (.const (.int .u64 40)) t') ty (.int .u64 (a / 1099511627776)):=.mk fun c w d pos A8 gd hA _=>by
 have e:Op.shift .shr .u64 a .u64 40=pure (.int .u64 (a / 1099511627776)):=by rw [shift_shr .u64 .u64 a 40 EN EN];rfl
 have e2:binOp .shr t (.int .u64 a) (.int .u64 40)=Op.shift .shr .u64 a .u64 40:=rfl;have e3:c.eval (.const (.int .u64 40))=.int .u64 40:=rfl;simp only [execOp,hA.ev hx,e3,eqGuard_shr,e2,e,Sem.run_bind,Sem.run_pure,Result.andThen_ok]
theorem Aqq (hx:ev fr x=some (.int .u64 a)) (h0:0<=a) (h1:a < 18446744073709551616):Yd P n fr H (.binOp .and t x (.const (.int .u64 255)) t') ty (.int .u64 ((a.toNat &&& 255:Nat):Int)):=.mk fun c w d pos A8 gd hA _=>by
 have e:bits BinOp.and IntKind.u64 a 255=((a.toNat &&& 255:Nat):Int):=by
  rw [<-bits_and_u64_nat _ _ EM EM];congr 1;omega
 have e3:c.eval (.const (.int .u64 255))=.int .u64 255:=rfl;have e2:binOp .and t (.int .u64 a) (.int .u64 255)=pure (.int .u64 (bits BinOp.and IntKind.u64 a 255)):=rfl;simp only [execOp,hA.ev hx,e3,eqGuard_and,e2,e,Sem.run_bind,Sem.run_pure,Result.andThen_ok]
end
section
variable {c:Cx} {fr:Fr} {H:List Pc} {Φ:Gl}
theorem Ave {a:ai} {n cp:Nat} {xs:al} {F:ak} (i:Nat) (h:∀(hi:i < xs.length) b o,a=some ⟨b,o,none⟩->0<=xs[i]->xs[i]<=255->T c fr (.cel b (o+i * 1) [.int .u8 xs[i]]::H) Φ) (hm:.sl Iy (ab a n cp) xs F∈H:=by exact Cb) (hi:i < xs.length:=by omega):T c fr H Φ:=.mk fun ac w s g=>by
 obtain ⟨b,o,cs,G,ha,⟨rfl,h0,h1,rfl⟩, -,hb,hne,hr⟩:=Vm (s.get hm) i hi;exact (h hi b o ha h0 h1).h ac w (s.ro hm rfl rfl ⟨hne,hr⟩ FM) g
end
theorem Asu (B g:Nat) (F:CuF) (s:Rh) (ok:Ih B s) (hB:B<=1000000000001) :
  Fn prog 82 [Fv g 0 0] [.sl Iy (ab F.a F.Cd.length F.c) F.Cd F.bs] [.row g 60 0 [] [ab F.a F.Cd.length F.c,aa (s.k:Nat),.int .u64 s.Ic] []] (fun (z:Nat × Rh)=>z.1<=255/\Ih (B+1) z.2) (fun z=>aa (z.1:Nat)) (fun z=>[.row g 60 0 [] [ab F.a F.Cd.length F.c,aa (z.2.k:Nat),.int .u64 z.2.Ic] []]):=by
 obtain ⟨Cd,a,c,bs⟩:=F;obtain ⟨k,Ic⟩:=s;obtain ⟨hk,h0,h1⟩:=ok;dsimp only at hk h0 h1 ⊢;refine enter func82 rfl ntmps82 fun w0=>?_;refine Th (E:=Iy) ?_;rintro a2 c2 ee l1 l2;cases ee;by_cases hkl:k < Cd.length
 ·refine Ave (xs:=Cd) k ?_;rintro hi b o ee z0 z1;cases ee;generalize Cd[k]=z at *;refine Ke ?_;intros;refine As [1] [] ?_;refine D7 0 1 2 3 ?_;refine D7 4 5 6 7 ?_;refine Ek 8 9 ?_;refine dd ?_;rw [show decide ((k:Int) < (Cd.length:Int))=true from au EM];refine Ke ?_;intros;refine As [0,1] [] ?_;refine D7 0 1 2 3 ?_;refine D7 4 5 6 7 ?_;refine D7 8 9 10 11 ?_;refine dd ?_;refine go ?_;apply wO;apply oc;rfl;exact An4 rfl rfl;refine go ?_;apply wO;apply oc;rfl;exact Ae0 rfl EM EM;apply wO;apply oc;rfl;exact Acv rfl rfl;apply wO;apply oc;rfl;exact Acv rfl rfl
  obtain ⟨sd,hsd,hd0,hd1⟩:∃sd,sd=IntKind.u64.wrap (IntKind.u64.wrap (IntKind.u64.wrap (Ic * 6364136223846793005)+z)+840840)/\0<=sd/\sd < 18446744073709551616:=⟨_,rfl,IM,IM⟩;rw [<-hsd];clear hsd
  repeat (first|apply Yp|(apply wO;apply oc;rfl;exact ydE)|(apply wO;apply Asz;rfl;rfl;rfl;(first|exact AggC.s|exact OneC.s);rfl;exact Ats;exact As9;rfl)|apply Aey|apply Ajs)
  refine Ke ?_;intros;refine As [1] [] ?_;refine D7 0 1 2 3 ?_;refine D7 4 5 6 7 ?_;refine Ek 8 9 ?_;refine dd ?_;rw [show decide ((k:Int)+1<=(Cd.length:Int))=true from au EM];refine go ?_;obtain ⟨zn,rfl⟩:∃n:Nat,z=n:=⟨z.toNat,EM⟩;refine ret (zn,⟨k+1,sd⟩) ⟨by show zn<=255;omega,by show k+1<=B+1;omega,hd0,hd1⟩ rfl
 ·refine Ke ?_;intros;refine As [0] [] ?_;refine D7 0 1 2 3 ?_;refine D7 4 5 6 7 ?_;refine Ek 8 9 ?_;refine dd ?_;rw [show decide ((k:Int) < (Cd.length:Int))=false from ay EM];refine go ?_;apply wO;apply oc;rfl;exact An4 rfl rfl;refine go ?_;apply wO;apply oc;rfl;exact Ae0 rfl EM EM;apply wO;apply oc;rfl;exact Acv rfl rfl;apply wO;apply oc;rfl;exact Acv rfl rfl
  obtain ⟨sd,hsd,hd0,hd1⟩:∃sd,sd=IntKind.u64.wrap (IntKind.u64.wrap (IntKind.u64.wrap (Ic * 6364136223846793005)+0)+840840)/\0<=sd/\sd < 18446744073709551616:=⟨_,rfl,IM,IM⟩;rw [<-hsd];clear hsd
  repeat (first|apply Yp|(apply wO;apply oc;rfl;exact ydE)|(apply wO;apply Asz;rfl;rfl;rfl;(first|exact AggC.s|exact OneC.s);rfl;exact Ats;exact As9;rfl)|apply Aey|apply Ajs)
  refine Ke ?_;intros;refine As [0] [] ?_;refine D7 0 1 2 3 ?_;refine D7 4 5 6 7 ?_;refine Ek 8 9 ?_;refine dd ?_;rw [show decide ((k:Int)+1<=(Cd.length:Int))=false from ay EM];refine go ?_;apply wO;apply oc;rfl;exact Auy rfl;apply wO;apply oc;rfl;exact Aqq rfl EM EM;have hq:(sd / 1099511627776).toNat &&& 255<=255:=Nat.and_le_right;generalize (sd / 1099511627776).toNat &&& 255=q at *;refine go ?_;refine ret (q,⟨k+1,sd⟩) ⟨hq,by show k+1<=B+1;omega,hd0,hd1⟩ rfl
theorem Ex (B g:Nat) (F:CuF) (n:Int) (s:Rh) (ok:Ih B s) (hB:B<=1000000000000) (hn:n<=1048576) :
  Fn prog 37 [Fv g 0 0,aa n] [.sl Iy (ab F.a F.Cd.length F.c) F.Cd F.bs] [.row g 60 0 [] [ab F.a F.Cd.length F.c,aa (s.k:Nat),.int .u64 s.Ic] []] (fun (z:Nat × Rh)=>(z.1=0\/(z.1:Int) < n)/\Ih (B+2) z.2) (fun z=>aa (z.1:Nat)) (fun z=>[.row g 60 0 [] [ab F.a F.Cd.length F.c,aa (z.2.k:Nat),.int .u64 z.2.Ic] []]):=by
 refine enter func37 rfl ntmps37 fun w0=>?_;refine go ?_;refine Bf rfl (fun h=>?_) (fun h=>?_)
 ·refine go ?_;refine ret (0,s) ⟨.inl rfl,ok.mono EM⟩ rfl
 refine go ?_;refine Bw (Asu B g F s ok EM) fun p hp=>?_;obtain ⟨r,s1⟩:=p;obtain ⟨hr,h1⟩:=hp;dsimp only at hr h1 ⊢;refine go ?_;refine Bf rfl (fun h2=>?_) (fun h2=>?_)
 ·refine go ?_;refine Bw (Asu _ g F s1 h1 EM) fun p hp=>?_;obtain ⟨r2,s2⟩:=p;obtain ⟨hr2,h3⟩:=hp;dsimp only at hr2 h3 ⊢;refine go ?_;have e:=Int.emod_lt_of_pos ((r:Int) * 256+r2) (show 0 < n by omega);have e0:=Int.emod_nonneg ((r:Int) * 256+r2) (show n≠0 by omega);obtain ⟨q,hq⟩:∃q:Nat,((r:Int) * 256+r2) % n=q:=⟨(((r:Int) * 256+r2) % n).toNat,EM⟩;rw [hq] at e ⊢;refine ret (q,s2) ⟨.inr e,h3.mono EM⟩ rfl
 ·refine go ?_;have e:=Int.emod_lt_of_pos (r:Int) (show 0 < n by omega);obtain ⟨q,hq⟩:∃q:Nat,(r:Int) % n=q:=⟨((r:Int) % n).toNat,by have:=Int.emod_nonneg (r:Int) (show n≠0 by omega);omega⟩;rw [hq] at e ⊢;refine ret (q,s1) ⟨.inr e,h1.mono EM⟩ rfl
theorem As4 (B g:Nat) (F:CuF) (n:Int) (s:Rh) (ok:Ih B s) (hB:B<=1000000000000) (hn:n<=1048576) :
  Fn prog 81 [Fv g 0 0,aa n] [.sl Iy (ab F.a F.Cd.length F.c) F.Cd F.bs] [.row g 60 0 [] [ab F.a F.Cd.length F.c,aa (s.k:Nat),.int .u64 s.Ic] []] (fun (z:Bool × Rh)=>True/\Ih (B+2) z.2) (fun z=>.bool z.1) (fun z=>[.row g 60 0 [] [ab F.a F.Cd.length F.c,aa (z.2.k:Nat),.int .u64 z.2.Ic] []]):=by
 refine enter func81 rfl ntmps81 fun w0=>?_;refine go ?_;refine Bw (Ex B g F n s ok hB hn) fun p hp=>?_;refine go ?_;refine ret (decide ((p.1:Int)=0),p.2) ⟨trivial,hp.2⟩ rfl
theorem Awh (B g:Nat) (F:CuF) (v:Value) (xs:ah) (G:ak) (s:Rh) (ok:Ih B s) (hB:B<=1000000000000) (h0:0 < xs.length) (h1:xs.length<=1048576) :
  Fn prog 85 [Fv g 0 0,v] [.sl Iy (ab F.a F.Cd.length F.c) F.Cd F.bs,.sl Bc v xs G] [.row g 60 0 [] [ab F.a F.Cd.length F.c,aa (s.k:Nat),.int .u64 s.Ic] []] (fun (z:am × Rh)=>z.1∈xs/\Ih (B+2) z.2) (fun z=>af z.1) (fun z=>[.row g 60 0 [] [ab F.a F.Cd.length F.c,aa (z.2.k:Nat),.int .u64 z.2.Ic] []]):=by
 refine enter func85 rfl ntmps85 fun w0=>?_;refine Th (E:=Bc) (v:=v) (xs:=xs) ?_;rintro a c rfl l1 l2;refine go ?_;refine Bw (Ex B g F _ s ok hB EM) fun p hp=>?_;obtain ⟨r,s1⟩:=p;obtain ⟨hr,h2⟩:=hp;dsimp only at hr h2 ⊢;refine Xk (xs:=xs) r ?_;rintro hi b o ee -;cases ee;refine go ?_;refine ret (xs[r],s1) ⟨aE hi,h2⟩ rfl
theorem Mt (B g:Nat) (F:CuF) (v:Value) (xs:al) (G:ak) (s:Rh) (ok:Ih B s) (hB:B<=1000000000000) (h0:0 < xs.length) (h1:xs.length<=1048576) :
  Fn prog 17 [Fv g 0 0,v] [.sl Iy (ab F.a F.Cd.length F.c) F.Cd F.bs,.sl Bi v xs G] [.row g 60 0 [] [ab F.a F.Cd.length F.c,aa (s.k:Nat),.int .u64 s.Ic] []] (fun (z:Int × Rh)=>z.1∈xs/\Ih (B+2) z.2) (fun z=>aa z.1) (fun z=>[.row g 60 0 [] [ab F.a F.Cd.length F.c,aa (z.2.k:Nat),.int .u64 z.2.Ic] []]):=by
 refine enter func17 rfl ntmps17 fun w0=>?_;refine Th (E:=Bi) (v:=v) (xs:=xs) ?_;rintro a c rfl l1 l2;refine go ?_;refine Bw (Ex B g F _ s ok hB EM) fun p hp=>?_;obtain ⟨r,s1⟩:=p;obtain ⟨hr,h2⟩:=hp;dsimp only at hr h2 ⊢;refine Jg (xs:=xs) r ?_;rintro hi b o ee;cases ee;refine go ?_;refine ret (xs[r],s1) ⟨aE hi,h2⟩ rfl
theorem Fn.Ov {P:Program} {f:FuncId} {args:aj} {A M:List Pc} {σ:Type} {C C':σ->Prop} {v:σ->Value} {N:σ->List Pc} (h:Fn P f args A M C v N) (hC:∀s,C s->C' s):Fn P f args A M C' v N:=fun w h1 h2=>(h w h1 h2).mono fun _ _ ⟨s,hc,r⟩=>⟨s,hC s hc,r⟩
theorem Jm (w:World):∀xs:al,C6 Bi w (xs.map (Value.int .i64)) xs []
 | []=>⟨rfl,rfl⟩
 | x::r=>⟨[.int .i64 x],r.map (Value.int .i64),[],[],rfl,rfl,⟨rfl,rfl⟩,Jm w r⟩
theorem Adf (w:World):∀xs:ah,(∀x∈xs,x.size<=maxLen)->C6 Bc w (xs.map Value.string) xs []
 | [],_=>⟨rfl,rfl⟩
 | x::r,h=>⟨[.string x],r.map Value.string,[],[],rfl,rfl,⟨rfl,h x EO,rfl⟩,Adf w r fun y hy=>h y HQ⟩
theorem Ub (B g:Nat) (F:CuF) (s:Rh) (ok:Ih B s) (hB:B<=900000000000) :
  Fn prog 49 [Fv g 0 0] [.sl Iy (ab F.a F.Cd.length F.c) F.Cd F.bs] [.row g 60 0 [] [ab F.a F.Cd.length F.c,aa (s.k:Nat),.int .u64 s.Ic] []] (fun (z:Int × Rh)=>(0<=z.1/\z.1<=65535)/\Ih (B+4) z.2) (fun z=>aa z.1) (fun z=>[.row g 60 0 [] [ab F.a F.Cd.length F.c,aa (z.2.k:Nat),.int .u64 z.2.Ic] []]):=by
 refine enter func49 rfl ntmps49 fun w0=>?_;refine Ke ?_;intros;refine Eo (xs:=[0,1,100,32767,32768,65535,65530,4660]) (fun w=>Jm w _) ?_ EN;refine Az (E:=Bi) fun G=>?_;refine go ?_;refine Bw (Mt B g F _ [0,1,100,32767,32768,65535,65530,4660] G s ok EM EN EN) fun z hz=>?_;obtain ⟨hz1,hz2⟩:=hz;have hz3:0<=z.1/\z.1<=65535:=by simp only [aF,aM,bn] at hz1;omega
 refine go ?_;refine Bw (Ex (B+2) g F 12 z.2 hz2 EM EM) fun y hy=>?_;obtain ⟨hy1,hy2⟩:=hy;refine go ?_;refine ce (fun w s=>Hc _ _ _ EM EM) ?_;refine go ?_;refine ret (_,y.2) ⟨Is _ _,hy2⟩ rfl
theorem Ul (B g:Nat) (F:CuF) (s:Rh) (ok:Ih B s) (hB:B<=890000000000) :
  Fn prog 33 [Fv g 0 0] [.sl Iy (ab F.a F.Cd.length F.c) F.Cd F.bs] [.row g 60 0 [] [ab F.a F.Cd.length F.c,aa (s.k:Nat),.int .u64 s.Ic] []] (fun (z:Int × Rh)=>(-1<=z.1/\z.1<=65536)/\Ih (B+6) z.2) (fun z=>aa z.1) (fun z=>[.row g 60 0 [] [ab F.a F.Cd.length F.c,aa (z.2.k:Nat),.int .u64 z.2.Ic] []]):=by
 refine enter func33 rfl ntmps33 fun w0=>?_;refine go ?_;refine Bw (As4 B g F 20 s ok EM EM) fun q hq=>?_;obtain ⟨b,s1⟩:=q;obtain ⟨-,hq⟩:=hq;cases b
 ·refine go ?_;refine Bw (Ub (B+2) g F s1 hq EM) fun z hz=>?_;refine go ?_;refine ret z ⟨by have:=hz.1;omega,hz.2⟩ rfl
 ·refine Ke ?_;intros;refine Eo (xs:=[-1,65536,65535]) (fun w=>Jm w _) ?_ EN;refine Az (E:=Bi) fun G=>?_;refine go ?_;refine Bw (Mt (B+2) g F _ [-1,65536,65535] G s1 hq EM EN EN) fun z hz=>?_;refine go ?_;refine ret z ⟨by have:=hz.1;simp only [aF,aM,bn] at this;omega,hz.2.mono EM⟩ rfl
theorem Sv (B g:Nat) (F:CuF) (s:Rh) (ok:Ih B s) (hB:B<=890000000000) :
  Fn prog 33 [Fv g 0 0] [.sl Iy (ab F.a F.Cd.length F.c) F.Cd F.bs] [.row g 60 0 [] [ab F.a F.Cd.length F.c,aa (s.k:Nat),.int .u64 s.Ic] []] (fun (z:Int × Rh)=>Ih (B+6) z.2) (fun z=>aa z.1) (fun z=>[.row g 60 0 [] [ab F.a F.Cd.length F.c,aa (z.2.k:Nat),.int .u64 z.2.Ic] []]):=(Ul B g F s ok hB).Ov fun _ h=>h.2
structure LeS where
 r:Nat
 t:am
 s:Rh
structure Bbu (B r0:Nat) (z:LeS):Prop where
 r:z.r<=r0
 s:Ih (B+2+2 * (r0 - z.r)) z.s
 t:z.t.size<=r0 - z.r
 l:Uz z.t.data.toList=true
theorem Rs (B g:Nat) (F:CuF) (s:Rh) (n:Int) (ok:Ih B s) (hB:B<=900000000000) (h0:0<=n) (h8:n<=20) :
  Fn prog 84 [Fv g 0 0,aa n] [.sl Iy (ab F.a F.Cd.length F.c) F.Cd F.bs] [.row g 60 0 [] [ab F.a F.Cd.length F.c,aa (s.k:Nat),.int .u64 s.Ic] []] (fun (z:am × Rh)=>(z.1.size<=20/\(z.1.size:Int)<=n/\Uz z.1.data.toList=true)/\Ih (B+42) z.2) (fun z=>af z.1) (fun z=>[.row g 60 0 [] [ab F.a F.Cd.length F.c,aa (z.2.k:Nat),.int .u64 z.2.Ic] []]):=by
 refine enter func84 rfl ntmps84 fun w0=>?_;refine go ?_;refine Bw (Ex B g F (n+1) s ok EM EM) fun y hy=>?_;obtain ⟨r0,s1⟩:=y;obtain ⟨hy1,hy2⟩:=hy;dsimp only at hy1 hy2 ⊢;have hr0:r0<=20:=EM
 refine go ?_;refine Cu [0,4] (fun z:LeS=>[(5,af z.t),(6,aa (z.r:Nat))]) (fun z=>[.row g 60 0 [] [ab F.a F.Cd.length F.c,aa (z.s.k:Nat),.int .u64 z.s.Ic] []]) (Bbu B r0) (fun z=>z.r) ⟨r0,⟨#[]⟩,s1⟩ ⟨aA _,by simpa using hy2,aD _,rfl⟩ fun z hz=>?_;obtain ⟨z1,z2,z3,z4⟩:=hz;refine go ?_;refine Bf rfl (fun h3=>?_) (fun h3=>?_)
 ·refine Ke ?_;intros;refine Eo (xs:=[⟨#[97]⟩,⟨#[98]⟩,⟨#[99]⟩,⟨#[120]⟩,⟨#[122]⟩]) (fun w=>Adf w _ EN) ?_ EN;refine Az (E:=Bc) fun G=>?_;refine go ?_;refine Bw (Awh _ g F _ [⟨#[97]⟩,⟨#[98]⟩,⟨#[99]⟩,⟨#[120]⟩,⟨#[122]⟩] G z.s z2 EM EN EN) fun q hq=>?_;have hq1:q.1.size=1/\Uz q.1.data.toList=true:=by
   have:=hq.1;simp only [aF,aM,bn] at this;rcases this with e|e|e|e|e <;> rw [e] <;> exact ⟨rfl,rfl⟩
  refine go ?_;rw [show ((z.r:Nat):Int) - 1=((z.r - 1:Nat):Int) by omega];refine Cv ⟨z.r - 1,z.t++q.1,q.2⟩ ⟨by show z.r - 1<=r0;omega,hq.2.mono (by show _<=B+2+2 * (r0 - (z.r - 1));omega),by show (z.t++q.1).size<=r0 - (z.r - 1);rw [cH];omega,by show Uz (z.t++q.1).data.toList=true;rw [eG,Array.toList_append];unfold Uz at *;rw [eK,z4,hq1.2];rfl⟩ (by show z.r - 1 < _;omega)
 ·refine go ?_;refine ret (z.t,z.s) ⟨⟨by show z.t.size<=20;omega,by show (z.t.size:Int)<=n;omega,z4⟩,z2.mono EM⟩ rfl
structure TrD where
 l:al
 a:ai
 c:Nat
 F:ak
 i:Nat
 s:Rh
structure Bb3 (B:Nat) (z:TrD):Prop where
 g:Hf z.l
 l:z.l.length+z.i<=8
 i:z.i<=6
 s:Ih (B+10+10 * (6 - z.i)) z.s
theorem Amf (B g:Nat) (F:CuF) (s:Rh) (ok:Ih B s) (hB:B<=800000000000) :
  Fn prog 48 [Fv g 0 0] [.sl Iy (ab F.a F.Cd.length F.c) F.Cd F.bs] [.row g 60 0 [] [ab F.a F.Cd.length F.c,aa (s.k:Nat),.int .u64 s.Ic] []] (fun (z:TrD)=>Hf z.l/\Ih (B+100) z.s) (fun z=>.agg #[ab z.a z.l.length z.c])
   (fun z=>[.ow Bi 3 (ab z.a z.l.length z.c) z.l z.F,.row g 60 0 [] [ab F.a F.Cd.length F.c,aa (z.s.k:Nat),.int .u64 z.s.Ic] []]):=by
 refine enter func48 rfl ntmps48 fun w0=>?_;refine Ke ?_;intros;refine Eo (xs:=[-1,0]) (fun w=>Jm w _) ?_ EN;refine go ?_;rename_i g2 g5 g3;refine Bw (Ex _ g F 7 s ok EM EM) fun y hy=>?_;obtain ⟨r0,s2⟩:=y;obtain ⟨hr0,h2⟩:=hy;dsimp only at hr0 h2 ⊢;have hr0:r0<=6:=EM
 refine go ?_;refine Cu [0,2,3] (fun z:TrD=>[(4,aa (z.i:Nat))]) (fun z=>[.row g3 26 0 [] [ab z.a z.l.length z.c] [],.ow Bi 3 (ab z.a z.l.length z.c) z.l z.F,.row g 60 0 [] [ab F.a F.Cd.length F.c,aa (z.s.k:Nat),.int .u64 z.s.Ic] []]) (Bb3 B) (fun z=>z.i) ⟨[-1,0],some ⟨g5,0,none⟩,2,_,r0,s2⟩ ⟨Aos,by show 2+r0<=8;omega,hr0,h2.mono (by show _<=B+10+10 * (6 - r0);omega)⟩ fun z hz=>?_;obtain ⟨z1,z2,z3,z4⟩:=hz;have hn0:=z1.n0;refine go ?_;refine Bf rfl (fun h3=>?_) (fun h3=>?_)
 ·have hi0:0 < z.i:=EM
  refine Ke ?_;intros;refine As [0] [10] ?_;refine D7 0 1 2 3 ?_;refine Ek 4 5 ?_;refine dN 6 ?_;refine oC ?_;refine Bw (Ex _ g F z.l.length z.s z4 EM EM) fun y hy=>?_;obtain ⟨k5,s5⟩:=y;obtain ⟨r5,h5⟩:=hy;dsimp only at r5 h5 ⊢;have r5:k5 < z.l.length:=EM
  refine dk ?_;refine dN 7 ?_;apply In;rfl;rfl;rfl;rfl;exact Ik;exact Ie;intro _;refine dk ?_;refine dN 8 ?_;refine No (N7 _) Dw fun a9 c9 F9=>?_;refine dk ?_;refine dt 9 ?_;refine dN 10 ?_;refine oS ?_;refine Pg ?_;refine dd ?_;refine go ?_;rw [show ((z.i:Nat):Int) - 1=((z.i - 1:Nat):Int) by omega];refine Cv ⟨z.l++[(k5:Int)],a9,c9,F9,z.i - 1,s5⟩ ⟨Alh z1 EM r5,by show (z.l++[_]).length+(z.i - 1)<=8;simp;omega,by show z.i - 1<=6;omega,h5.mono (by show _<=B+10+10 * (6 - (z.i - 1));omega)⟩ GO
 ·refine go ?_;refine ret z ⟨z1,z4.mono EM⟩ rfl
theorem Afu {k n t l:Int} {s:am} (hk:1<=k/\k<=5) (hn:Cm n=true) (ht:Cm t=true) (hl:Cm l=true) (hg:gp t l<=32767) (hs:Qd s=true) (he:s=⟨#[]⟩\/k<=2):Bh ⟨k,n,t,l,s⟩=true:=by
 unfold Bh Ht;simp only [av,bJ,aC];refine ⟨⟨⟨⟨⟨⟨hk,hn⟩,ht⟩,hl⟩,hs⟩,hg⟩,?_⟩;rcases he with h|h
 ·exact .inl (.inl h)
 ·by_cases h1:k=1
  ·exact .inl (.inr h1)
  ·exact .inr EM
theorem All {s:am} (h:(s.size:Int)<=8) (h2:Uz s.data.toList=true):Qd s=true:=by unfold Qd;rw [au h,h2];rfl
theorem Aoq {p:Ar} (h:Bh p=true):0<=p.Al/\p.Al<=65535/\p.data.size<=maxLen:=by
 unfold Bh Qd at h;simp only [av,aC] at h;obtain ⟨t0,t1⟩:=Bb.1 h.1.1.1.1.2;exact ⟨t0,t1,FG⟩
theorem Apy (B g:Nat) (F:CuF) (s:Rh) (ok:Ih B s) (hB:B<=800000000000) :
  Fn prog 101 [Fv g 0 0] [.sl Iy (ab F.a F.Cd.length F.c) F.Cd F.bs] [.row g 60 0 [] [ab F.a F.Cd.length F.c,aa (s.k:Nat),.int .u64 s.Ic] []] (fun (z:Ar × Rh)=>Bh z.1=true/\Ih (B+60) z.2) (fun s=>.agg #[aa s.1.Bd,aa s.1.Ab,aa s.1.Al,aa s.1.Cy,af s.1.data]) (fun s=>[.row g 60 0 [] [ab F.a F.Cd.length F.c,aa (s.2.k:Nat),.int .u64 s.2.Ic] []]):=by
 refine enter func101 rfl ntmps101 fun w0=>?_;refine go ?_;intros;refine Bw (Ub B g F s ok EM) fun n hn=>?_;obtain ⟨hn1,hn2⟩:=hn;refine go ?_;refine Bw (Ex (B+4) g F 5 n.2 hn2 EM EM) fun y1 hy1=>?_;obtain ⟨hy1,hy2⟩:=hy1;have hr1:y1.1<=4:=EM
 refine go ?_;refine Bw (Ex _ g F 9 y1.2 hy2 EM EM) fun y3 hy3=>?_;obtain ⟨hy3,hy4⟩:=hy3;refine go ?_;refine ce (fun w s=>Hc _ _ _ EM EM) ?_;refine go ?_;refine Bw (Ex _ g F 10 y3.2 hy4 EM EM) fun y5 hy5=>?_;obtain ⟨hy5,hy6⟩:=hy5;refine go ?_;refine ce (fun w s=>Hc _ _ _ EM EM) ?_;refine go ?_;intros;refine Bf rfl (fun h1=>?_) (fun h1=>?_)
 ·refine go ?_;refine Bw (Rs _ g F y5.2 8 hy6 EM EM EM) fun l hl=>?_;obtain ⟨hl1,hl2⟩:=hl;refine go ?_;refine ret (⟨1+(y1.1:Nat),A8 n.1 ((y5.1:Nat) - 1),n.1,A8 n.1 (y3.1:Nat),l.1⟩,l.2) ⟨Afu ⟨EM,EM⟩ (N8 _ _) (Bb.2 hn1) (N8 _ _) (by unfold gp A8;omega) (All hl1.2.1 hl1.2.2) (.inr EM),hl2.mono EM⟩ rfl
 ·refine go ?_;refine ret (⟨1+(y1.1:Nat),A8 n.1 ((y5.1:Nat) - 1),n.1,A8 n.1 (y3.1:Nat),⟨#[]⟩⟩,y5.2) ⟨Afu ⟨EM,EM⟩ (N8 _ _) (Bb.2 hn1) (N8 _ _) (by unfold gp A8;omega) EN (.inl rfl),hy6.mono EM⟩ rfl
theorem As7 (B g:Nat) (F:CuF) (s:Rh) (ok:Ih B s) (hB:B<=800000000000) :
  Fn prog 101 [Fv g 0 0] [.sl Iy (ab F.a F.Cd.length F.c) F.Cd F.bs] [.row g 60 0 [] [ab F.a F.Cd.length F.c,aa (s.k:Nat),.int .u64 s.Ic] []] (fun (z:Ar × Rh)=>(0<=z.1.Al/\z.1.Al<=65535/\z.1.data.size<=maxLen)/\Ih (B+60) z.2) (fun s=>.agg #[aa s.1.Bd,aa s.1.Ab,aa s.1.Al,aa s.1.Cy,af s.1.data]) (fun s=>[.row g 60 0 [] [ab F.a F.Cd.length F.c,aa (s.2.k:Nat),.int .u64 s.2.Ic] []]):=(Apy B g F s ok hB).Ov fun _ h=>⟨Aoq h.1,h.2⟩
theorem Air (B g:Nat) (F:CuF) (s:Rh) (ok:Ih B s) (hB:B<=700000000000) :
  Fn prog 51 [Fv g 0 0] [.sl Iy (ab F.a F.Cd.length F.c) F.Cd F.bs] [.row g 60 0 [] [ab F.a F.Cd.length F.c,aa (s.k:Nat),.int .u64 s.Ic] []] (fun (z:Ar × Rh)=>z.1.data.size<=maxLen/\Ih (B+100) z.2) (fun s=>.agg #[aa s.1.Bd,aa s.1.Ab,aa s.1.Al,aa s.1.Cy,af s.1.data]) (fun s=>[.row g 60 0 [] [ab F.a F.Cd.length F.c,aa (s.2.k:Nat),.int .u64 s.2.Ic] []]):=by
 refine enter func51 rfl ntmps51 fun w0=>?_;refine go ?_;intros;refine Bw (As7 B g F s ok EM) fun z hz=>?_;obtain ⟨⟨t0,t1,hz1⟩,hz2⟩:=hz;refine go ?_;intros;refine Bw (Ex _ g F 24 z.2 hz2 EM EM) fun p hp=>?_;obtain ⟨r,s3⟩:=p;obtain ⟨-,hp⟩:=hp;dsimp only at hp ⊢;refine go ?_;refine Bf rfl (fun e0=>?_) (fun e0=>?_)
 ·refine Ke ?_;intros;refine Eo (xs:=[0,6,5]) (fun w=>Jm w _) ?_ EN;refine Az (E:=Bi) fun G=>?_;refine go ?_;refine Bw (Mt _ g F _ [0,6,5] G s3 hp EM EN EN) fun q hq=>?_;refine go ?_;refine ret (⟨q.1,z.1.Ab,z.1.Al,z.1.Cy,z.1.data⟩,q.2) ⟨hz1,hq.2.mono EM⟩ rfl
 ·refine go ?_;refine Bf rfl (fun e1=>?_) (fun e1=>?_)
  ·refine Ke ?_;intros;refine Eo (xs:=[-1,65536,65535]) (fun w=>Jm w _) ?_ EN;refine Az (E:=Bi) fun G=>?_;refine go ?_;refine Bw (Mt _ g F _ [-1,65536,65535] G s3 hp EM EN EN) fun q hq=>?_;refine go ?_;refine ret (⟨z.1.Bd,q.1,z.1.Al,z.1.Cy,z.1.data⟩,q.2) ⟨hz1,hq.2.mono EM⟩ rfl
  ·refine go ?_;refine Bf rfl (fun e2=>?_) (fun e2=>?_)
   ·refine Ke ?_;intros;refine As [1] [7] ?_;refine Ek 0 1 ?_;refine dt 2 ?_;refine dN 3 ?_;apply In;rfl;rfl;rfl;rfl;exact Ik;exact Ie;intro _;refine Eo (xs:=[32767,32768]) (fun w=>Jm w _) ?_ EN;refine Az (E:=Bi) fun G=>?_;refine dk ?_;refine dN 4 ?_;refine oC ?_;refine Bw (Mt _ g F _ [32767,32768] G s3 hp EM EN EN) fun q hq=>?_;have hq3:0<=q.1/\q.1<=32768:=by have:=hq.1;simp only [aF,aM,bn] at this;omega
    refine dk ?_;refine dN 5 ?_;refine oC ?_;refine ce (fun w s=>Hc _ _ _ EM EM) ?_;refine dk ?_;refine dt 6 ?_;refine dN 7 ?_;refine oS ?_;refine Pg ?_;refine dd ?_;refine go ?_;refine ret (⟨z.1.Bd,z.1.Ab,z.1.Al,A8 z.1.Al q.1,z.1.data⟩,q.2) ⟨hz1,hq.2.mono EM⟩ rfl
   ·refine go ?_;refine Bf rfl (fun e3=>?_) (fun e3=>?_)
    ·refine Ke ?_;intros;refine Eo (xs:=[⟨#[97,98,99,100,101,102,103,104]⟩,⟨#[97,98,99,100,101,102,103,104,105]⟩,⟨#[65]⟩,⟨#[97,32,98]⟩,⟨#[97]⟩]) (fun w=>Adf w _ EN) ?_ EN;refine Az (E:=Bc) fun G=>?_;refine go ?_;refine Bw (Awh _ g F _ [⟨#[97,98,99,100,101,102,103,104]⟩,⟨#[97,98,99,100,101,102,103,104,105]⟩,⟨#[65]⟩,⟨#[97,32,98]⟩,⟨#[97]⟩] G s3 hp EM EN EN) fun q hq=>?_;have hq3:q.1.size<=maxLen:=by have:=hq.1;simp only [aF,aM,bn] at this;rcases this with e|e|e|e|e <;> rw [e] <;> decide
     refine go ?_;refine ret (⟨z.1.Bd,z.1.Ab,z.1.Al,z.1.Cy,q.1⟩,q.2) ⟨hq3,hq.2.mono EM⟩ rfl
    ·refine go ?_;refine ret (z.1,s3) ⟨hz1,hp.mono EM⟩ rfl
theorem Awb (a b:Int):FV 83 [aa a,aa b] [] (aa (max a b)):=by
 refine enter func83 rfl ntmps83 fun w0=>?_;refine go ?_;refine Bf rfl (fun h=>?_) (fun h=>?_)
 ·refine go ?_;rw [show max a b=a by omega];exact BA
 ·refine go ?_;rw [show max a b=b by omega];exact BA
theorem okq {k:Int} {i:Nat} (hk:k=2\/k=3\/k=5\/k=6) (h0:1<=i) (h7:i<=7):D5 ⟨k,(i:Int),⟨#[]⟩⟩=true:=by
 have hf:M7 ((i:Nat):Int)=true:=Jy.2 EM;unfold D5;rcases hk with rfl|rfl|rfl|rfl
 all_goals
  show (Ht 1 _ 6 && M7 ((i:Nat):Int) && decide _)=true;rw [hf];rfl
structure StD where
 t:Gf
 s:Rh
structure StW where
 n:Nat
 i:Nat
 s:Rh
structure Bb0 (B:Nat) (z:StW):Prop where
 a:1<=z.n
 b:z.n<=7
 i:z.i<=3
 s:Ih (B+10+10 * z.i) z.s
theorem Acn (B g:Nat) (F:CuF) (s:Rh) (n:Du) (v:Value) (Fx:ak) (h2:2<=n.Ao.Ad.length) (h8:n.Ao.Ad.length<=8) (hd:n.down.length<=8) (hu:n.up.length=n.down.length) (hq:∀q∈n.down++n.up,q.length<=6) (ok:Ih B s) (hB:B<=800000000000) :
  Fn prog 38 [Fv g 0 0,v] [.sl Iy (ab F.a F.Cd.length F.c) F.Cd F.bs,.isv Nw v n Fx] [.row g 60 0 [] [ab F.a F.Cd.length F.c,aa (s.k:Nat),.int .u64 s.Ic] []] (fun (z:StD)=>D5 z.t=true/\z.t.data.size<=maxLen/\Ih (B+200) z.s) (fun z=>.agg #[aa z.t.Bd,aa z.t.node,af z.t.data])
   (fun z=>[.row g 60 0 [] [ab F.a F.Cd.length F.c,aa (z.s.k:Nat),.int .u64 z.s.Ic] []]):=by
 refine enter func38 rfl ntmps38 fun w0=>?_;refine Eb ?_;rintro a1 c1 F1 a2 c2 F2 a3 c3 F3 a4 c4 F4 a5 c5 F5 a6 c6 F6 a7 c7 F7 rfl l1 l2 l3 l4 l5 l6 l7;refine go ?_;intros;rename_i gb gs;refine Bw (Awb 1 (n.Ao.Ad.length - 1)) fun _ _=>?_;refine go ?_;refine Bw (Ex _ g F (max 1 (n.Ao.Ad.length - 1)) s ok EM EM) fun y hy=>?_;obtain ⟨r0,s2⟩:=y;obtain ⟨hr0,h2⟩:=hy;dsimp only at hr0 h2 ⊢;have hr0:r0<=6:=EM
 refine go ?_;rw [show (1:Int)+(r0:Nat)=((1+r0:Nat):Int) by omega];refine Cu [0,3,4] (fun z:StW=>[(5,aa (z.n:Nat)),(6,aa (z.i:Nat))]) (fun z=>[.row g 60 0 [] [ab F.a F.Cd.length F.c,aa (z.s.k:Nat),.int .u64 z.s.Ic] []]) (Bb0 B) (fun z=>3 - z.i) ⟨1+r0,0,s2⟩ ⟨by show 1<=1+r0;omega,by show 1+r0<=7;omega,aD _,h2.mono (by show _<=B+10+10 * 0;omega)⟩ fun z hz=>?_;obtain ⟨z1,z2,z3,z4⟩:=hz
 repeat apply Yp
 refine Gw [0,3,4,5,6] [0,1,2,3,4,5,6,7,8,9,10,11] (fun b:Bool=>[(40,.bool b)]) (fun _=>[]) (fun b=>b=true->z.i < 3) ?_ fun b hb=>?_
 ·by_cases k0:z.i < 3
  ·by_cases k1:z.n < n.down.length
   ·refine O0 (E:=Ap) (hz:=EN) (xs:=n.down) z.n ?_;rintro hi1 b1 o1 a8 c8 F8 e1 l8;refine O0 (E:=Ap) (hz:=EN) (xs:=n.up) z.n ?_;rintro hi2 b2 o2 a9 c9 F9 e2 l9;rw [e1,e2];have m8:=hq _ (bC _ (aE hi1));have m9:=hq _ (cI _ (aE hi2));refine Ke ?_;intros;refine As [0,2,6] [] ?_;refine Ek 0 1 ?_;rw [show decide (((z.i:Nat):Int) < 3)=true by exact au EM];refine dt 2 ?_;refine E6 3 ?_;refine E6 4 ?_;refine E6 5 ?_;refine E6 6 ?_;refine E6 7 ?_
    rw [show decide (((z.n:Nat):Int) < (n.down.length:Int))=true by exact au EM];refine Ek 8 9 ?_;refine E6 10 ?_;refine E6 11 ?_;refine E6 12 ?_;refine E6 13 ?_;refine E6 14 ?_;refine E6 15 ?_;refine E6 16 ?_;refine E6 17 ?_;refine E6 18 ?_;refine E6 19 ?_;refine E6 20 ?_;refine E6 21 ?_;refine E6 22 ?_;refine E6 23 ?_;refine dt 24 ?_;refine dd ?_;refine Cs _ fun _=>k0
   ·refine Ke ?_;intros;refine As [2] [] ?_;refine Ek 0 1 ?_;rw [show decide (((z.i:Nat):Int) < 3)=true by exact au EM];refine dt 2 ?_;refine E6 3 ?_;refine E6 4 ?_;refine E6 5 ?_;refine E6 6 ?_;refine E6 7 ?_;rw [show decide (((z.n:Nat):Int) < (n.down.length:Int))=false by exact ay EM];refine Ek 8 9 ?_;refine ds 10 ?_;refine ds 11 ?_;refine ds 12 ?_;refine ds 13 ?_;refine ds 14 ?_;refine ds 15 ?_;refine ds 16 ?_;refine ds 17 ?_;refine ds 18 ?_;refine ds 19 ?_;refine ds 20 ?_;refine ds 21 ?_;refine ds 22 ?_;refine ds 23 ?_;refine dt 24 ?_;refine dd ?_
    refine Cs false fun h=>(by cases h)
  ·refine Ke ?_;intros;refine As [2] [] ?_;refine Ek 0 1 ?_;rw [show decide (((z.i:Nat):Int) < 3)=false by exact ay EM];refine dt 2 ?_;refine ds 3 ?_;refine ds 4 ?_;refine ds 5 ?_;refine ds 6 ?_;refine ds 7 ?_;refine Ek 8 9 ?_;refine ds 10 ?_;refine ds 11 ?_;refine ds 12 ?_;refine ds 13 ?_;refine ds 14 ?_;refine ds 15 ?_;refine ds 16 ?_;refine ds 17 ?_;refine ds 18 ?_;refine ds 19 ?_;refine ds 20 ?_;refine ds 21 ?_;refine ds 22 ?_;refine ds 23 ?_;refine dt 24 ?_;refine dd ?_;refine Cs false fun h=>(by cases h)
 cases b
 rotate_left
 ·have hb3:=hb rfl;refine go ?_;refine Bw (Ex _ g F (n.Ao.Ad.length - 1) z.s z4 EM EM) fun y hy=>?_;obtain ⟨k5,s5⟩:=y;obtain ⟨r5,h5⟩:=hy;dsimp only at r5 h5 ⊢;have r5:k5<=6:=EM
  refine go ?_;rw [show (1:Int)+(k5:Nat)=((1+k5:Nat):Int) by omega];refine Cv ⟨1+k5,z.i+1,s5⟩ ⟨by show 1<=1+k5;omega,by show 1+k5<=7;omega,by show z.i+1<=3;omega,h5.mono (by show _<=B+10+10 * (z.i+1);omega)⟩ (by show 3 - (z.i+1) < 3 - z.i;omega)
 refine go ?_;refine Bw (Ex _ g F 10 z.s z4 EM EM) fun y hy=>?_;obtain ⟨r6,s6⟩:=y;obtain ⟨hr6,h6⟩:=hy;dsimp only at hr6 h6 ⊢;have hr6:r6<=9:=EM
 rcases (show r6=0\/r6=1\/r6=2\/r6=3\/r6=4\/r6=5\/r6=6\/r6=7\/r6=8\/r6=9 by omega) with rfl|rfl|rfl|rfl|rfl|rfl|rfl|rfl|rfl|rfl
 ·exact BG
 ·exact BG
 ·exact BJ
 ·exact BJ
 ·exact BJ
 ·refine go ?_;refine ret ⟨⟨3,((z.n:Nat):Int),⟨#[]⟩⟩,s6⟩ ⟨okq EN z1 z2,GQ,h6.mono EM⟩ rfl
 ·refine go ?_;refine ret ⟨⟨5,((z.n:Nat):Int),⟨#[]⟩⟩,s6⟩ ⟨okq EN z1 z2,GQ,h6.mono EM⟩ rfl
 ·refine go ?_;refine ret ⟨⟨6,((z.n:Nat):Int),⟨#[]⟩⟩,s6⟩ ⟨okq EN z1 z2,GQ,h6.mono EM⟩ rfl
 ·exact EK
 ·exact EK
theorem Aoc (B g:Nat) (F:CuF) (s:Rh) (n:Du) (v:Value) (Fx:ak) (h2:2<=n.Ao.Ad.length) (h8:n.Ao.Ad.length<=8) (hd:n.down.length<=8) (hu:n.up.length=n.down.length) (hq:∀q∈n.down++n.up,q.length<=6) (ok:Ih B s) (hB:B<=800000000000) :
  Fn prog 39 [Fv g 0 0,v] [.sl Iy (ab F.a F.Cd.length F.c) F.Cd F.bs,.isv Nw v n Fx] [.row g 60 0 [] [ab F.a F.Cd.length F.c,aa (s.k:Nat),.int .u64 s.Ic] []] (fun (z:StD)=>z.t.data.size<=maxLen/\Ih (B+300) z.s) (fun z=>.agg #[aa z.t.Bd,aa z.t.node,af z.t.data])
   (fun z=>[.row g 60 0 [] [ab F.a F.Cd.length F.c,aa (z.s.k:Nat),.int .u64 z.s.Ic] []]):=by
 refine enter func39 rfl ntmps39 fun w0=>?_;refine Eb ?_;rintro a1 c1 F1 a2 c2 F2 a3 c3 F3 a4 c4 F4 a5 c5 F5 a6 c6 F6 a7 c7 F7 rfl l1 l2 l3 l4 l5 l6 l7;refine go ?_;intros;refine Bw (Acn B g F s n _ Fx h2 h8 hd hu hq ok EM) fun z hz=>?_;obtain ⟨-,z2,z3⟩:=hz;refine go ?_;intros;refine Bw (Ex _ g F 20 z.s z3 EM EM) fun y hy=>?_;obtain ⟨r6,s6⟩:=y;obtain ⟨hr6,h6⟩:=hy;dsimp only at hr6 h6 ⊢;have hr6:r6<=19:=EM
 refine go ?_;intros;refine Bf rfl (fun e0=>?_) (fun e0=>?_)
 ·refine Ke ?_;intros;refine Eo (xs:=[0,7,4]) (fun w=>Jm w _) ?_ EN;refine Az (E:=Bi) fun G=>?_;refine go ?_;intros;refine Bw (Mt _ g F _ [0,7,4] G s6 h6 EM EN EN) fun q hq=>?_;refine go ?_;intros;refine ret ⟨⟨q.1,z.t.node,z.t.data⟩,q.2⟩ ⟨z2,hq.2.mono EM⟩ rfl
 refine go ?_;intros;refine Bf rfl (fun e1=>?_) (fun e1=>?_)
 ·refine Ke ?_;intros;refine Eo (xs:=[-1,0,7,8]) (fun w=>Jm w _) ?_ EN;refine Az (E:=Bi) fun G=>?_;refine go ?_;intros;refine Bw (Mt _ g F _ [-1,0,7,8] G s6 h6 EM EN EN) fun q hq=>?_;refine go ?_;intros;refine ret ⟨⟨z.t.Bd,q.1,z.t.data⟩,q.2⟩ ⟨z2,hq.2.mono EM⟩ rfl
 refine go ?_;intros;refine Bf rfl (fun e2=>?_) (fun e2=>?_)
 ·refine Ke ?_;intros;refine Eo (E:=Bc) (xs:=[⟨#[97,98,99,100,101,102,103,104]⟩,⟨#[97,98,99,100,101,102,103,104,105]⟩,⟨#[65]⟩,⟨#[98]⟩]) (fun w=>Adf w _ EN) ?_ EN;refine Az (E:=Bc) fun G=>?_;refine go ?_;intros;refine Bw (Awh _ g F _ [⟨#[97,98,99,100,101,102,103,104]⟩,⟨#[97,98,99,100,101,102,103,104,105]⟩,⟨#[65]⟩,⟨#[98]⟩] G s6 h6 EM EN EN) fun q hq=>?_;have hq3:q.1.size<=maxLen:=by have:=hq.1;simp only [aF,aM,bn] at this;rcases this with e|e|e|e <;> rw [e] <;> decide
  refine go ?_;intros;refine ret ⟨⟨z.t.Bd,z.t.node,q.1⟩,q.2⟩ ⟨hq3,hq.2.mono EM⟩ rfl
 ·refine go ?_;intros;refine ret ⟨z.t,s6⟩ ⟨z2,h6.mono EM⟩ rfl
end Go.Proofs.YtmckdnddocfodaaGreatDoor
