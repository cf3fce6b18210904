/- Part 5 of the proof: 34 texts, one behind the other. -/
import Derived.Lib.SliceRun
import Derived.Test.YtkoldibamfjghaaGreatDoorM4
open _root_.Go.Proofs.Tryz
set_option maxRecDepth 100000
set_option maxHeartbeats 8000000
set_option linter.all false
set_option linter.unusedVariables false
set_option linter.unusedSimpArgs false
namespace Go.Proofs.YtkoldibamfjghaaGreatDoor
theorem AD{p:Prop}(h:p:=by refine go ?_;rw [<-eo,<-es,<-el];refine Cb (⟨k+1,_,_,_,_,_,_,_,_,_⟩:TkS) (by show k+1<=l.length;omega) (by show l.length - (k+1) < l.length - k;omega)):p:=h
theorem AK{p:Prop}(h:p:=by refine dk ?_;refine dN 7 ?_;refine Np (Sb ⟨n,1,ck+d,0⟩) Db fun a8 c8 F8=>?_;refine dk ?_;refine dN 11 ?_;refine Nm (ys:=l.drop (Em base l n)) Db D0 (h63:=by simp;omega) (hby:=by simp;omega) fun a9 c9 F9=>?_;refine dk ?_;refine dt 12 ?_;refine dd ?_;rw [hAdd];refine go ?_;refine ret ⟨_,_,_⟩ trivial rfl):p:=h
theorem AP{p:Prop}(h:p:=by refine Be (Jl n.up _ _ F7 (by have:=hs.u;omega) (fun q hq=>by have:=hs.uq q hq;omega)) fun s7 _=>?_;refine dk ?_;refine dt 14 ?_;refine dN 16 ?_;refine oS ?_;refine dk ?_;refine dd ?_;refine Bh (⟨_,b1,d1,G1,b2,d2,G2,b3,d3,G3,_,_,_,_⟩:ClN) trivial):p:=h
theorem BI{p:Prop}(h:p:=by refine go ?_;refine Be (Akf r p d g t o A B a1 c1 F1 a2 c2 F2 hg hp d0 d1) fun s _=>?_;refine go ?_;refine ret ⟨s.a1,s.c1,s.F1,s.a2,s.c2,s.F2,s.ae,s.ce,s.Fe⟩ trivial rfl):p:=h
theorem BW{p:Prop}(h:p:=by refine dk ?_;refine dN 8 ?_;refine oC ?_;refine Be (Tv r.Aa (Dl (C7 r)) _ FW w0_ w1_ hs0 hs1 hw8 hit) fun y hy=>?_;refine dk ?_;refine Dg 9 10 ?_;refine dt 11 ?_;refine dN 13 ?_;refine oS ?_;refine dk ?_;refine dt 14 ?_;refine dd ?_;refine Bh (⟨_,y⟩:GvS) hy):p:=h
theorem CH{p:Prop}(h:p:=by apply wO;refine Np (ys:=[l[k].Ae]) (Sc _) Da fun a8 c8 F8=>?_;refine go ?_;intros;apply wO;refine Np (ys:=[(⟨l[k].Ae,2,c+3,l[k].Ds+1⟩:Az)]) (Nq (⟨l[k].Ae,2,c+3,l[k].Ds+1⟩:Az)) Db fun a7 c7 F7=>?_;exact AD):p:=h
theorem CI{p:Prop}(h:p:=by refine go ?_;refine ret z trivial rfl):p:=h
theorem CK{p:Prop}(h:p:=by refine Cb (⟨k+1,_,_,_⟩:PkS) (by show k+1<=l.length;omega) (by show l.length - (k+1) < l.length - k;omega)):p:=h
theorem CL{p:Prop}(h:p:=by refine Cb (⟨i+1,_,_,_⟩:AwS) (by show i+1<=N.length;omega) (by show N.length - (i+1) < N.length - i;omega)):p:=h
theorem CN{p:Prop}(h:p:=by refine go ?_;refine Bh () trivial):p:=h
theorem CV{p:Prop}(h:p:=by refine dk ?_;refine dN 7 ?_;refine Nm I1 Id fun a5 c5 F5=>?_;rw [aZ];refine dk ?_;refine dt 8 ?_;refine dN 10 ?_;refine oS ?_;refine dk ?_;refine dd ?_;refine Bh (⟨_,_,_,_⟩:Bat) trivial):p:=h
theorem DF{p:Prop}(h:p:=by refine go ?_;refine ret () trivial ?_;rw [show By x=decide ((x.An.length:Int)=0) by unfold By;rw [g1,hs];unfold O2;rw [av h1,av (show x.Aa.Ao.length=0 by omega)];simp];rfl):p:=h
theorem DU{p:Prop}(h:p:=by refine go ?_;rw [<-eo];refine Cb (⟨k+1,_,_,_⟩:PkS) (by show k+1<=sn.length;omega) (by show sn.length - (k+1) < sn.length - k;omega)):p:=h
theorem EH{p:Prop}(h:p:=by apply wO;refine Np (ys:=[(⟨l[k].Ae,1,c+d,l[k].Ds⟩:Az)]) (Nq (⟨l[k].Ae,1,c+d,l[k].Ds⟩:Az)) Db fun a7 c7 F7=>?_;exact AD):p:=h
theorem ER{p:Prop}(h:p:=by rw [<-Uk ho];refine go ?_;rw [show l.length=(Q3 base l n (ck+4)).length from hcl.symm];refine ret ⟨_,_,_⟩ trivial rfl):p:=h
theorem GO{p:Prop}(h:p:=by show l.length - (k+1) < l.length - k;omega):p:=h
theorem HA{p:Prop}(h:p:=by show (0:Nat)<=maxLen;exact aE _):p:=h
theorem IK{p:Prop}(h:p:=by rw [Il hk];simp [Ua,h5,h6,h7]):p:=h
theorem IL{p:Prop}(h:p:=by rw [Il hk];simp [Tz,h5,h6,h7]):p:=h
theorem IM{p:Prop}(h:p:=by rw [Il hk];simp [Qa,h5,h6,h7]):p:=h
theorem JD{p:Prop}(h:p:=by rw [bw];omega):p:=h
theorem JF{p:Prop}(h:p:=by rw [Jv,Ps (by omega)];exact D8 5 _ (by have:(10:Nat) ^ (5+1)=1000000:=rfl;omega)):p:=h
theorem JR{p:Prop}(h:p:=by unfold I2;rw [show gp x.next (Cd x.next k)=k by unfold gp Cd;omega,bc,h]):p:=h
theorem KH{p:Prop}(h:p:=by show n - (j+1) < n - j;omega):p:=h
end Go.Proofs.YtkoldibamfjghaaGreatDoor
namespace Go.Proofs.YtkoldibamfjghaaGreatDoor
open Go.RowKit
theorem Ai0 (l:List Hz) (k i:Nat) (s:Hz) (hk:k < l.length):Jt (l.set k s) i=if i=k then s.T6 else Jt l i:=by
 unfold Jt;rw [List.getElem?_set];by_cases h:k=i
 ·subst h;simp [hk]
 ·rw [aC h,aC (fun e=>h e.symm)]
theorem Anu (x:Aj) (k:Nat) (s:Hz):(Md x k s).length=max x.Ao.length (k+1):=by
 unfold Md;rw [bQ,Om];omega
theorem Ary (x:Aj) (k:Nat) (s:Hz):Jt (Md x k s) k=s.T6:=by
 unfold Md;rw [Ai0 _ _ _ _ (by rw [Om];omega),aH rfl]
theorem Ayj (x:Aj) (k:Nat) (s:Hz):(Md x k s)[k]?=some s:=by
 unfold Md;rw [ew (by rw [Om];omega)]
theorem Bce {x:Aj} {k:Nat} {s:Hz} (hx:x.Ao.all Hc=true) (hs:Hc s=true):(Md x k s).all Hc=true:=by
 rw [aV] at hx ⊢;intro z hz;unfold Md at hz;rcases bC hz with h|rfl
 ·unfold Mi at h;rcases aJ.1 h with h|h
  ·exact hx z h
  ·rw [(fm.1 h).2];decide
 ·exact hs
theorem Aus {x:Aj} {k:Nat} {s:Hz} (hx:Wr x.Ao=true) (hs:s.T6=true):Jt (Md x k s) ((Md x k s).length - 1)=true:=by
 rw [Anu];by_cases h:x.Ao.length<=k+1
 ·rw [show max x.Ao.length (k+1) - 1=k by omega,Ary];exact hs
 ·unfold Md;rw [Ai0 _ _ _ _ (by rw [Om];omega),aC EV];unfold Wr at hx;rw [ay EV] at hx;simp only [fA,aw] at hx;rw [show max x.Ao.length (k+1) - 1=x.Ao.length - 1 by omega];unfold Mi;rw [show k+1 - x.Ao.length=0 by omega];simpa using hx.2
theorem Ayr {n:Int} {L:List Hz} (hn:B8 n=true) (ho:L.all Hc=true) (hl:L.length<=8) (he:Jt L (L.length - 1)=true\/L=[]):Cy (Pj ⟨n,L⟩)=true:=by
 obtain ⟨d1,d2⟩:=X3 L n;have hs:(Pj ⟨n,L⟩).Ao=L.drop (rel n L).2.2.length:=d1;obtain ⟨p0,p1⟩:=A4.1 hn;have hnx:(Pj ⟨n,L⟩).next=Cd n ((rel n L).2.2.length:Nat):=Abg L n p0 p1
 generalize (rel n L).2.2.length=m at hs hnx;have h0:Jt (Pj ⟨n,L⟩).Ao 0=false:=d2;rw [hs] at h0;have e1:B8 (Pj ⟨n,L⟩).next=true:=by rw [hnx];exact Pm _ _
 have e2:(L.drop m).all Hc=true:=aV.2 fun z hz=>aV.1 ho z (bq hz);have e3:Wr (L.drop m)=true:=by
  unfold Wr;by_cases hz:(L.drop m).length=0
  ·rw [av hz];rfl
  ·rw [ay hz,h0,Vm];rw [aX] at hz ⊢;rcases he with he|he
   ·rw [show m+(L.length - m - 1)=L.length - 1 by omega,he];rfl
   ·subst he;simp at hz
 unfold Cy;rw [e1,hs,e2,e3,av FB];rfl
theorem Axx (x:Aj) (n:Int) (s:au):(Ju x n s).2.2=true->Cy x=true/\B8 n=true/\Cy (Ju x n s).1=true/\gp x.next (Ju x n s).1.next=((Ju x n s).2.1.length:Nat)/\Gs (Ju x n s).1 n=true/\(n=x.next->∃r,(Ju x n s).2.1=Agr s::r)/\(Ju x n s).2.1.length<=8/\s.size<=8:=by
 unfold Ju
 split
 rotate_left
 ·intro h;cases h
 rename_i h;intro _;unfold Vv at h;simp only [aw] at h;obtain ⟨⟨⟨h1,h2⟩,h3⟩,h4⟩:=h;have g:=Tt h1;have p0:=g.n0;have p1:=g.n1;have pl:=g.l;obtain ⟨n0,n1⟩:=A4.1 h2;refine ⟨h1,h2,?_⟩;dsimp only;cases ht:Gs x n with
 | true =>
  have eW:L8 x n s=x:=by unfold L8;rw [ht];rfl
  have eE:Lu x n s=[]:=by unfold Lu;rw [ht];rfl
  rw [eW,eE];refine ⟨h1,?_,ht,fun e=>?_,EX,Ut h3⟩
  ·unfold gp;simp
  ·subst e;exfalso;unfold Gs at ht;rw [bW] at ht;rcases ht with h|h
   ·unfold To gp at h;simp at h;exact absurd h EW
   ·unfold I2 at h;rw [show gp x.next x.next=0 by unfold gp;omega] at h;rw [show (0:Int).toNat=0 from rfl,Apq h1] at h;cases h
 | false =>
  have hk8:gp x.next n < 8:=by unfold Ng at h4;rw [ht] at h4;simpa using h4
  have hgb:=Ll x.next n
  obtain ⟨k,hk⟩:∃k:Nat,gp x.next n=k:=⟨(gp x.next n).toNat,EV⟩
  have eW:L8 x n s=Pj ⟨x.next,Md x k ⟨true,s⟩⟩:=by unfold L8;rw [ht,av hk8];unfold Y5;rw [hk,bc];rfl
  have eE:Lu x n s=(rel x.next (Md x k ⟨true,s⟩)).2.2:=by unfold Lu;rw [ht,av hk8];unfold Y5;rw [hk,bc];rfl
  have hx:x.Ao.all Hc=true/\Wr x.Ao=true:=by
   unfold Cy at h1;simp only [aw] at h1;exact ⟨h1.1.2,h1.2⟩
  have hos:Hc ⟨true,s⟩=true:=by unfold Hc;rw [h3];rfl
  have hL:=Anu x k ⟨true,s⟩;have hat:=Ary x k ⟨true,s⟩;have hget:=Ayj x k ⟨true,s⟩;have ho:=Bce (k:=k) hx.1 hos;have hla:=Aus (k:=k) (s:=⟨true,s⟩) hx.2 rfl;rw [eW,eE];generalize Md x k ⟨true,s⟩=L at *;have hl8:L.length<=8:=EV
  have hrl:(rel x.next L).2.2.length<=L.length:=by
   have:=Ar1 ⟨x.next,L⟩;unfold Rc at this;dsimp only at this;omega
  obtain ⟨d1,d2⟩:=X3 L x.next
  have hnx:=Abg L x.next p0 p1
  have hn:n=Cd x.next (k:Nat):=by rw [<-hk];unfold gp Cd;omega
  refine ⟨Ayr (A4.2 ⟨p0,p1⟩) ho hl8 (.inl hla),?_,?_,?_,EV,Ut h3⟩
  ·show gp x.next (rel x.next L).1=_
   rw [hnx];exact Bek _ _ EV
  ·unfold Gs;show (To n (rel x.next L).1 || Jt (rel x.next L).2.1 (gp (rel x.next L).1 n).toNat)=true;rw [hnx,d1];generalize (rel x.next L).2.2.length=m at *;by_cases hkm:k < m
   ·rw [show To n (Cd x.next (m:Nat))=true by rw [hn];unfold To Ff gp Cd;rw [aw];simp only [aF];omega];rfl
   ·rw [show gp (Cd x.next (m:Nat)) n=((k - m:Nat):Int) by rw [hn];unfold gp Cd;omega,bc,Vm,show m+(k - m)=k by omega,hat];simp
  ·intro e;have hk0:k=0:=by rw [e] at hk;unfold gp at hk;omega
   subst hk0;cases L with
   | nil=>simp at hget
   | cons z r =>
    simp at hget;subst hget;exact ⟨(rel (Cd x.next 1) r).2.2,by simp [rel]⟩
def N9 (x:Aj) (n:Nat):ar:=(Re x.next n).filter fun k=>!I2 x k
theorem Aji {t k:Int} {n:Nat} (h:k∈Re t n):0<=k/\k<=65535:=by
 unfold Re at h;obtain ⟨i, -,rfl⟩:=bO.1 h;unfold Cd;omega
theorem Al2 (x:Aj) (k:Int) (n:Nat) (v:Value) (F:aq) (h0:0<=x.next) (h1:x.next<=65535) (h2:0<=k) (h3:k<=65535) (hn:gp x.next k=n) :
  Fn prog 380 [v,aa k] [.isv Br v x F] [] (fun (_:aj × Nat × aq)=>True) (fun s=>.slice s.1 (N9 x n).length s.2.1) (fun s=>[.ow Bb 3 (.slice s.1 (N9 x n).length s.2.1) (N9 x n) s.2.2]):=by
 have hg:=Ll x.next k
 refine enter func380 rfl ntmps380 fun w0=>?_;refine Ck ?_;rintro a1 c1 F1 rfl l1;refine go ?_;intros;refine Ar [0] [] ?_;refine C8 0 1 2 3 ?_;refine Dg 4 7 ?_;refine dt 8 ?_ (hy:=Bfr Vi Vi);refine dN 5 ?_;refine oC ?_;refine ce (fun w s=>Pf _ _ _ EV EV EV EV) ?_;refine dk ?_;refine dN 6 ?_;refine oC ?_;rw [hn];refine Be (Bfe x.next n EV EV EV) fun s _=>?_;refine dk ?_;refine dN 9 ?_;refine oC ?_
 refine cf (Alw 229 [_] [] [.isv Br (.agg #[aa x.next,ab a1 x.Ao.length c1]) x F] rfl (Re x.next n) s.1 s.2.1 s.2.2 (fun k=>I2 x k) rfl (by rw [Ac8];omega) (fun k hk w hw=>?_)) fun q _=>?_;exact (Aaq x k _ F h0 h1 (Aji hk).1 (Aji hk).2).val w hw;refine Oz ?_;refine dk ?_;refine dt 10 ?_;refine dd ?_;refine go ?_;refine ret q trivial rfl
theorem Aui {x:Aj} {k:Nat} (hk:k<=65535) (h:Jt x.Ao k=true):N9 x (k+1)=N9 x k:=by
 have e:I2 x (Cd x.next k)=true:=JR
 unfold N9;rw [Aag,bY,fL];simp [e]
theorem Ang {x:Aj} {k:Nat} (hk:k<=65535) (h:Jt x.Ao k=false):N9 x (k+1)=N9 x k++[Cd x.next k]:=by
 have e:I2 x (Cd x.next k)=false:=JR
 unfold N9;rw [Aag,bY,fL];simp [e]
theorem Ac0 (x:Aj) (k:Nat):(N9 x k).length<=k:=by
 unfold N9;have:=bJ (fun k=>!I2 x k) (Re x.next k);rw [Ac8] at this;exact this
theorem Akv (x:Aj) (k:Int) (n:Nat) (v:Value) (F:aq) (h0:0<=x.next) (h1:x.next<=65535) (h2:0<=k) (h3:k<=65535) (hn:gp x.next k=n) :
  Fn prog 332 [v,aa k] [.isv Br v x F] [] (fun (_:aj × Nat × aq)=>True) (fun s=>.slice s.1 (N9 x n).length s.2.1) (fun s=>[.ow Bb 3 (.slice s.1 (N9 x n).length s.2.1) (N9 x n) s.2.2]):=by
 have hg:=Ll x.next k
 refine enter func332 rfl ntmps332 fun w0=>?_;refine Ck ?_;rintro a1 c1 F1 rfl l1;unfold maxLen at l1;refine Ih ?_;intros;refine C1 Bb ?_;refine go ?_;refine Ca [1,2,4] (fun s:SpS=>[(5,.slice s.a (N9 x s.k).length s.c),(6,aa (s.k:Nat))]) (fun s=>[.ow Bb 3 (.slice s.a (N9 x s.k).length s.c) (N9 x s.k) s.F]) (fun s=>s.k<=n) (fun s=>n - s.k) ⟨0,_,_,_⟩ (aE _) fun s hs=>?_;obtain ⟨j,a,c,F5⟩:=s;dsimp only at hs ⊢;have hlk:=Ac0 x j;refine go ?_;refine ce (fun w s=>Jm _ _ _ EV EV) ?_;rw [hn];refine go ?_;refine A1 rfl (fun h4=>?_) (fun h4=>?_)
 ·refine go ?_;refine Dc rfl rfl (fun h5=>?_) (fun h5=>?_)
  ·refine go ?_;refine ce (fun w s=>Ht _ _ _ EV EV) ?_;refine go ?_;intros;apply wO;refine Np (Sc _) Da fun a2 c2 F2=>?_;refine go ?_;rw [<-Ang EV (Q6 EV)];refine Cb ⟨j+1,a2,c2,F2⟩ (by show j+1<=n;omega) KH
  ·refine Oe (xs:=x.Ao) j ?_;rintro hi2 b2 o2 e s1;rw [e];refine go ?_;cases g2:x.Ao[j].T6
   ·refine go ?_;refine ce (fun w s=>Ht _ _ _ EV EV) ?_;refine go ?_;intros;apply wO;refine Np (Sc _) Da fun a2 c2 F2=>?_;refine go ?_;rw [<-Ang EV (by rw [Lm hi2];exact g2)];refine Cb ⟨j+1,a2,c2,F2⟩ (by show j+1<=n;omega) KH
   ·refine go ?_;rw [<-Aui (x:=x) (k:=j) EV (by rw [Lm hi2];exact g2)];refine Cb ⟨j+1,a,c,F5⟩ (by show j+1<=n;omega) KH
 ·obtain rfl:j=n:=EV
  refine go ?_;refine ret (a,c,F5) trivial rfl
def Axi (d:Int):Bool:=Ff 1 d 8
def M0 (base:Int) (r:Az):Bool:=B8 r.Ae && decide (gp base r.Ae < 8) && Ff 1 r.state 3 && Ff 0 r.Cg 10007 && Ff 0 r.Ds 3
def Ahy (l:List Az) (base:Int) (i:Nat):Bool:=match l[i]? with
 | none=>true
 | some r=>M0 base r && (decide (i=0) || match l[i - 1]? with|none=>true|some p=>!decide (gp base r.Ae<=gp base p.Ae))
theorem Vg {l:List Az} {base:Int} {i:Nat} (h:i < l.length):Ahy l base i=(M0 base l[i] && (decide (i=0) || !decide (gp base l[i].Ae<=gp base (l[i - 1]'EV).Ae))):=by
 unfold Ahy;rw [aD h,aD (show i - 1 < l.length by omega)]
def Mc (l:List Az) (base:Int):Bool:=B8 base && decide ((l.length:Int)<=8) && (List.range l.length).all (Ahy l base)
theorem Arb {l:List Az} {base:Int} {i:Nat} (h:i < l.length) (hc:Ahy l base i=false):Mc l base=false:=by
 have:(List.range l.length).all (Ahy l base)=false:=cP.2 ⟨i,FF,JA⟩;simp [Mc,this]
theorem Amb {l:List Az} {base:Int} (h1:B8 base=true) (h2:(l.length:Int)<=8) (h:∀j,j < l.length->Ahy l base j=true):Mc l base=true:=by
 unfold Mc;rw [h1,av h2,aV.2 fun j hj=>h j HZ];rfl
theorem Di {l:List Az} {base:Int}:Mc l base=true↔B8 base=true/\l.length<=8/\(∀r∈l,M0 base r=true)/\l.Pairwise fun a b=>gp base a.Ae < gp base b.Ae:=by
 unfold Mc;simp only [aw,aV,cO,aF];constructor
 ·rintro ⟨⟨h1,h2⟩,h4⟩;refine ⟨h1,EV,fun r hr=>?_,?_⟩
  ·obtain ⟨i,hi,rfl⟩:=bi hr;have:=h4 i hi;rw [Vg hi] at this;simp only [aw] at this;exact this.1
  ·have step:∀i (hi:i+1 < l.length),gp base l[i].Ae < gp base l[i+1].Ae:=fun i hi=>by
    have:=h4 (i+1) hi;rw [Vg hi] at this;simp only [aw,bW,aF,bu,bM] at this;have h:=this.2;rcases h with h|h
    ·omega
    ·simpa using h
   refine bh.2 fun i j hi hj hij=>?_;obtain ⟨d,rfl⟩:∃d,j=i+1+d:=⟨j - i - 1,EV⟩;clear hij
   induction d with
   | zero=>exact step i hj
   | succ d ih=>exact gC (ih EV) (step (i+1+d) hj)
 ·rintro ⟨h1,h2,h4,h5⟩;refine ⟨⟨h1,EV⟩,fun i hi=>?_⟩;rw [Vg hi,h4 l[i] (aB hi)];simp only [bT,bW,aF,bu,bM];rcases cm i with h0|h0
  ·exact .inl h0
  ·have:=bh.1 h5 (i - 1) i EV hi EV;right;omega
structure Av5 (base:Int) (r:Az):Prop where
 n:B8 r.Ae=true
 g:gp base r.Ae < 8
 s0:1<=r.state
 s1:r.state<=3
 u0:0<=r.Cg
 u1:r.Cg<=10007
 t0:0<=r.Ds
 t1:r.Ds<=3
theorem Et {base:Int} {r:Az}:M0 base r=true↔Av5 base r:=by
 unfold M0 Ff;simp only [aw,aF];exact ⟨fun ⟨⟨⟨⟨a,b⟩,c,d⟩,e,f⟩,g,h⟩=>⟨a,b,c,d,e,f,g,h⟩,fun ⟨a,b,c,d,e,f,g,h⟩=>⟨⟨⟨⟨a,b⟩,c,d⟩,e,f⟩,g,h⟩⟩
def O2 (r:A9):Bool:=decide (r.Aa.next=0) && decide (r.Aa.Ao.length=0) && decide (r.An.length=0)
def Aix (r:A9):Bool:=r.An.all fun q=>!I2 r.Aa q.Ae
def By (r:A9):Bool:=Kt r.Ai && (if r.Bd then Cy r.Aa && Mc r.An r.Aa.next && Aix r else O2 r)
def Tz (c d:Int) (r:Az):Option Az:=if c < r.Cg then some r else if r.Ds=3 then none else if r.state=1 then some ⟨r.Ae,2,c+3,r.Ds+1⟩ else some ⟨r.Ae,1,c+d,r.Ds⟩
def Qa (c:Int) (r:Az):Option Int:=if c < r.Cg then none else if r.Ds=3 then none else if r.state=1 then some r.Ae else none
def Ua (c:Int) (r:Az):Option Int:=if c < r.Cg then none else if r.Ds=3 then some r.Ae else none
def pkR (n k:Int):As:=⟨3,k,n,n,⟨#[]⟩⟩
def Dl (l:ar):Int:=Cd (l.getLastD 0) 1
def Jf (w:Aj) (t:Int):Aj:=Pj (I3 (Ew w.next t) w)
def Je (w:Aj) (t:Int):ai:=N8 (Ew w.next t) w++Rc (I3 (Ew w.next t) w)
def Zd (l:List Az) (n:Int):List Az:=l.filter fun q=>!To q.Ae n
def Ed (l:List Az) (w:Aj):List Az:=l.filter fun q=>!(To q.Ae w.next || I2 w q.Ae) && decide (gp w.next q.Ae < 8)
def Nl (r:A9) (d:Int):List Az:=r.An.filterMap (Tz (r.Ai+1) d)
def C7 (r:A9):ar:=r.An.filterMap (Ua (r.Ai+1))
def Cz (r:A9) (d:Int):A9:=if C7 r=[] then ⟨r.Bd,r.Ai+1,r.Aa,Nl r d⟩ else ⟨r.Bd,r.Ai+1,Jf r.Aa (Dl (C7 r)),Zd (Nl r d) (Jf r.Aa (Dl (C7 r))).next⟩
def Fg (r:A9):List As:=(r.An.filterMap (Qa (r.Ai+1))).map (pkR r.Aa.next)
def Hg (r:A9):ai:=if C7 r=[] then [] else Je r.Aa (Dl (C7 r))
def Bdd:A9:=⟨false,0,⟨0,[]⟩,[]⟩
structure Lz (r:A9):Prop where
 k0:0<=r.Ai
 k1:r.Ai<=9999
 w:Cy r.Aa=true
 q:Mc r.An r.Aa.next=true
 f:∀z∈r.An,I2 r.Aa z.Ae=false
 z:r.Bd=false->r.Aa=⟨0,[]⟩/\r.An=[]
theorem Ej {r:A9}:By r=true↔Lz r:=by
 have hc:Kt r.Ai=true↔0<=r.Ai/\r.Ai<=9999:=by unfold Kt Ff;simp
 have hf:Aix r=true↔∀z∈r.An,I2 r.Aa z.Ae=false:=by unfold Aix;simp
 have hz:O2 r=true↔r.Aa=⟨0,[]⟩/\r.An=[]:=by
  unfold O2;obtain ⟨st,ck,⟨n,s⟩,q⟩:=r;simp [and_assoc]
 unfold By;constructor
 ·intro h;rw [aw,hc] at h;obtain ⟨⟨c0,c1⟩,h⟩:=h;cases hs:r.Bd
  ·rw [hs] at h;obtain ⟨e1,e2⟩:=hz.1 FF;refine ⟨c0,c1,by rw [e1];decide,by rw [e1,e2];decide,by rw [e2];simp,fun _=>⟨e1,e2⟩⟩
  ·rw [hs] at h;simp only [if_true,aw] at h;exact ⟨c0,c1,h.1.1,h.1.2,hf.1 h.2,fun h'=>by rw [hs] at h';cases h'⟩
 ·rintro ⟨c0,c1,h1,h2,h3,h4⟩;rw [aw,hc];refine ⟨⟨c0,c1⟩,?_⟩;cases hs:r.Bd
  ·simpa using hz.2 (h4 hs)
  ·simp [h1,h2,hf.2 h3]
def Fh (l:List As):Bool:=decide (l.length<=6) && l.all Bo
def upQ (l:List As):Bool:=l.all fun p=>decide (p.Cq=3)
def Ms (e:Bf):Bool:=decide (e.Ai=0) && decide (e.Ah.length=0)
def Tn (r:A9):Bool:=!r.Bd && decide (r.Ai=0) && O2 r
def Qn (par:ar) (clk:Int) (i:Nat) (e:Bf) (r:A9) (d u:List As):Bool:=Fh d && Fh u && upQ u &&
 (if i=0 then Ms e && Tn r && decide (d.length=0) && decide (u.length=0)
  else if Es par i then Ms e && By r && decide (r.Ai=clk) else Ba e && decide (e.Ai=clk) && Tn r)
def Sy (n:Dt) (i:Nat):Bool:=match n.Af[i]?,n.Ac[i]?,n.down[i]?,n.up[i]? with
 | some e,some r,some d,some u=>Qn n.Ap.Ad n.Ab.Ai i e r d u
 | _,_,_,_=>true
def Lp (n:Dt):Bool:=decide (n.Af.length=n.Ap.Ad.length) && decide (n.Ac.length=n.Ap.Ad.length) && decide (n.down.length=n.Ap.Ad.length) && decide (n.up.length=n.Ap.Ad.length)
def At (n:Dt):Bool:=Hj n.Ap && Cr n.Ab && Lp n && O1 (Sy n) n.Ap.Ad.length
theorem Yi {n:Dt} {i:Nat} (h1:i < n.Af.length) (h2:i < n.Ac.length) (h3:i < n.down.length) (h4:i < n.up.length):Sy n i=Qn n.Ap.Ad n.Ab.Ai i n.Af[i] n.Ac[i] n.down[i] n.up[i]:=by
 unfold Sy;rw [aD h1,aD h2,aD h3,aD h4]
theorem Bk {n:Dt}:Lp n=true↔n.Af.length=n.Ap.Ad.length/\n.Ac.length=n.Ap.Ad.length/\n.down.length=n.Ap.Ad.length/\n.up.length=n.Ap.Ad.length:=by
 unfold Lp;simp only [aw,aF];exact ⟨fun ⟨⟨⟨a,b⟩,c⟩,d⟩=>⟨a,b,c,d⟩,fun ⟨a,b,c,d⟩=>⟨⟨⟨a,b⟩,c⟩,d⟩⟩
theorem Xj {n:Dt}:At n=true↔Hj n.Ap=true/\Cr n.Ab=true/\Lp n=true/\∀i,i < n.Ap.Ad.length->Sy n i=true:=by
 unfold At;simp only [aw];exact ⟨fun ⟨⟨⟨a,b⟩,c⟩,d⟩=>⟨a,b,c,Jr d⟩,fun ⟨a,b,c,d⟩=>⟨⟨⟨a,b⟩,c⟩,Ki d⟩⟩
theorem Afz {n:Dt} {i:Nat} (hi:i < n.Ap.Ad.length) (h:Sy n i=false):At n=false:=by unfold At;rw [Lw hi h,bZ]
theorem Aoz {r:A9} (h:By r=true):Tn r=(!r.Bd && decide (r.Ai=0)):=by
 unfold Tn;cases hs:r.Bd
 ·unfold By at h;rw [hs] at h;simp only [aw,dW,if_false] at h;rw [h.2,fz]
 ·rfl
theorem Vl {r:A9} (h:Tn r=true):By r=true:=by
 unfold Tn at h;simp only [aw,bu,aF] at h;unfold By;rw [h.1.1,h.2,h.1.2];rfl
theorem Vk {e:Bf} (h:Ms e=true):Ba e=true:=by
 unfold Ms at h;simp only [aw,aF] at h;unfold Ba;rw [h.1,h.2];rfl
def Ak9 (par:ar) (clk:Int) (i:Nat) (e:Bf) (r:A9) (d u:List As):Bool:=Ba e && By r && Fh d && (Fh u && upQ u) &&
 (if i=0 then Ms e && (!r.Bd && decide (r.Ai=0)) && decide (d.length+u.length=0)
  else if Es par i then Ms e && decide (r.Ai=clk) else (!r.Bd && decide (r.Ai=0)) && decide (e.Ai=clk))
theorem Ajs (par:ar) (clk:Int) (i:Nat) (e:Bf) (r:A9) (d u:List As):Ak9 par clk i e r d u=Qn par clk i e r d u:=by
 have hz:(decide (d.length+u.length=0))=(decide (d.length=0) && decide (u.length=0)):=by
  by_cases a:d.length=0 <;> by_cases b:u.length=0 <;> simp [a,b]
 unfold Ak9 Qn;rw [hz];cases gq:Fh d <;> cases gu:Fh u <;> cases gk:upQ u <;> simp only [bZ,cU,fz,bT]
 split
 ·cases he:Ms e
  ·simp
  ·rw [Vk he];cases hr:By r
   ·cases hr2:Tn r
    ·simp
    ·rw [Vl hr2] at hr;cases hr
   ·rw [Aoz hr];simp [Bool.and_assoc]
 ·split
  ·cases he:Ms e
   ·simp
   ·rw [Vk he];simp
  ·cases hr:By r
   ·cases hr2:Tn r
    ·simp
    ·rw [Vl hr2] at hr;cases hr
   ·rw [Aoz hr];cases Ba e <;> cases (!r.Bd && decide (r.Ai=0)) <;> simp
def U3 (q:List As) (p:As):List As:=if q.length < 6 then q++[p] else q
def Hf (q ps:List As):List As:=q++ps.take (6 - q.length)
theorem Anw (q:List As):Hf q []=q:=by unfold Hf;simp
theorem Aut (q:List As) (p:As) (ps:List As):Hf (U3 q p) ps=Hf q (p::ps):=by
 unfold Hf U3;by_cases h:q.length < 6
 ·rw [aH h,show 6 - q.length=(6 - (q.length+1))+1 by omega,gm];simp
 ·rw [aC h,show 6 - q.length=0 by omega];simp
theorem Ayk (q:List As) (p:As):Hf q [p]=U3 q p:=by rw [<-Aut,Anw]
theorem Anv (q ps:List As):(Hf q ps).length<=q.length+ps.length/\(q.length<=6->(Hf q ps).length<=6):=by
 unfold Hf;rw [aA,aO];omega
theorem Ac4 {q ps:List As} (hq:Fh q=true) (hp:∀p∈ps,Bo p=true):Fh (Hf q ps)=true:=by
 unfold Fh at *;simp only [aw,aF] at hq ⊢;refine ⟨(Anv q ps).2 hq.1,?_⟩;unfold Hf;rw [dV,hq.2,bT,aV];exact fun p h=>hp p (bR h)
def Dp (d:List (List As)) (nodes:ar) (ps:List As):List (List As):=nodes.foldl (fun d x=>d.modify x.toNat fun q=>Hf q ps) d
theorem Aah (ps:List As):∀(nodes:ar) (d:List (List As)),(Dp d nodes ps).length=d.length
 | [],_=>rfl
 | x::r,d=>by
  show (Dp (d.modify x.toNat fun q=>Hf q ps) r ps).length=d.length;rw [Aah ps r,dC]
theorem An9 (d:List (List As)) (nodes:ar) (x:Int) (ps:List As):Dp d (nodes++[x]) ps=(Dp d nodes ps).modify x.toNat fun q=>Hf q ps:=by
 unfold Dp;rw [ej];rfl
def Me (f:Nat->Nat):Nat->List (List As)->Nat
 | _,[]=>0
 | k,x::r=>x.length * f k+Me f (k+1) r
theorem Ahr (f:Nat->Nat):∀(l:List (List As)) (k i:Nat) (h:i < l.length) (x:List As),Me f k (l.set i x)+l[i].length * f (k+i)=Me f k l+x.length * f (k+i)
 | [],_,_,h,_=>absurd h EX
 | y::r,k,0,_,x=>by
  show x.length * f k+Me f (k+1) r+y.length * f k=y.length * f k+Me f (k+1) r+x.length * f k;omega
 | y::r,k,i+1,h,x=>by
  have hr:i < r.length:=FF
  have ih:=Ahr f r (k+1) i hr x;show y.length * f k+Me f (k+1) (r.set i x)+r[i].length * f (k+(i+1))=y.length * f k+Me f (k+1) r+x.length * f (k+(i+1));rw [show k+(i+1)=k+1+i by omega];omega
theorem Ic {l:List (List As)} {i:Nat} {g:List As->List As} (h:i < l.length):l.modify i g=l.set i (g l[i]):=by
 refine dm fun j=>?_;rw [gi,List.getElem?_set];by_cases e:i=j
 ·subst e;simp [h]
 ·simp [e]
theorem Aaa {l:List (List As)} {i:Nat} {g:List As->List As} (h:¬i < l.length):l.modify i g=l:=by
 refine dm fun j=>?_;rw [gi];by_cases e:i=j
 ·subst e;simp [bn (show l.length<=i by omega)]
 ·simp [e]
theorem Aow (f:Nat->Nat) (l:List (List As)) (i:Nat) (ps:List As):Me f 0 (l.modify i fun q=>Hf q ps)<=Me f 0 l+ps.length * f i:=by
 by_cases h:i < l.length
 ·have h1:=Ahr f l 0 i h (Hf l[i] ps);have h2:=cF (f i) (Anv l[i] ps).1;rw [cN,cD] at *;rw [Ic h];omega
 ·rw [Aaa h];omega
def Aaj (f:Nat->Nat) (nodes:ar):Nat:=(nodes.map fun x=>f x.toNat).sum
theorem T4 (f:Nat->Nat) (ps:List As):∀(nodes:ar) (d:List (List As)),Me f 0 (Dp d nodes ps)<=Me f 0 d+ps.length * Aaj f nodes
 | [],d=>by show Me f 0 d<=_;omega
 | x::r,d=>by
  have ih:=T4 f ps r (d.modify x.toNat fun q=>Hf q ps);have h1:=Aow f d x.toNat ps;show Me f 0 (Dp (d.modify x.toNat fun q=>Hf q ps) r ps)<=Me f 0 d+ps.length * (f x.toNat+Aaj f r);rw [gF];omega
theorem Bag (f:Nat->Nat) (l:List (List As)) (i:Nat) (h:i < l.length) (h0:0 < l[i].length):Me f 0 (l.set i (l[i].drop 1))+f i=Me f 0 l:=by
 have h1:=Ahr f l 0 i h (l[i].drop 1);rw [aX,cN] at h1;have h2:l[i].length * f i=(l[i].length - 1) * f i+f i:=by
  obtain ⟨m,hm⟩:∃m,l[i].length=m+1:=⟨l[i].length - 1,EV⟩;rw [hm,gB,d9]
 omega
theorem Aj8 (f:Nat->Nat) (b:Nat):∀nodes:ar,(∀x∈nodes,f x.toNat<=b)->Aaj f nodes<=nodes.length * b
 | [],_=>by simp [Aaj]
 | x::r,h=>by
  have ih:=Aj8 f b r fun y hy=>h y KM;have:=h x EX;show f x.toNat+Aaj f r<=(r.length+1) * b;rw [gB];omega
theorem Ln {l:ar} (hg:O9 l) {i:Nat} {x:Int} (h:x∈Iq l (i:Int)):i < x.toNat/\x.toNat < l.length/\0<=x:=by
 obtain ⟨j,hj,rfl,e⟩:=Am3 h;rcases cm j with rfl|h0
 ·have:=hg.z hj;omega
 ·have:=(hg.p j hj h0).2;simp only [bc];omega
theorem Uv (l:ar) (node:Int):(Iq l node).length<=l.length:=Af7 l node l.length
def M2 (i:Nat) (e:au):au:=bz (Lib.itoa ((i:Nat):Int))++⟨#[32]⟩++e
def T9 (i:Nat) (es:ai):ai:=es.map (M2 i)
def M5 (i:Nat):Int:=1+((i:Nat):Int) % 3
theorem Pq {α:Type} {l:List α} {i:Nat} (h:i < l.length) (x:α):l.getD i x=l[i]:=by rw [br,aD h];rfl
theorem Ac1 (d:List (List As)) (i:Nat) (p:As) (a:aj) (n c:Nat) (F:aq) (hn:n=d.length) (hi:i < d.length) (hs:p.data.size<=maxLen):Fn prog 256 [ab a n c,aa (i:Nat),.agg #[aa (p).Cq,aa (p).Ae,aa (p).Am,aa (p).Er,af (p).data]] [] [.ow (Kl Al 141) 125 (ab a n c) d F] (fun (_:aq)=>True) (fun _=>.tuple #[]) (fun G=>[.ow (Kl Al 141) 125 (ab a n c) (d.set i (U3 d[i] p)) G]):=by
 refine enter func256 rfl ntmps256 fun w0=>?_;refine Ace (m:=1) i ?_ rfl hi;rintro _ g A cs B k1 k2 G1 Gi G2 rfl - hc hH;refine Yt ?_;rintro a5 c5 ev l5;obtain rfl:=O3 ev;refine go ?_;intros;refine A1 rfl (fun h1=>?_) (fun h1=>?_)
 ·have h6:d[i].length < 6:=EV
  rw [show U3 d[i] p=d[i]++[p] by unfold U3;rw [aH h6]];refine go ?_;refine Ar [0,2] [10] ?_;refine C8 0 1 2 3 ?_;refine Dg 4 5 ?_;refine dt 6 ?_;refine dN 7 ?_;apply Iz;rfl;rfl;rfl;rfl;exact Ir;exact Io;intro _;refine dk ?_;refine dN 8 ?_;refine Np (ys:=[p]) (De p hs) Ho fun a7 c7 F7=>?_;refine dk ?_;refine dt 9 ?_;refine dN 10 ?_;refine oS ?_;refine N2 ?_;refine dd ?_;refine Ko (d[i]++[p]) ?_;refine go ?_;refine Wa _ hH rfl fun F6=>?_;refine V9 ?_;refine ret F6 trivial rfl
 ·rw [show U3 d[i] p=d[i] by unfold U3;rw [aC EV]];refine go ?_;refine Ko d[i] ?_;refine Wa _ hH rfl fun F6=>?_;refine V9 ?_;refine ret F6 trivial rfl
theorem Ajp (q l:List As) (p:As):Hf q (l++[p])=U3 (Hf q l) p:=by
 unfold Hf U3;by_cases h:l.length < 6 - q.length
 ·rw [aW (by rw [aA];simp;omega),aW EV,aH IJ,aM]
 ·have e:(l++[p]).take (6 - q.length)=l.take (6 - q.length):=by rw [List.take_append_of_le_length EV]
  rw [e,aC (by rw [aA,aO];omega)]
def Rb (s:List (List As)) (i:Nat) (ps:List As):List (List As):=s.modify i fun q=>Hf q ps
theorem Ajn (s:List (List As)) (i:Nat) (ps:List As):(Rb s i ps).length=s.length:=dC ..
theorem Ajo (s:List (List As)) (i:Nat):Rb s i []=s:=by
 unfold Rb;by_cases h:i < s.length
 ·rw [Ic h,Anw,bv]
 ·exact Aaa h
theorem Ags {s:List (List As)} {i j:Nat} {ps:List As} (hi:i < s.length) (hj:j < ps.length) (h:i < (Rb s i (ps.take j)).length):(Rb s i (ps.take j)).set i (U3 (Rb s i (ps.take j))[i] ps[j])=Rb s i (ps.take (j+1)):=by
 unfold Rb;simp only [Ic hi];rw [eH,List.set_set,aR hj,Ajp]
theorem Aeb {d:List (List As)} {nodes:ar} {ps:List As} {k:Nat} (hk:k < nodes.length):Dp d (nodes.take (k+1)) ps=Rb (Dp d (nodes.take k) ps) nodes[k].toNat ps:=by rw [aR hk,An9];rfl
structure KF where
 k:Nat
 F:aq
theorem Zv (d:List (List As)) (nodes:ar) (ps:List As) (g:Nat) (v0 v1 v2 v3 v4 v5 v6 v7 v8 v10:Value) (a:aj) (n c:Nat) (F:aq) (an:aj) (cn:Nat) (Fn_:aq) (ap:aj) (cp:Nat) (Fp:aq) (hn:n=d.length) (hx:∀x∈nodes,0<=x/\x.toNat < d.length) :
  Fn prog 189 [Gc g 0 0,ab an nodes.length cn,ab ap ps.length cp] [.sl Bb (ab an nodes.length cn) nodes Fn_,.sl Al (ab ap ps.length cp) ps Fp] [.row g 37 0 [] [v0,v1,v2,v3,v4,v5,v6,v7,v8,ab a n c,v10] [],.ow (Kl Al 141) 125 (ab a n c) d F] (fun (_:aq)=>True) (fun _=>.tuple #[]) (fun G=>[.row g 37 0 [] [v0,v1,v2,v3,v4,v5,v6,v7,v8,ab a n c,v10] [],.ow (Kl Al 141) 125 (ab a n c) (Dp d nodes ps) G]):=by
 refine enter func189 rfl ntmps189 fun w0=>?_;refine Ww (E:=Bb) (xs:=nodes) ?_;rintro _ _ e0 hn1 hn2;refine Ww (E:=Al) (xs:=ps) ?_;rintro _ _ e3 hp1 hp2;refine Ali (E:=Al) (fun p:As=>p.data.size<=maxLen) (fun w cs x F h=>by obtain ⟨_,h,_⟩:=h;exact h) ?_;intro hz;cases e0;cases e3;refine go ?_;refine Ca [0,2,10,11] (fun z:KF=>[(12,aa (z.k:Nat))]) (fun z=>[.ow (Kl Al 141) 125 (ab a n c) (Dp d (nodes.take z.k) ps) z.F]) (fun z=>z.k<=nodes.length) (fun z=>nodes.length - z.k) ⟨0,_⟩ (aE _) fun z hz0=>?_;have hsl:=Aah ps (nodes.take z.k) d;refine go ?_
 refine A1 rfl (fun h1=>?_) (fun h1=>?_)
 ·have hk:z.k < nodes.length:=EV
  obtain ⟨x0,x1⟩:=hx _ (aB hk);obtain ⟨i,hi⟩:∃i:Nat,nodes[z.k]=((i:Nat):Int):=⟨nodes[z.k].toNat,EV⟩;have hil:i < (Dp d (nodes.take z.k) ps).length:=EV
  have hst:=Aeb (d:=d) (ps:=ps) hk;rw [show nodes[z.k].toNat=i by omega] at hst;refine In (xs:=nodes) z.k ?_;rintro hi2 b o e1;rw [e1,hi];refine go ?_;rw [show Dp d (nodes.take z.k) ps=Rb (Dp d (nodes.take z.k) ps) i (ps.take 0) by rw [fe,Ajo]];refine Ca [0,2,7,10,11,12,13,14,15,16,17] (fun y:KF=>[(18,aa (y.k:Nat))]) (fun y=>[.ow (Kl Al 141) 125 (ab a n c) (Rb (Dp d (nodes.take z.k) ps) i (ps.take y.k)) y.F]) (fun y=>y.k<=ps.length) (fun y=>ps.length - y.k) ⟨0,z.F⟩ (aE _) fun y hy0=>?_;have hpl:=Ajn (Dp d (nodes.take z.k) ps) i (ps.take y.k);refine go ?_
  refine A1 rfl (fun h2=>?_) (fun h2=>?_)
  ·have hj:y.k < ps.length:=EV
   refine Oj (xs:=ps) y.k ?_;rintro hi3 b3 o3 e3 s3;rw [e3];refine go ?_;intros;refine Ar [0,4] [] ?_;refine C8 0 1 2 3 ?_;refine Dg 4 5 ?_;refine dN 6 ?_;refine oC ?_;refine Be (Ac1 (Rb (Dp d (nodes.take z.k) ps) i (ps.take y.k)) i ps[y.k] a n c y.F EV EV s3) fun f1 _=>?_;rw [Ags hil hj];refine dk ?_;refine dd ?_;refine go ?_;refine Cb ⟨y.k+1,f1⟩ hj (by show ps.length - (y.k+1) < ps.length - y.k;omega)
  ·rw [show ps.take y.k=ps from aW EV,<-hst];refine go ?_;refine Cb ⟨z.k+1,y.F⟩ hk (by show nodes.length - (z.k+1) < nodes.length - z.k;omega)
 ·rw [show nodes.take z.k=nodes from aW EV];refine go ?_;refine V9 ?_;refine ret z.F trivial rfl
theorem Alr {P:Program} {n:Nat} {fr:Fr} {H:List Pc} {ty t':TypeId} {x:Operand} {t e m:Nat} [hS:SlC P t e m] {a:aj} {l c:Nat} (hx:ev fr x=some (ab a l c)):Yd P n fr H (.binOp .eql t x (.const (ab none 0 0)) t') ty (.bool a.isNone):=.mk fun ac w d pos Cd gd hA _=>by
 have he:ac.eval (.const (ab none 0 0))=ab none 0 0:=rfl;have eg:eqGuard .eql t x (.const (ab none 0 0)) (ab a l c) (ab none 0 0)=pure ():=by unfold eqGuard;simp
 simp only [execOp,hA.ev hx,he,eg,Sem.run_bind,Sem.run_pure,Result.andThen_ok,Lib.run_eql_slice_nil w t e a l c 0 0 hS.u]
theorem Azq {c:Cx} {fr:Fr} {H:List Pc} {Φ:Gl} {α:Type} {E:Bw α} {n cp:Nat} {xs:List α} {F:aq} (h:xs=[]->T c fr H Φ) (hm:.sl E (ab none n cp) xs F∈H:=by exact Bn):T c fr H Φ:=.mk fun ac w s g=>by
 obtain ⟨-,a,cap,hv, -,⟨rfl, -, -⟩|⟨b,off,F',rfl, -⟩⟩:=s.get hm
 ·exact (h rfl).h ac w s g
 ·cases hv
theorem Tr (xs:List Az) (a:aj) (c:Nat) (F:aq) (hl:xs.length<=1000000000) :
  Fn prog 185 [ab a xs.length c] [.sl Ay (ab a xs.length c) xs F] [] (fun (_:aj × Nat × aq)=>True) (fun z=>ab z.1 xs.length z.2.1) (fun z=>[.ow Ay 231 (ab z.1 xs.length z.2.1) xs z.2.2]):=by
 refine enter func185 rfl ntmps185 fun w0=>?_;refine go ?_;cases a with
 | none =>
  refine Azq (xs:=xs) fun h0=>?_;subst h0;apply wO;apply oc;rfl;exact Alr rfl;refine Cj Ay 231 ?_;refine go ?_;refine ret (none,0,[]) trivial rfl
 | some ad =>
  apply wO;apply oc;rfl;exact Alr rfl;refine go ?_;intros;refine C1 Ay ?_;apply wO;refine Nm Db D0 fun a2 c2 F2=>?_;rw [aZ];exact DJ
section
variable {c:Cx} {fr:Fr} {H:List Pc} {k:List It} {Φ:Gl} {ops:Array Oper} {o:Op} {ty:TypeId} {pos:String} {Cd:Array Edge} {H0:List Pc} {X:aq} {f:Nat} {listed:Array Bool}
theorem Ez.many {P:Program} {md:Region.Mode} {Q:Exit->Act->World->Prop} {S:World->Prop} {Y:Nat->Bool} {a:Act} {w:World} (hne:(Region.ready md ops listed).isEmpty=false)
  (h:∀i∈Region.ready md ops listed,∃oi,ops[i]?=some oi/\∀K':Act->World->Prop,Shut (∀a w,(Y i=false->S w)->Ez P md ops Q S Y f (listed.setIfInBounds i true) a w->K' a w)->if Region.wanted oi (yielded ops a.tmps)=true then Oper.wp P oi a w K' Q else K' (a.put oi.dst undef) w) :
  Ez P md ops Q S Y (f+1) listed a w:=by
 refine ⟨fun h0=>(by rw [h0] at hne;cases hne),fun j hj=>?_⟩;obtain ⟨oi,ho,hh⟩:=h j hj;exact wpOp_step ho (fun K' hK=>hh K' (fun a w hS hW=>hK a w ⟨hS,hW⟩))
theorem dP (L:aq) (hr:(Region.ready .any ops listed).all (fun i=>L.contains i)=true) (hne:(Region.ready .any ops listed).isEmpty=false)
  (h:∀i∈L,listed.getD i true=false->∃o,ops[i]?=some o/\o.guard=none/\Ef c fr H o (.dk i k H0 X ops f (listed.setIfInBounds i true))):T c fr H (.dx k H0 X ops (f+1) listed):=.mk fun a w s g =>
 Ez.many hne fun i hi=>by
  obtain ⟨o,ho,hg,he⟩:=h i (by simpa using aV.1 hr i hi) (by have:=(bL.1 hi).2;simp only [aw,bu] at this;exact this.1);refine ⟨o,ho,fun K hK=>?_⟩;rw [aH (by simp [Region.wanted,hg])];exact Oper.wp_mono (fun a' w' h'=>hK a' w' h'.1 h'.2) (he.h _ a w s g)
theorem dE (i:Nat) {od:Option Tmp} (ho:ops[i]?=some ⟨od,o,ty,pos,Cd,none⟩) (h:On c fr H od o ty Φ):∃o,ops[i]?=some o/\o.guard=none/\Ef c fr H o Φ:=⟨_,ho,rfl,h.h _ _ _⟩
theorem Agi (z:am) (n:Nat):madeCells z.toArray (n * z.length)=((List.replicate n z).flatten).toArray:=by
 have:=Nx z.toArray n;rw [fC] at this;rw [<-Array.toArray_toList (xs:=madeCells z.toArray (n * z.length)),this]
theorem Bgt {b:Bool} (h:b=false) (h2:b=true):False:=by rw [h2] at h;cases h
end
def zP:As:=⟨0,0,0,0,⟨#[]⟩⟩
def Nf (q:List As):As:=q.headD zP
theorem Xz {q:List As} (h:0 < q.length):Nf q=q[0]:=by
 cases q with
 | nil=>cases h
 | cons p r=>rfl
theorem Bdy (xs:List As) (n i:Nat) (j:Int) (a:aj) (c:Nat) (F:aq) (hn:n=xs.length) (hi:i < xs.length) (hj:j=(i:Int)+1) (hl:xs.length<=1048576) :
  Fn prog 315 [ab a n c,aa i,aa j] [] [.ow Al 141 (ab a n c) xs F] (fun (_:aj × Nat × aq)=>True)
   (fun z=>.slice z.1 (xs.take i++xs.drop (i+1)).length z.2.1) (fun z=>[.ow Al 141 (.slice z.1 (xs.take i++xs.drop (i+1)).length z.2.1) (xs.take i++xs.drop (i+1)) z.2.2]):=by
 subst hn;refine enter func315 rfl ntmps315 fun w0=>?_;refine Alj (xs:=xs) Jp (by rintro rfl;simp at hi) ?_;rintro g rfl rfl - hc1 hc2;refine go ?_;apply wO;refine Anl (i:=i) (j:=i+1) (l:=xs.length) rfl rfl rfl rfl rfl rfl EV rfl EV EV hc1 (fun _=>?_);refine go ?_;refine A1 rfl (fun h=>absurd h EV) (fun _=>?_);refine go ?_;refine Ar [] [] ?_;refine Dg 0 1 ?_;refine dt 2 ?_ (hy:=O8 (i:=i) rfl rfl rfl EV EV);refine Dg 3 4 ?_;refine dt 5 ?_ (hy:=Bal (i:=i+1) rfl rfl EV EV hc1);refine dN 6 ?_
 refine Ax8 (m:=5) (i:=i) (j:=i+1) (q:=if c=i+1 then 0 else 0+(i+1) * 5) (g:=g) (cp:=c) (n:=xs.length) Jp Ho rfl rfl rfl rfl (fun h=>by rw [aC EV];omega) EV EV rfl EZ ?_;refine dk ?_;refine dt 7 ?_;refine dd ?_;refine go ?_;apply wO;apply oc;rfl;exact Ase (i:=i+(xs.length - (i+1))) (j:=xs.length) rfl rfl rfl rfl rfl EV EV hc1;refine go ?_;apply wO
 refine Art (xs:=xs.take i++xs.drop (i+1)++xs.drop (i+(xs.length - (i+1)))) (z0:=zP) (n:=xs.length) (cp:=c) (i:=i+(xs.length - (i+1))) (g:=g) Jp (fun w=>⟨rfl,aE _,rfl⟩) EW rfl rfl EV GS EZ ?_;have hk:(xs.take i++xs.drop (i+1)).length=i+(xs.length - (i+1)):=GS
 refine Alm (xs:=(xs.take i++xs.drop (i+1)++xs.drop (i+(xs.length - (i+1)))).take (i+(xs.length - (i+1)))++List.replicate (xs.length - (i+(xs.length - (i+1)))) zP) (i+(xs.length - (i+1))) (fun F2=>?_) GS;rw [bS (by rw [bS hk,hk]),bS hk,<-hk];refine go ?_;refine ret (_,c,F2) trivial rfl
theorem Bf9 (xs:List As) (a:aj) (c:Nat) (F:aq) (hl:xs.length<=1000000000) :
  Fn prog 182 [ab a xs.length c] [.sl Al (ab a xs.length c) xs F] [] (fun (_:aj × Nat × aq)=>True) (fun z=>ab z.1 xs.length z.2.1) (fun z=>[.ow Al 141 (ab z.1 xs.length z.2.1) xs z.2.2]):=by
 refine enter func182 rfl ntmps182 fun w0=>?_;refine go ?_;cases a with
 | none =>
  refine Azq (xs:=xs) fun h0=>?_;subst h0;apply wO;apply oc;rfl;exact Alr rfl;refine Cj Al 141 ?_;refine go ?_;refine ret (none,0,[]) trivial rfl
 | some ad =>
  apply wO;apply oc;rfl;exact Alr rfl;refine go ?_;intros;refine C1 Al ?_;apply wO;refine Nm Ho Jp fun a2 c2 F2=>?_;rw [aZ];exact DJ
theorem Agk (d:List (List As)) (i:Nat) (a:aj) (n c:Nat) (F:aq) (hn:n=d.length) (hi:i < d.length) (h6:d[i].length<=6):Fn prog 264 [ab a n c,aa (i:Nat)] [] [.ow (Kl Al 141) 125 (ab a n c) d F] (fun (_:aq)=>True) (fun _=>.tuple #[.agg #[aa (Nf d[i]).Cq,aa (Nf d[i]).Ae,aa (Nf d[i]).Am,aa (Nf d[i]).Er,af (Nf d[i]).data],.bool (decide (0 < d[i].length))]) (fun G=>[.ow (Kl Al 141) 125 (ab a n c) (d.set i (d[i].drop 1)) G]):=by
 refine enter func264 rfl ntmps264 fun w0=>?_;refine Ace (m:=1) i ?_ rfl hi;rintro _ g A cs B k1 k2 G1 Gi G2 rfl - hc hH;refine Yt ?_;rintro a5 c5 ev l5;obtain rfl:=O3 ev;refine go ?_;intros;refine A1 rfl (fun h1=>?_) (fun h1=>?_)
 ·have h0:d[i]=[]:=bt.1 EV;rw [h0];refine go ?_;refine Ko [] ?_;refine Wa _ hH rfl fun F6=>?_;refine ret F6 trivial rfl
 ·have h0:0 < d[i].length:=EV
  rw [av h0,Xz h0];refine As8 (xs:=d[i]) 0 ?_;rintro _ g2 A2 B2 rfl rfl sz hH2;refine Ih ?_;intros;refine P5 d[i][0] hH2 (fun w=>⟨rfl,sz,rfl⟩) ?_;rw [bv];refine go ?_;refine Be (Bdy d[i] d[i].length 0 1 _ c5 _ rfl h0 rfl EV) fun z _=>?_;rw [show d[i].take 0++d[i].drop (0+1)=d[i].drop 1 by simp];refine go ?_;refine Ko (d[i].drop 1) ?_;refine Wa _ hH rfl fun F6=>?_;refine ret F6 trivial rfl
def Xf (l:List (List As)) (k:Nat):List (List As):=l.take k++List.replicate (l.length - k) []
theorem As6 {l:List (List As)} {k:Nat} (h:k<=l.length):(Xf l k).length=l.length:=by unfold Xf;simp;omega
theorem As7 {l:List (List As)} {k:Nat} (h:k < l.length):(Xf l k).set k l[k]=Xf l (k+1):=by
 unfold Xf;have e:List.replicate (l.length - k) ([]:List As)=[]::List.replicate (l.length - (k+1)) []:=by rw [show l.length - k=(l.length - (k+1))+1 by omega,cQ]
 have hl:(l.take k).length=k:=GA
 rw [e,eG _ _ EV,hl,Nat.sub_self,bj,aR h,aM];rfl
theorem Jl (l:List (List As)) (a:aj) (c:Nat) (F:aq) (hl:l.length<=1048576) (hq:∀q∈l,q.length<=1000000000):Fn prog 103 [ab a l.length c] [.sl (Oc Al EW) (ab a l.length c) l F] [] (fun (_:Nat × aq)=>True) (fun z=>ab (some ⟨z.1,0,none⟩) l.length l.length) (fun z=>[.ow (Kl Al 141) 125 (ab (some ⟨z.1,0,none⟩) l.length l.length) l z.2]):=by
 refine enter func103 rfl ntmps103 fun w0=>?_;refine go ?_;apply wO;refine Ap6 l.length (cs:=(List.replicate l.length ([ab none 0 0]:am)).flatten) rfl rfl rfl (Agi _ _) EV EV fun g=>?_;refine Eh (E:=Kl Al 141) (xs:=List.replicate l.length []) (fun w=>Cw.rep0 (E:=Kl Al 141) (w:=w) (zs:=[ab none 0 0]) (z:=([]:List As)) ⟨_,rfl,.inl ⟨rfl,rfl,rfl⟩⟩ _) ?_ JD;rw [bw,show List.replicate l.length ([]:List As)=Xf l 0 by unfold Xf;simp];refine go ?_
 refine Ca [2,3,9,10] (fun z:KF=>[(11,aa (z.k:Nat))]) (fun z=>[.ow (Kl Al 141) 125 (ab (some ⟨g,0,none⟩) l.length l.length) (Xf l z.k) z.F]) (fun z=>z.k<=l.length) (fun z=>l.length - z.k) ⟨0,_⟩ (aE _) fun z hz0=>?_;have hfl:=As6 hz0;refine go ?_;refine A1 rfl (fun h1=>?_) (fun h1=>?_)
 ·have hk:z.k < l.length:=EV
  refine Mf (E:=Al) (hz:=EW) (xs:=l) z.k ?_;rintro hi6 b6 o6 a11 c11 F11 rfl l11;refine Ace (xs:=Xf l z.k) (m:=1) z.k ?_ rfl EV;rintro _ g2 A cs B k1 k2 G1 Gi G2 e2 - hc hH;cases e2;refine Yt ?_;rintro a5 c5 ev l5;obtain rfl:=O3 ev;refine go ?_;refine Be (Bf9 l[z.k] a11 c11 F11 (hq _ (aB hk))) fun y _=>?_;refine go ?_;refine Ko l[z.k] ?_;refine Wa _ hH rfl fun F6=>?_;rw [As7 hk];refine go ?_;refine Cb ⟨z.k+1,F6⟩ hk (by show l.length - (z.k+1) < l.length - z.k;omega)
 ·rw [show Xf l z.k=l by unfold Xf;rw [show z.k=l.length by omega];simp];refine go ?_;refine ret (g,z.F) trivial rfl
theorem Yy {a t:Int}:Ew a t<=(gp a t).toNat:=by unfold Ew;split <;> omega
theorem Uy {w:Aj} {t:Int} (hg:Cy w=true):(Jf w t).next=Cd w.next ((Je w t).length:Nat)/\(Jf w t).Ao=w.Ao.drop (Je w t).length/\(Je w t).length<=Ew w.next t+8/\Ew w.next t<=(Je w t).length:=by
 obtain ⟨h0,h1⟩:0<=w.next/\w.next<=65535:=by
  unfold Cy at hg;simp only [aw] at hg;exact A4.1 hg.1.1.1
 have hl:w.Ao.length<=8:=by
  unfold Cy at hg;simp only [aw,aF] at hg;have:=hg.1.1.2;omega
 have e1:∀k (x:Aj),(N8 k x).length=k:=by
  intro k
  induction k with
  | zero=>intro x;rfl
  | succ k ih=>intro x;simp [N8,ih]
 have h2:=Adp (Ew w.next t) w h0 h1;have h3:=X3 (I3 (Ew w.next t) w).Ao (I3 (Ew w.next t) w).next
 have h4:=S9 (Ew w.next t) w;have h5:=Ar1 (I3 (Ew w.next t) w);rw [h4,aX] at h5;refine ⟨h2,?_,?_,?_⟩
 ·have e:(Jf w t).Ao=(I3 (Ew w.next t) w).Ao.drop (Rc (I3 (Ew w.next t) w)).length:=h3.1;rw [e,h4,cw];unfold Je;rw [aA,e1]
 ·unfold Je;rw [aA,e1];omega
 ·unfold Je;rw [aA,e1];omega
theorem Arj (w:Aj) (n:Int):I2 w n=Jt w.Ao (gp w.next n).toNat:=rfl
theorem Bb2 {w:Aj} {t n:Int} (hg:Cy w=true) (ht:gp w.next t<=8) (hn:B8 n=true) (h8:gp w.next n < 8) (hh:I2 w n=false) :
  (To n (Jf w t).next=true/\gp w.next n < ((Je w t).length:Nat))\/(To n (Jf w t).next=false/\I2 (Jf w t) n=false/\gp w.next n=((Je w t).length:Nat)+gp (Jf w t).next n):=by
 obtain ⟨e1,e2,e3, -⟩:=Uy (t:=t) hg;have hs:=@Yy w.next t
 obtain ⟨n0,n1⟩:=A4.1 hn;obtain ⟨w0,w1⟩:0<=w.next/\w.next<=65535:=by
  unfold Cy at hg;simp only [aw] at hg;exact A4.1 hg.1.1.1
 have hm:(Je w t).length<=16:=EV
 have hb:=Ll w.next n
 rw [Arj,e1,e2,Vm];rw [Arj] at hh;generalize hM:(Je w t).length=m at *;clear e1 e2 e3 hs hM hg ht;by_cases hc:gp w.next n < (m:Nat)
 ·left;refine ⟨?_,hc⟩;unfold To Ff gp Cd at *;simp only [aw,aF];omega
 ·right;have e:gp w.next n=m+gp (Cd w.next m) n:=by unfold gp Cd at *;omega
  refine ⟨?_,?_,e⟩
  ·have:¬(1<=gp n (Cd w.next m)/\gp n (Cd w.next m)<=32767):=by unfold gp Cd at *;omega
   unfold To Ff;exact ET
  ·have hb2:=Ll (Cd w.next m) n;rw [show m+(gp (Cd w.next m) n).toNat=(gp w.next n).toNat by omega];exact hh
theorem Ak0 {w:Aj} {t:Int} (hg:Cy w=true) (ht:gp w.next t<=8) {l:List Az} (hl:∀q∈l,B8 q.Ae=true/\gp w.next q.Ae < 8/\I2 w q.Ae=false):Ed l (Jf w t)=Zd l (Jf w t).next:=by
 unfold Ed Zd;refine eu fun q hq=>?_;obtain ⟨a,b,c⟩:=hl q hq;rcases Bb2 hg ht a b c with ⟨h, -⟩|⟨h,h2,h3⟩
 ·simp [h]
 ·have:=Ll (Jf w t).next q.Ae
  simp [h,h2,show gp (Jf w t).next q.Ae < 8 by omega]
theorem Aln {c d:Int} {r q:Az} (h:Tz c d r=some q):q.Ae=r.Ae:=by
 unfold Tz at h
 split at h
 ·cases h;rfl
 ·split at h
  ·cases h
  ·split at h <;> cases h <;> rfl
theorem Bc0 {c:Int} {r:Az} {n:Int} (h:Ua c r=some n):n=r.Ae:=by
 unfold Ua at h
 split at h
 ·cases h
 ·split at h <;> cases h <;> rfl
theorem X4 {r:A9} (hg:Lz r) {q:Az} (hq:q∈r.An):B8 q.Ae=true/\gp r.Aa.next q.Ae < 8/\I2 r.Aa q.Ae=false:=by
 obtain ⟨-, -,h3, -⟩:=Di.1 hg.q;have:=Et.1 (h3 q hq);exact ⟨this.n,this.g,hg.f q hq⟩
theorem Abs {r:A9} {d:Int} (hg:Lz r) {q:Az} (hq:q∈Nl r d):B8 q.Ae=true/\gp r.Aa.next q.Ae < 8/\I2 r.Aa q.Ae=false:=by
 obtain ⟨q',hq',h⟩:=dZ.1 hq;rw [Aln h];exact X4 hg hq'
theorem Ade {r:A9} (hg:Lz r) {n:Int} (hn:n∈C7 r):B8 n=true/\gp r.Aa.next n < 8:=by
 obtain ⟨q',hq',h⟩:=dZ.1 hn;rw [Bc0 h];exact ⟨(X4 hg hq').1,(X4 hg hq').2.1⟩
theorem Ij {w:Aj} (hg:Cy w=true):0<=w.next/\w.next<=65535:=by
 unfold Cy at hg;simp only [aw] at hg;exact A4.1 hg.1.1.1
theorem Aey {r:A9} (hg:Lz r) (h:C7 r≠[]):gp r.Aa.next (Dl (C7 r))<=8/\B8 (Dl (C7 r))=true:=by
 unfold Dl;have hm:(C7 r).getLastD 0∈C7 r:=by
  rw [fG,List.getLast?_eq_some_getLast h];exact List.getLast_mem h
 obtain ⟨a,b⟩:=Ade hg hm;refine ⟨?_,Pm _ _⟩;obtain ⟨n0,n1⟩:=A4.1 a;obtain ⟨w0,w1⟩:=Ij hg.w;unfold gp Cd at *;omega
theorem Aef {r:A9} {d:Int} (hg:Lz r) (h:C7 r≠[]):Ed (Nl r d) (Jf r.Aa (Dl (C7 r)))=Zd (Nl r d) (Jf r.Aa (Dl (C7 r))).next :=
 Ak0 hg.w (Aey hg h).1 fun _ hq=>Abs hg hq
theorem Azp {P:Program} {f:FuncId} {α:Type} {E:Bw α} {v:Value} {xs:List α} {F:aq} {rest:am} {A M:List Pc} {σ:Type} {C:σ->Prop} {w:σ->Value} {N:σ->List Pc} (h:∀a c,Fn P f (ab a xs.length c::rest) (.sl E (ab a xs.length c) xs F::A) M C w N):Fn P f (v::rest) (.sl E v xs F::A) M C w N:=fun w0 hH hS=>by
 obtain ⟨-,hs⟩:=hH (.sl E v xs F) EX;obtain ⟨a,c,rfl⟩:=hs.slice;exact h a c w0 hH hS
theorem Atm (d:Int):FV 388 [aa d] [] (.bool (Axi d)):=by
 refine enter func388 rfl ntmps388 fun w0=>?_;refine go ?_;refine ce (fun w s=>Hy _ _ _ _) ?_;exact AA
theorem Xn (r:Az) (base:Int) (b0:0<=base) (b1:base<=65535):FV 285 [.agg #[aa r.Ae,aa r.state,aa r.Cg,aa r.Ds],aa base] [] (.bool (M0 base r)):=by
 refine enter func285 rfl ntmps285 fun w0=>?_;refine go ?_;intros;refine ce (fun w s=>Ja _ _) ?_;cases g1:B8 r.Ae
 ·refine go ?_;refine ret () trivial ?_;simp [M0,g1,Tp]
 obtain ⟨n0,n1⟩:=A4.1 g1;refine go ?_;refine ce (fun w s=>Pf _ _ _ EV EV EV EV) ?_;refine go ?_;refine Dc rfl rfl (fun g2=>?_) (fun g2=>?_)
 rotate_left
 ·refine go ?_;refine ret () trivial ?_;simp [M0,g2,Tp]
 refine go ?_;refine ce (fun w s=>Hy _ _ _ _) ?_;cases g3:Ff 1 r.state 3
 ·refine go ?_;refine ret () trivial ?_;simp [M0,g3,Tp]
 refine go ?_;refine ce (fun w s=>Hy _ _ _ _) ?_;cases g4:Ff 0 r.Cg 10007
 ·refine go ?_;refine ret () trivial ?_;simp [M0,g4,Tp]
 refine go ?_;refine ce (fun w s=>Hy _ _ _ _) ?_;refine go ?_;refine ret () trivial ?_;simp [M0,g1,g2,g3,g4,Tp]
theorem Qt (l:List Az) (base:Int) (v:Value) (F:aq):FV 226 [v,aa base] [.sl Ay v l F] (.bool (Mc l base)):=by
 refine Azp (fun a c=>?_);refine enter func226 rfl ntmps226 fun w0=>?_;refine go ?_;refine ce (fun w s=>Ja _ _) ?_;cases g1:B8 base
 ·refine go ?_;refine ret () trivial ?_;simp [Mc,g1,Tp]
 obtain ⟨b0,b1⟩:=A4.1 g1;refine go ?_;refine A1 rfl (fun g2=>?_) (fun g2=>?_)
 ·refine go ?_;refine ret () trivial ?_;rw [show Mc l base=false by unfold Mc;rw [ay EV];simp];rfl
 refine go ?_;refine Dk [0,1,4,15,16] (fun k:Nat=>[(17,aa (k:Nat))]) (fun k=>k<=l.length/\∀j,j < k->Ahy l base j=true) (fun k=>l.length - k) 0 ⟨aE _,fun j h=>by omega⟩ fun k hk=>?_;obtain ⟨hk1,hk2⟩:=hk;refine go ?_;refine A1 rfl (fun h3=>?_) (fun h3=>?_)
 ·have hk3:k < l.length:=EV
  have bad:Ahy l base k=false->Mc l base=false:=fun h=>Arb hk3 h;have hck:=Vg (base:=base) hk3;refine Ig (xs:=l) k ?_;rintro hi b o e;rw [e];have p4:0 < k->∃h:k - 1 < l.length,Av5 base l[k - 1]:=fun h0=>by
   have hk4:k - 1 < l.length:=EV
   have hp:=hk2 (k - 1) EV;rw [Vg hk4] at hp;simp only [aw] at hp;exact ⟨hk4,Et.1 hp.1⟩
  refine go ?_;intros;cases g4:M0 base l[k]
  ·skip
   refine Ar [0] [] ?_;refine Dg 0 1 ?_;refine dN 2 ?_;refine oC ?_;refine Be (Xn l[k] base b0 b1) fun _ _=>?_;rw [g4];refine dk ?_;refine Dg 3 4 ?_;refine ds 5 ?_;refine ds 6 ?_;refine ds 7 ?_;refine dsu 8 ?_;refine dsu 9 ?_;refine dsu 10 ?_;refine dsu 11 ?_;refine dsu 12 ?_;refine dsu 13 ?_;refine dsu 14 ?_;refine dsu 15 ?_;refine dsu 16 ?_;refine dsu 17 ?_;refine dsu 18 ?_;refine dsu 19 ?_;refine dsu 20 ?_;refine ds 21 ?_;refine dt 22 ?_;refine dd ?_;exact DV
  obtain ⟨q0,q1⟩:=A4.1 (Et.1 g4).n;by_cases hk0:0 < k
  ·obtain ⟨hk4,p5⟩:=p4 hk0;obtain ⟨p0,p1⟩:=A4.1 p5.n;rw [<-e];refine Ig (xs:=l) (k - 1) ?_;rintro hi5 b5 o5 e5;rw [e5];refine Ar [0,1] [] ?_;refine Dg 0 1 ?_;refine dN 2 ?_;refine oC ?_;refine Be (Xn l[k] base b0 b1) fun _ _=>?_;rw [g4];refine dk ?_;refine Dg 3 4 ?_;refine Dd 5 ?_;refine Dd 6 ?_;rw [av (show (0:Int) < k by omega)];refine Dd 7 ?_;refine Dd 8 ?_;refine Dd 9 ?_;refine Dd 10 ?_;refine Dd 11 ?_;rw [show (k:Int) - 1=((k - 1:Nat):Int) by omega];refine Dd 12 ?_;refine Dd 13 ?_;refine Dd 14 ?_;refine Dd 16 ?_;refine Dd 17 ?_;refine Dd 18 ?_;refine d1g 15 ?_;apply On.h
   refine oC ?_;refine ce (fun w s=>Pf _ _ _ EV EV EV EV) ?_;refine dk ?_;refine d1g 19 ?_;apply On.h;refine oC ?_;refine ce (fun w s=>Pf _ _ _ EV EV EV EV) ?_;refine dk ?_;refine Dd 20 ?_;refine Dd 21 ?_;refine dt 22 ?_;refine dd ?_;refine go ?_;refine A1 rfl (fun h6=>?_) (fun h6=>?_)
   ·exact BS
   ·refine go ?_;refine Cb (k+1) ⟨EV,fun j hj=>?_⟩ EV;rcases ba (bA.1 hj) with h|rfl
    ·exact hk2 j h
    ·rw [hck,g4,ay h6];simp
  ·have hz:k=0:=EV
   refine Ar [0] [] ?_;refine Dg 0 1 ?_;refine dN 2 ?_;refine oC ?_;refine Be (Xn l[k] base b0 b1) fun _ _=>?_;rw [g4];refine dk ?_;refine Dg 3 4 ?_;refine Dd 5 ?_;refine Dd 6 ?_;rw [ay (show ¬(0:Int) < k by omega)];refine Dd 7 ?_;refine ds 8 ?_;refine ds 9 ?_;refine ds 10 ?_;refine ds 11 ?_;refine ds 12 ?_;refine ds 13 ?_;refine ds 14 ?_;refine ds 15 ?_;refine ds 16 ?_;refine ds 17 ?_;refine ds 18 ?_;refine ds 19 ?_;refine ds 20 ?_;refine Dd 21 ?_;refine dt 22 ?_;refine dd ?_;refine go ?_;refine Cb (k+1) ⟨EV,fun j hj=>?_⟩ EV
   rcases ba (bA.1 hj) with h|rfl
   ·exact hk2 j h
   ·rw [hck,g4,av hz];simp
 have hkl:k=l.length:=EV
 refine go ?_;refine ret () trivial ?_;rw [Amb g1 EV (hkl▸hk2)];rfl
theorem Aty (l:List Az) (base:Int) (v:Value) (F:aq):FV 271 [v,aa base] [.sl Ay v l F] (.bool (Mc l base)):=by
 refine Azp (fun a c=>?_);refine enter func271 rfl ntmps271 fun w0=>?_;refine go ?_;refine ce (fun w s=>Nw _ _) ?_;cases g1:B8 base
 ·refine go ?_;refine ret () trivial ?_;simp [Mc,g1,Tp]
 obtain ⟨b0,b1⟩:=A4.1 g1;refine go ?_;refine A1 rfl (fun g2=>?_) (fun g2=>?_)
 ·refine go ?_;refine ret () trivial ?_;rw [show Mc l base=false by unfold Mc;rw [ay EV];simp];rfl
 refine go ?_;refine Dk [0,1,4] (fun k:Nat=>[(5,aa (k:Nat))]) (fun k=>k<=l.length/\∀j,j < k->Ahy l base j=true) (fun k=>l.length - k) 0 ⟨aE _,fun j h=>by omega⟩ fun k hk=>?_;obtain ⟨hk1,hk2⟩:=hk;refine go ?_;refine A1 rfl (fun h3=>?_) (fun h3=>?_)
 ·have hk3:k < l.length:=EV
  have bad:Ahy l base k=false->Mc l base=false:=fun h=>Arb hk3 h;have hck:=Vg (base:=base) hk3;refine Ig (xs:=l) k ?_;rintro hi b o e;rw [e];have p4:0 < k->∃h:k - 1 < l.length,Av5 base l[k - 1]:=fun h0=>by
   have hk4:k - 1 < l.length:=EV
   have hp:=hk2 (k - 1) EV;rw [Vg hk4] at hp;simp only [aw] at hp;exact ⟨hk4,Et.1 hp.1⟩
  refine go ?_;intros;refine ce (fun w s=>Nw _ _) ?_;cases g5:B8 l[k].Ae
  ·refine go ?_;refine ret () trivial ?_;rw [bad (by rw [hck,show M0 base l[k]=false by unfold M0;simp [g5]];rfl)];rfl
  obtain ⟨q0,q1⟩:=A4.1 g5;refine go ?_;refine ce (fun w s=>Jm _ _ _ EV EV) ?_;refine go ?_;refine Dc rfl rfl (fun g6=>?_) (fun g6=>?_)
  ·refine go ?_;refine ret () trivial ?_;rw [bad (by rw [hck,show M0 base l[k]=false by unfold M0;rw [ay EV];simp];rfl)];rfl
  refine go ?_;refine ce (fun w s=>Kg _ _ _ _) ?_;cases g7:Ff 1 l[k].state 3
  ·refine go ?_;refine ret () trivial ?_;rw [bad (by rw [hck,show M0 base l[k]=false by unfold M0;simp [g7]];rfl)];rfl
  refine go ?_;refine ce (fun w s=>Kg _ _ _ _) ?_;cases g8:Ff 0 l[k].Cg 10007
  ·refine go ?_;refine ret () trivial ?_;rw [bad (by rw [hck,show M0 base l[k]=false by unfold M0;simp [g8]];rfl)];rfl
  refine go ?_;refine ce (fun w s=>Kg _ _ _ _) ?_;cases g9:Ff 0 l[k].Ds 3
  ·refine go ?_;refine ret () trivial ?_;rw [bad (by rw [hck,show M0 base l[k]=false by unfold M0;simp [g9]];rfl)];rfl
  refine go ?_;have g4:M0 base l[k]=true:=by unfold M0;rw [g5,g7,g8,g9,av EV];rfl
  by_cases hk0:0 < k
  ·obtain ⟨hk4,p5⟩:=p4 hk0;obtain ⟨p0,p1⟩:=A4.1 p5.n;rw [<-e];refine Ig (xs:=l) (k - 1) ?_;rintro hi5 b5 o5 e5;rw [e5];refine Ar [1,0] [] ?_;refine Dg 0 1 ?_;rw [av (show (0:Int) < k by omega)];refine dt 2 ?_;refine Dd 3 ?_;refine Dd 4 ?_;refine Dd 5 ?_;refine Dd 6 ?_;rw [show (k:Int) - 1=((k - 1:Nat):Int) by omega];refine Dd 7 ?_;refine Dd 8 ?_;refine Dd 9 ?_;refine Dd 11 ?_;refine Dd 12 ?_;refine Dd 13 ?_;refine d1g 10 ?_;apply On.h;refine oC ?_;refine ce (fun w s=>Jm _ _ _ EV EV) ?_;refine dk ?_;refine d1g 14 ?_;apply On.h;refine oC ?_
   refine ce (fun w s=>Jm _ _ _ EV EV) ?_;refine dk ?_;refine Dd 15 ?_;refine dt 16 ?_;refine dd ?_;refine go ?_;refine A1 rfl (fun h6=>?_) (fun h6=>?_)
   ·exact BS
   ·refine go ?_;refine Cb (k+1) ⟨EV,fun j hj=>?_⟩ EV;rcases ba (bA.1 hj) with h|rfl
    ·exact hk2 j h
    ·rw [hck,g4,ay h6];simp
  ·have hz:k=0:=EV
   refine Ar [0] [] ?_;refine Dg 0 1 ?_;rw [ay (show ¬(0:Int) < k by omega)];refine dt 2 ?_;refine ds 3 ?_;refine ds 4 ?_;refine ds 5 ?_;refine ds 6 ?_;refine ds 7 ?_;refine ds 8 ?_;refine ds 9 ?_;refine ds 10 ?_;refine ds 11 ?_;refine ds 12 ?_;refine ds 13 ?_;refine ds 14 ?_;refine ds 15 ?_;refine dt 16 ?_;refine dd ?_;refine go ?_;refine Cb (k+1) ⟨EV,fun j hj=>?_⟩ EV;rcases ba (bA.1 hj) with h|rfl
   ·exact hk2 j h
   ·rw [hck,g4,av hz];simp
 have hkl:k=l.length:=EV
 refine go ?_;refine ret () trivial ?_;rw [Amb g1 EV (hkl▸hk2)];rfl
theorem Aly (fid:FuncId) (bd caps:am) (A:List Pc) (hA:A.all (fun p=>!p.mu)=true) (xs:List Az) (a:aj) (c:Nat) (F:aq) (p:Az->Bool) (hb:Q2 prog fid=true) (hl:xs.length<=1000000000)
  (hp:∀x∈xs,∀w,Od A w->Calls prog fid (bd++[(.agg #[aa (x).Ae,aa (x).state,aa (x).Cg,aa (x).Ds]:Value)]++caps).toArray w (RB (.bool (p x)) w)) :
  Fn prog 286 [ab a xs.length c,.func (.func fid) bd.toArray caps.toArray] (.sl Ay (ab a xs.length c) xs F::A) [] (fun (_:Unit)=>True) (fun _=>aa (Rl p xs)) (fun _=>[]):=by
 refine enter func286 rfl ntmps286 (fun w0=>?_) rfl FR .nil;refine go ?_;refine Dk [0,1,4,7] (fun k:Nat=>[(8,aa (k:Nat))]) (fun k=>k<=xs.length/\∀j (_:j < k) (hj:j < xs.length),p xs[j]=false) (fun k=>xs.length - k) 0 ⟨aE _,fun j h=>by omega⟩ fun k hk=>?_;obtain ⟨hk1,hk2⟩:=hk;refine go ?_;refine A1 rfl (fun h5=>?_) (fun h5=>?_)
 ·have hh:k < xs.length:=EV
  refine go ?_;refine Ig (xs:=xs) k ?_;rintro hi b o e;rw [e];refine go ?_;apply wO;refine Abd rfl rfl hb Vi ?_;refine cb (fun w st=>hp xs[k] (aB hh) w (fun q hq=>st.on q FX)) ?_;cases hpk:p xs[k]
  ·refine go ?_;refine V8 ?_;refine Cb (hH:=Li _) (k+1) ⟨hh,fun j hj h=>?_⟩ EV;rcases ba (bA.1 hj) with h2|rfl
   ·exact hk2 j h2 h
   ·exact hpk
  ·refine go ?_;refine ret () trivial ?_;rw [Ok hh hk2 hpk];rfl
 ·obtain rfl:k=xs.length:=EV
  exact BT
structure Avw where
 i:Nat
 j:Nat
 zs:List Az
theorem Alx (fid:FuncId) (bd caps:am) (A:List Pc) (hA:A.all (fun p=>!p.mu)=true) (xs:List Az) (a:aj) (c:Nat) (F:aq) (p:Az->Bool) (hb:Q2 prog fid=true) (hl:xs.length<=1000000000)
  (hp:∀x∈xs,∀w,Od A w->Calls prog fid (bd++[(.agg #[aa (x).Ae,aa (x).state,aa (x).Cg,aa (x).Ds]:Value)]++caps).toArray w (RB (.bool (p x)) w)) :
  Fn prog 346 [ab a xs.length c,.func (.func fid) bd.toArray caps.toArray] A [.ow Ay 231 (ab a xs.length c) xs F] (fun (_:aj × Nat × aq)=>True)
   (fun z=>.slice z.1 (xs.filter fun x=>!p x).length z.2.1) (fun z=>[.ow Ay 231 (.slice z.1 (xs.filter fun x=>!p x).length z.2.1) (xs.filter fun x=>!p x) z.2.2]):=by
 refine enter func346 rfl ntmps346 (fun w0=>?_) rfl FR (.cons .nil);refine go ?_;refine cb (fun w st=>by
  obtain ⟨Fw, -,hw⟩:=(st.get (p:=.ow Ay 231 (ab a xs.length c) xs F) EX).2.read;refine (Aly fid bd caps A hA xs a c Fw p hb hl hp).val w ?_ FR;intro q hq;rcases aG.1 hq with rfl|hq
  ·exact ⟨EW,hw⟩
  ·exact st.on q FX) ?_
 by_cases hany:xs.any p=true
 ·obtain ⟨i0,hi0,hfx,hpi,hfl⟩:=Ym hany;rw [hfx];refine Alj (xs:=xs) D0 (by rintro rfl;simp at hi0) ?_;rintro g rfl rfl - hc1 hc2;refine go ?_;refine Ca [0,1,4] (fun s:Avw=>[(5,aa (s.i:Nat)),(6,aa (s.j:Nat))]) (fun s=>[.ow Ay 231 (ab (some ⟨g,0,none⟩) xs.length c) s.zs [g]]) (fun s=>s.zs.length=xs.length/\s.j<=xs.length/\s.i < s.j/\s.zs.take s.i=(xs.take s.j).filter (fun x=>!p x)/\s.zs.drop s.j=xs.drop s.j) (fun s=>xs.length - s.j) ⟨i0,i0+1,xs⟩ ⟨rfl,hi0,Nat.lt_succ_self _,by rw [C9 hi0 (by simp [hpi]),hfl],rfl⟩ fun s hs=>?_;obtain ⟨i,j,zs⟩:=s;obtain ⟨h1,h2,h3,h4,h5⟩:=hs
  dsimp only at h1 h2 h3 h4 h5 ⊢;refine go ?_;refine A1 rfl (fun h6=>?_) (fun h6=>?_)
  ·have hj:j < xs.length:=EV
   have hjz:j < zs.length:=EV
   have hx:zs[j]=xs[j]:=by
    have a1:=bP hjz;have a2:=bP hj;rw [h5,a2] at a1;exact (List.cons.inj a1).1.symm
   have hdz:zs.drop (j+1)=xs.drop (j+1):=by
    rw [<-cw,h5,cw]
   refine go ?_;refine Rm (m:=4) D0 j ?_ EZ rfl hjz;rintro _ g2 A2 cs2 B2 e1 e2 hc3 hh;cases e1;obtain ⟨rfl, -⟩:=hc3 w0;refine go ?_;intros;refine P5 zs[j] hh hc3 ?_;rw [bv,hx];apply wO;refine Abd rfl rfl hb Vi ?_;refine cb (fun w st=>hp xs[j] (aB hj) w (fun q hq=>st.on q FX)) ?_;cases hpj:p xs[j]
   ·refine go ?_;refine Rm (m:=4) D0 i ?_ EZ rfl EV;rintro _ g3 A3 cs3 B3 e1 e2 hc4 hh3;cases e1;obtain ⟨rfl, -⟩:=hc4 w0;refine go ?_;refine P5 xs[j] hh3 (fun w=>⟨rfl,rfl⟩) ?_;refine Cb (hH:=.cons .here (Acj _)) (⟨i+1,j+1,zs.set i xs[j]⟩:Avw) ⟨by simp [h1],hj,Nat.succ_lt_succ h3,?_,?_⟩ HQ
    ·dsimp only;rw [Gw hj (by simp [hpj]),<-h4,cy,ew EV,gv (aK _)];rfl
    ·dsimp only;rw [gy EV,hdz]
   ·refine go ?_;refine Cb (hH:=.cons .here (Acj _)) (⟨i,j+1,zs⟩:Avw) ⟨h1,hj,Nat.lt_succ_of_lt h3,?_,hdz⟩ HQ;dsimp only;rw [C9 hj (by simp [hpj]),h4]
  ·obtain rfl:j=xs.length:=EV
   have h4':zs.take i=xs.filter fun x=>!p x:=by rw [h4,bm]
   have hil:(xs.filter fun x=>!p x).length=i:=by rw [<-h4',aO];omega
   refine go ?_;apply wO;apply oc;rfl;exact Kx (i:=i) rfl rfl rfl EV EV EV;refine go ?_;apply wO;refine Art (z0:=⟨0,0,0,0⟩) (n:=xs.length) (cp:=c) (i:=i) (g:=g) D0 (fun w=>⟨rfl,rfl⟩) EW rfl rfl h3 h1.symm EZ ?_;refine go ?_;refine Alm (xs:=zs.take i++List.replicate (xs.length - i) ⟨0,0,0,0⟩) i (fun F2=>?_) (by rw [aA,aO,bw];omega);rw [bS GA,h4'];apply wO;apply oc;rfl;exact O8 (i:=i) rfl rfl rfl EV EV
   refine go ?_;subst hil;refine ret (_,c,F2) trivial rfl
 ·obtain ⟨hfx,hfl⟩:=Aa2 hany;rw [hfx,hfl];refine go ?_;refine ret (a,c,F) trivial rfl
theorem Avt (fid:FuncId) (bd caps:am) (A:List Pc) (hA:A.all (fun p=>!p.mu)=true) (xs:List Az) (a:aj) (c:Nat) (F:aq) (p:Az->Bool) (hb:Q2 prog fid=true) (hl:xs.length<=1000000000)
  (hp:∀x∈xs,∀w,Od A w->Calls prog fid (bd++[(.agg #[aa (x).Ae,aa (x).state,aa (x).Cg,aa (x).Ds]:Value)]++caps).toArray w (RB (.bool (p x)) w)) :
  Fn prog 227 [ab a xs.length c,.func (.func fid) bd.toArray caps.toArray] (.sl Ay (ab a xs.length c) xs F::A) [] (fun (_:Unit)=>True) (fun _=>.bool (xs.any p)) (fun _=>[]):=by
 refine enter func227 rfl ntmps227 (fun w0=>?_) rfl FR .nil;refine go ?_;refine cb (fun w st=>(Aly fid bd caps A hA xs a c F p hb hl hp).val w (fun q hq=>st.on q (by simpa using hq)) FR) ?_;refine go ?_;refine ret () trivial ?_;rw [S8];rfl
theorem Bcl (x:Aj) (r:Az) (g:Nat) (b:Bool) (ck:Int) (q:Value) (a1:aj) (c1:Nat) (F:aq) (h0:0<=x.next) (h1:x.next<=65535) (n0:0<=r.Ae) (n1:r.Ae<=65535):FV 228 [.agg #[aa r.Ae,aa r.state,aa r.Cg,aa r.Ds],Gc g 0 0] [.cel g 0 [.bool b,aa ck,aa x.next,ab a1 x.Ao.length c1,q],.isv Br (.agg #[aa x.next,ab a1 x.Ao.length c1]) x F] (.bool (I2 x r.Ae)):=by
 refine enter func228 rfl ntmps228 fun w0=>?_;refine go ?_;intros;refine Be (Aaq x r.Ae _ F h0 h1 n0 n1) fun _ _=>?_;exact AA
theorem Ts (x:A9) (v:Value) (F:aq):FV 155 [v] [.isv Bz v x F] (.bool (By x)):=by
 refine enter func155 rfl ntmps155 fun w0=>?_;refine Fj ?_;rintro a1 c1 F1 a2 c2 F2 rfl l1 l2;unfold maxLen at l1 l2;refine Ce x.Aa ?_;generalize F1=F3;refine go ?_;intros;refine ce (fun w s=>So _ _) ?_;cases g1:Kt x.Ai
 ·refine go ?_;refine ret () trivial ?_;simp [By,g1,Tp]
 refine go ?_;cases hs:x.Bd
 ·have nog:O2 x=false->By x=false:=fun h=>by unfold By;rw [g1,hs];simpa using h
  refine go ?_;refine Dc rfl rfl (fun h1=>?_) (fun h1=>?_)
  rotate_left
  ·refine go ?_;refine ret () trivial ?_;rw [nog (by unfold O2;rw [ay h1];rfl)];rfl
  refine go ?_;refine Dc rfl rfl (fun h2=>?_) (fun h2=>?_)
  rotate_left
  ·refine go ?_;refine ret () trivial ?_;rw [nog (by unfold O2;rw [ay (show ¬x.Aa.Ao.length=0 by omega)];simp)];rfl
  exact DF
 rename_i g;refine Alk (cs:=[.bool true,aa x.Ai,aa x.Aa.next,ab a1 x.Aa.Ao.length c1,ab a2 x.An.length c2]) ?_ EX;refine go ?_;refine Be (Av6 x.Aa _ F3) fun _ _=>?_;cases g2:Cy x.Aa
 ·refine go ?_;refine ret () trivial ?_;simp [By,g1,g2,hs,Tp]
 obtain ⟨w0_,w1_⟩:=Ij g2;refine go ?_;refine Be (Qt x.An x.Aa.next _ F2) fun _ _=>?_;cases g3:Mc x.An x.Aa.next
 ·refine go ?_;refine ret () trivial ?_;simp [By,g1,g2,g3,hs,Tp]
 obtain ⟨-,q1,q2, -⟩:=Di.1 g3;refine go ?_;refine cb (fun w st=>(Avt 228 [] [Gc g 0 0] [.cel g 0 [.bool true,aa x.Ai,aa x.Aa.next,ab a1 x.Aa.Ao.length c1,ab a2 x.An.length c2],.isv Br (.agg #[aa x.Aa.next,ab a1 x.Aa.Ao.length c1]) x.Aa F3] rfl x.An a2 c2 F2 (fun z=>I2 x.Aa z.Ae) EY EV (fun z hz w hA=>by
  obtain ⟨n0,n1⟩:=A4.1 (Et.1 (q2 z hz)).n;exact (Bcl x.Aa z g true x.Ai _ a1 c1 F3 w0_ w1_ n0 n1).val w hA)).val w (fun q hq=>by
   simp only [aG,aT,bl] at hq;rcases hq with rfl|rfl|rfl <;> exact st.get FA)) ?_
 refine go ?_;refine ret () trivial ?_;rw [show By x = !(x.An.any fun z=>I2 x.Aa z.Ae) by unfold By Aix;rw [g1,g2,g3,hs,eh];simp];rfl
theorem Aw9 {x:A9} {k:Nat} (h:k < x.An.length) (hh:I2 x.Aa x.An[k].Ae=true):Aix x=false:=cP.2 ⟨_,aB h,by simp [hh]⟩
theorem Axd {w:Aj} {n:Int} (hw:Cy w=true) (hn:B8 n=true) (h8:gp w.next n < 8):(To n w.next || I2 w n)=I2 w n:=by
 obtain ⟨w0,w1⟩:=Ij hw;obtain ⟨n0,n1⟩:=A4.1 hn;have:To n w.next=false:=by
  have:¬(1<=gp n w.next/\gp n w.next<=32767):=by unfold gp at *;omega
  unfold To Ff;exact ET
 rw [this];rfl
theorem Ai8 (x:A9) (v:Value) (F:aq):FV 206 [v] [.isv Bz v x F] (.bool (By x)):=by
 refine enter func206 rfl ntmps206 fun w0=>?_;refine Fj ?_;rintro a1 c1 F1 a2 c2 F2 rfl l1 l2;unfold maxLen at l1 l2;refine Ce x.Aa ?_;generalize F1=F3;refine go ?_;intros;refine ce (fun w s=>Z6 _ _) ?_;cases g1:Kt x.Ai
 ·refine go ?_;refine ret () trivial ?_;simp [By,g1,Tp]
 refine go ?_;refine Be (Atr x.Aa _ F3) fun _ _=>?_;cases g2:Cy x.Aa
 ·refine go ?_;refine ret () trivial ?_;cases hg:By x
  ·rfl
  ·rw [(Ej.1 hg).w] at g2;cases g2
 obtain ⟨w0_,w1_⟩:=Ij g2;refine go ?_;refine Be (Aty x.An x.Aa.next _ F2) fun _ _=>?_;cases g3:Mc x.An x.Aa.next
 ·refine go ?_;refine ret () trivial ?_;cases hg:By x
  ·rfl
  ·rw [(Ej.1 hg).q] at g3;cases g3
 obtain ⟨-,q1,q2, -⟩:=Di.1 g3;refine go ?_;cases hs:x.Bd
 ·have nog:O2 x=false->By x=false:=fun h=>by unfold By;rw [g1,hs];simpa using h
  refine go ?_;refine Dc rfl rfl (fun h1=>?_) (fun h1=>?_)
  rotate_left
  ·refine go ?_;refine ret () trivial ?_;rw [nog (by unfold O2;rw [ay h1];rfl)];rfl
  refine go ?_;refine Dc rfl rfl (fun h2=>?_) (fun h2=>?_)
  rotate_left
  ·refine go ?_;refine ret () trivial ?_;rw [nog (by unfold O2;rw [ay (show ¬x.Aa.Ao.length=0 by omega)];simp)];rfl
  exact DF
 refine go ?_;refine Dk [1,2] (fun k:Nat=>[(3,aa (k:Nat))]) (fun k=>k<=x.An.length/\∀j (_:j < k) (h:j < x.An.length),I2 x.Aa x.An[j].Ae=false) (fun k=>x.An.length - k) 0 ⟨aE _,fun j h=>by omega⟩ fun k hk=>?_;obtain ⟨hk1,hk2⟩:=hk;refine go ?_;refine A1 rfl (fun h3=>?_) (fun h3=>?_)
 ·have hk3:k < x.An.length:=EV
  have hq:=Et.1 (q2 _ (aB hk3));obtain ⟨n0,n1⟩:=A4.1 hq.n;refine Ig (xs:=x.An) k ?_;rintro hi b o e;rw [e];refine go ?_;refine Ar [0,1] [] ?_;refine C8 0 1 2 3 ?_;refine C8 4 5 6 7 ?_;refine dN 8 ?_;refine oC ?_;refine Be (Acn x.Aa x.An[k].Ae _ F3 w0_ w1_ n0 n1) fun _ _=>?_;refine dk ?_;refine dd ?_;rw [show Gs x.Aa x.An[k].Ae=I2 x.Aa x.An[k].Ae from Axd g2 hq.n hq.g];cases g5:I2 x.Aa x.An[k].Ae
  ·refine go ?_;refine Cb (k+1) ⟨EV,fun j hj h=>?_⟩ EV;rcases ba (bA.1 hj) with h'|rfl
   ·exact hk2 j h' h
   ·exact g5
  ·refine go ?_;refine ret () trivial ?_;rw [show By x=false by unfold By;rw [g1,g2,g3,hs,Aw9 hk3 g5];rfl];rfl
 have hkl:k=x.An.length:=EV
 refine go ?_;refine ret () trivial ?_;rw [show By x=true by
  unfold By Aix;rw [g1,g2,g3,hs,aV.2 fun z hz=>?_];rfl;obtain ⟨i,hi,rfl⟩:=bi hz;rw [hk2 i EV hi];rfl];rfl
theorem Il {α β:Type} {f:α->Option β} {l:List α} {k:Nat} (h:k < l.length):(l.take (k+1)).filterMap f=(l.take k).filterMap f++(f l[k]).toList:=by
 rw [cy,aD h,List.filterMap_append];cases hf:f l[k] <;> simp [hf]
theorem Acd {α β:Type} (f:α->Option β) (l:List α) (k:Nat):((l.take k).filterMap f).length<=k:=by
 have:=cV f (l.take k);rw [aO] at this;omega
structure TkS where
 k:Nat
 a:aj
 c:Nat
 F:aq
 a2:aj
 c2:Nat
 F2:aq
 a3:aj
 c3:Nat
 F3:aq
theorem Ahk (l:List Az) (c d:Int) (a0:aj) (c0:Nat) (F:aq) (hl:l.length<=1000000) (ht:∀r∈l,0<=r.Ds/\r.Ds<=3) (c0_:0<=c) (c1_:c<=1000000) (d0_:-1000000<=d) (d1_:d<=1000000) :
  Fn prog 312 [ab a0 l.length c0,aa c,aa d] [.sl Ay (ab a0 l.length c0) l F] [] (fun (_:TkS)=>True) (fun s=>.tuple #[.slice s.a (l.filterMap (Tz c d)).length s.c,.slice s.a2 (l.filterMap (Qa c)).length s.c2,.slice s.a3 (l.filterMap (Ua c)).length s.c3]) (fun s=>[.ow Ay 231 (.slice s.a (l.filterMap (Tz c d)).length s.c) (l.filterMap (Tz c d)) s.F,.ow Bb 3 (.slice s.a2 (l.filterMap (Qa c)).length s.c2) (l.filterMap (Qa c)) s.F2,.ow Bb 3 (.slice s.a3 (l.filterMap (Ua c)).length s.c3) (l.filterMap (Ua c)) s.F3]):=by
 refine enter func312 rfl ntmps312 fun w0=>?_;refine go ?_;refine Cj Ay 231 ?_;refine Cj Bb 3 ?_;refine Cj Bb 3 ?_
 refine Ca [1,2,6,7,8,14,15] (fun s:TkS=>[(16,aa (s.k:Nat)),(9,.slice s.a ((l.take s.k).filterMap (Tz c d)).length s.c),(10,.slice s.a2 ((l.take s.k).filterMap (Qa c)).length s.c2),(11,.slice s.a3 ((l.take s.k).filterMap (Ua c)).length s.c3)]) (fun s=>[.ow Ay 231 (.slice s.a ((l.take s.k).filterMap (Tz c d)).length s.c) ((l.take s.k).filterMap (Tz c d)) s.F,.ow Bb 3 (.slice s.a2 ((l.take s.k).filterMap (Qa c)).length s.c2) ((l.take s.k).filterMap (Qa c)) s.F2,.ow Bb 3 (.slice s.a3 ((l.take s.k).filterMap (Ua c)).length s.c3) ((l.take s.k).filterMap (Ua c)) s.F3]) (fun s=>s.k<=l.length) (fun s=>l.length - s.k) ⟨0,_,_,_,_,_,_,_,_,_⟩ (aE _) fun s hs=>?_
 obtain ⟨k,a4,c4,F4,a5,c5,F5,a6,c6,F6⟩:=s;dsimp only at hs ⊢;have h1:=Acd (Tz c d) l k;have h2:=Acd (Qa c) l k;have h3:=Acd (Ua c) l k;refine go ?_;refine A1 rfl (fun h4=>?_) (fun h4=>?_)
 ·have hk:k < l.length:=EV
  obtain ⟨t0,t1⟩:=ht _ (aB hk);refine Ig (xs:=l) k ?_;rintro hi b o e;rw [e];refine go ?_;intros;refine A1 rfl (fun h5=>?_) (fun h5=>?_)
  ·have h5':c < l[k].Cg:=EV
   refine go ?_;intros;have eo:((l.take (k+1)).filterMap (Tz c d))=((l.take k).filterMap (Tz c d))++[l[k]]:=by rw [Il hk];simp [Tz,h5']
   have es:((l.take (k+1)).filterMap (Qa c))=((l.take k).filterMap (Qa c)):=by rw [Il hk];simp [Qa,h5']
   have el:((l.take (k+1)).filterMap (Ua c))=((l.take k).filterMap (Ua c)):=by rw [Il hk];simp [Ua,h5']
   apply wO;refine Np (ys:=[l[k]]) (Nq l[k]) Db fun a7 c7 F7=>?_;exact AD
  refine go ?_;refine A1 rfl (fun h6=>?_) (fun h6=>?_)
  ·refine go ?_;intros;have eo:((l.take (k+1)).filterMap (Tz c d))=((l.take k).filterMap (Tz c d)):=by rw [Il hk];simp [Tz,h5,h6]
   have es:((l.take (k+1)).filterMap (Qa c))=((l.take k).filterMap (Qa c)):=by rw [Il hk];simp [Qa,h5,h6]
   have el:((l.take (k+1)).filterMap (Ua c))=((l.take k).filterMap (Ua c))++[l[k].Ae]:=by rw [Il hk];simp [Ua,h5,h6]
   apply wO;refine Np (ys:=[l[k].Ae]) (Sc _) Da fun a8 c8 F8=>?_;exact AD
  refine go ?_;refine A1 rfl (fun h7=>?_) (fun h7=>?_)
  ·refine go ?_;intros;have eo:((l.take (k+1)).filterMap (Tz c d))=((l.take k).filterMap (Tz c d))++[(⟨l[k].Ae,2,c+3,l[k].Ds+1⟩:Az)]:=IL
   have es:((l.take (k+1)).filterMap (Qa c))=((l.take k).filterMap (Qa c))++[l[k].Ae]:=IM
   have el:((l.take (k+1)).filterMap (Ua c))=((l.take k).filterMap (Ua c)):=IK
   exact CH
  ·refine go ?_;intros;have eo:((l.take (k+1)).filterMap (Tz c d))=((l.take k).filterMap (Tz c d))++[(⟨l[k].Ae,1,c+d,l[k].Ds⟩:Az)]:=IL
   have es:((l.take (k+1)).filterMap (Qa c))=((l.take k).filterMap (Qa c)):=IM
   have el:((l.take (k+1)).filterMap (Ua c))=((l.take k).filterMap (Ua c)):=IK
   exact EH
 ·obtain rfl:k=l.length:=EV
  rw [bm];refine go ?_;refine ret ⟨0,_,_,_,_,_,_,_,_,_⟩ trivial rfl
theorem Atz (l:List Az) (c d:Int) (a0:aj) (c0:Nat) (F:aq) (hl:l.length<=1000000) (ht:∀r∈l,0<=r.Ds/\r.Ds<=3) (c0_:0<=c) (c1_:c<=1000000) (d0_:-1000000<=d) (d1_:d<=1000000) :
  Fn prog 289 [ab a0 l.length c0,aa c,aa d] [.sl Ay (ab a0 l.length c0) l F] [] (fun (_:TkS)=>True) (fun s=>.tuple #[.slice s.a (l.filterMap (Tz c d)).length s.c,.slice s.a2 (l.filterMap (Qa c)).length s.c2,.slice s.a3 (l.filterMap (Ua c)).length s.c3]) (fun s=>[.ow Ay 231 (.slice s.a (l.filterMap (Tz c d)).length s.c) (l.filterMap (Tz c d)) s.F,.ow Bb 3 (.slice s.a2 (l.filterMap (Qa c)).length s.c2) (l.filterMap (Qa c)) s.F2,.ow Bb 3 (.slice s.a3 (l.filterMap (Ua c)).length s.c3) (l.filterMap (Ua c)) s.F3]):=by
 refine enter func289 rfl ntmps289 fun w0=>?_;refine go ?_;intros;refine C1 Bb ?_;refine C1 Bb ?_;refine C1 Ay ?_
 refine Ca [0,1,2,6,7,8] (fun s:TkS=>[(12,aa (s.k:Nat)),(9,.slice s.a ((l.take s.k).filterMap (Tz c d)).length s.c),(10,.slice s.a2 ((l.take s.k).filterMap (Qa c)).length s.c2),(11,.slice s.a3 ((l.take s.k).filterMap (Ua c)).length s.c3)]) (fun s=>[.ow Ay 231 (.slice s.a ((l.take s.k).filterMap (Tz c d)).length s.c) ((l.take s.k).filterMap (Tz c d)) s.F,.ow Bb 3 (.slice s.a2 ((l.take s.k).filterMap (Qa c)).length s.c2) ((l.take s.k).filterMap (Qa c)) s.F2,.ow Bb 3 (.slice s.a3 ((l.take s.k).filterMap (Ua c)).length s.c3) ((l.take s.k).filterMap (Ua c)) s.F3]) (fun s=>s.k<=l.length) (fun s=>l.length - s.k) ⟨0,_,_,_,_,_,_,_,_,_⟩ (aE _) fun s hs=>?_
 obtain ⟨k,a4,c4,F4,a5,c5,F5,a6,c6,F6⟩:=s;dsimp only at hs ⊢;have h1:=Acd (Tz c d) l k;have h2:=Acd (Qa c) l k;have h3:=Acd (Ua c) l k;refine go ?_;refine A1 rfl (fun h4=>?_) (fun h4=>?_)
 ·have hk:k < l.length:=EV
  obtain ⟨t0,t1⟩:=ht _ (aB hk);refine Ig (xs:=l) k ?_;rintro hi b o e;rw [e];refine go ?_;intros;refine A1 rfl (fun h5=>?_) (fun h5=>?_)
  ·have h5':c < l[k].Cg:=EV
   refine go ?_;intros;have eo:((l.take (k+1)).filterMap (Tz c d))=((l.take k).filterMap (Tz c d))++[l[k]]:=by rw [Il hk];simp [Tz,h5']
   have es:((l.take (k+1)).filterMap (Qa c))=((l.take k).filterMap (Qa c)):=by rw [Il hk];simp [Qa,h5']
   have el:((l.take (k+1)).filterMap (Ua c))=((l.take k).filterMap (Ua c)):=by rw [Il hk];simp [Ua,h5']
   apply wO;refine Np (ys:=[l[k]]) (Nq l[k]) Db fun a7 c7 F7=>?_;exact AD
  refine go ?_;refine A1 rfl (fun h6=>?_) (fun h6=>?_)
  ·refine go ?_;intros;have eo:((l.take (k+1)).filterMap (Tz c d))=((l.take k).filterMap (Tz c d)):=by rw [Il hk];simp [Tz,h5,h6]
   have es:((l.take (k+1)).filterMap (Qa c))=((l.take k).filterMap (Qa c)):=by rw [Il hk];simp [Qa,h5,h6]
   have el:((l.take (k+1)).filterMap (Ua c))=((l.take k).filterMap (Ua c))++[l[k].Ae]:=by rw [Il hk];simp [Ua,h5,h6]
   apply wO;refine Np (ys:=[l[k].Ae]) (Sc _) Da fun a8 c8 F8=>?_;exact AD
  refine go ?_;refine A1 rfl (fun h7=>?_) (fun h7=>?_)
  ·refine go ?_;intros;have eo:((l.take (k+1)).filterMap (Tz c d))=((l.take k).filterMap (Tz c d))++[(⟨l[k].Ae,2,c+3,l[k].Ds+1⟩:Az)]:=IL
   have es:((l.take (k+1)).filterMap (Qa c))=((l.take k).filterMap (Qa c))++[l[k].Ae]:=IM
   have el:((l.take (k+1)).filterMap (Ua c))=((l.take k).filterMap (Ua c)):=IK
   exact CH
  ·refine go ?_;intros;have eo:((l.take (k+1)).filterMap (Tz c d))=((l.take k).filterMap (Tz c d))++[(⟨l[k].Ae,1,c+d,l[k].Ds⟩:Az)]:=IL
   have es:((l.take (k+1)).filterMap (Qa c))=((l.take k).filterMap (Qa c)):=IM
   have el:((l.take (k+1)).filterMap (Ua c))=((l.take k).filterMap (Ua c)):=IK
   exact EH
 ·obtain rfl:k=l.length:=EV
  rw [bm];refine go ?_;refine ret ⟨0,_,_,_,_,_,_,_,_,_⟩ trivial rfl
theorem Av9 (x:A9) (v:Value) (F:aq) (hl:x.Aa.Ao.length<=1000000000) (hl2:x.An.length<=1000000000):Fn prog 105 [v] [.isv Bz v x F] [] (fun (_:Value × aq)=>True) (fun s=>s.1) (fun s=>[.own B9 s.1 x s.2]):=by
 refine enter func105 rfl ntmps105 fun w0=>?_;refine Fj ?_;rintro a1 c1 F1 a2 c2 F2 rfl l1 l2;refine Ce x.Aa ?_;generalize F1=F3;refine go ?_;intros;refine Be (Ask x.Aa _ F3 EV) fun z _=>?_;refine go ?_;refine Be (Tr x.An a2 c2 F2 hl2) fun q _=>?_;refine go ?_;refine Kn x ?_;exact CD
theorem Bg4 (r:Az) (n:Int) (gb:Nat) (h0:B8 r.Ae=true) (h1:0<=n) (h2:n<=65535):FV 347 [.agg #[aa r.Ae,aa r.state,aa r.Cg,aa r.Ds],Gc gb 0 0] [.cel gb 0 [aa n]] (.bool (To r.Ae n)):=by
 obtain ⟨n0,n1⟩:=A4.1 h0;refine enter func347 rfl ntmps347 fun w0=>?_;refine go ?_;intros;refine ce (fun w s=>Ns _ _ _ EV EV EV EV) ?_;exact AA
theorem Aet (l:List Az) (n:Int) (a:aj) (c:Nat) (F:aq) (hl:l.length<=1000000000) (hs:∀q∈l,B8 q.Ae=true) (h1:0<=n) (h2:n<=65535):Fn prog 314 [ab a l.length c,aa n] [.sl Ay (ab a l.length c) l F] [] (fun (_:aj × Nat × aq)=>True) (fun z=>.slice z.1 (Zd l n).length z.2.1) (fun z=>[.ow Ay 231 (.slice z.1 (Zd l n).length z.2.1) (Zd l n) z.2.2]):=by
 refine enter func314 rfl ntmps314 fun w0=>?_;refine go ?_;intros;rename_i gb;refine Be (Tr l a c F hl) fun q _=>?_;refine Alk (cs:=[aa n]) ?_ EX;refine go ?_;refine Be (Alx 347 [] [Gc gb 0 0] [.cel gb 0 [aa n]] rfl l q.1 q.2.1 q.2.2 (fun z=>To z.Ae n) EY hl (fun z hz w hA=>(Bg4 z n gb (hs z hz) h1 h2).val w hA)) fun z _=>?_;refine go ?_;refine ret (z.1,z.2.1,z.2.2) trivial rfl
theorem Adf (r:A9) (d:Int):(Nl r d).length<=r.An.length:=cV _ _
theorem Ahl (r:A9):(C7 r).length<=r.An.length:=cV _ _
theorem Ahj {r:A9} {d:Int} (h:C7 r=[]):Cz r d=⟨r.Bd,r.Ai+1,r.Aa,Nl r d⟩:=aH h
theorem Add {r:A9} {d:Int} (h:C7 r≠[]):Cz r d=⟨r.Bd,r.Ai+1,Jf r.Aa (Dl (C7 r)),Zd (Nl r d) (Jf r.Aa (Dl (C7 r))).next⟩:=aC h
theorem Aoi {r:A9} (h:C7 r=[]):Hg r=[]:=aH h
theorem Aj6 {r:A9} (h:C7 r≠[]):Hg r=Je r.Aa (Dl (C7 r)):=aC h
theorem Ajg {l:ar} (h:l≠[]):Dl l=Cd (l[l.length - 1]'(by have:=cR.2 h;omega)) 1:=by
 unfold Dl;rw [fG,dS,aD (by have:=cR.2 h;omega)];rfl
theorem Ks {x:Aj} (hg:Cy x=true):x.Ao.length<=8/\∀s∈x.Ao,s.Dj.size<=8:=by
 have hg0:=hg;unfold Cy at hg;simp only [aw,aF] at hg;refine ⟨by have:=hg.1.1.2;omega,fun s hs=>?_⟩;have:=aV.1 hg.1.2 s hs;unfold Hc at this;simp only [aw] at this;exact Ut this.1
structure PkS where
 k:Nat
 a:aj
 c:Nat
 F:aq
structure TkR where
 a1:aj
 c1:Nat
 F1:aq
 a2:aj
 c2:Nat
 F2:aq
 a3:aj
 c3:Nat
 F3:aq
 a4:aj
 c4:Nat
 F4:aq
theorem Baw (r:A9) (d:Int) (g t o:Nat) (A B:am) (a1:aj) (c1:Nat) (F1:aq) (a2:aj) (c2:Nat) (F2:aq) (hg:Lz r) (d0:0<=d) (d1:d<=100) :
  Fn prog 261 [Gc g o 0,aa d] [] [.row g t o A [.bool r.Bd,aa r.Ai,aa r.Aa.next,ab a1 r.Aa.Ao.length c1,ab a2 r.An.length c2] B,.ow Cv 107 (ab a1 r.Aa.Ao.length c1) r.Aa.Ao F1,.ow Ay 231 (ab a2 r.An.length c2) r.An F2] (fun (_:TkR)=>True)
   (fun s=>.tuple #[.slice s.a3 (Fg r).length s.c3,.slice s.a4 (Hg r).length s.c4]) (fun s=>[.row g t o A [.bool (Cz r d).Bd,aa (Cz r d).Ai,aa (Cz r d).Aa.next,.slice s.a1 (Cz r d).Aa.Ao.length s.c1,.slice s.a2 (Cz r d).An.length s.c2] B,.ow Cv 107 (.slice s.a1 (Cz r d).Aa.Ao.length s.c1) (Cz r d).Aa.Ao s.F1,.ow Ay 231 (.slice s.a2 (Cz r d).An.length s.c2) (Cz r d).An s.F2,.ow Al 141 (.slice s.a3 (Fg r).length s.c3) (Fg r) s.F3,.ow A8 9 (.slice s.a4 (Hg r).length s.c4) (Hg r) s.F4]):=by
 have k0:=hg.k0;have k1:=hg.k1;obtain ⟨-,q1,q2, -⟩:=Di.1 hg.q;obtain ⟨w0_,w1_⟩:=Ij hg.w;obtain ⟨hw8,hit⟩:=Ks hg.w;have hpl:(r.An.filterMap (Qa (r.Ai+1))).length<=8:=bD (cV _ _) q1;refine enter func261 rfl ntmps261 fun w0=>?_;refine go ?_;refine Av (E:=Ay) fun F9=>?_;refine Ar [1] [] ?_;refine C8 0 1 2 3 ?_;refine C8 4 5 6 7 ?_;refine dt 8 ?_;refine dN 9 ?_;refine oC ?_;refine Be (Ahk r.An (r.Ai+1) d a2 c2 F9 EV (fun q hq=>⟨(Et.1 (q2 q hq)).t0,(Et.1 (q2 q hq)).t1⟩) EV EV EV EV) fun z _=>?_
 rw [show r.An.filterMap (Ua (r.Ai+1))=C7 r from rfl,show r.An.filterMap (Tz (r.Ai+1) d)=Nl r d from rfl];refine dk ?_;refine C8 10 11 12 13 ?_;refine Dg 14 15 ?_;refine dt 16 ?_;refine dd ?_;refine Av (E:=Bb) (xs:=r.An.filterMap (Qa (r.Ai+1))) fun G2=>?_;refine Av (E:=Bb) (xs:=C7 r) fun G3=>?_;refine Cj Al 141 ?_;refine go ?_
 refine Ca [0,4,5,6,9,44,45] (fun s:PkS=>[(46,aa (s.k:Nat)),(10,.slice s.a (((r.An.filterMap (Qa (r.Ai+1))).take s.k).map (pkR r.Aa.next)).length s.c)]) (fun s=>[.ow Al 141 (.slice s.a (((r.An.filterMap (Qa (r.Ai+1))).take s.k).map (pkR r.Aa.next)).length s.c) (((r.An.filterMap (Qa (r.Ai+1))).take s.k).map (pkR r.Aa.next)) s.F]) (fun s=>s.k<=(r.An.filterMap (Qa (r.Ai+1))).length) (fun s=>(r.An.filterMap (Qa (r.Ai+1))).length - s.k) ⟨0,_,_,_⟩ (aE _) fun s hs=>?_;obtain ⟨k,a4,c4,F4⟩:=s;dsimp only at hs ⊢;generalize hsn:r.An.filterMap (Qa (r.Ai+1))=sn at *;refine go ?_
 refine A1 rfl (fun h4=>?_) (fun h4=>?_)
 ·have hk:k < sn.length:=EV
  have hkl:((sn.take k).map (pkR r.Aa.next)).length<=k:=FB
  refine In (xs:=sn) k ?_;rintro hi b o2 e;rw [e];refine go ?_;intros;have eo:(sn.take (k+1)).map (pkR r.Aa.next)=(sn.take k).map (pkR r.Aa.next)++[pkR r.Aa.next sn[k]]:=by rw [cy,aD hk,bB];rfl
  apply wO;refine Np (ys:=[pkR r.Aa.next sn[k]]) (De (pkR r.Aa.next sn[k]) HA) Ho fun a7 c7 F7=>?_;exact DU
 have hk:k=sn.length:=EV
 subst hk;rw [bm];have ep:Fg r=sn.map (pkR r.Aa.next):=by unfold Fg;rw [hsn]
 rw [ep];refine go ?_;by_cases hL:C7 r=[]
 ·refine A1 rfl (fun _=>?_) (fun h=>absurd (show ((C7 r).length:Int)=0 by rw [hL];rfl) h);rw [Ahj hL,Aoi hL];refine Cj A8 9 ?_;refine go ?_;refine ret ⟨_,_,_,_,_,_,_,_,_,_,_,_⟩ trivial rfl
 ·have hl0:=cR.2 hL;refine A1 rfl (fun h=>absurd h EV) (fun _=>?_);rw [Add hL,Aj6 hL];obtain ⟨hs8,hsr⟩:=Aey hg hL;have hll8:=Ahl r;obtain ⟨hs0,hs1⟩:=A4.1 hsr;have hll:=Ajg hL;obtain ⟨l0,l1⟩:=A4.1 (Ade hg (aB (show (C7 r).length - 1 < (C7 r).length by omega))).1;have hi1:((C7 r).length:Int) - 1=(((C7 r).length - 1:Nat):Int):=EV
  refine In (xs:=C7 r) ((C7 r).length - 1) ?_;rintro hi b o2 e;rw [e];refine Ar7 [.bool r.Bd,aa (r.Ai+1)] [aa r.Aa.next,ab a1 r.Aa.Ao.length c1] [.slice z.a (Nl r d).length z.c] ?_;refine go ?_;refine Ar [1] [] ?_;refine C8 0 1 2 3 ?_;refine Dg 4 5 ?_;refine dt 6 ?_;rw [hi1];refine Dg 7 8 ?_;refine dN 9 ?_;refine oC ?_;refine ce (fun w s=>Rv _ _ _ EV EV) ?_;rw [<-hll];refine dk ?_;refine dN 10 ?_;refine oC ?_;refine Be (Al1 r.Aa (Dl (C7 r)) g t (o+2) (A++[.bool r.Bd,aa (r.Ai+1)]) _ a1 c1 F1 w0_ w1_ hs0 hs1 hw8 hit) fun y hy=>?_;refine dk ?_
  refine dt 11 ?_;refine dd ?_;obtain ⟨hy1,hy2⟩:=hy;have hmv:=Uy (t:=Dl (C7 r)) hg.w;have hm0:0<=y.y.next:=by rw [hy1];show 0<=(Jf r.Aa (Dl (C7 r))).next;rw [hmv.1];exact (Jb _ _).1
  have hm1:y.y.next<=65535:=by rw [hy1];show (Jf r.Aa (Dl (C7 r))).next<=65535;rw [hmv.1];exact (Jb _ _).2
  refine Ahg [.bool r.Bd,aa (r.Ai+1)] [aa y.y.next,ab y.a y.y.Ao.length y.c] [.slice z.a (Nl r d).length z.c] ?_;refine Av (E:=Ay) (xs:=Nl r d) fun F8=>?_;refine go ?_;refine Ar [1] [13] ?_;refine C8 0 1 2 3 ?_;refine C8 4 5 6 7 ?_;refine Dg 8 9 ?_;refine dN 10 ?_;refine oC ?_;refine Be (Aet (Nl r d) y.y.next z.a z.c F8 (by have:=Adf r d;omega) (fun q hq=>(Abs hg hq).1) hm0 hm1) fun u _=>?_;refine dk ?_;refine Dg 11 12 ?_;refine dN 13 ?_;refine oS ?_;refine N2 ?_;refine dd ?_;refine go ?_
  rw [show Jf r.Aa (Dl (C7 r))=y.y from hy1.symm,show Je r.Aa (Dl (C7 r))=y.es from hy2.symm];refine ret ⟨_,_,_,_,_,_,_,_,_,_,_,_⟩ trivial rfl
section
variable {c:Cx} {fr:Fr} {H:List Pc} {Φ:Gl}
theorem Pw {v:Value} {x:Q0} {F:aq} (h:∀(a1:aj) (c1:Nat) (F1:aq),v=.agg #[ab a1 x.Ad.length c1]->x.Ad.length<=maxLen->T c fr (.sl Bb (ab a1 x.Ad.length c1) x.Ad F1::H) Φ) (hm:.isv Wh v x F∈H:=by exact Bn):T c fr H Φ:=.mk fun a w s g=>by
 exact AI
theorem Jw (x:Q0) {a1:aj} {c1:Nat} {F1:aq}  (h:T c fr (.isv Wh (.agg #[ab a1 x.Ad.length c1]) x (F1)::H) Φ) (m1:.sl Bb (ab a1 x.Ad.length c1) x.Ad F1∈H:=by exact Bn):T c fr H Φ:=.mk fun a w s g=>by
 exact AE
end
structure Pl (n:Dt):Prop where
 t:n.Ap.Ad.length<=1048576
 i:n.Ab.Aa.Ak.length<=1048576
 h:n.Ab.holds.length<=1048576
 e:n.Af.length<=1048576
 e1:∀x∈n.Af,x.Ah.length<=1048576
 e2:∀x∈n.Af,∀y∈x.Ah,y.Bg.length<=1048576
 rl:n.Ac.length<=1048576
 r:∀x∈n.Ac,x.Aa.Ao.length<=1048576/\x.An.length<=1048576
 d:n.down.length<=1048576
 dq:∀q∈n.down,q.length<=1048576
 u:n.up.length<=1048576
 uq:∀q∈n.up,q.length<=1048576
structure ClN where
 g:Nat
 a1:aj
 c1:Nat
 F1:aq
 a2:aj
 c2:Nat
 F2:aq
 a3:aj
 c3:Nat
 F3:aq
 g6:Nat
 F6:aq
 g7:Nat
 F7:aq
structure NV where
 a1:aj
 c1:Nat
 F1:aq
 a2:aj
 c2:Nat
 F2:aq
 a3:aj
 c3:Nat
 F3:aq
 a4:aj
 c4:Nat
 F4:aq
 a5:aj
 c5:Nat
 F5:aq
 a6:aj
 c6:Nat
 F6:aq
 a7:aj
 c7:Nat
 F7:aq
structure KA where
 k:Nat
 a:aj
 c:Nat
 F:aq
theorem Al0 (n:Dt) (v:Value) (F:aq) (hs:Pl n):Fn prog 55 [v] [.isv Oi v n F] [] (fun (_:NV)=>True) (fun z=>.agg #[ab z.a1 n.Ap.Ad.length z.c1,aa n.Ab.Aa.Am,aa n.Ab.Aa.size,ab z.a2 n.Ab.Aa.Ak.length z.c2,aa n.Ab.Ai,aa n.Ab.quiet,ab z.a3 n.Ab.holds.length z.c3,ab z.a4 n.Af.length z.c4,ab z.a5 n.Ac.length z.c5,ab z.a6 n.down.length z.c6,ab z.a7 n.up.length z.c7]) (fun z=>[.ow Bb 3 (ab z.a1 n.Ap.Ad.length z.c1) n.Ap.Ad z.F1,.ow A8 9 (ab z.a2 n.Ab.Aa.Ak.length z.c2) n.Ab.Aa.Ak z.F2,.ow Bx 191 (ab z.a3 n.Ab.holds.length z.c3) n.Ab.holds z.F3,.ow Ch 122 (ab z.a4 n.Af.length z.c4) n.Af z.F4,.ow B9 76 (ab z.a5 n.Ac.length z.c5) n.Ac z.F5,.ow (Kl Al 141) 125 (ab z.a6 n.down.length z.c6) n.down z.F6,.ow (Kl Al 141) 125 (ab z.a7 n.up.length z.c7) n.up z.F7]):=by
 refine enter func55 rfl ntmps55 fun w0=>?_;refine Fb ?_;rintro a1 c1 F1 a2 c2 F2 a3 c3 F3 a4 c4 F4 a5 c5 F5 a6 c6 F6 a7 c7 F7 rfl l1 l2 l3 l4 l5 l6 l7;refine En n.Ab ?_;refine go ?_;intros
 refine Du [1,2] [0,1,6,7] (fun z:ClN=>[(3,Gc z.g 0 0)]) (fun z=>[.row z.g 37 0 [] [ab z.a1 n.Ap.Ad.length z.c1,aa n.Ab.Aa.Am,aa n.Ab.Aa.size,ab z.a2 n.Ab.Aa.Ak.length z.c2,aa n.Ab.Ai,aa n.Ab.quiet,ab z.a3 n.Ab.holds.length z.c3,ab none 0 0,ab none 0 0,ab (some ⟨z.g6,0,none⟩) n.down.length n.down.length,ab (some ⟨z.g7,0,none⟩) n.up.length n.up.length] [],.ow Bb 3 (ab z.a1 n.Ap.Ad.length z.c1) n.Ap.Ad z.F1,.ow A8 9 (ab z.a2 n.Ab.Aa.Ak.length z.c2) n.Ab.Aa.Ak z.F2,.ow Bx 191 (ab z.a3 n.Ab.holds.length z.c3) n.Ab.holds z.F3,.ow (Kl Al 141) 125 (ab (some ⟨z.g6,0,none⟩) n.down.length n.down.length) n.down z.F6,.ow (Kl Al 141) 125 (ab (some ⟨z.g7,0,none⟩) n.up.length n.up.length) n.up z.F7]) (fun _=>True) ?_ fun z _=>?_
 ·refine Ar [1] [] ?_;refine C8 0 1 2 5 ?_;refine C8 6 8 9 11 ?_;refine dt 12 ?_;refine dM 3 15 ?_ ?_
  ·refine oC ?_;refine cn (fun w st=>Uc _ n.Ap.Ad F1 w (st.get (p:=.sl _ _ _ _) FA).2 (by have:=hs.t;omega)) fun b1 d1 G1=>?_;refine dk ?_;refine dt 4 ?_;refine dM 7 15 ?_ ?_
   ·refine oC ?_;refine Be (Aff n.Ab _ _ (by have:=hs.i;omega) (by have:=hs.h;omega)) fun s2 _=>?_;refine Xx (x:=n.Ab) ?_;rintro b2 d2 G2 b3 d3 G3 e2 - -;rw [e2];refine dk ?_;refine dM 10 15 ?_ ?_
    ·refine oC ?_;refine Be (Jl n.down _ _ F6 (by have:=hs.d;omega) (fun q hq=>by have:=hs.dq q hq;omega)) fun s6 _=>?_;refine dk ?_;refine dM 13 15 ?_ ?_
     ·refine oC ?_;refine Be (Jl n.up _ _ F7 (by have:=hs.u;omega) (fun q hq=>by have:=hs.uq q hq;omega)) fun s7 _=>?_;refine dk ?_;refine dt 14 ?_;refine dN 15 ?_;apply Ci;rfl;intro _;refine dk ?_;refine dN 16 ?_;refine oS ?_;refine dk ?_;refine dd ?_;refine Bh (⟨_,b1,d1,G1,b2,d2,G2,b3,d3,G3,_,_,_,_⟩:ClN) trivial
     ·apply Ci;rfl;intro _;refine dk ?_;refine dN 13 ?_;refine oC ?_;exact AP
    ·apply Ci;rfl;intro _;refine dk ?_;refine dN 10 ?_;refine oC ?_;refine Be (Jl n.down _ _ F6 (by have:=hs.d;omega) (fun q hq=>by have:=hs.dq q hq;omega)) fun s6 _=>?_;refine dk ?_;refine dN 13 ?_;refine oC ?_;exact AP
   ·apply Ci;rfl;intro _;refine dk ?_;refine dN 7 ?_;refine oC ?_;refine Be (Aff n.Ab _ _ (by have:=hs.i;omega) (by have:=hs.h;omega)) fun s2 _=>?_;refine Xx (x:=n.Ab) ?_;rintro b2 d2 G2 b3 d3 G3 e2 - -;rw [e2];refine dk ?_;refine dN 10 ?_;refine oC ?_;refine Be (Jl n.down _ _ F6 (by have:=hs.d;omega) (fun q hq=>by have:=hs.dq q hq;omega)) fun s6 _=>?_;refine dk ?_;refine dN 13 ?_;refine oC ?_;refine Be (Jl n.up _ _ F7 (by have:=hs.u;omega) (fun q hq=>by have:=hs.uq q hq;omega)) fun s7 _=>?_;refine dk ?_;refine dt 14 ?_;refine dN 16 ?_;refine oS ?_;refine dk ?_;refine dd ?_
    refine Bh (⟨_,b1,d1,G1,b2,d2,G2,b3,d3,G3,_,_,_,_⟩:ClN) trivial
  ·apply Ci;rfl;intro _;refine dk ?_;refine dN 3 ?_;refine oC ?_;refine cn (fun w st=>Uc _ n.Ap.Ad F1 w (st.get (p:=.sl _ _ _ _) FA).2 (by have:=hs.t;omega)) fun b1 d1 G1=>?_;refine dk ?_;refine dt 4 ?_;refine dN 7 ?_;refine oC ?_;refine Be (Aff n.Ab _ _ (by have:=hs.i;omega) (by have:=hs.h;omega)) fun s2 _=>?_;refine Xx (x:=n.Ab) ?_;rintro b2 d2 G2 b3 d3 G3 e2 - -;rw [e2];refine dk ?_;refine dN 10 ?_;refine oC ?_;refine Be (Jl n.down _ _ F6 (by have:=hs.d;omega) (fun q hq=>by have:=hs.dq q hq;omega)) fun s6 _=>?_;refine dk ?_;refine dN 13 ?_;refine oC ?_
   exact AP
 have he:=hs.e;have hr:=hs.rl;refine Cj Ch 122 ?_;refine go ?_
 refine Ca [1,2,3,24,25] (fun y:KA=>[(26,aa (y.k:Nat))]) (fun y=>[.row z.g 37 0 [] [ab z.a1 n.Ap.Ad.length z.c1,aa n.Ab.Aa.Am,aa n.Ab.Aa.size,ab z.a2 n.Ab.Aa.Ak.length z.c2,aa n.Ab.Ai,aa n.Ab.quiet,ab z.a3 n.Ab.holds.length z.c3,.slice y.a (n.Af.take y.k).length y.c,ab none 0 0,ab (some ⟨z.g6,0,none⟩) n.down.length n.down.length,ab (some ⟨z.g7,0,none⟩) n.up.length n.up.length] [],.ow Ch 122 (.slice y.a (n.Af.take y.k).length y.c) (n.Af.take y.k) y.F]) (fun y=>y.k<=n.Af.length) (fun y=>n.Af.length - y.k) ⟨0,none,0,[]⟩ (aE _) fun y hy=>?_
 refine go ?_;refine A1 rfl (fun h1=>?_) (fun h1=>?_)
 ·have hk:y.k < n.Af.length:=EV
  have htl:(n.Af.take y.k).length<=1048576:=GA
  refine N3 (xs:=n.Af) y.k ?_;rintro hi4 b4 o4 a8 c8 F8 e4 l8;rw [e4];refine Ex n.Af[y.k] ?_;refine go ?_;intros;refine Ar [0,4] [7] ?_;refine Dg 0 1 ?_;refine dt 2 ?_;refine dN 3 ?_;refine oC ?_;refine cv (fun w st=>Aeg _ n.Af[y.k] F8 w (st.get (p:=.isv _ _ _ _) FA) (by have:=hs.e1 _ (aB hk);omega) (fun x hx=>by have:=hs.e2 _ (aB hk) x hx;omega)) fun v9 F9=>?_;refine H8 (x:=n.Af[y.k]) ?_;rintro a9 c9 F10 rfl l9;refine Gt n.Af[y.k] ?_;refine dk ?_;refine dN 4 ?_;apply Iz;rfl;rfl;rfl;rfl;exact Ir;exact Io;intro _;refine dk ?_;refine dN 5 ?_
  refine Ab7 R7 n.Af[y.k] rfl fun a7 c7 F7=>?_;refine dk ?_;refine dt 6 ?_;refine dN 7 ?_;refine oS ?_;refine N2 ?_;refine dd ?_;rw [<-aR hk];refine go ?_;refine Cb ⟨y.k+1,a7,c7,F7⟩ hk (by show n.Af.length - (y.k+1) < n.Af.length - y.k;omega)
 rw [show n.Af.take y.k=n.Af from aW EV];obtain ⟨_,ea,ec,eF⟩:=y;dsimp only;refine Cj B9 76 ?_;refine go ?_
 refine Ca [2,3,39,40] (fun y:KA=>[(41,aa (y.k:Nat))]) (fun y=>[.row z.g 37 0 [] [ab z.a1 n.Ap.Ad.length z.c1,aa n.Ab.Aa.Am,aa n.Ab.Aa.size,ab z.a2 n.Ab.Aa.Ak.length z.c2,aa n.Ab.Ai,aa n.Ab.quiet,ab z.a3 n.Ab.holds.length z.c3,ab ea n.Af.length ec,.slice y.a (n.Ac.take y.k).length y.c,ab (some ⟨z.g6,0,none⟩) n.down.length n.down.length,ab (some ⟨z.g7,0,none⟩) n.up.length n.up.length] [],.ow B9 76 (.slice y.a (n.Ac.take y.k).length y.c) (n.Ac.take y.k) y.F]) (fun y=>y.k<=n.Ac.length) (fun y=>n.Ac.length - y.k) ⟨0,none,0,[]⟩ (aE _) fun y hy=>?_
 refine go ?_;refine A1 rfl (fun h2=>?_) (fun h2=>?_)
 ·have hk:y.k < n.Ac.length:=EV
  have htl:(n.Ac.take y.k).length<=1048576:=GA
  refine Jc (xs:=n.Ac) y.k ?_;rintro hi5 b5 o5 a8 c8 F8 a9 c9 F9 e5 l8 l9;rw [e5];refine Dy n.Ac[y.k] ?_;refine go ?_;intros;refine Ar [0,5] [7] ?_;refine Dg 0 1 ?_;refine dt 2 ?_;refine dN 3 ?_;refine oC ?_;refine Be (Av9 n.Ac[y.k] _ _ (by have:=(hs.r _ (aB hk)).1;omega) (by have:=(hs.r _ (aB hk)).2;omega)) fun s9 _=>?_;refine Is (x:=n.Ac[y.k]) ?_;rintro a9 c9 G9 a10 c10 G10 e9 l9 l10;rw [e9];refine Kn n.Ac[y.k] ?_;refine dk ?_;refine dN 4 ?_;apply Iz;rfl;rfl;rfl;rfl;exact Ir;exact Io;intro _;refine dk ?_;refine dN 5 ?_;refine Ab7 Qw n.Ac[y.k] rfl fun a7 c7 F7=>?_
  refine dk ?_;refine dt 6 ?_;refine dN 7 ?_;refine oS ?_;refine N2 ?_;refine dd ?_;rw [<-aR hk];refine go ?_;refine Cb ⟨y.k+1,a7,c7,F7⟩ hk (by show n.Ac.length - (y.k+1) < n.Ac.length - y.k;omega)
 rw [show n.Ac.take y.k=n.Ac from aW EV];refine go ?_;refine ret ⟨z.a1,z.c1,z.F1,z.a2,z.c2,z.F2,z.a3,z.c3,z.F3,ea,ec,eF,y.a,y.c,y.F,_,_,z.F6,_,_,z.F7⟩ trivial rfl
theorem Ps {v:Int} (h:0<=v):Lib.itoa v=Lib.decDigits v.natAbs:=by unfold Lib.itoa;rw [aC EV,show v.toNat=v.natAbs by omega]
theorem Bew (n:Int) (h0:0<=n) (h1:n<=999999) (w:World):Calls prog 33 #[aa n] w (RB (af (bz (Lib.itoa n))) w):=by
 have:=Bdo n.toNat EV w;rw [show ((n.toNat:Nat):Int)=n by omega,show n.toNat=n.natAbs by omega,<-Ps h0] at this;exact this
theorem Aim (i:Nat) (hi:i<=100):FV 262 [aa (i:Nat)] [] (aa (M5 i)):=by
 refine enter func262 rfl ntmps262 fun w0=>?_;exact AA
theorem Vp (i:Nat) (hi:i<=100):FV 239 [aa (i:Nat)] [] (aa (M5 i)):=by
 refine enter func239 rfl ntmps239 fun w0=>?_;exact AA
theorem Azx (i:Nat) (es:ai) (a:aj) (c:Nat) (F FT:aq) (hi:i<=100) (hl:es.length<=1000000) (hz:∀e∈es,e.size<=1000000):Fn prog 263 [aa (i:Nat),ab a es.length c] [.sl A8 (ab a es.length c) es F,Gk FT] [] (fun (_:KA)=>True) (fun z=>.slice z.a (T9 i es).length z.c) (fun z=>[.ow A8 9 (.slice z.a (T9 i es).length z.c) (T9 i es) z.F]):=by
 have hs0:(bz (Lib.itoa ((i:Nat):Int))).size<=6:=JF
 refine enter func263 rfl ntmps263 fun w0=>?_;refine Cj A8 9 ?_;refine go ?_;refine Ca [0,4,8,9] (fun z:KA=>[(5,.slice z.a ((es.take z.k).map (M2 i)).length z.c),(10,aa (z.k:Nat))]) (fun z=>[.ow A8 9 (.slice z.a ((es.take z.k).map (M2 i)).length z.c) ((es.take z.k).map (M2 i)) z.F]) (fun z=>z.k<=es.length) (fun z=>es.length - z.k) ⟨0,none,0,[]⟩ (aE _) fun z hz0=>?_;have hml:((es.take z.k).map (M2 i)).length=z.k:=by rw [bf,aO];omega
 refine go ?_;refine A1 rfl (fun h1=>?_) (fun h1=>?_)
 ·have hk:z.k < es.length:=EV
  have hse:=hz _ (aB hk);have z1:(⟨#[32]⟩:au).size=1:=rfl;have zs:(bz (Lib.itoa ((i:Nat):Int))++⟨#[32]⟩).size=_:=aQ;have zt:(bz (Lib.itoa ((i:Nat):Int))++⟨#[32]⟩++es[z.k]).size=_:=aQ;have hst:((es.take z.k).map (M2 i))++[M2 i es[z.k]]=(es.take (z.k+1)).map (M2 i):=by rw [aR hk,bB];rfl
  have hte:(M2 i es[z.k]).size<=1000010:=by unfold M2;omega
  refine Mg (xs:=es) z.k ?_;rintro hi b o e1 s1;rw [e1];refine go ?_;refine cb (fun w st=>Z3 ((i:Nat):Int) EV EV FT w (st.get (p:=Gk FT) FA)) ?_;refine Ih ?_;intros;apply wO;refine Np (ys:=[M2 i es[z.k]]) (Agv FC) Dz fun a9 c9 F9=>?_;rw [hst];refine go ?_;refine Cb ⟨z.k+1,a9,c9,F9⟩ hk (by show es.length - (z.k+1) < es.length - z.k;omega)
 ·rw [show es.take z.k=es from aW EV];exact CI
theorem Ajb (i:Nat) (es:ai) (a:aj) (c:Nat) (F FT:aq) (hi:i<=100) (hl:es.length<=1000000) (hz:∀e∈es,e.size<=1000000):Fn prog 240 [aa (i:Nat),ab a es.length c] [.sl A8 (ab a es.length c) es F,Gk FT] [] (fun (_:KA)=>True) (fun z=>.slice z.a (T9 i es).length z.c) (fun z=>[.ow A8 9 (.slice z.a (T9 i es).length z.c) (T9 i es) z.F]):=by
 have hs0:(bz (Lib.itoa ((i:Nat):Int))).size<=6:=JF
 refine enter func240 rfl ntmps240 fun w0=>?_;refine go ?_;intros;refine C1 A8 ?_;refine Ca [0,1,4] (fun z:KA=>[(5,.slice z.a ((es.take z.k).map (M2 i)).length z.c),(6,aa (z.k:Nat))]) (fun z=>[.ow A8 9 (.slice z.a ((es.take z.k).map (M2 i)).length z.c) ((es.take z.k).map (M2 i)) z.F]) (fun z=>z.k<=es.length) (fun z=>es.length - z.k) ⟨0,_,0,_⟩ (aE _) fun z hz0=>?_;have hml:((es.take z.k).map (M2 i)).length=z.k:=by rw [bf,aO];omega
 refine go ?_;refine A1 rfl (fun h1=>?_) (fun h1=>?_)
 ·have hk:z.k < es.length:=EV
  have hse:=hz _ (aB hk);have z1:(⟨#[32]⟩:au).size=1:=rfl;have zs:(bz (Lib.itoa ((i:Nat):Int))++⟨#[32]⟩).size=_:=aQ;have zt:(bz (Lib.itoa ((i:Nat):Int))++⟨#[32]⟩++es[z.k]).size=_:=aQ;have hst:((es.take z.k).map (M2 i))++[M2 i es[z.k]]=(es.take (z.k+1)).map (M2 i):=by rw [aR hk,bB];rfl
  have hte:(M2 i es[z.k]).size<=1000010:=by unfold M2;omega
  refine Mg (xs:=es) z.k ?_;rintro hi b o e1 s1;rw [e1];refine go ?_;refine Ar [0] [] ?_;refine C8 0 1 4 5 ?_;refine Dg 6 7 ?_;refine dN 2 ?_;refine oC ?_;refine cb (fun w st=>Bew ((i:Nat):Int) EV EV w) ?_;refine dk ?_;refine Dg 3 8 ?_;refine dN 9 ?_;apply Iz;rfl;rfl;rfl;rfl;exact Ir;exact Io;intro _;refine dk ?_;refine dN 10 ?_;refine Np (ys:=[M2 i es[z.k]]) (Agv FC) Dz fun a9 c9 F9=>?_;refine dk ?_;refine dt 11 ?_;refine dd ?_;rw [hst];refine go ?_;refine Cb ⟨z.k+1,a9,c9,F9⟩ hk (by show es.length - (z.k+1) < es.length - z.k;omega)
 ·rw [show es.take z.k=es from aW EV];exact CI
theorem Bdn {t a b:Int} (ha:B8 a=true) (hb:B8 b=true) (h:gp t a=gp t b):a=b:=by
 obtain ⟨a0,a1⟩:=A4.1 ha;obtain ⟨b0,b1⟩:=A4.1 hb;unfold gp at h;omega
def Em (base:Int) (l:List Az) (n:Int):Nat:=(l.takeWhile fun r=>decide (gp base r.Ae < gp base n)).length
def Mz (base:Int) (l:List Az) (n:Int):Bool:=match l[Em base l n]? with|some r=>decide (r.Ae=n)|none=>false
def Bgr (n u:Int):Az:=⟨n,1,u,0⟩
def Wt (base:Int) (l:List Az) (n u:Int):List Az:=l.take (Em base l n)++Bgr n u::l.drop (Em base l n)
def Uf (base:Int) (l:List Az) (n u:Int):List Az:=if Mz base l n || !decide (gp base n < 8) then l else Wt base l n u
def Q3 (base:Int) (l:List Az) (n u:Int):List Az:=match l[Em base l n]? with|some r=>if r.Ae=n then l.set (Em base l n) ⟨n,3,u,r.Ds⟩ else l|none=>l
theorem Sx (base:Int) (l:List Az) (n:Int):Em base l n<=l.length:=Qx.1
theorem Ug {base:Int} {l:List Az} {n:Int} (h:Em base l n < l.length):Mz base l n=decide (l[Em base l n].Ae=n):=by unfold Mz;rw [aD h]
theorem Aib {base:Int} {l:List Az} {n:Int} (h:¬Em base l n < l.length):Mz base l n=false:=by unfold Mz;rw [bn EV]
theorem Uh {base:Int} {l:List Az} {n:Int} (h:Mz base l n=true):Em base l n < l.length:=by
 by_cases h2:Em base l n < l.length
 ·exact h2
 ·rw [Aib h2] at h;cases h
theorem Xb {base:Int} {l:List Az} {n u:Int} (h:Mz base l n=false):Q3 base l n u=l:=by
 unfold Q3;unfold Mz at h;cases hq:l[Em base l n]? with
 | none=>rfl
 | some r=>rw [hq] at h;dsimp only at h ⊢;rw [aC FF]
theorem Uk {base:Int} {l:List Az} {n u:Int} (h:Mz base l n=true):Q3 base l n u=l.set (Em base l n) ⟨n,3,u,(l[Em base l n]'(Uh h)).Ds⟩:=by
 have h2:=Uh h;rw [Ug h2] at h;unfold Q3;rw [aD h2];dsimp only;rw [aH FF]
theorem Aii (base:Int) (l:List Az) (n u:Int):(Q3 base l n u).length=l.length:=by
 cases h:Mz base l n
 ·rw [Xb h]
 ·rw [Uk h,bQ]
theorem Bd6 {base n:Int} {l:List Az} (hq:Mc l base=true) (hn:B8 n=true) (h:Mz base l n=false):∀r∈l,gp base r.Ae≠gp base n:=by
 obtain ⟨-, -,h3,h4⟩:=Di.1 hq;obtain ⟨t1,t2,t3⟩:=Qx (p:=fun r:Az=>decide (gp base r.Ae < gp base n)) (xs:=l);intro r hr e;obtain ⟨i,hi,rfl⟩:=bi hr;have e2:=Bdn (Et.1 (h3 _ hr)).n hn e;have hk:Em base l n=i:=X9 EV (fun j hj h=>by
  have:=bh.1 h4 j i h hi hj;simp only [aF];omega) (fun h=>by simp only [bM];omega)
 rw [Ug EV] at h;simp only [hk] at h;simp [e2] at h
theorem Be0 {base:Int} {l:List Az} (hp:l.Pairwise fun a b=>gp base a.Ae < gp base b.Ae) (h8:∀q∈l,gp base q.Ae < 8):l.length<=8:=by
 have key:∀i (h:i < l.length),(i:Int)<=gp base l[i].Ae:=by
  intro i
  induction i with
  | zero=>intro h;exact (Ll _ _).1
  | succ i ih =>
   intro h;have a:=ih EV;have b:=bh.1 hp i (i+1) EV h EV;omega
 by_cases h:l.length<=8
 ·exact h
 ·have a:=key 8 EV;have b:=h8 _ (aB (show 8 < l.length by omega));omega
theorem Axh (base:Int) (l:List Az) (n u:Int):(Wt base l n u).length=l.length+1:=by
 have:=Sx base l n;unfold Wt;rw [aA,aU,aO,aX];omega
theorem Ai3 {base n u:Int} {l:List Az} (hq:Mc l base=true) (hn:B8 n=true) (h8:gp base n < 8) (u0:0<=u) (u1:u<=10007) (h:Mz base l n=false):Mc (Wt base l n u) base=true:=by
 have hne:=Bd6 hq hn h;obtain ⟨h1,h2,h3,h4⟩:=Di.1 hq;obtain ⟨t1,t2,t3⟩:=Qx (p:=fun r:Az=>decide (gp base r.Ae < gp base n)) (xs:=l);have hle:=Sx base l n;have hok:∀r∈Wt base l n u,M0 base r=true:=by
  intro r hr;unfold Wt at hr;rcases aJ.1 hr with h|h
  ·exact h3 r (bR h)
  ·rcases aG.1 h with rfl|h
   ·exact Et.2 ⟨hn,h8,by show (1:Int)<=1;decide,by show (1:Int)<=3;decide,u0,u1,by show (0:Int)<=0;decide,by show (0:Int)<=3;decide⟩
   ·exact h3 r (bq h)
 have hpw:(Wt base l n u).Pairwise fun a b=>gp base a.Ae < gp base b.Ae:=by
  unfold Wt;rw [dH];refine ⟨h4.sublist (fD _ _),?_,?_⟩
  ·rw [dh];refine ⟨fun b hb=>?_,h4.sublist (fB _ _)⟩;obtain ⟨j,hj,rfl⟩:=bi hb;rw [dD];rw [aX] at hj;have hk:Em base l n < l.length:=EV
   have h0:=t3 hk;simp only [bM,Int.not_lt] at h0;have h00:gp base n<=gp base (l[Em base l n]'hk).Ae:=h0;have hd:=hne _ (aB hk);show gp base n < _;rcases cm j with e|e
   ·subst e;simp only [bN];omega
   ·have h5:=bh.1 h4 (Em base l n) (Em base l n+j) hk EV EV;omega
  ·intro a ha b hb;obtain ⟨i,hi,rfl⟩:=bi ha;rw [aO] at hi;rw [List.getElem_take];have ha2:=t2 i (by show i < Em base l n;omega) EV;simp only [aF] at ha2;rcases aG.1 hb with rfl|hb
   ·exact ha2
   ·obtain ⟨j,hj,rfl⟩:=bi hb;rw [dD];rw [aX] at hj;exact bh.1 h4 i (Em base l n+j) EV EV EV
 exact Di.2 ⟨h1,Be0 hpw fun q hq=>(Et.1 (hok q hq)).g,hok,hpw⟩
theorem Aso {base n u:Int} {l:List Az} (hq:Mc l base=true) (hn:B8 n=true) (u0:0<=u) (u1:u<=10007):Mc (Uf base l n u) base=true:=by
 unfold Uf
 split
 ·exact hq
 ·rename_i h;simp only [bW,bu,not_or,Bool.not_eq_false,Bool.not_eq_true,aF] at h;exact Ai3 hq hn h.2 u0 u1 h.1
theorem Ax3 {base n u:Int} {l:List Az} {q:Az} (h:q∈Uf base l n u):q∈l\/q.Ae=n:=by
 unfold Uf Wt at h
 split at h
 ·exact .inl h
 ·rcases aJ.1 h with h|h
  ·exact .inl (bR h)
  ·rcases aG.1 h with rfl|h
   ·exact .inr rfl
   ·exact .inl (bq h)
theorem Apa {base n u:Int} {l:List Az} (hq:Mc l base=true) (u0:0<=u) (u1:u<=10007):Mc (Q3 base l n u) base=true:=by
 cases h:Mz base l n
 ·rw [Xb h];exact hq
 obtain ⟨h1,h2,h3,h4⟩:=Di.1 hq;have hk:=Uh h;have hn:l[Em base l n].Ae=n:=by rw [Ug hk] at h;simpa using h
 have ho:=Et.1 (h3 _ (aB hk));rw [Uk h];have hnum:∀i (h:i < (l.set (Em base l n) ⟨n,3,u,l[Em base l n].Ds⟩).length),(l.set (Em base l n) ⟨n,3,u,l[Em base l n].Ds⟩)[i].Ae=(l[i]'FF).Ae:=fun i h=>by
  rw [fO]
  split
  ·rename_i e;subst e;exact hn.symm
  ·rfl
 refine Di.2 ⟨h1,HG,fun r hr=>?_,?_⟩
 ·have gn:=ho.n;have gg:=ho.g;rw [hn] at gn gg;rcases bC hr with h|rfl
  ·exact h3 r h
  ·exact Et.2 ⟨gn,gg,by show (1:Int)<=3;decide,by show (3:Int)<=3;decide,u0,u1,ho.t0,ho.t1⟩
 ·refine bh.2 fun i j hi hj hij=>?_;rw [hnum i hi,hnum j hj];exact bh.1 h4 i j _ _ hij
theorem Auh {base n u:Int} {l:List Az} {q:Az} (h:q∈Q3 base l n u):∃r∈l,r.Ae=q.Ae:=by
 cases h2:Mz base l n
 ·rw [Xb h2] at h;exact ⟨q,h,rfl⟩
 have hk:=Uh h2;have hn:l[Em base l n].Ae=n:=by rw [Ug hk] at h2;simpa using h2
 rw [Uk h2] at h;rcases bC h with h|rfl
 ·exact ⟨q,h,rfl⟩
 ·exact ⟨_,aB hk,hn⟩
def Eb (r:A9) (p:As):Aj:=if r.Bd then r.Aa else ⟨if p.Cq=5 then p.Er else p.Ae,r.Aa.Ao⟩
def Ga (r:A9) (p:As):Aj:=if p.Cq=5 then Eb r p else L8 (Eb r p) p.Ae p.data
def Kw (r:A9) (p:As):ai:=if p.Cq=5 then [] else Lu (Eb r p) p.Ae p.data
def Ob (w:Aj) (t:Int):Aj:=if To w.next t then (if gp w.next t<=8 then Jf w t else ⟨t,[]⟩) else w
def Ov (w:Aj) (t:Int):ai:=if To w.next t then (if gp w.next t<=8 then Je w t else [⟨#[33]⟩]) else []
def Ct (r:A9) (p:As):Aj:=Ob (Ga r p) p.Am
def Mp (r:A9) (p:As):ai:=Kw r p++Ov (Ga r p) p.Am
def Le (base u:Int) (l:List Az) (ns:ar):List Az:=ns.foldl (fun l n=>Uf base l n u) l
def Zq (w:Aj) (Er:Int):Nat:=(min (gp w.next Er) 8).toNat
def Pn (w:Aj) (l:List Az) (Er u:Int):List Az:=if To w.next Er then Le w.next u l (N9 w (Zq w Er)) else l
def Ld (r:A9) (p:As) (d:Int):A9:=⟨true,r.Ai,Ct r p,Pn (Ct r p) (Ed r.An (Ct r p)) p.Er (r.Ai+d)⟩
def Lx (p:As):Bool:=decide (p.Cq=1) || decide (p.Cq=2) || decide (p.Cq=5)
def Amg (r:A9) (p:As):A9:=⟨r.Bd,r.Ai,r.Aa,Q3 r.Aa.next r.An p.Ae (r.Ai+4)⟩
def Dm (r:A9) (p:As) (d:Int):A9:=if Lx p then Ld r p d else if decide (p.Cq=4) && r.Bd then Amg r p else r
def Ii (r:A9) (p:As):ai:=if Lx p then Mp r p else []
theorem Avc {w:Aj} {n:Int} {s:au} (hg:Cy w=true) (hn:B8 n=true) (hs:Pk s=true):Cy (L8 w n s)=true/\(∃m:Nat,m<=8/\(L8 w n s).next=Cd w.next m)/\(Lu w n s).length<=8:=by
 obtain ⟨w0,w1⟩:=Ij hg;cases ht:Ng w n
 ·have e:(Gs w n || !decide (gp w.next n < 8))=true:=by unfold Ng at ht;simp only [dr] at ht;rw [ht.1,ht.2];rfl
  have e1:L8 w n s=w:=by unfold L8;rw [aH e]
  have e2:Lu w n s=[]:=by unfold Lu;rw [aH e]
  rw [e1,e2];exact ⟨hg,⟨0,EV,(Sj w0 w1).symm⟩,EX⟩
 ·have hok:Vv w n s=true:=by unfold Vv;rw [hg,hn,hs,ht];rfl
  have h:=Axx w n s (by unfold Ju;rw [hok];rfl);rw [show Ju w n s=(L8 w n s,Lu w n s,true) by unfold Ju;rw [hok];rfl] at h;obtain ⟨-, -,h3,h4, -, -,h7, -⟩:=h;dsimp only at h3 h4 h7;refine ⟨h3,⟨_,h7,?_⟩,h7⟩;obtain ⟨v0,v1⟩:=Ij h3;rw [<-h4];unfold Cd gp at *;omega
theorem Qr {r:A9} {p:As} (hg:Lz r) (hp:Bo p=true):Cy (Eb r p)=true/\(r.Bd=true->Eb r p=r.Aa):=by
 unfold Eb;unfold Bo at hp;simp only [aw] at hp;cases hs:r.Bd
 ·refine ⟨?_,fun h=>by cases h⟩;rw [(hg.z hs).1];simp only [dW,if_false];unfold Cy
  split
  ·rw [hp.1.1.1.2];rfl
  ·rw [hp.1.1.1.1.1.2];rfl
 ·exact ⟨hg.w,fun _=>rfl⟩
theorem Tm {r:A9} {p:As} (hg:Lz r) (hp:Bo p=true):Cy (Ga r p)=true/\(∃m:Nat,m<=8/\(Ga r p).next=Cd (Eb r p).next m)/\(Kw r p).length<=8:=by
 have h1:=(Qr hg hp).1;obtain ⟨w0,w1⟩:=Ij h1;unfold Ga Kw
 split
 ·exact ⟨h1,⟨0,EV,(Sj w0 w1).symm⟩,EX⟩
 ·unfold Bo at hp;simp only [aw] at hp;exact Avc h1 hp.1.1.1.1.1.2 hp.1.1.2
theorem Au4 {w:Aj} {t:Int} (hg:Cy w=true) (ht:B8 t=true):Cy (Ob w t)=true/\(∃m:Nat,m<=32767/\(Ob w t).next=Cd w.next m)/\(Ov w t).length<=16:=by
 obtain ⟨w0,w1⟩:=Ij hg;obtain ⟨t0,t1⟩:=A4.1 ht;unfold Ob Ov;cases hb:To w.next t
 ·exact ⟨hg,⟨0,EV,(Sj w0 w1).symm⟩,EX⟩
 ·simp only [if_true]
  split
  ·obtain ⟨e1,e2,e3,e4⟩:=Uy (t:=t) hg;have:=@Yy w.next t
   exact ⟨Ado _ _ hg,⟨_,EV,e1⟩,EV⟩
  ·refine ⟨by unfold Cy;rw [ht];rfl,⟨(gp w.next t).toNat,?_,?_⟩,EX⟩
   ·unfold To Ff at hb;simp only [aw,aF] at hb;omega
   ·have:=Ll w.next t
    show t=_;unfold Cd gp at *;omega
theorem Ad3 {l:List Az} {b:Int} {w:Aj} {m:Nat} (hm:m<=65528) (hq:Mc l b=true) (hw:Cy w=true) (e:w.next=Cd b m):Mc (Ed l w) w.next=true:=by
 obtain ⟨h1,h2,h3,h4⟩:=Di.1 hq;obtain ⟨b0,b1⟩:=A4.1 h1;have key:∀q∈l,gp w.next q.Ae < 8->gp w.next q.Ae=gp b q.Ae - m:=fun q hq h=>by
  have ho:=Et.1 (h3 q hq);obtain ⟨n0,n1⟩:=A4.1 ho.n;have:=ho.g;rw [e] at h ⊢;unfold gp Cd at *;omega
 have hin:∀q∈Ed l w,q∈l/\gp w.next q.Ae < 8:=fun q hq=>by
  unfold Ed at hq;rw [bL] at hq;simp only [aw,aF] at hq;exact ⟨hq.1,hq.2.2⟩
 refine Di.2 ⟨A4.2 (Ij hw),bD (bJ _ _) h2,fun q hq=>?_,?_⟩
 ·obtain ⟨a,c⟩:=hin q hq;have ho:=Et.1 (h3 q a);exact Et.2 ⟨ho.n,c,ho.s0,ho.s1,ho.u0,ho.u1,ho.t0,ho.t1⟩
 ·have h5:(Ed l w).Pairwise fun a b'=>gp b a.Ae < gp b b'.Ae:=h4.sublist eU;refine h5.imp_of_mem fun ha hb h=>?_;rw [key _ (hin _ ha).1 (hin _ ha).2,key _ (hin _ hb).1 (hin _ hb).2];omega
theorem Pg {l:List Az} {w:Aj}:∀q∈Ed l w,I2 w q.Ae=false:=fun q hq=>by
 unfold Ed at hq;rw [bL] at hq;simp only [aw,bu,dr] at hq;exact hq.2.1.2
theorem Q9 {w:Aj} {k:Nat} (hk:k<=8) {n:Int} (h:n∈N9 w k):B8 n=true/\gp w.next n < 8/\I2 w n=false:=by
 unfold N9 Re at h;obtain ⟨h1,h2⟩:=bL.1 h;obtain ⟨i,hi,rfl⟩:=bO.1 h1;rw [cO] at hi;refine ⟨Pm _ _,?_,HG⟩;unfold gp Cd;omega
theorem Q1 {w:Aj} {u:Int} (u0:0<=u) (u1:u<=10007):∀(ns:ar) (l:List Az),(∀n∈ns,B8 n=true/\I2 w n=false)->Mc l w.next=true->(∀q∈l,I2 w q.Ae=false)->Mc (Le w.next u l ns) w.next=true/\∀q∈Le w.next u l ns,I2 w q.Ae=false
 | [],l,_,h2,h3=>⟨h2,h3⟩
 | n::ns,l,h1,h2,h3=>by
  obtain ⟨a,b⟩:=h1 n EX;refine Q1 u0 u1 ns (Uf w.next l n u) (fun n hn=>h1 n (by simp [hn])) (Aso h2 a u0 u1) fun q hq=>?_;rcases Ax3 hq with h|h
  ·exact h3 q h
  ·rw [h];exact b
theorem Adl {base u:Int} {l:List Az} {ns:ar} {k:Nat} (h:k < ns.length):Le base u l (ns.take (k+1))=Uf base (Le base u l (ns.take k)) ns[k] u:=by
 unfold Le;rw [cy,aD h,ej];rfl
theorem Sk (w:Aj) (t:Int):Zq w t<=8:=by unfold Zq;omega
theorem Ys {r:A9} {p:As} {d:Int} (hg:Lz r) (hp:Bo p=true) (d0:1<=d) (d1:d<=8) (hk:r.Ai+d<=10007):Cy (Ct r p)=true/\Mc (Ed r.An (Ct r p)) (Ct r p).next=true/\Lz (Ld r p d)/\(Mp r p).length<=24:=by
 obtain ⟨a1,a2⟩:=Qr hg hp;obtain ⟨b1,⟨m,hm,em⟩,b3⟩:=Tm hg hp;have htr:B8 p.Am=true:=by unfold Bo at hp;simp only [aw] at hp;exact hp.1.1.1.1.2
 obtain ⟨c1,⟨k,hk2,ek⟩,c3⟩:=Au4 b1 htr;have hk0:=hg.k0;have hq:Mc (Ed r.An (Ct r p)) (Ct r p).next=true:=by
  cases hs:r.Bd
  ·rw [(hg.z hs).2];exact (Di (l:=[])).2 ⟨A4.2 (Ij c1),aE 8,fun r hr=>(by cases hr),List.Pairwise.nil⟩
  ·refine Ad3 (m:=m+k) EV hg.q c1 ?_;show (Ct r p).next=_
   rw [show (Ct r p).next=Cd (Ga r p).next k from ek,em,a2 hs,Aeu]
 have hn:Ct r p=Ob (Ga r p) p.Am:=rfl;refine ⟨c1,hq,⟨hg.k0,hg.k1,c1,?_,?_,fun h=>by cases h⟩,by unfold Mp;rw [aA];omega⟩
 ·show Mc (Pn (Ct r p) (Ed r.An (Ct r p)) p.Er (r.Ai+d)) (Ct r p).next=true
  unfold Pn
  split
  ·exact (Q1 EV EV _ _ (fun n hn=>⟨(Q9 (Sk _ _) hn).1,(Q9 (Sk _ _) hn).2.2⟩) hq Pg).1
  ·exact hq
 ·show ∀q∈Pn (Ct r p) (Ed r.An (Ct r p)) p.Er (r.Ai+d),I2 (Ct r p) q.Ae=false;unfold Pn
  split
  ·exact (Q1 EV EV _ _ (fun n hn=>⟨(Q9 (Sk _ _) hn).1,(Q9 (Sk _ _) hn).2.2⟩) hq Pg).2
  ·exact Pg
theorem Uo {r:A9} {p:As} {d:Int} (hg:Lz r) (hp:Bo p=true) (d0:1<=d) (d1:d<=8):Lz (Dm r p d)/\(Ii r p).length<=24:=by
 have hk1:=hg.k1;have hk0:=hg.k0;unfold Dm Ii
 split
 ·exact ⟨(Ys hg hp d0 d1 EV).2.2.1,(Ys hg hp d0 d1 EV).2.2.2⟩
 ·refine ⟨?_,EX⟩
  split
  ·rename_i h;simp only [aw,aF] at h;refine ⟨hk0,hk1,hg.w,Apa hg.q EV EV,fun q hq=>?_,fun hs=>?_⟩
   ·obtain ⟨r',hr,e⟩:=Auh hq;show I2 r.Aa q.Ae=false;rw [<-e];exact hg.f r' hr
   ·have:r.Bd=false:=hs;rw [h.2] at this;cases this
  ·exact hg
theorem Sb (y:Az) (w:World):Cw Ay w [aa y.Ae,aa y.state,aa y.Cg,aa y.Ds] [y] []:=⟨_,[],[],[],EX,EX,⟨rfl,rfl⟩,rfl,rfl⟩
theorem Av2 (xs:List Az) (y:Az) (i:Nat) (a:aj) (c vb:Nat) (F:aq) (hi:i<=xs.length) (hl:xs.length<=1000000) :
  Fn prog 389 [ab a xs.length c,aa i,ab (some ⟨vb,0,none⟩) 1 1] [] [.ow Ay 231 (ab a xs.length c) xs F,.row vb 231 0 [] [aa y.Ae,aa y.state,aa y.Cg,aa y.Ds] []] (fun (_:aj × Nat × aq)=>True)
   (fun z=>.slice z.1 (xs.take i++y::xs.drop i).length z.2.1) (fun z=>[.ow Ay 231 (.slice z.1 (xs.take i++y::xs.drop i).length z.2.1) (xs.take i++y::xs.drop i) z.2.2]):=by
 have hone:∀w':World,∀cs:am,Cw Ay w' cs xs []->∀u∈cs,u.oneCell'=true:=fun w' cs h=>h.one' Db;have hy:=Sb y;have h1y:∀u∈([aa y.Ae,aa y.state,aa y.Cg,aa y.Ds]:am),u.oneCell'=true:=HJ
 refine enter func389 rfl ntmps389 fun w0=>?_;refine Azl (E:=Ay) fun hc1 hc2=>?_;refine go ?_;apply wO;refine Ak2 rfl rfl rfl rfl hi (fun _=>?_) hc1;refine go ?_;refine A1 rfl (fun h1=>?_) (fun h1=>?_)
 ·have hin:i=xs.length:=EV
  subst hin;have e:xs.take xs.length++y::xs.drop xs.length=xs++[y]:=EX
  refine go ?_;apply wO;refine Np hy Db fun a2 c2 F2=>?_;rw [e];exact DJ
 ·have hlt:i < xs.length:=EV
  refine All (xs:=xs) D0 (by rintro rfl;simp at hlt) ?_;rintro g cs rest rfl - - - hcl hcr hfl;rw [show Ay.sz=4 from rfl] at hcl hcr;have h1c:=hone w0 cs (hfl w0);obtain ⟨A,B,hcs,hA,hB⟩:∃A B,cs=A++B/\A=cs.take (i * 4)/\B=cs.drop (i * 4):=⟨_,_,(bo _ _).symm,rfl,rfl⟩;have hAl:A.length=i * 4:=by rw [hA,aO];omega
  have hBl:B.length=(xs.length - i) * 4:=by rw [hB,aX];omega
  have hins:∀w,Cw Ay w (A++[aa y.Ae,aa y.state,aa y.Cg,aa y.Ds]++B) (xs.take i++y::xs.drop i) []:=fun w=>by rw [hA,hB];exact (hfl w).insL (hy w) i hi
  have h1A:∀u∈A,u.oneCell'=true:=fun u hu=>h1c u HV;have h1B:∀u∈B,u.oneCell'=true:=fun u hu=>h1c u HV;have hlen:(xs.take i++y::xs.drop i).length=xs.length+1:=FB
  clear hA hB hfl hone;subst hcs;have eA:A=((A++B++rest).drop 0).take (i * 4):=by rw [du,aM,bS hAl]
  have eB:B=((A++B++rest).drop (0+i * 4)).take ((xs.length - i) * 4):=by rw [cN,aM,dy hAl,bS hBl]
  rw [hlen];refine go ?_;apply wO;apply oc;rfl;exact Aq5 rfl;refine go ?_;refine A1 rfl (fun h2=>?_) (fun h2=>?_)
  ·refine go ?_;apply wO;apply oc;rfl;exact O8 (i:=i) rfl rfl rfl EV EV;refine go ?_;apply wO;refine Ap4 (k:=xs.length+1 - i) (olds:=A) rfl rfl rfl EV (Mx (m:=i * 4) (.head _) eA) EV EW EV EV EV EV fun g' cp' Z rest' h3 h4 h5 h6=>?_;rw [show i+(xs.length+1 - i)=xs.length+1 by omega] at h3 ⊢;obtain ⟨Z1,Z2,rfl,hZ1,hZ2⟩:∃Z1 Z2,Z=Z1++Z2/\Z1.length=4/\Z2.length=B.length:=⟨Z.take 4,Z.drop 4,(bo _ _).symm,GA,JQ⟩;refine go ?_
   apply wO;apply oc;rfl;exact Kx (i:=i) rfl rfl rfl EV EV EV;refine go ?_;apply wO
   refine Wn (cs:=[aa y.Ae,aa y.state,aa y.Cg,aa y.Ds]) (L':=A++[aa y.Ae,aa y.state,aa y.Cg,aa y.Ds]++(Z2++rest')) rfl rfl rfl (Mx (L:=[aa y.Ae,aa y.state,aa y.Cg,aa y.Ds]) (o:=0) (m:=4) FA rfl) .here (Aek (M:=Z1) GX EV (by simpa using hZ1)) (by show 4=min 1 (xs.length+1 - i) * 4;omega) FQ h1y ?_;refine go ?_;refine Ar [] [] ?_;refine C8 0 1 2 3 ?_
   refine dt 4 ?_ (hy:=Kx (i:=i+1) rfl rfl EV EV EV EV);refine Dg 5 6 ?_;refine dt 7 ?_ (hy:=Kx (i:=i) rfl rfl EV EV EV EV);refine dN 8 ?_
   refine Wn (cs:=B) (L':=A++[aa y.Ae,aa y.state,aa y.Cg,aa y.Ds]++B++rest') rfl rfl rfl (Mx FA eB) .here (Aek (P:=A++[aa y.Ae,aa y.state,aa y.Cg,aa y.Ds]) (M:=Z2) GX FQ hZ2) GW FQ h1B ?_;refine dk ?_;refine dd ?_
   refine Ada (cs:=A++[aa y.Ae,aa y.state,aa y.Cg,aa y.Ds]++B) (rest:=rest') (xs:=xs.take i++y::xs.drop i) cp' rfl hins EV h4 (by rw [show Ay.sz=4 from rfl];simp only [aA,aU,aY] at h6 ⊢;omega) ?_;rw [hlen];refine go ?_;refine ret (_,cp',[g']) trivial rfl
  ·have hcx:xs.length+1<=c:=EV
   obtain ⟨X,Y,hXY,hX,hY⟩:=Aqp (B:=B) (R:=rest) 4 EV;refine go ?_;apply wO;apply oc;rfl;exact O8 (i:=xs.length+1) rfl rfl EV EV EV;refine go ?_;apply wO;apply oc;rfl;exact Kx (i:=i+1) rfl rfl EV EV EV EV;refine Ih ?_;intros;apply wO
   refine Aya rfl Vi (ovl (tS:=74) (tR:=4) (run_callFunc_extern func392 EY EY EY (e:=Extern.SlicesOverlaps.overlaps #[74,74] #[4]) EY) (.there .here) (.head _) GY) ?_;refine go ?_;refine Ar [] [] ?_;refine C8 0 1 2 3 ?_;refine dt 4 ?_ (hy:=Kx (i:=i+1) rfl rfl EV EV EV EV);refine Dg 5 6 ?_;refine dt 7 ?_ (hy:=Kx (i:=i) rfl rfl EV EV EV EV);refine dN 8 ?_
   refine Wn (cs:=B) (L':=A++X++B++rest.drop 4) rfl rfl rfl (Mx FA eB) .here (Aek (P:=A++X) (M:=Y) KC HN hY) GT HN h1B ?_;refine dk ?_;refine dd ?_;refine go ?_;apply wO;apply oc;rfl;exact Kx (i:=i) rfl rfl rfl EV EV EV;refine go ?_;apply wO
   refine Wn (cs:=[aa y.Ae,aa y.state,aa y.Cg,aa y.Ds]) (L':=A++[aa y.Ae,aa y.state,aa y.Cg,aa y.Ds]++(B++rest.drop 4)) rfl rfl rfl (Mx (L:=[aa y.Ae,aa y.state,aa y.Cg,aa y.Ds]) (o:=0) (m:=4) FA rfl) .here (Aek (M:=X) GX EV (by simpa using hX)) (by show 4=min 1 (xs.length+1 - i) * 4;omega) FQ h1y ?_;refine go ?_
   refine Ada (L:=A++[aa y.Ae,aa y.state,aa y.Cg,aa y.Ds]++(B++rest.drop 4)) (cs:=A++[aa y.Ae,aa y.state,aa y.Cg,aa y.Ds]++B) (rest:=rest.drop 4) (xs:=xs.take i++y::xs.drop i) c GX hins EV EV (by rw [show Ay.sz=4 from rfl];simp only [aA,aU,aY,aX];omega) ?_;rw [hlen];refine ret (_,c,[g]) trivial rfl
instance:IntC prog 146 .u64:=⟨underlying146⟩
theorem Asl (fid:FuncId) (caps:am) (A:List Pc) (hA:A.all (fun p=>!p.mu)=true) (xs:List Az) (a:aj) (c:Nat) (F:aq) (tv:Value) (f:Az->Int) (hm:∀i j (_:i<=j) (hj:j < xs.length),f xs[j] < 0->f (xs[i]'EV) < 0) (hb:Q2 prog fid=true) (hl:xs.length<=1000000)
  (hp:∀x∈xs,∀w,Od A w->Calls prog fid ([.agg #[aa x.Ae,aa x.state,aa x.Cg,aa x.Ds],tv]++caps).toArray w (RB (aa (f x)) w)) :
  Fn prog 382 [ab a xs.length c,tv,.func (.func fid) #[] caps.toArray] (.sl Ay (ab a xs.length c) xs F::A) [] (fun (_:Unit)=>True) (fun _=>.tuple #[aa ((xs.takeWhile fun x=>decide (f x < 0)).length:Nat),.bool (Bbk f xs[(xs.takeWhile fun x=>decide (f x < 0)).length]?)]) (fun _=>[]):=by
 refine enter func382 rfl ntmps382 (fun w0=>?_) rfl FR .nil;refine go ?_;refine Dk [0,1,2,6,7,8] (fun s:Nat × Nat=>[(9,aa (s.1:Nat)),(10,aa (s.2:Nat))]) (fun s=>s.1<=s.2/\s.2<=xs.length/\(∀j (_:j < s.1) (h:j < xs.length),f xs[j] < 0)/\(∀j (_:s.2<=j) (h:j < xs.length),¬f xs[j] < 0)) (fun s=>s.2 - s.1) (0,xs.length) ⟨aE _,aK _,fun j h=>by omega,fun j h1 h2=>by omega⟩ fun s hs=>?_;obtain ⟨i,j⟩:=s;obtain ⟨h1,h2,h3,h4⟩:=hs;dsimp only at h1 h2 h3 h4 ⊢;refine go ?_;refine A1 rfl (fun h5=>?_) (fun h5=>?_)
 ·have hh:(i+j) / 2 < xs.length:=EV
  have e2:((i:Int)+(j:Int)) / 2=(((i+j) / 2:Nat):Int):=EV
  refine go ?_;apply wO;apply oc;rfl;exact Ahs rfl EV EV;refine go ?_;apply wO;apply oc;rfl;exact Alt rfl;rw [e2];apply wO;apply oc;rfl;exact Aox rfl EV EV;generalize hq:(i+j) / 2=q at hh;refine go ?_;refine Ig (xs:=xs) q ?_;rintro hi b o e;rw [e];refine go ?_;apply wO;refine Ae0 rfl rfl hb Vi ?_;refine cb (fun w st=>hp xs[q] (aB hh) w (fun p hp=>st.on p HD)) ?_;refine go ?_;refine A1 rfl (fun h6=>?_) (fun h6=>?_)
  ·exact DD
  ·exact DE
 ·have hij:i=j:=EV
  subst hij;have hk:(xs.takeWhile fun x=>decide (f x < 0)).length=i:=X9 h2 (fun j hj h=>av (h3 j hj h)) (fun h=>ay (h4 i (aK _) h));rw [hk];refine go ?_;refine Dc rfl rfl (fun h6=>?_) (fun h6=>?_)
  ·have hh:i < xs.length:=EV
   rw [aD hh];refine go ?_;refine Ig (xs:=xs) i ?_;exact DI
  ·rw [bn EV];exact AA
theorem Azg {base n:Int} {l:List Az} (hser:∀q∈l,B8 q.Ae=true) (hn:B8 n=true):(l.takeWhile fun x=>decide (gp base x.Ae - gp base n < 0)).length=Em base l n /\
  Bbk (fun x:Az=>gp base x.Ae - gp base n) l[(l.takeWhile fun x=>decide (gp base x.Ae - gp base n < 0)).length]?=Mz base l n:=by
 have e:(fun x:Az=>decide (gp base x.Ae - gp base n < 0))=fun h=>decide (gp base h.Ae < gp base n):=by
  funext x;rw [dI];omega
 have e1:(l.takeWhile fun x=>decide (gp base x.Ae - gp base n < 0)).length=Em base l n:=by unfold Em;rw [e]
 refine ⟨e1,?_⟩;rw [e1];unfold Mz;cases hq:l[Em base l n]? with
 | none=>rfl
 | some z =>
  show decide (gp base z.Ae - gp base n=0)=decide (z.Ae=n);rw [dI];exact ⟨fun h=>Bdn (t:=base) (hser z (bX hq)) hn EV,fun h=>by rw [h];omega⟩
theorem Bgl (r:Az) (n t:Int) (gb:Nat) (t0:0<=t) (t1:t<=65535) (n0:0<=n) (n1:n<=65535) (m0:0<=r.Ae) (m1:r.Ae<=65535) :
  FV 383 [.agg #[aa r.Ae,aa r.state,aa r.Cg,aa r.Ds],aa n,Gc gb 0 0] [.cel gb 0 [aa t]] (aa (gp t r.Ae - gp t n)):=by
 have b1:=Ll t r.Ae;have b2:=Ll t n;refine enter func383 rfl ntmps383 fun w0=>?_;refine go ?_;intros;refine Ar [0,1] [] ?_;refine C8 0 1 2 4 ?_;refine dt 5 ?_;refine dN 3 ?_;refine oC ?_;refine ce (fun w s=>Pf _ _ _ EV EV EV EV) ?_;refine dk ?_;refine dN 6 ?_;exact ED
theorem Za (l:List Az) (base n:Int) (a:aj) (c:Nat) (F:aq) (hq:Mc l base=true) (hn:B8 n=true) :
  FV 367 [ab a l.length c,aa base,aa n] [.sl Ay (ab a l.length c) l F] (.tuple #[aa (Em base l n:Nat),.bool (Mz base l n)]):=by
 obtain ⟨q1,q2,q3,q4⟩:=Di.1 hq;have hser:∀q∈l,B8 q.Ae=true:=fun q h=>(Et.1 (q3 q h)).n;obtain ⟨b0,b1⟩:=A4.1 q1;obtain ⟨n0,n1⟩:=A4.1 hn;obtain ⟨e1,e2⟩:=Azg (base:=base) hser hn;refine enter func367 rfl ntmps367 fun w0=>?_;refine go ?_;intros;rename_i gb;refine cb (fun w st=>by
  have r1:=st.get (p:=.row gb 3 0 [] [aa base] []) EX;have hw:=(st.get (p:=.sl Ay (ab a l.length c) l F) EX).2;refine (Asl 383 [Gc gb 0 0] [.cel gb 0 [aa base]] rfl l a c F (aa n) (fun r=>gp base r.Ae - gp base n) (fun i j hij hj h=>?_) EY EV fun x hx w' hA=>?_).val w ?_
  ·rcases ba hij with h2|rfl
   ·have:=bh.1 q4 i j EV hj h2;omega
   ·exact h
  ·obtain ⟨m0,m1⟩:=A4.1 (hser x hx);exact (Bgl x n base gb b0 b1 n0 n1 m0 m1).val w' hA
  ·intro p hp;simp only [aG,aT,bl] at hp;rcases hp with rfl|rfl
   ·exact st.get EX
   ·exact ⟨EX,Ik r1⟩) ?_
 rw [e2,e1];exact AA
theorem Af9 (l:List Az) (base n:Int) (a:aj) (c:Nat) (F:aq) (hq:Mc l base=true) (hn:B8 n=true) :
  FV 328 [ab a l.length c,aa base,aa n] [.sl Ay (ab a l.length c) l F] (.tuple #[aa (Em base l n:Nat),.bool (Mz base l n)]):=by
 obtain ⟨q1,q2,q3,q4⟩:=Di.1 hq;have hser:∀q∈l,B8 q.Ae=true:=fun q h=>(Et.1 (q3 q h)).n;obtain ⟨b0,b1⟩:=A4.1 q1;obtain ⟨n0,n1⟩:=A4.1 hn;obtain ⟨t1,t2,t3⟩:=Qx (p:=fun r:Az=>decide (gp base r.Ae < gp base n)) (xs:=l);have hle:=Sx base l n;have hb2:=Ll base n;refine enter func328 rfl ntmps328 fun w0=>?_;refine go ?_;refine Ca [0,1,2,6,7] (fun k:Nat=>[(8,aa (k:Nat))]) (fun _=>[]) (fun k=>k<=Em base l n) (fun k=>l.length - k) 0 (aE _) fun k hk=>?_;have leaf:∀h:k < l.length,decide (gp base l[k].Ae < gp base n)=decide (k < Em base l n):=fun h=>by
  by_cases h2:k < Em base l n
  ·rw [av h2];exact t2 k h2 h
  ·have e:k=Em base l n:=EV
   subst e;rw [ay h2];exact t3 h
 refine go ?_;refine Dc rfl rfl (fun h4=>?_) (fun h4=>?_)
 ·have hi:k < l.length:=EV
  refine go ?_;refine Ig (xs:=l) k ?_;rintro hi b o e;rw [e];refine go ?_;obtain ⟨m0,m1⟩:=A4.1 (hser _ (aB hi));have hb1:=Ll base l[k].Ae;refine ce (fun w s=>Jm _ _ _ EV EV) ?_;refine go ?_;refine ce (fun w s=>Jm _ _ _ EV EV) ?_;have lf:=leaf hi;refine go ?_;refine A1 rfl (fun h5=>?_) (fun h5=>?_)
  ·have h6:k < Em base l n:=by rw [av h5] at lf;simpa using lf.symm
   refine go ?_;refine Cb (k+1) (by show k+1<=Em base l n;omega) GO
  ·have h6:k=Em base l n:=by rw [ay h5] at lf;have:¬k < Em base l n:=(by simpa using lf.symm);omega
   refine go ?_;refine Ar [0] [] ?_;refine C8 0 1 2 3 ?_;refine dt 4 ?_;rw [av h4];refine dt 5 ?_;refine Dd 6 ?_;refine Dd 7 ?_;refine Dd 8 ?_;refine Dd 9 ?_;refine Dd 10 ?_;refine Dd 11 ?_;refine Dd 12 ?_;refine Dg 13 14 ?_;refine dt 15 ?_;refine dd ?_;rw [Ug EV];subst h6;exact AA
 ·have h6:k=Em base l n:=EV
  refine go ?_;refine Ar [0] [] ?_;refine C8 0 1 2 3 ?_;refine dt 4 ?_;rw [ay h4];refine dt 5 ?_;refine ds 6 ?_;refine ds 7 ?_;refine ds 8 ?_;refine ds 9 ?_;refine ds 10 ?_;refine ds 11 ?_;refine ds 12 ?_;refine Dg 13 14 ?_;refine dt 15 ?_;refine dd ?_;rw [Aib EV];subst h6;exact AA
def Aki (base:Int) (l:List Az) (n u:Int):List Az:=if Mz base l n then [] else Wt base l n u
structure OwR where
 a:aj
 c:Nat
 F:aq
theorem Akb (l:List Az) (base n ck d:Int) (a:aj) (c:Nat) (F:aq) (hq:Mc l base=true) (hn:B8 n=true) (h8:gp base n < 8) (k0:0<=ck) (k1:ck<=9999) (d0:1<=d) (d1:d<=8) :
  Fn prog 381 [ab a l.length c,aa base,aa n,aa ck,aa d] [.sl Ay (ab a l.length c) l F] [] (fun (_:OwR)=>True) (fun s=>.tuple #[.slice s.a (Aki base l n (ck+d)).length s.c,.bool (!Mz base l n)]) (fun s=>[.ow Ay 231 (.slice s.a (Aki base l n (ck+d)).length s.c) (Aki base l n (ck+d)) s.F]):=by
 have hle:=Sx base l n;obtain ⟨q1,q2,q3,q4⟩:=Di.1 hq;have hck:Kt ck=true:=by unfold Kt Ff;simp;omega
 have hdl:Axi d=true:=by unfold Axi Ff;simp;omega
 refine enter func381 rfl ntmps381 fun w0=>?_;refine go ?_;refine Be (Qt l base _ F) fun _ _=>?_;rw [hq];refine go ?_;refine ce (fun w s=>Ja _ _) ?_;rw [hn];refine go ?_;refine ce (fun w s=>So _ _) ?_;rw [hck];refine go ?_;refine Be (Atm d) fun _ _=>?_;rw [hdl];refine go ?_;refine Be (Za l base n a c F hq hn) fun _ _=>?_;cases ho:Mz base l n
 ·rw [show Aki base l n (ck+d)=Wt base l n (ck+d) by unfold Aki;rw [ho];rfl];have hln:=Axh base l n (ck+d);refine go ?_;refine Be (Tr l a c F EV) fun z _=>?_;refine go ?_;intros;refine Be (Av2 l ⟨n,1,ck+d,0⟩ (Em base l n) z.1 z.2.1 _ z.2.2 hle EV) fun y _=>?_;rw [show l.take (Em base l n)++(⟨n,1,ck+d,0⟩:Az)::l.drop (Em base l n)=Wt base l n (ck+d) from rfl];refine go ?_
  refine cb (fun w st=>by obtain ⟨Fw, -,hw⟩:=(st.get (p:=.ow Ay 231 (.slice y.1 (Wt base l n (ck+d)).length y.2.1) (Wt base l n (ck+d)) y.2.2) EX).2.read;exact (Qt (Wt base l n (ck+d)) base _ Fw).val w (I4 ⟨EW,hw⟩)) ?_;rw [Ai3 hq hn h8 EV EV ho];exact BB
 ·rw [show Aki base l n (ck+d)=[] by unfold Aki;rw [ho];rfl];refine go ?_;refine Cj Ay 231 ?_;refine ret ⟨none,0,[]⟩ trivial rfl
theorem Axq (l:List Az) (base n ck d:Int) (a:aj) (c:Nat) (F:aq) (hq:Mc l base=true) (hn:B8 n=true) (k0:0<=ck) (k1:ck<=9999) (d0:1<=d) (d1:d<=8) :
  Fn prog 333 [ab a l.length c,aa base,aa n,aa ck,aa d] [.sl Ay (ab a l.length c) l F] [] (fun (_:OwR)=>True) (fun s=>.slice s.a (Uf base l n (ck+d)).length s.c) (fun s=>[.ow Ay 231 (.slice s.a (Uf base l n (ck+d)).length s.c) (Uf base l n (ck+d)) s.F]):=by
 have hle:=Sx base l n;obtain ⟨q1,q2,q3,q4⟩:=Di.1 hq;obtain ⟨b0,b1⟩:=A4.1 q1;obtain ⟨n0,n1⟩:=A4.1 hn;have hbd:=Ll base n;refine enter func333 rfl ntmps333 fun w0=>?_;refine go ?_;refine Be (Af9 l base n a c F hq hn) fun _ _=>?_;cases ho:Mz base l n
 rotate_left
 ·rw [show Uf base l n (ck+d)=l by unfold Uf;rw [ho];rfl];refine Ih ?_;intros;refine C1 Ay ?_;refine go ?_;apply wO;refine Nm Db D0 fun a5 c5 F5=>?_;rw [aZ];exact BB
 refine go ?_;refine ce (fun w s=>Jm _ _ _ EV EV) ?_;refine go ?_;refine A1 rfl (fun h4=>?_) (fun h4=>?_)
 ·rw [show Uf base l n (ck+d)=l by unfold Uf;rw [ho,ay (show ¬gp base n < 8 by omega)];rfl];refine Ih ?_;intros;refine C1 Ay ?_;refine go ?_;apply wO;refine Nm Db D0 fun a5 c5 F5=>?_;rw [aZ];exact BB
 rw [show Uf base l n (ck+d)=Wt base l n (ck+d) by unfold Uf;rw [ho,av (show gp base n < 8 by omega)];rfl];refine Ww (E:=Ay) (xs:=l) ?_;rintro _ _ e8 c0 c1;cases e8;refine Ar8 (E:=Ay) (xs:=l) (Em base l n) (fun FT=>?_) hle;obtain ⟨T1,hT1⟩:∃T1,T1=l.take (Em base l n):=⟨_,rfl⟩;have hT1l:T1.length=Em base l n:=by rw [hT1,aO];omega
 rw [<-hT1];have hAdd:T1++[(⟨n,1,ck+d,0⟩:Az)]++l.drop (Em base l n)=Wt base l n (ck+d):=by rw [hT1];unfold Wt Bgr;simp
 refine go ?_;intros;refine Ar [0,1] [] ?_;refine Dg 1 2 ?_;refine dt 3 ?_ (hy:=O8 (i:=T1.length) rfl rfl (by rw [hT1l]) EV EV);refine Dg 5 8 ?_;refine dt 9 ?_;refine Apg 10 (Em base l n) (fun a6 c6 F6=>?_);refine dM 0 6 ?_ ?_
 ·apply Kj;rfl;intro _;refine C1 Ay ?_;refine dk ?_;refine dM 4 6 ?_ ?_
  ·refine Nm (ys:=T1) Db D0 fun a7 c7 F7=>?_;rw [aZ];refine dk ?_;refine dN 6 ?_;apply Iz;rfl;rfl;rfl;rfl;exact Ir;exact Io;intro _;exact AK
  ·apply Iz;rfl;rfl;rfl;rfl;exact Ir;exact Io;intro _;refine dk ?_;refine dN 4 ?_;refine Nm (ys:=T1) Db D0 fun a7 c7 F7=>?_;rw [aZ];exact AK
 ·apply Iz;rfl;rfl;rfl;rfl;exact Ir;exact Io;intro _;refine dk ?_;refine dN 0 ?_;apply Kj;rfl;intro _;refine C1 Ay ?_;refine dk ?_;refine dN 4 ?_;refine Nm (ys:=T1) Db D0 fun a7 c7 F7=>?_;rw [aZ];exact AK
theorem Ab0 (l:List Az) (base n ck:Int) (a:aj) (c:Nat) (F:aq) (hq:Mc l base=true) (hn:B8 n=true) (k0:0<=ck) (k1:ck<=9999) :
  Fn prog 349 [ab a l.length c,aa base,aa n,aa ck] [.sl Ay (ab a l.length c) l F] [] (fun (_:OwR)=>True) (fun s=>.tuple #[.slice s.a (Q3 base l n (ck+4)).length s.c,.bool true]) (fun s=>[.ow Ay 231 (.slice s.a (Q3 base l n (ck+4)).length s.c) (Q3 base l n (ck+4)) s.F]):=by
 have hle:=Sx base l n;obtain ⟨q1,q2,q3,q4⟩:=Di.1 hq;have hck:Kt ck=true:=by unfold Kt Ff;simp;omega
 refine enter func349 rfl ntmps349 fun w0=>?_;refine go ?_;refine Be (Qt l base _ F) fun _ _=>?_;rw [hq];refine go ?_;refine ce (fun w s=>Ja _ _) ?_;rw [hn];refine go ?_;refine ce (fun w s=>So _ _) ?_;rw [hck];refine go ?_;refine Be (Tr l a c F EV) fun z _=>?_;refine go ?_;refine cb (fun w st=>by obtain ⟨Fw, -,hw⟩:=(st.get (p:=.ow Ay 231 (.slice z.1 (l).length z.2.1) (l) z.2.2) EX).2.read;exact (Za l base n z.1 z.2.1 Fw hq hn).val w (I4 ⟨EW,hw⟩)) ?_;have hcl:=Aii base l n (ck+4);cases ho:Mz base l n
 ·rw [Xb ho];exact BB
 ·have hlt:=Uh ho;refine go ?_;refine Afy (xs:=l) (Em base l n) ?_ (hi:=hlt);rintro hi g A B ha hF hh;rw [ha];refine go ?_;refine P5 (⟨n,3,ck+4,l[Em base l n].Ds⟩:Az) hh (fun w=>?_) ?_
  ·rw [Ug hi] at ho;have e:l[Em base l n].Ae=n:=by simpa using ho
   rw [e];exact DR
  exact ER
theorem Akx (l:List Az) (base n ck:Int) (a:aj) (c:Nat) (F:aq) (hq:Mc l base=true) (hn:B8 n=true) (k0:0<=ck) (k1:ck<=9999) :
  Fn prog 292 [ab a l.length c,aa base,aa n,aa ck] [.sl Ay (ab a l.length c) l F] [] (fun (_:OwR)=>True) (fun s=>.slice s.a (Q3 base l n (ck+4)).length s.c) (fun s=>[.ow Ay 231 (.slice s.a (Q3 base l n (ck+4)).length s.c) (Q3 base l n (ck+4)) s.F]):=by
 have hle:=Sx base l n;obtain ⟨q1,q2,q3,q4⟩:=Di.1 hq;have hcl:=Aii base l n (ck+4);refine enter func292 rfl ntmps292 fun w0=>?_;refine Ih ?_;intros;refine C1 Ay ?_;refine go ?_;apply wO;refine Nm Db D0 fun a5 c5 F5=>?_;rw [aZ];refine go ?_;refine Be (Af9 l base n a c F hq hn) fun _ _=>?_;cases ho:Mz base l n
 ·rw [Xb ho];exact BB
 ·have hlt:=Uh ho;refine go ?_;refine Ig (xs:=l) (Em base l n) ?_;rintro hi b o e;rw [e];refine Afy (xs:=l) (a:=a5) (Em base l n) ?_ (hi:=hlt);rintro hi g A B ha hF hh;rw [ha];refine go ?_;refine P5 (⟨n,3,ck+4,l[Em base l n].Ds⟩:Az) hh (fun w=>⟨rfl,rfl⟩) ?_;exact ER
structure SkS where
 a:aj
 c:Nat
 F:aq
 ae:aj
 ce:Nat
 Fe:aq
theorem Bav (w:Aj) (st:Bool) (ck tr:Int) (q:Value) (g t o:Nat) (A B:am) (a1:aj) (c1:Nat) (F1:aq) (hg:Cy w=true) (ht:B8 tr=true) :
  Fn prog 364 [Gc g o 0,aa tr] [] [.row g t o A [.bool st,aa ck,aa (w).next,.slice a1 (w).Ao.length c1,q] B,.ow Cv 107 (.slice a1 (w).Ao.length c1) (w).Ao F1] (fun (_:SkS)=>True)
   (fun s=>.slice s.ae (Ov w tr).length s.ce) (fun s=>[.row g t o A [.bool st,aa ck,aa (Ob w tr).next,.slice s.a (Ob w tr).Ao.length s.c,q] B,.ow Cv 107 (.slice s.a (Ob w tr).Ao.length s.c) (Ob w tr).Ao s.F,.ow A8 9 (.slice s.ae (Ov w tr).length s.ce) (Ov w tr) s.Fe]):=by
 obtain ⟨w0_,w1_⟩:=Ij hg;obtain ⟨t0_,t1_⟩:=A4.1 ht;obtain ⟨hw8,hit⟩:=Ks hg;have hgb:=Ll w.next tr
 refine enter func364 rfl ntmps364 fun w0=>?_;refine go ?_;refine ce (fun w s=>Ns _ _ _ EV EV EV EV) ?_;cases hb:To w.next tr
 ·have e1:Ob w tr=w:=by unfold Ob;rw [hb];rfl
  have e2:Ov w tr=[]:=by unfold Ov;rw [hb];rfl
  rw [e1,e2];refine Cj A8 9 ?_;exact DM
 refine go ?_;refine ce (fun w s=>Pf _ _ _ EV EV EV EV) ?_;refine go ?_;refine A1 rfl (fun h4=>?_) (fun h4=>?_)
 ·have e1:Ob w tr=Jf w tr:=by unfold Ob;rw [hb,aH rfl,aH h4]
  have e2:Ov w tr=Je w tr:=by unfold Ov;rw [hb,aH rfl,aH h4]
  rw [e1,e2];refine Ar7 [.bool st,aa ck] [aa w.next,ab a1 w.Ao.length c1] [q] ?_;refine go ?_;refine Be (Al1 w tr g t (o+2) (A++[.bool st,aa ck]) _ a1 c1 F1 w0_ w1_ t0_ t1_ hw8 hit) fun y hy=>?_;obtain ⟨hy1,hy2⟩:=hy;refine Ahg [.bool st,aa ck] [aa y.y.next,ab y.a y.y.Ao.length y.c] [q] ?_;rw [show Jf w tr=y.y from hy1.symm,show Je w tr=y.es from hy2.symm];exact DM
 ·have e1:Ob w tr=⟨tr,[]⟩:=by unfold Ob;rw [hb,aH rfl,aC h4]
  have e2:Ov w tr=[⟨#[33]⟩]:=by unfold Ov;rw [hb,aH rfl,aC h4]
  rw [e1,e2];refine Cj Cv 107 ?_;refine Ih ?_;intros;refine Eh (xs:=[(⟨#[33]⟩:au)]) (Tx _ EW) ?_ EX;refine go ?_;refine ret ⟨none,0,[],_,_,_⟩ trivial rfl
structure AwS where
 i:Nat
 a:aj
 c:Nat
 F:aq
theorem Av8 (x:Aj) (l:List Az) (st:Bool) (ck Er d:Int) (g t o:Nat) (A B:am) (a1:aj) (c1:Nat) (F1:aq) (a2:aj) (c2:Nat) (F2:aq) (hg:Cy x=true) (hq:Mc l x.next=true) (hf:∀q∈l,I2 x q.Ae=false) (hl:B8 Er=true) (k0:0<=ck) (k1:ck<=9999) (d0:1<=d) (d1:d<=8) :
  Fn prog 366 [Gc g o 0,aa Er,aa d] [] [.row g t o A [.bool st,aa ck,aa (x).next,.slice a1 (x).Ao.length c1,.slice a2 (l).length c2] B,.ow Cv 107 (.slice a1 (x).Ao.length c1) (x).Ao F1,.ow Ay 231 (.slice a2 (l).length c2) (l) F2] (fun (_:OwR)=>True)
   (fun _=>.tuple #[]) (fun s=>[.row g t o A [.bool st,aa ck,aa (x).next,.slice a1 (x).Ao.length c1,.slice s.a (Pn x l Er (ck+d)).length s.c] B,.ow Cv 107 (.slice a1 (x).Ao.length c1) (x).Ao F1,.ow Ay 231 (.slice s.a (Pn x l Er (ck+d)).length s.c) (Pn x l Er (ck+d)) s.F]):=by
 obtain ⟨w0_,w1_⟩:=Ij hg;obtain ⟨l0_,l1_⟩:=A4.1 hl;have hgb:=Ll x.next Er
 refine enter func366 rfl ntmps366 fun w0=>?_;refine go ?_;refine ce (fun w s=>Ns _ _ _ EV EV EV EV) ?_;cases hb:To x.next Er
 ·have e1:Pn x l Er (ck+d)=l:=by unfold Pn;rw [hb];rfl
  rw [e1];exact BB
 obtain ⟨k,hk⟩:∃k,k=Zq x Er:=⟨_,rfl⟩;have hk8:k<=8:=by rw [hk];exact Sk _ _
 have hkm:((k:Nat):Int)=min (gp x.next Er) 8:=by rw [hk];unfold Zq;omega
 obtain ⟨N,hN⟩:∃N,N=N9 x k:=⟨_,rfl⟩;have hNl:N.length<=8:=by have:=Ac0 x k;rw [hN];omega
 have e1:Pn x l Er (ck+d)=Le x.next (ck+d) l N:=by unfold Pn;rw [hb,aH rfl,hN,hk]
 rw [e1];have T6:=Jb x.next (min (gp x.next Er) 8)
 have hgp:gp x.next (Cd x.next (min (gp x.next Er) 8))=(k:Nat):=by rw [<-hkm];unfold gp Cd;omega
 refine go ?_;refine Ar [0] [] ?_;refine C8 0 1 2 3 ?_;refine C8 4 5 6 12 ?_;refine dN 7 ?_;refine oC ?_;refine ce (fun w s=>Pf _ _ _ EV EV EV EV) ?_;refine dk ?_;refine dt 8 ?_;refine dN 9 ?_;refine oC ?_;refine ce (fun w s=>Rv _ _ _ EV EV) ?_;refine dk ?_;refine dN 10 ?_;refine oC ?_;refine cfr (fun w st=>by obtain ⟨F9,hF9⟩:=Be1 (st.get (p:=.ow Cv 107 (.slice a1 (x).Ao.length c1) (x).Ao F1) EX);exact ⟨_,I4 hF9,rfl,Al2 x _ k _ F9 w0_ w1_ EV EV hgp⟩) (fun m _=>?_);refine dk ?_;refine dt 11 ?_;refine dd ?_;rw [<-hN]
 refine Av (E:=Bb) (xs:=N) fun GN=>?_;refine go ?_;refine Ca [0,2,6,30,31] (fun s:AwS=>[(32,aa (s.i:Nat))]) (fun s=>[.row g t o A [.bool st,aa ck,aa (x).next,.slice a1 (x).Ao.length c1,.slice s.a (Le x.next (ck+d) l (N.take s.i)).length s.c] B,.ow Ay 231 (.slice s.a (Le x.next (ck+d) l (N.take s.i)).length s.c) (Le x.next (ck+d) l (N.take s.i)) s.F]) (fun s=>s.i<=N.length) (fun s=>N.length - s.i) ⟨0,a2,c2,F2⟩ (aE _) fun s hs=>?_;obtain ⟨i,a3,c3,F3⟩:=s;dsimp only at hs ⊢;have hall:=Q1 (w:=x) (u:=ck+d) EV EV (N.take i) l (fun n hn=>by
  have:=Q9 (w:=x) (n:=n) hk8 (by rw [<-hN];exact bR hn);exact ⟨this.1,this.2.2⟩) hq hf
 have hLs:∀h:i < N.length,Le x.next (ck+d) l (N.take (i+1))=Uf x.next (Le x.next (ck+d) l (N.take i)) N[i] (ck+d):=fun h=>Adl h
 generalize hLd:Le x.next (ck+d) l (N.take i)=L at *
 have hLq:=hall.1;have hL8:=(Di.1 hLq).2.1;refine go ?_;refine A1 rfl (fun h4=>?_) (fun h4=>?_)
 ·have hi:i < N.length:=EV
  have hni:=Q9 (w:=x) (n:=N[i]) hk8 (by rw [<-hN];exact aB hi);refine In (xs:=N) i ?_;rintro hi2 b o2 e;rw [e];refine go ?_;refine Ar [1] [] ?_;refine C8 0 1 2 3 ?_;refine C8 4 5 6 7 ?_;refine Dg 8 9 ?_;refine dt 10 ?_;refine dN 11 ?_;refine oC ?_;refine cfr (fun w st=>by obtain ⟨Fq, -,hq9⟩:=(st.get (p:=.ow Ay 231 (.slice a3 (L).length c3) (L) F3) EX).2.read;exact ⟨[.sl Ay (ab a3 L.length c3) L Fq],I4 ⟨EW,hq9⟩,rfl,Akb L x.next N[i] ck d a3 c3 Fq hLq hni.1 hni.2.1 k0 k1 d0 d1⟩) (fun u _=>?_);refine dk ?_;refine C8 12 13 14 15 ?_;refine dt 16 ?_;refine dd ?_
  refine go ?_;cases ho:Mz x.next L N[i]
  ·have eA:Le x.next (ck+d) l (N.take (i+1))=Aki x.next L N[i] (ck+d):=by rw [hLs hi];unfold Uf Aki;rw [ho,av hni.2.1];rfl
   refine go ?_;rw [<-eA];exact CL
  ·have eA:Le x.next (ck+d) l (N.take (i+1))=L:=by rw [hLs hi];unfold Uf;rw [ho];rfl
   refine go ?_;rw [<-eA];exact CL
 have hi:i=N.length:=EV
 subst hi;rw [bm] at hLd;rw [hLd];refine go ?_;refine V9 ?_;refine ret (⟨_,_,_⟩:OwR) trivial rfl
def Ahz (x:Aj) (q:Az):Bool:=To q.Ae x.next || decide (8<=gp x.next q.Ae) || I2 x q.Ae
theorem Bb3 {l:List Az} {x:Aj}:(l.filter fun q=>!Ahz x q)=Ed l x:=by
 unfold Ed Ahz;refine eu fun q _=>?_;have e:decide (8<=gp x.next q.Ae) = !decide (gp x.next q.Ae < 8):=by rw [<-decide_not];exact dI.2 EV
 rw [e];cases To q.Ae x.next <;> cases I2 x q.Ae <;> simp
theorem Bb4 (q:Az) (x:Aj) (nb gb g o:Nat) (st:Bool) (ck:Int) (qv:Value) (a1:aj) (c1:Nat) (F:aq) (w0_:0<=x.next) (w1_:x.next<=65535) (hn:B8 q.Ae=true) :
  FV 365 [.agg #[aa q.Ae,aa q.state,aa q.Cg,aa q.Ds],Gc nb 0 0,Gc gb 0 0] [.cel nb 0 [aa x.next],.cel gb 0 [Gc g o 0],.cel g o [.bool st,aa ck,aa x.next,ab a1 x.Ao.length c1,qv],.isv Br (.agg #[aa x.next,ab a1 x.Ao.length c1]) x F] (.bool (Ahz x q)):=by
 obtain ⟨n0,n1⟩:=A4.1 hn;have hgb:=Ll x.next q.Ae
 refine enter func365 rfl ntmps365 fun w0=>?_;refine go ?_;intros;cases hb:To q.Ae x.next
 rotate_left
 ·rw [show Ahz x q=true by unfold Ahz;rw [hb];rfl];refine Ar [0,1,2,3,4] [] ?_;refine Dg 0 1 ?_;refine dt 2 ?_;refine dN 3 ?_;refine oC ?_;refine ce (fun w s=>Ns _ _ _ EV EV EV EV) ?_;rw [hb];refine dk ?_;refine dt 4 ?_;refine ds 5 ?_;refine ds 6 ?_;refine ds 7 ?_;refine ds 8 ?_;refine ds 9 ?_;refine Dg 10 11 ?_;refine ds 12 ?_;refine ds 13 ?_;refine ds 14 ?_;refine ds 15 ?_;refine ds 16 ?_;refine ds 17 ?_;refine ds 18 ?_;refine Dg 19 20 ?_;exact CQ
 by_cases h8':8<=gp x.next q.Ae
 ·have h8:=av h8';rw [show Ahz x q=true by unfold Ahz;rw [h8];simp];refine Ar [0,1,2,3,4] [] ?_;refine Dg 0 1 ?_;refine dt 2 ?_;refine dN 3 ?_;refine oC ?_;refine ce (fun w s=>Ns _ _ _ EV EV EV EV) ?_;rw [hb];refine dk ?_;refine dt 4 ?_;refine Dd 5 ?_;refine Dd 6 ?_;refine Dd 7 ?_;refine d1g 8 ?_;apply On.h;refine oC ?_;refine ce (fun w s=>Pf _ _ _ EV EV EV EV) ?_;refine dk ?_;refine Dd 9 ?_;rw [h8];refine Dg 10 11 ?_;refine ds 12 ?_;refine ds 13 ?_;refine ds 14 ?_;refine ds 15 ?_;refine ds 16 ?_;refine ds 17 ?_
  refine ds 18 ?_;refine Dg 19 20 ?_;exact CQ
 ·have h8:=ay h8';rw [show Ahz x q=I2 x q.Ae by unfold Ahz;rw [hb,h8];rfl];refine Ar [0,1,2,3,4] [] ?_;refine Dg 0 1 ?_;refine dt 2 ?_;refine dN 3 ?_;refine oC ?_;refine ce (fun w s=>Ns _ _ _ EV EV EV EV) ?_;rw [hb];refine dk ?_;refine dt 4 ?_;refine Dd 5 ?_;refine Dd 6 ?_;refine Dd 7 ?_;refine d1g 8 ?_;apply On.h;refine oC ?_;refine ce (fun w s=>Pf _ _ _ EV EV EV EV) ?_;refine dk ?_;refine Dd 9 ?_;rw [h8];refine Dg 10 11 ?_;refine Dd 12 ?_;refine Dd 13 ?_;refine Dd 14 ?_;refine Dd 15 ?_;refine Dd 16 ?_
  refine Dd 17 ?_;refine d1g 18 ?_;apply On.h;refine oC ?_;refine Be (Aaq x q.Ae _ F w0_ w1_ n0 n1) fun _ _=>?_;refine dk ?_;refine Dg 19 20 ?_;exact CQ
structure NwS where
 a1:aj
 c1:Nat
 F1:aq
 a2:aj
 c2:Nat
 F2:aq
 ae:aj
 ce:Nat
 Fe:aq
theorem Akf (r:A9) (p:As) (d:Int) (g t o:Nat) (A B:am) (a1:aj) (c1:Nat) (F1:aq) (a2:aj) (c2:Nat) (F2:aq) (hg:Lz r) (hp:Bo p=true) (d0:1<=d) (d1:d<=8) :
  Fn prog 348 [Gc g o 0,.agg #[aa p.Cq,aa p.Ae,aa p.Am,aa p.Er,af p.data],aa d] [] [.row g t o A [.bool r.Bd,aa r.Ai,aa (r.Aa).next,.slice a1 (r.Aa).Ao.length c1,.slice a2 (r.An).length c2] B,.ow Cv 107 (.slice a1 (r.Aa).Ao.length c1) (r.Aa).Ao F1,.ow Ay 231 (.slice a2 (r.An).length c2) (r.An) F2] (fun (_:NwS)=>True)
   (fun s=>.slice s.ae (Mp r p).length s.ce) (fun s=>[.row g t o A [.bool (Ld r p d).Bd,aa (Ld r p d).Ai,aa ((Ld r p d).Aa).next,.slice s.a1 ((Ld r p d).Aa).Ao.length s.c1,.slice s.a2 ((Ld r p d).An).length s.c2] B,.ow Cv 107 (.slice s.a1 ((Ld r p d).Aa).Ao.length s.c1) ((Ld r p d).Aa).Ao s.F1,.ow Ay 231 (.slice s.a2 ((Ld r p d).An).length s.c2) ((Ld r p d).An) s.F2,.ow A8 9 (.slice s.ae (Mp r p).length s.ce) (Mp r p) s.Fe]):=by
 have k0:=hg.k0;have k1:=hg.k1;obtain ⟨-,q1,q2, -⟩:=Di.1 hg.q;have hser:∀q∈r.An,B8 q.Ae=true:=fun q hq=>(X4 hg hq).1;obtain ⟨hsg, -⟩:=Qr hg hp;obtain ⟨htg, -,htl⟩:=Tm hg hp;obtain ⟨hng,hnq, -,hnl⟩:=Ys hg hp d0 d1 EV;obtain ⟨s0_,s1_⟩:=Ij hsg;obtain ⟨v0_,v1_⟩:=Ij hng;obtain ⟨hw8,hit⟩:=Ks hsg;obtain ⟨n0,n1⟩:=Kr hp;have hp2:=hp;unfold Bo at hp2;simp only [aw] at hp2;have htr:B8 p.Am=true:=hp2.1.1.1.1.2;have hld:B8 p.Er=true:=hp2.1.1.1.2;have hps:p.data.size<=8:=Ut hp2.1.1.2;refine enter func348 rfl ntmps348 fun w0=>?_;refine go ?_;intros;rename_i g3 g4
 refine Du [2,3,4,6] [0,1,4] (fun _:Unit=>[]) (fun _=>[.row g t o A [.bool true,aa r.Ai,aa (Eb r p).next,.slice a1 (Eb r p).Ao.length c1,ab a2 r.An.length c2] B,.ow Cv 107 (.slice a1 (Eb r p).Ao.length c1) (Eb r p).Ao F1]) (fun _=>True) ?_ fun _ _=>?_
 ·cases hs:r.Bd
  ·by_cases hk:p.Cq=5
   ·have e:Eb r p=⟨p.Er,r.Aa.Ao⟩:=by unfold Eb;rw [hs,aH hk];rfl
    have hkd:decide (p.Cq=5)=true:=av hk;rw [e];refine go ?_;refine A1 rfl (fun _=>?_) (fun h=>absurd hk h);exact CN
   ·have e:Eb r p=⟨p.Ae,r.Aa.Ao⟩:=by unfold Eb;rw [hs,aC hk];rfl
    rw [e];refine go ?_;refine A1 rfl (fun h=>absurd h hk) (fun _=>?_);exact CN
  ·have e:Eb r p=r.Aa:=by unfold Eb;rw [hs];rfl
   rw [e];exact CN
 refine go ?_;refine Du [2,3,4,6] [2,3,4] (fun s:SkS=>[(7,.slice s.ae (Kw r p).length s.ce)]) (fun s=>[.row g t o A [.bool true,aa r.Ai,aa (Ga r p).next,.slice s.a (Ga r p).Ao.length s.c,ab a2 r.An.length c2] B,.ow Cv 107 (.slice s.a (Ga r p).Ao.length s.c) (Ga r p).Ao s.F,.ow A8 9 (.slice s.ae (Kw r p).length s.ce) (Kw r p) s.Fe]) (fun _=>True) ?_ fun s _=>?_
 ·by_cases hk:p.Cq=5
  ·have e1:Ga r p=Eb r p:=by unfold Ga;rw [aH hk]
   have e2:Kw r p=[]:=by unfold Kw;rw [aH hk]
   refine A1 rfl (fun h=>absurd hk h) (fun _=>?_);rw [e1,e2];refine Cj A8 9 ?_;refine go ?_;refine Bh (⟨a1,c1,F1,none,0,[]⟩:SkS) trivial
  ·have e1:Ga r p=L8 (Eb r p) p.Ae p.data:=by unfold Ga;rw [aC hk]
   have e2:Kw r p=Lu (Eb r p) p.Ae p.data:=by unfold Kw;rw [aC hk]
   refine A1 rfl (fun _=>?_) (fun h=>absurd hk h);rw [e1,e2];refine Ar7 [.bool true,aa r.Ai] [aa (Eb r p).next,.slice a1 (Eb r p).Ao.length c1] [ab a2 r.An.length c2] ?_;refine go ?_;refine Ar [2,3] [] ?_;refine C8 0 1 2 3 ?_;refine Dg 4 5 ?_;refine dt 6 ?_;refine dN 7 ?_;refine oC ?_;refine Be (Av7 (Eb r p) p.Ae p.data g t (o+2) (A++[.bool true,aa r.Ai]) _ a1 c1 F1 s0_ s1_ n0 n1 hw8 hit hps) fun y hy=>?_;obtain ⟨hy1,hy2⟩:=hy;refine dk ?_;refine C8 8 9 10 11 ?_;refine dd ?_
   refine Ahg [.bool true,aa r.Ai] [aa y.y.next,ab y.a y.y.Ao.length y.c] [ab a2 r.An.length c2] ?_;rw [<-hy1,<-hy2];refine go ?_;refine Bh (⟨_,_,_,_,_,_⟩:SkS) trivial
 obtain ⟨a3,c3,F3,ae,ce,Fe⟩:=s;dsimp only;refine go ?_;refine Be (Bav (Ga r p) true r.Ai p.Am _ g t o A B a3 c3 F3 htg htr) fun y _=>?_;have hsl:(Ov (Ga r p) p.Am).length<=24:=by unfold Mp at hnl;rw [aA] at hnl;omega
 refine Av (E:=A8) (xs:=Ov (Ga r p) p.Am) fun G8=>?_;refine go ?_;apply wO;refine Nm (ys:=Ov (Ga r p) p.Am) Dz Hv fun a9 c9 F9=>?_;rw [show Kw r p++Ov (Ga r p) p.Am=Mp r p from rfl,show Ob (Ga r p) p.Am=Ct r p from rfl];refine go ?_;intros;rename_i g11;refine Ar [3,6] [9] ?_;refine C8 0 1 2 3 ?_;refine Dg 4 5 ?_;refine dN 6 ?_;refine oC ?_;refine cfm (M:=[.ow Ay 231 (ab a2 r.An.length c2) r.An F2]) (.cons EZ .nil) (fun w st=>by
   have r1:=st.on (.row g11 3 0 [] [aa (Ct r p).next] []) EX;have r2:=st.on (.row g3 328 0 [] [Gc g o 0] []) EX;have r3:=st.on (.row g t o A [.bool true,aa r.Ai,aa (Ct r p).next,.slice y.a (Ct r p).Ao.length y.c,ab a2 r.An.length c2] B) EX;obtain ⟨Fw,hFw,hw⟩:=(st.on (.ow Cv 107 (.slice y.a (Ct r p).Ao.length y.c) (Ct r p).Ao y.F) EX).2.read
   refine ⟨[.cel g11 0 [aa (Ct r p).next],.cel g3 0 [Gc g o 0],.cel g o [.bool true,aa r.Ai,aa (Ct r p).next,.slice y.a (Ct r p).Ao.length y.c,ab a2 r.An.length c2],.isv Br (.agg #[aa (Ct r p).next,.slice y.a (Ct r p).Ao.length y.c]) (Ct r p) Fw],?_,rfl,?_,Alx 365 [] [Gc g11 0 0,Gc g3 0 0] _ rfl r.An a2 c2 F2 (fun q=>Ahz (Ct r p) q) EY EV (fun q hq w' hA=>(Bb4 q (Ct r p) g11 g3 g o true r.Ai _ y.a y.c Fw v0_ v1_ (hser q hq)).val w' hA)⟩
   ·intro q hq;simp only [aG,aT,bl] at hq;rcases hq with rfl|rfl|rfl|rfl
    ·exact ⟨EX,Ik r1⟩
    ·exact ⟨EX,Ik r2⟩
    ·exact ⟨EX,Ik r3⟩
    ·exact ⟨_,rfl,_,rfl,hw⟩
   ·intro q hq b hb;simp only [aG,aT,bl] at hq;rcases hq with rfl|rfl|rfl|rfl
    ·exact ⟨.row g11 3 0 [] [aa (Ct r p).next] [],EX,hb⟩
    ·exact ⟨.row g3 328 0 [] [Gc g o 0] [],EX,hb⟩
    ·exact ⟨.row g t o A [.bool true,aa r.Ai,aa (Ct r p).next,.slice y.a (Ct r p).Ao.length y.c,ab a2 r.An.length c2] B,EX,hb⟩
    ·exact ⟨.ow Cv 107 (.slice y.a (Ct r p).Ao.length y.c) (Ct r p).Ao y.F,EX,hFw b hb⟩) (fun z _=>?_)
 rw [Bb3];refine dk ?_;refine Dg 7 8 ?_;refine dN 9 ?_;refine oS ?_;refine N2 ?_;refine dd ?_;refine go ?_;refine Be (Av8 (Ct r p) (Ed r.An (Ct r p)) true r.Ai p.Er d g t o A B y.a y.c y.F z.1 z.2.1 z.2.2 hng hnq Pg hld k0 k1 d0 d1) fun u _=>?_;refine go ?_;refine ret ⟨_,_,_,_,_,_,_,_,_⟩ trivial rfl
structure Bat where
 g:Nat
 a:aj
 c:Nat
 F:aq
theorem Tc (x:A9) (v:Value) (F:aq) (hl:x.Aa.Ao.length<=1000000000) (hl2:x.An.length<=1000000000):Fn prog 129 [v] [.isv Bz v x F] [] (fun (_:Value × aq)=>True) (fun s=>s.1) (fun s=>[.own B9 s.1 x s.2]):=by
 refine enter func129 rfl ntmps129 fun w0=>?_;refine Fj ?_;rintro a1 c1 F1 a2 c2 F2 rfl l1 l2;refine go ?_;intros;refine Du [1,2] [0,1,2,3,4] (fun s:Bat=>[(3,Gc s.g 0 0)]) (fun s=>[.row s.g 73 0 [] [aa x.Aa.next,ab s.a x.Aa.Ao.length s.c] [],.ow Cv 107 (ab s.a x.Aa.Ao.length s.c) x.Aa.Ao s.F]) (fun _=>True) ?_ fun s _=>?_
 ·skip
  refine Ar [1] [] ?_;refine C8 0 1 2 4 ?_;refine Dg 5 6 ?_;refine dM 3 9 ?_ ?_
  ·apply Kj;rfl;intro _;refine C1 Cv ?_;refine dk ?_;refine dM 7 9 ?_ ?_
   ·refine Nm I1 Id fun a5 c5 F5=>?_;rw [aZ];refine dk ?_;refine dt 8 ?_;refine dN 9 ?_;apply Ci;rfl;intro _;refine dk ?_;refine dN 10 ?_;refine oS ?_;refine dk ?_;refine dd ?_;refine Bh (⟨_,_,_,_⟩:Bat) trivial
   ·apply Ci;rfl;intro _;exact CV
  ·apply Ci;rfl;intro _;refine dk ?_;refine dN 3 ?_;apply Kj;rfl;intro _;refine C1 Cv ?_;exact CV
 obtain ⟨g3,a5,c5,F5⟩:=s;dsimp only;refine go ?_;refine Ar [0,3] [] ?_;refine C8 0 1 2 3 ?_;refine Dg 4 6 ?_;refine dt 7 ?_;refine dN 5 ?_;apply Kj;rfl;intro _;refine C1 Ay ?_;refine dk ?_;refine dN 8 ?_;refine Nm Db D0 fun a6 c6 F6=>?_;rw [aZ];refine dk ?_;refine dt 9 ?_;refine dN 10 ?_;refine oS ?_;refine dk ?_;refine dd ?_;refine go ?_;refine Kn x ?_;exact CD
theorem Adw (l:List Az) (w:Aj) (a:aj) (c:Nat) (F:aq) (v:Value) (Fw:aq) (hl:l.length<=1000000) (hs:∀q∈l,B8 q.Ae=true) (w0_:0<=w.next) (w1_:w.next<=65535):Fn prog 291 [ab a l.length c,v] [.sl Ay (ab a l.length c) l F,.isv Br v w Fw] [] (fun (_:aj × Nat × aq)=>True) (fun z=>.slice z.1 (Ed l w).length z.2.1) (fun z=>[.ow Ay 231 (.slice z.1 (Ed l w).length z.2.1) (Ed l w) z.2.2]):=by
 refine enter func291 rfl ntmps291 fun w0=>?_;refine Ck ?_;rintro a1 c1 F1 rfl l1;refine go ?_;intros;refine C1 Ay ?_;refine Ca [0,3,4] (fun s:PkS=>[(6,aa (s.k:Nat)),(5,.slice s.a (Ed (l.take s.k) w).length s.c)]) (fun s=>[.ow Ay 231 (.slice s.a (Ed (l.take s.k) w).length s.c) (Ed (l.take s.k) w) s.F]) (fun s=>s.k<=l.length) (fun s=>l.length - s.k) ⟨0,_,_,_⟩ (aE _) fun s hk=>?_;obtain ⟨k,a4,c4,F4⟩:=s;dsimp only at hk ⊢;refine go ?_;refine A1 rfl (fun h4=>?_) (fun h4=>?_)
 ·have hk:k < l.length:=EV
  have hkl:(Ed (l.take k) w).length<=k:=bD (bJ _ _) GA;have hsk:=hs _ (aB hk);obtain ⟨n0,n1⟩:=A4.1 hsk;have en:∀b,(!(To l[k].Ae w.next || I2 w l[k].Ae) && decide (gp w.next l[k].Ae < 8))=b->Ed (l.take (k+1)) w=Ed (l.take k) w++if b then [l[k]] else []:=fun b hb=>by
   unfold Ed;rw [cy,aD hk,bY]
   congr 1
   show ([l[k]].filter _)=_;rw [fL,List.filter_nil,hb]
  refine Ig (xs:=l) k ?_;rintro hi b o e;rw [e];refine go ?_;cases g5:(To l[k].Ae w.next || I2 w l[k].Ae)
  ·skip
   refine Ar [0,2] [] ?_;refine C8 0 1 2 3 ?_;refine Dg 4 5 ?_;refine dN 6 ?_;refine oC ?_;refine Be (Acn w l[k].Ae _ Fw w0_ w1_ n0 n1) fun _ _=>?_;rw [show Gs w l[k].Ae=(To l[k].Ae w.next || I2 w l[k].Ae) from rfl,g5];refine dk ?_;refine Dg 7 8 ?_;refine Dd 9 ?_;refine Dd 10 ?_;refine Dd 11 ?_;refine Dd 12 ?_;refine Dd 13 ?_;refine Dd 14 ?_;refine Dd 15 ?_;refine d1g 16 ?_;apply On.h;refine oC ?_;refine ce (fun w s=>Jm _ _ _ EV EV) ?_;refine dk ?_;refine Dd 17 ?_;refine dt 18 ?_;refine dd ?_;refine go ?_;refine A1 rfl (fun h6=>?_) (fun h6=>?_)
   ·have e1:=en true (by rw [g5,av h6];rfl);refine go ?_;intros;apply wO;refine Np (ys:=[l[k]]) (Nq l[k]) Db fun a7 c7 F7=>?_;refine go ?_;rw [show Ed (l.take k) w++[l[k]]=Ed (l.take (k+1)) w from e1.symm];exact CK
   ·have e1:=en false (by rw [g5,ay h6];rfl);refine go ?_;rw [show Ed (l.take k) w=Ed (l.take (k+1)) w by rw [e1];simp];exact CK
  ·skip
   refine Ar [0,2] [] ?_;refine C8 0 1 2 3 ?_;refine Dg 4 5 ?_;refine dN 6 ?_;refine oC ?_;refine Be (Acn w l[k].Ae _ Fw w0_ w1_ n0 n1) fun _ _=>?_;rw [show Gs w l[k].Ae=(To l[k].Ae w.next || I2 w l[k].Ae) from rfl,g5];refine dk ?_;refine Dg 7 8 ?_;refine ds 9 ?_;refine ds 10 ?_;refine ds 11 ?_;refine ds 12 ?_;refine ds 13 ?_;refine ds 14 ?_;refine ds 15 ?_;refine ds 16 ?_;refine ds 17 ?_;refine dt 18 ?_;refine dd ?_;have e1:=en false (by rw [g5];rfl);refine go ?_;rw [show Ed (l.take k) w=Ed (l.take (k+1)) w by rw [e1];simp]
   exact CK
 have hk:k=l.length:=EV
 subst hk;rw [bm];refine go ?_;exact BM
structure GvS where
 g:Nat
 y:Ab6
theorem Acp (r:A9) (d:Int) (v:Value) (F:aq) (hg:Lz r) (d0:0<=d) (d1:d<=100) (_hx:r.Ai<=99999) :
  Fn prog 238 [v,aa d] [.isv Bz v r F] [] (fun (_:TkR)=>True) (fun s=>.tuple #[.agg #[.bool (Cz r d).Bd,aa (Cz r d).Ai,aa (Cz r d).Aa.next,.slice s.a1 (Cz r d).Aa.Ao.length s.c1,.slice s.a2 (Cz r d).An.length s.c2],.slice s.a3 (Fg r).length s.c3,.slice s.a4 (Hg r).length s.c4])
   (fun s=>[.isv Bz (.agg #[.bool (Cz r d).Bd,aa (Cz r d).Ai,aa (Cz r d).Aa.next,.slice s.a1 (Cz r d).Aa.Ao.length s.c1,.slice s.a2 (Cz r d).An.length s.c2]) (Cz r d) s.F1,.ow Al 141 (.slice s.a3 (Fg r).length s.c3) (Fg r) s.F3,.ow A8 9 (.slice s.a4 (Hg r).length s.c4) (Hg r) s.F4]):=by
 have k0:=hg.k0;have k1:=hg.k1;obtain ⟨-,q1,q2, -⟩:=Di.1 hg.q;obtain ⟨w0_,w1_⟩:=Ij hg.w;obtain ⟨hw8,hit⟩:=Ks hg.w;have hpl:(r.An.filterMap (Qa (r.Ai+1))).length<=8:=bD (cV _ _) q1;refine enter func238 rfl ntmps238 fun w0=>?_;refine Fj (v:=v) (x:=r) (F:=F) ?_;rintro a1 c1 F1 a2 c2 F2 rfl l1 l2;refine go ?_;intros;refine Be (Tc r _ F EV EV) fun u _=>?_;refine Is ?_;rintro a5 c5 F5 a6 c6 F6 e6 - -;rw [e6];refine Av (E:=Cv) fun G5=>?_;refine go ?_;intros
 refine Be (Atz r.An (r.Ai+1) d a2 c2 F2 EV (fun q hq=>⟨(Et.1 (q2 q hq)).t0,(Et.1 (q2 q hq)).t1⟩) EV EV EV EV) fun z _=>?_;rw [show r.An.filterMap (Ua (r.Ai+1))=C7 r from rfl,show r.An.filterMap (Tz (r.Ai+1) d)=Nl r d from rfl];refine Av (E:=Bb) (xs:=r.An.filterMap (Qa (r.Ai+1))) fun G2=>?_;refine Av (E:=Bb) (xs:=C7 r) fun G3=>?_;refine C1 A8 ?_;refine C1 Al ?_;refine go ?_
 refine Ca [2,4,5,6,7,9,11,12] (fun s:PkS=>[(13,aa (s.k:Nat)),(8,.slice s.a (((r.An.filterMap (Qa (r.Ai+1))).take s.k).map (pkR r.Aa.next)).length s.c)]) (fun s=>[.ow Al 141 (.slice s.a (((r.An.filterMap (Qa (r.Ai+1))).take s.k).map (pkR r.Aa.next)).length s.c) (((r.An.filterMap (Qa (r.Ai+1))).take s.k).map (pkR r.Aa.next)) s.F]) (fun s=>s.k<=(r.An.filterMap (Qa (r.Ai+1))).length) (fun s=>(r.An.filterMap (Qa (r.Ai+1))).length - s.k) ⟨0,_,_,_⟩ (aE _) fun s hs=>?_;obtain ⟨k,a4,c4,F4⟩:=s;dsimp only at hs ⊢;generalize hsn:r.An.filterMap (Qa (r.Ai+1))=sn at *;refine go ?_
 refine A1 rfl (fun h4=>?_) (fun h4=>?_)
 ·have hk:k < sn.length:=EV
  have hkl:((sn.take k).map (pkR r.Aa.next)).length<=k:=FB
  refine In (xs:=sn) k ?_;rintro hi b o2 e;rw [e];refine go ?_;have eo:(sn.take (k+1)).map (pkR r.Aa.next)=(sn.take k).map (pkR r.Aa.next)++[pkR r.Aa.next sn[k]]:=by rw [cy,aD hk,bB];rfl
  refine Ar [0,10] [] ?_;refine C8 0 1 2 3 ?_;refine C8 4 5 6 7 ?_;refine C8 8 9 10 11 ?_;refine dN 12 ?_;apply Iz;rfl;rfl;rfl;rfl;exact Ir;exact Io;intro _;refine dk ?_;refine dN 13 ?_;refine Np (ys:=[pkR r.Aa.next sn[k]]) (De (pkR r.Aa.next sn[k]) HA) Ho fun a7 c7 F7=>?_;refine dk ?_;refine dt 14 ?_;refine dd ?_;exact DU
 have hk:k=sn.length:=EV
 subst hk;rw [bm];have ep:Fg r=sn.map (pkR r.Aa.next):=by unfold Fg;rw [hsn]
 rw [ep];refine go ?_;by_cases hL:C7 r=[]
 ·refine A1 rfl (fun h=>absurd h (by rw [hL];decide)) (fun _=>?_);rw [Ahj hL,Aoi hL];refine go ?_;refine Av (E:=Ay) fun F8=>?_;refine Dy (a1:=a5) ⟨r.Bd,r.Ai+1,r.Aa,Nl r d⟩ ?_;refine ret ⟨_,_,_,_,_,[],_,_,_,_,_,_⟩ trivial rfl
 ·have hl0:=cR.2 hL;refine A1 rfl (fun _=>?_) (fun h=>absurd h EV);rw [Add hL,Aj6 hL];obtain ⟨hs8,hsr⟩:=Aey hg hL;have hll8:=Ahl r;obtain ⟨hs0,hs1⟩:=A4.1 hsr;have hll:=Ajg hL;obtain ⟨l0,l1⟩:=A4.1 (Ade hg (aB (show (C7 r).length - 1 < (C7 r).length by omega))).1;have hi1:((C7 r).length:Int) - 1=(((C7 r).length - 1:Nat):Int):=EV
  refine Ce (a1:=a5) r.Aa ?_;generalize G5=FW;refine In (xs:=C7 r) ((C7 r).length - 1) ?_;rintro hi b o2 e;rw [e];refine go ?_;refine Du [4,5,6,7,8,9] [2,3,6,7,10,14] (fun s:GvS=>[(15,Gc s.g 0 0),(16,ab s.y.ae s.y.es.length s.y.ce)]) (fun s=>[.row s.g 73 0 [] [aa s.y.y.next,ab s.y.a s.y.y.Ao.length s.y.c] [],.isv Br (.agg #[aa s.y.y.next,ab s.y.a s.y.y.Ao.length s.y.c]) s.y.y s.y.F,.ow A8 9 (ab s.y.ae s.y.es.length s.y.ce) s.y.es s.y.Fe]) (fun s=>s.y.y=Jf r.Aa (Dl (C7 r))/\s.y.es=Je r.Aa (Dl (C7 r))) ?_ fun s hy=>?_
  ·skip
   refine Ar [0,7] [] ?_;refine C8 0 1 2 3 ?_;refine dt 4 ?_;rw [hi1];refine Dg 5 6 ?_;refine dM 7 12 ?_ ?_
   ·refine oC ?_;refine ce (fun w s=>Ht _ _ _ EV EV) ?_;rw [<-hll];refine dk ?_;refine dM 8 12 ?_ ?_
    ·refine oC ?_;refine Be (Tv r.Aa (Dl (C7 r)) _ FW w0_ w1_ hs0 hs1 hw8 hit) fun y hy=>?_;refine dk ?_;refine Dg 9 10 ?_;refine dt 11 ?_;refine dN 12 ?_;apply Ci;rfl;intro _;refine dk ?_;refine dN 13 ?_;refine oS ?_;refine dk ?_;refine dt 14 ?_;refine dd ?_;refine Bh (⟨_,y⟩:GvS) hy
    ·apply Ci;rfl;intro _;exact BW
   ·apply Ci;rfl;intro _;refine dk ?_;refine dN 7 ?_;refine oC ?_;refine ce (fun w s=>Ht _ _ _ EV EV) ?_;rw [<-hll];exact BW
  obtain ⟨g15,y⟩:=s;dsimp only at hy ⊢;obtain ⟨hy1,hy2⟩:=hy;have hmv:=Uy (t:=Dl (C7 r)) hg.w;have hm0:0<=y.y.next:=by rw [hy1,hmv.1];exact (Jb _ _).1
  have hm1:y.y.next<=65535:=by rw [hy1,hmv.1];exact (Jb _ _).2
  have hes:y.es.length<=100:=by rw [hy2];have:=hmv.2.2.1;have:=@Yy r.Aa.next (Dl (C7 r));omega
  refine Av (E:=A8) (xs:=y.es) fun G8=>?_;refine go ?_;apply wO;refine Nm (ys:=y.es) Dz Hv fun a9 c9 F9=>?_;rw [aZ];refine Av (E:=Ay) (xs:=Nl r d) fun F8=>?_;refine go ?_;refine Be (Adw (Nl r d) y.y z.a z.c F8 _ y.F (by have:=Adf r d;omega) (fun q hq=>(Abs hg hq).1) hm0 hm1) fun u2 _=>?_;rw [hy1,Aef hg hL,<-hy1];refine go ?_;refine Ck (x:=y.y) ?_;rintro b1 d1 G1 e5 m1;simp only [Value.agg.injEq,Array.mk.injEq,List.cons.injEq,Value.slice.injEq,cJ,cK] at e5;obtain ⟨rfl,rfl⟩:=e5;refine Av (E:=Ay) (xs:=Zd (Nl r d) y.y.next) fun F10=>?_
  refine Dy ⟨r.Bd,r.Ai+1,y.y,Zd (Nl r d) y.y.next⟩ ?_;rw [<-hy2];refine ret ⟨_,_,_,_,_,[],_,_,_,_,_,_⟩ trivial rfl
theorem Baq (fid:FuncId) (bd caps:am) (A:List Pc) (hA:A.all (fun p=>!p.mu)=true) (xs:List As) (a:aj) (c:Nat) (F:aq) (p:As->Bool) (hb:Q2 prog fid=true) (hl:xs.length<=1000000000)
  (hp:∀x∈xs,∀w,Od A w->Calls prog fid (bd++[(.agg #[aa (x).Cq,aa (x).Ae,aa (x).Am,aa (x).Er,af (x).data]:Value)]++caps).toArray w (RB (.bool (p x)) w)) :
  Fn prog 224 [ab a xs.length c,.func (.func fid) bd.toArray caps.toArray] (.sl Al (ab a xs.length c) xs F::A) [] (fun (_:Unit)=>True) (fun _=>aa (Rl p xs)) (fun _=>[]):=by
 refine enter func224 rfl ntmps224 (fun w0=>?_) rfl FR .nil;refine go ?_;refine Dk [0,1,4,7] (fun k:Nat=>[(8,aa (k:Nat))]) (fun k=>k<=xs.length/\∀j (_:j < k) (hj:j < xs.length),p xs[j]=false) (fun k=>xs.length - k) 0 ⟨aE _,fun j h=>by omega⟩ fun k hk=>?_;obtain ⟨hk1,hk2⟩:=hk;refine go ?_;refine A1 rfl (fun h5=>?_) (fun h5=>?_)
 ·have hh:k < xs.length:=EV
  refine go ?_;refine Oj (xs:=xs) k ?_;rintro hi b o e sz;rw [e];refine go ?_;apply wO;refine Abd rfl rfl hb Vi ?_;refine cb (fun w st=>hp xs[k] (aB hh) w (fun q hq=>st.on q FX)) ?_;cases hpk:p xs[k]
  ·refine go ?_;refine V8 ?_;refine Cb (hH:=Li _) (k+1) ⟨hh,fun j hj h=>?_⟩ EV;rcases ba (bA.1 hj) with h2|rfl
   ·exact hk2 j h2 h
   ·exact hpk
  ·refine go ?_;refine ret () trivial ?_;rw [Ok hh hk2 hpk];rfl
 ·obtain rfl:k=xs.length:=EV
  exact BT
theorem Aq6 (fid:FuncId) (bd caps:am) (A:List Pc) (hA:A.all (fun p=>!p.mu)=true) (xs:List As) (a:aj) (c:Nat) (F:aq) (p:As->Bool) (hb:Q2 prog fid=true) (hl:xs.length<=1000000000)
  (hp:∀x∈xs,∀w,Od A w->Calls prog fid (bd++[(.agg #[aa (x).Cq,aa (x).Ae,aa (x).Am,aa (x).Er,af (x).data]:Value)]++caps).toArray w (RB (.bool (p x)) w)) :
  Fn prog 151 [ab a xs.length c,.func (.func fid) bd.toArray caps.toArray] (.sl Al (ab a xs.length c) xs F::A) [] (fun (_:Unit)=>True) (fun _=>.bool (xs.any p)) (fun _=>[]):=by
 refine enter func151 rfl ntmps151 (fun w0=>?_) rfl FR .nil;refine go ?_;refine cb (fun w st=>(Baq fid bd caps A hA xs a c F p hb hl hp).val w (fun q hq=>st.on q (by simpa using hq)) FR) ?_;refine go ?_;refine ret () trivial ?_;rw [S8];rfl
theorem Bau (r:A9) (p:As) (d:Int) (g t o:Nat) (A B:am) (a1:aj) (c1:Nat) (F1:aq) (a2:aj) (c2:Nat) (F2:aq) (hg:Lz r) (hp:Bo p=true) (d0:1<=d) (d1:d<=8) :
  Fn prog 316 [Gc g o 0,.agg #[aa p.Cq,aa p.Ae,aa p.Am,aa p.Er,af p.data],aa d] [] [.row g t o A [.bool r.Bd,aa r.Ai,aa (r.Aa).next,.slice a1 (r.Aa).Ao.length c1,.slice a2 (r.An).length c2] B,.ow Cv 107 (.slice a1 (r.Aa).Ao.length c1) (r.Aa).Ao F1,.ow Ay 231 (.slice a2 (r.An).length c2) (r.An) F2] (fun (_:NwS)=>True)
   (fun s=>.slice s.ae (Ii r p).length s.ce) (fun s=>[.row g t o A [.bool (Dm r p d).Bd,aa (Dm r p d).Ai,aa ((Dm r p d).Aa).next,.slice s.a1 ((Dm r p d).Aa).Ao.length s.c1,.slice s.a2 ((Dm r p d).An).length s.c2] B,.ow Cv 107 (.slice s.a1 ((Dm r p d).Aa).Ao.length s.c1) ((Dm r p d).Aa).Ao s.F1,.ow Ay 231 (.slice s.a2 ((Dm r p d).An).length s.c2) ((Dm r p d).An) s.F2,.ow A8 9 (.slice s.ae (Ii r p).length s.ce) (Ii r p) s.Fe]):=by
 have k0:=hg.k0;have k1:=hg.k1;obtain ⟨-,q1,q2, -⟩:=Di.1 hg.q;obtain ⟨n0,n1⟩:=Kr hp;refine enter func316 rfl ntmps316 fun w0=>?_;refine go ?_;intros;by_cases hk1:p.Cq=1
 ·rw [av hk1];rw [show Dm r p d=Ld r p d by unfold Dm Lx;simp [hk1],show Ii r p=Mp r p by unfold Ii Lx;simp [hk1]];exact BI
 rw [ay hk1];refine go ?_;by_cases hk2:p.Cq=2
 ·rw [av hk2];rw [show Dm r p d=Ld r p d by unfold Dm Lx;simp [hk2],show Ii r p=Mp r p by unfold Ii Lx;simp [hk2]];exact BI
 rw [ay hk2];refine go ?_;by_cases hk5:p.Cq=5
 ·rw [av hk5];rw [show Dm r p d=Ld r p d by unfold Dm Lx;simp [hk5],show Ii r p=Mp r p by unfold Ii Lx;simp [hk5]];exact BI
 rw [ay hk5];refine go ?_;refine Cj A8 9 ?_;have eE:Ii r p=[]:=by unfold Ii Lx;simp [hk1,hk2,hk5]
 by_cases hk4:p.Cq=4
 ·rw [av hk4];cases hs:r.Bd
  ·rw [show Dm r p d=r by unfold Dm Lx;simp [hk1,hk2,hk5,hs],eE,hs];refine go ?_;refine ret ⟨_,_,_,_,_,_,none,0,_⟩ trivial rfl
  ·rw [show Dm r p d=Amg r p by unfold Dm Lx;simp [hk4,hs],eE,show (Amg r p).Bd=true from hs];refine go ?_;refine Ar [0,1,2] [0,18,19,20,21,22] ?_;refine R5 0 ?_;refine dtl 1 ?_;refine dtl 2 ?_;refine dtl 3 ?_;refine dtl 4 ?_;refine dtl 5 ?_;refine dtl 6 ?_;refine dtl 7 ?_;refine dtl 8 ?_;refine dtl 9 ?_;refine dtl 10 ?_;refine dtl 11 ?_;refine dtl 12 ?_;refine dtl 13 ?_;refine dtl 14 ?_;refine dtl 15 ?_;refine dN 16 ?_;refine oC ?_
   refine cfr (fun w st=>by obtain ⟨Fq, -,hq9⟩:=(st.get (p:=.ow Ay 231 (ab a2 r.An.length c2) r.An F2) EX).2.read;exact ⟨[.sl Ay (ab a2 r.An.length c2) r.An Fq],I4 ⟨EW,hq9⟩,rfl,Ab0 r.An r.Aa.next p.Ae r.Ai a2 c2 Fq hg.q (A4.2 ⟨n0,n1⟩) k0 k1⟩) (fun u _=>?_);refine dk ?_;refine dtl 17 ?_;refine R5 18 ?_;refine R5 19 ?_;refine R5 20 ?_;refine R5 21 ?_;refine dN 22 ?_;refine oS ?_;refine N2 ?_;refine dd ?_;refine go ?_;refine ret ⟨_,_,_,_,_,_,none,0,_⟩ trivial rfl
 rw [ay hk4];rw [show Dm r p d=r by unfold Dm Lx;simp [hk1,hk2,hk5,hk4],eE];refine go ?_;refine ret ⟨_,_,_,_,_,_,none,0,_⟩ trivial rfl
structure HaS where
 k:Nat
 a1:aj
 c1:Nat
 F1:aq
 a2:aj
 c2:Nat
 F2:aq
 ae:aj
 ce:Nat
 Fe:aq
theorem Ahv (t:Q0) (v:Value) (F:aq):FV 79 [v] [.isv Wh v t F] (.bool (Hj t)):=by
 refine enter func79 rfl ntmps79 fun w0=>?_;refine Pw ?_;rintro a1 c1 F1 rfl l1;unfold maxLen at l1;refine go ?_;intros;refine Dk [1,2,6,7] (fun k:Nat=>[(8,aa (k:Nat))]) (fun k=>k<=t.Ad.length/\∀j,j < k->Ad5 t.Ad j=true) (fun k=>t.Ad.length - k) 0 ⟨aE _,fun j h=>by omega⟩ fun k hk=>?_;obtain ⟨hk1,hk2⟩:=hk;refine go ?_;refine A1 rfl (fun h1=>?_) (fun h1=>?_)
 ·have hh:k < t.Ad.length:=EV
  refine In (xs:=t.Ad) k ?_;rintro hi b o e1;rw [e1];refine go ?_;refine Dc rfl rfl (fun h2=>?_) (fun h2=>?_)
  ·obtain rfl:k=0:=EV
   refine go ?_;refine Dc rfl rfl (fun h3=>?_) (fun h3=>?_)
   ·refine go ?_;rw [Aa4 hh (by rw [Qk hh];exact ay h3)];exact BC
   ·refine go ?_;refine Cb 1 ⟨hh,fun j hj=>by obtain rfl:j=0:=EV;rw [Qk hh];exact av EV⟩ (by show t.Ad.length - 1 < t.Ad.length - 0;omega)
  ·refine go ?_;refine Dc rfl rfl (fun h3=>?_) (fun h3=>?_)
   ·refine go ?_;refine ce (fun w s=>Hy _ _ _ w) ?_;cases g:Ff 0 t.Ad[k] ((k:Int) - 1)
    ·refine go ?_;rw [Aa4 hh (by rw [Su hh EV];exact g)];exact BC
    ·refine go ?_;refine Cb (k+1) ⟨hh,fun j hj=>?_⟩ (by show t.Ad.length - (k+1) < t.Ad.length - k;omega);rcases ba (bA.1 hj) with h|rfl
     ·exact hk2 j h
     ·rw [Su hh EV];exact g
   ·exact absurd h3 EV
 ·obtain rfl:k=t.Ad.length:=EV
  refine go ?_;refine ce (fun w s=>Hy _ _ _ w) ?_;refine go ?_;refine ret () trivial ?_;unfold Hj;rw [Ki hk2,fz];rfl
theorem Agc (t:Q0) (v:Value) (F:aq):FV 118 [v] [.isv Wh v t F] (.bool (Hj t)):=by
 refine enter func118 rfl ntmps118 fun w0=>?_;refine Pw ?_;rintro a1 c1 F1 rfl l1;unfold maxLen at l1;refine go ?_;intros;refine ce (fun w s=>Kg _ _ _ w) ?_;cases g0:Ff 2 (t.Ad.length:Int) 8
 ·rw [Atb g0];exact AA
 have hb:2<=t.Ad.length/\t.Ad.length<=8:=by
  unfold Ff at g0;simp only [aw,aF] at g0;omega
 have h0:0 < t.Ad.length:=EV
 refine In (xs:=t.Ad) 0 ?_;rintro hi b o e1;rw [e1];refine go ?_;refine A1 rfl (fun h2=>?_) (fun h2=>?_)
 ·refine go ?_;rw [Aa4 h0 (by rw [Qk h0];exact ay h2)];exact BC
 refine go ?_;refine Dk [1,2,3] (fun k:Nat=>[(4,aa ((k+1:Nat):Int))]) (fun k=>k+1<=t.Ad.length/\∀j,j < k+1->Ad5 t.Ad j=true) (fun k=>t.Ad.length - k) 0 ⟨EV,fun j h=>by obtain rfl:j=0:=EV;rw [Qk h0];exact av EV⟩ fun k hk=>?_;obtain ⟨hk1,hk2⟩:=hk;refine go ?_;refine A1 rfl (fun h1=>?_) (fun h1=>?_)
 ·have hh:k+1 < t.Ad.length:=EV
  refine In (a:=some ⟨b,o,none⟩) (xs:=t.Ad) (k+1) ?_;rintro hi2 _ _ e2;cases e2;refine go ?_;refine ce (fun w s=>Kg _ _ _ w) ?_;cases g:Ff 0 t.Ad[k+1] (((k+1:Nat):Int) - 1)
  ·refine go ?_;rw [Aa4 hh (by rw [Su hh EV];exact g)];exact BC
  ·refine go ?_;refine Cb (k+1) ⟨hh,fun j hj=>?_⟩ (by show t.Ad.length - (k+1) < t.Ad.length - k;omega);rcases ba (bA.1 hj) with h|rfl
   ·exact hk2 j h
   ·rw [Su hh EV];exact g
 ·have hk:k+1=t.Ad.length:=EV
  refine go ?_;refine ret () trivial ?_;unfold Hj;rw [g0,Ki (fun j hj=>hk2 j EV)];rfl
structure KiS where
 k:Nat
 a:aj
 c:Nat
 F:aq
theorem Pt (t:Q0) (node:Int) (v:Value) (F:aq) (hz:Ke t.Ad node 1=[]) (hl:1<=t.Ad.length/\t.Ad.length<=1000000):Fn prog 64 [v,aa node] [.isv Wh v t F] [] (fun (_:KiS)=>True) (fun z=>.slice z.a (Iq t.Ad node).length z.c) (fun z=>[.ow Bb 3 (.slice z.a (Iq t.Ad node).length z.c) (Iq t.Ad node) z.F]):=by
 refine enter func64 rfl ntmps64 fun w0=>?_;refine Pw ?_;rintro a1 c1 F1 rfl l1;unfold maxLen at l1;refine go ?_;intros;refine C1 Bb ?_;refine Ca [1,2,4] (fun z:KiS=>[(5,.slice z.a (Tu t.Ad node z.k).length z.c),(6,aa ((z.k+1:Nat):Int))]) (fun z=>[.ow Bb 3 (.slice z.a (Tu t.Ad node z.k).length z.c) (Tu t.Ad node z.k) z.F]) (fun z=>z.k+1<=t.Ad.length) (fun z=>t.Ad.length - z.k) ⟨0,_,_,_⟩ hl.1 fun z hz2=>?_;have hkl:=Ai6 t.Ad node z.k;have hl2:=hl.2;refine go ?_;refine A1 rfl (fun h1=>?_) (fun h1=>?_)
 ·have hh:z.k+1 < t.Ad.length:=EV
  refine In (xs:=t.Ad) (z.k+1) ?_;rintro hi b o e1;rw [e1];refine go ?_;refine A1 rfl (fun h2=>?_) (fun h2=>?_)
  ·refine Ih ?_;intros;apply wO;refine Np (Oq _) Da fun a9 c9 F9=>?_;refine go ?_;rw [<-Atp hh h2];refine Cb ⟨z.k+1,a9,c9,F9⟩ (by show z.k+1+1<=t.Ad.length;omega) (by show t.Ad.length - (z.k+1) < t.Ad.length - z.k;omega)
  ·rw [<-Axo hh h2];refine go ?_;refine Cb ⟨z.k+1,z.a,z.c,z.F⟩ (by show z.k+1+1<=t.Ad.length;omega) (by show t.Ad.length - (z.k+1) < t.Ad.length - z.k;omega)
 ·have hk:z.k+1=t.Ad.length:=EV
  rw [Ai5 hz hk];exact CI
theorem Xm (t:Q0) (node:Int) (v:Value) (F:aq):FV 63 [v,aa node] [.isv Wh v t F] (.bool (Es t.Ad node)):=by
 refine enter func63 rfl ntmps63 fun w0=>?_;refine Pw ?_;rintro a1 c1 F1 rfl l1;refine go ?_;intros;refine Be (Aws t.Ad node _ _ F1) fun _ _=>?_;refine go ?_;refine ret () trivial ?_;unfold Es;rw [<-decide_not];rfl
theorem N4 (t:Q0) (node:Int) (v:Value) (F:aq) (hg:O9 t.Ad) (h0:0 < node):FV 139 [v,aa node] [.isv Wh v t F] (.bool (Es t.Ad node)):=by
 refine enter func139 rfl ntmps139 fun w0=>?_;refine Pw ?_;rintro a1 c1 F1 rfl l1;refine go ?_;intros;refine Dc rfl rfl (fun h1=>?_) (fun h1=>?_)
 ·refine go ?_;refine Be (Pt t node _ F (Sp hg.z EV) (by have:=hg.n0;have:=hg.n1;omega)) fun q _=>?_;refine go ?_;refine ret () trivial ?_;rw [Aua];by_cases hk:Iq t.Ad node=[]
  ·rw [hk];rfl
  ·rw [ay hk,ay fun e=>hk (bt.1 EV)];rfl
 ·exact absurd h0 h1
theorem Ayi (l:ar) (n:Int):(Rp l n).length<=l.length+1:=by
 unfold Rp
 split
 ·omega
 ·simp only [aA,aO,aU,aX];omega
theorem Hb {e:Bf}:Ba e=true↔Kt e.Ai=true/\e.Ah.length<=5/\(∀x∈e.Ah,Ky e.Ai x=true)/\e.Ah.Pairwise fun a b=>a.Ae≠b.Ae:=by
 unfold Ba;simp only [aw,aF];constructor
 ·rintro ⟨⟨h1,h2⟩,h3⟩;refine ⟨h1,h2,fun x hx=>?_,bh.2 fun i j hi hj hij=>?_⟩
  ·obtain ⟨i,hi,rfl⟩:=bi hx;have:=Jr h3 i hi;rw [Kq hi,aw] at this;exact this.1
  ·have:=Jr h3 j hj;rw [Kq hj,aw,bu,cB] at this;have:=this.2 e.Ah[i] (cM.2 ⟨i,EV,rfl⟩);exact ET
 ·rintro ⟨h1,h2,h3,h4⟩;refine ⟨⟨h1,h2⟩,Ki fun i hi=>?_⟩;rw [Kq hi,h3 _ (aB hi),bT,bu,cB];intro x hx;obtain ⟨j,hj,rfl⟩:=cM.1 hx;have:=bh.1 h4 j i EV hi EV;exact ET
theorem Ph {c:Int} {x:Gz}:Ky c x=true↔B8 x.Ae=true/\0 < x.Bg.length/\(x.Bg.Pairwise (· < ·)/\∀z∈x.Bg,1<=z/\z<=7)/\c+1<=x.Cg/\x.Cg<=c+6:=by
 unfold Ky Ff;simp only [aw,aF];exact ⟨fun ⟨a,b,c,d⟩=>⟨a,b,Yv c,d⟩,fun ⟨a,b,c,d⟩=>⟨a,b,Ajq c.1 c.2,d⟩⟩
theorem Ans (l:ar) (n:Int):(∀j (_:j < Lh l n) (h:j < l.length),l[j] < n)/\∀h:Lh l n < l.length,¬l[Lh l n] < n:=by
 have:=Qx (p:=fun x=>decide (x < n)) (xs:=l);exact ⟨fun j hj h=>dp (this.2.1 j hj h),fun h=>of_decide_eq_false (this.2.2 h)⟩
theorem Ant {l:ar} {n x:Int}:x∈Rp l n↔x=n\/x∈l:=by
 unfold Rp
 split
 ·rename_i h;have:=bX h;exact ⟨fun h=>.inr h,fun h=>by rcases h with rfl|h;exact this;exact h⟩
 ·rw [aJ,aG];constructor
  ·rintro (h|h|h)
   ·exact .inr (bR h)
   ·exact .inl h
   ·exact .inr (bq h)
  ·rintro (h|h)
   ·exact .inr (.inl h)
   ·rw [<-bo (Lh l n) l,aJ] at h;rcases h with h|h
    ·exact .inl h
    ·exact .inr (.inr h)
theorem Bcd {l:ar} {n:Int} (h:l.Pairwise (· < ·)):(Rp l n).Pairwise (· < ·):=by
 obtain ⟨s1,s2⟩:=Ans l n;have hp:=bh.1 h;unfold Rp
 split
 ·exact h
 ·rename_i hne;refine dH.2 ⟨h.sublist (fD _ _),dh.2 ⟨fun z hz=>?_,h.sublist (fB _ _)⟩,fun a ha b hb=>?_⟩
  ·obtain ⟨j,hj,rfl⟩:=fK.1 hz;have hk:Lh l n < l.length:=EV
   have h1:=s2 hk;have h2:l[Lh l n]≠n:=fun e=>hne (by rw [aD hk,e]);rcases cm j with rfl|hj0
   ·simp only [bN];omega
   ·have:=hp (Lh l n) (Lh l n+j) hk EV EV;omega
  ·obtain ⟨i,hi,rfl⟩:=cM.1 ha;have h1:=s1 i EV EV;rcases aG.1 hb with rfl|hb
   ·exact h1
   ·obtain ⟨j,hj,rfl⟩:=fK.1 hb;exact hp i (Lh l n+j) EV EV EV
theorem Nb {f:Int}:Ol f=true↔1<=f/\f<=7:=by unfold Ol Ff;simp
theorem Atf {e:Bf} {n f:Int} (hg:Ba e=true) (hn:B8 n=true) (hf:Ol f=true):Ba (Nn e n f)=true:=by
 obtain ⟨h1,h2,h3,h4⟩:=Hb.1 hg;obtain ⟨f1,f2⟩:=Nb.1 hf;rcases Q5 e n with ⟨h, -,e2, -⟩|⟨-,e2, -,e4⟩
 ·rw [Agy h];have hx:=Ph.1 (h3 _ (aB h));refine Hb.2 ⟨h1,HG,fun x hx'=>?_,?_⟩
  ·rcases bC hx' with h'|rfl
   ·exact h3 x h'
   ·refine Ph.2 ⟨hx.1,?_,⟨Bcd hx.2.2.1.1,fun z hz=>?_⟩,hx.2.2.2⟩
    ·exact List.length_pos_of_mem (Ant.2 (.inl rfl))
    ·rcases Ant.1 hz with rfl|hz
     ·exact ⟨f1,f2⟩
     ·exact hx.2.2.1.2 z hz
  ·refine bh.2 fun i j hi hj hij=>?_;have hp:=bh.1 h4 i j HW HZ hij;simp only [fO]
   split <;> split <;> simp_all
 ·by_cases hl:e.Ah.length < 5
  ·rw [Agx e2 hl];refine Hb.2 ⟨h1,FB,fun x hx=>?_,?_⟩
   ·rcases aJ.1 hx with h'|h'
    ·exact h3 x h'
    ·simp only [aG,aT,bl] at h';subst h';exact Ph.2 ⟨hn,EX,⟨EX,by simp [f1,f2]⟩,by show e.Ai+1<=e.Ai+6;omega,by show e.Ai+6<=e.Ai+6;omega⟩
   ·refine dH.2 ⟨h4,EX,fun a ha b hb=>?_⟩;simp only [aG,aT,bl] at hb;subst hb;exact e4 a ha
  ·rw [Ac5 e2 hl];exact hg
theorem Ate {e:Bf} {n:Int} (hg:Ba e=true):Ba (Px e n)=true:=by
 obtain ⟨h1,h2,h3,h4⟩:=Hb.1 hg;rcases Q5 e n with ⟨h, -,e2, -⟩|⟨-,e2, -,e4⟩
 ·rw [Agu h];have hs:(e.Ah.take (L0 e n)++e.Ah.drop (L0 e n+1)).Sublist e.Ah:=by
   have:=List.Sublist.append (List.Sublist.refl (e.Ah.take (L0 e n))) (List.drop_sublist_drop_left e.Ah (Nat.le_succ (L0 e n)))
   rwa [bo] at this
  exact Hb.2 ⟨h1,bD hs.length_le h2,fun x hx=>h3 x (hs.subset hx),h4.sublist hs⟩
 ·rw [Ak8 e2];exact hg
theorem Aa0 {e:Bf} {n:Int} {l:ar}:∀z∈Um e n l,z∈l:=fun z hz=>by
 unfold Um at hz
 split at hz
 ·have:=(bL.1 hz).2;exact ET
 ·split at hz
  ·exact hz
  ·simp at hz
theorem Aqy {r:A9} {d:Int} (hg:Lz r) (hk:r.Ai < 9999) (d0:1<=d) (d1:d<=8):Mc (Nl r d) r.Aa.next=true/\∀q∈Nl r d,I2 r.Aa q.Ae=false:=by
 have k0:=hg.k0;obtain ⟨h1,h2,h3,h4⟩:=Di.1 hg.q;refine ⟨Di.2 ⟨h1,bD (Adf r d) h2,fun q hq=>?_,?_⟩,fun q hq=>(Abs hg hq).2.2⟩
 ·obtain ⟨q',hq',h⟩:=dZ.1 hq;have ho:=Et.1 (h3 q' hq');unfold Tz at h
  split at h
  ·cases h;exact h3 q hq'
  ·split at h
   ·cases h
   ·rename_i hn;have t0:=ho.t0;have t1:=ho.t1
    split at h
    ·cases h;exact Et.2 ⟨ho.n,ho.g,by show (1:Int)<=2;decide,by show (2:Int)<=3;decide,by show 0<=r.Ai+1+3;omega,by show r.Ai+1+3<=10007;omega,by show 0<=q'.Ds+1;omega,by show q'.Ds+1<=3;omega⟩
    ·cases h;exact Et.2 ⟨ho.n,ho.g,by show (1:Int)<=1;decide,by show (1:Int)<=3;decide,by show 0<=r.Ai+1+d;omega,by show r.Ai+1+d<=10007;omega,t0,t1⟩
 ·unfold Nl;refine List.Pairwise.filterMap _ (fun a a' h b hb b' hb'=>?_) h4;rw [Aln hb,Aln hb'];exact h
theorem Ave {r:A9} {d:Int} (hg:Lz r) (hk:r.Ai < 9999) (d0:1<=d) (d1:d<=8):Lz (Cz r d):=by
 have k0:=hg.k0;obtain ⟨hq,hf⟩:=Aqy hg hk d0 d1;by_cases hL:C7 r=[]
 ·rw [Ahj hL];refine ⟨by show 0<=r.Ai+1;omega,by show r.Ai+1<=9999;omega,hg.w,hq,hf,fun hs=>?_⟩;obtain ⟨e1,e2⟩:=hg.z hs;refine ⟨e1,?_⟩;show Nl r d=[];unfold Nl;rw [e2];rfl
 ·have hst:r.Bd=true:=by
   cases hs:r.Bd
   ·exfalso;apply hL;unfold C7;rw [(hg.z hs).2];rfl
   ·rfl
  rw [Add hL];obtain ⟨e1, -,e3, -⟩:=Uy (t:=Dl (C7 r)) hg.w;have hs8:=(Aey hg hL).1;have hgp:=@Yy r.Aa.next (Dl (C7 r))
  have hw:Cy (Jf r.Aa (Dl (C7 r)))=true:=Ado _ _ hg.w;rw [<-Aef hg hL];refine ⟨by show 0<=r.Ai+1;omega,by show r.Ai+1<=9999;omega,hw,Ad3 (m:=(Je r.Aa (Dl (C7 r))).length) EV hq hw e1,Pg,fun hs=>?_⟩;have:r.Bd=false:=hs;rw [hst] at this;cases this
end Go.Proofs.YtkoldibamfjghaaGreatDoor
