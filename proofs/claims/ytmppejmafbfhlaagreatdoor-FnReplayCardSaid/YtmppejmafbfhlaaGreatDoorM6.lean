/- Part 6 of the proof: 10 texts, one behind the other. -/
import Derived.Test.YtmppejmafbfhlaaGreatDoorM5
open _root_.Go.Proofs.Tryz
set_option maxRecDepth 100000
set_option maxHeartbeats 8000000
set_option linter.all false
set_option linter.unusedVariables false
set_option linter.unusedSimpArgs false
namespace Go.Proofs.YtmppejmafbfhlaaGreatDoor
theorem DJ{p:Prop}(h:p:=by refine ret ⟨_,_,_,_,_,[],_,_,_⟩ trivial rfl):p:=h
end Go.Proofs.YtmppejmafbfhlaaGreatDoor
namespace Go.Proofs.YtmppejmafbfhlaaGreatDoor
open Go.RowKit
abbrev NE:=Dx × ai
def Jg (i:Nat):Js:=⟨2,(i:Int),⟨#[]⟩⟩
def Mn (i:Nat):Js:=⟨5,(i:Int),⟨#[]⟩⟩
def Nd (x:NE) (s:Js):NE:=(Ic x.1 (Bo x.1 s),x.2++Vx (Bo x.1 s))
def Ast (x:NE) (i:Nat):NE:=Nd (Nd x (Jg i)) (Mn i)
def Ib (x:NE):Nat->NE
 | 0=>x
 | k+1=>Ast (Ib x k) (k+1)
def W9 (x:NE):NE:=Ib x (x.1.Ap.Ad.length - 1)
def Q7 (x:NE):Nat->Bool
 | 0=>false
 | k+1=>Q7 x k || (Bo (Ib x k).1 (Jg (k+1))).isSome || (Bo (Nd (Ib x k) (Jg (k+1))).1 (Mn (k+1))).isSome
def qd (l:List (List As)):Nat:=(l.map List.length).sum
def Yr (n:Dx):Nat:=qd n.down+qd n.up
def vd (i:Nat):Nat:=8 ^ (7 - i)
def vu (i:Nat):Nat:=524289 * i
def wN (n:Dx):Nat:=Mq vd 0 n.down+Mq vu 0 n.up
def Tx:Nat->NE->NE
 | 0,x=>x
 | f+1,x=>if Yr x.1=0 then x else Tx f (W9 x)
def drE (x:NE):NE:=Tx (wN x.1) x
def Q2 (n:Dx):NE:=drE (n,[])
def Bbm (i:Nat):0 < vd i:=Nat.pow_pos EZ
def Bfe {i:Nat} (h:1<=i):vd i<=262144:=bE (dR (n:=8) EZ (show 7 - i<=6 by omega)) EZ
def Bbl {nodes:ar} {i:Nat} (hl:nodes.length<=7) (h:∀x∈nodes,i < x.toNat/\x.toNat<=7):Abf vd nodes+1<=vd i:=by
 cases nodes with
 | nil=>exact Bbm i
 | cons x r =>
  obtain ⟨a,b⟩:=h x FA;have h1:=Alc vd (8 ^ (6 - i)) (x::r) fun y hy=>by
   have:=h y hy;exact dR EZ EY
  have h2:=cF (8 ^ (6 - i)) hl;have h3:0 < 8 ^ (6 - i):=Nat.pow_pos EZ;have h4:vd i=8 ^ (6 - i) * 8:=by unfold vd;rw [<-ed];congr 1;omega
  omega
def Bff {i p:Nat} (h0:1<=i) (h:p < i):2 * vd i+vu p+1<=vu i:=by
 have h1:=Bfe h0;unfold vu;omega
def Ays {l:ar} (hg:Px l) (i:Nat):(I0 l (i:Int)).length<=7:=by
 have h0:=hg.n0;have h1:=hg.n1;rw [<-Aj8 (Tn hg.z (dB i)) (k:=l.length - 1) EY];have:=Aj9 l (i:Int) (l.length - 1);omega
def Ant {e:Bj} (he:Bb e=true) {n:Int} {l:ar} (hl:l.length<=7):(Vg e n l).length<=7:=by
 unfold Vg
 split
 ·rename_i x hx;exact bE (bN _ _) ((Vh he).2.2 x (ci hx))
 ·split
  ·exact hl
  ·exact aD _
def Bcn {n:Dx} (hg:At n=true) (i:Nat) (p:As):(Afj n i p).length<=7/\∀x∈Afj n i p,i < x.toNat/\x.toNat<=7:=by
 have hG:=Ax.1 hg;have h8:=Hl hG.t;have hn8:=h8.n1;have hk:=Ays h8 i;have hb:∀x∈Z9 n i,i < x.toNat/\x.toNat<=7:=fun x hx=>by
  have:=Lv h8 hx;omega
 unfold Afj
 split
 ·refine ⟨?_,fun x hx=>hb x (Abt x hx)⟩;by_cases hi:i < n.Af.length
  ·have ee:Qf n i=n.Af[i]:=by unfold Qf;rw [bt,aE hi];rfl
   rw [ee];exact Ant ((If hg).1 _ (aB hi)) hk
  ·have ee:Qf n i=⟨0,[]⟩:=by unfold Qf;rw [bt,bp EY];rfl
   rw [ee];exact Ant EZ hk
 ·exact ⟨hk,hb⟩
def Bcl {n:Dx} (hg:At n=true) (i:Nat) (p:As):wN (C9 n i p).1+1<=wN n+vd i:=by
 have h0:=Bbm i;unfold C9
 split
 ·show wN n+1<=_;omega
 ·obtain ⟨h1,h2⟩:=Bcn hg i p;have h3:=Bbl h1 h2;have h4:=Uw vd [p] (Afj n i p) n.down;show Mq vd 0 (Dt n.down (Afj n i p) [p])+Mq vu 0 n.up+1<=Mq vd 0 n.down+Mq vu 0 n.up+vd i;simp only [dL,gO] at h4;omega
def Az6 (x:Cu) (p:As):(N8 x p).length<=2:=by
 unfold N8
 split
 ·split
  ·exact (by decide:1<=2)
  ·exact (by decide:2<=2)
 ·exact (by decide:1<=2)
def Bjm {n:Dx} (hg:At n=true) {i:Nat} (h0:1<=i) (hi:i < n.Ap.Ad.length) (p:As):wN (Qz n i p)+1<=wN n+vu i:=by
 have hG:=Ax.1 hg;have h8:=Hl hG.t;have hn8:=h8.n1;have hv:=Bfe h0;have hone:Abf vd [((i:Nat):Int)]=vd i:=by show vd ((i:Nat):Int).toNat+0=_;rfl
 unfold Qz
 split
 ·have h4:=Uw vd (N8 n.Ab p) [((i:Nat):Int)] n.down;have h5:=cF (vd i) (Az6 n.Ab p);rw [hone] at h4;have h6:=Bff (p:=0) h0 EY;show Mq vd 0 (Dt n.down [((i:Nat):Int)] (N8 n.Ab p))+Mq vu 0 n.up+1<=Mq vd 0 n.down+Mq vu 0 n.up+vu i;omega
 ·rename_i hp;have hlt:Z0 n i < i:=by
   have:=h8.p i hi EY;unfold Z0;rw [bt,aE hi];show (n.Ap.Ad[i]).toNat < i;omega
  have h4:=Uw vd [Aat p] [((i:Nat):Int)] n.down;rw [hone] at h4;simp only [dL,gO] at h4;have h6:=Bff h0 hlt;have h7:=Ap0 vu n.up (Z0 n i) [p];simp only [dL,gO] at h7;show Mq vd 0 (Dt n.down [((i:Nat):Int)] [Aat p])+Mq vu 0 (if Add (Qf n (Z0 n i)) p.Ae then n.up.modify (Z0 n i) fun q=>Ht q [p] else n.up)+1<=Mq vd 0 n.down+Mq vu 0 n.up+vu i
  split <;> omega
def Be9 (f:Nat->Nat) {l:List (List As)} {i:Nat} (hi:i < l.length) (h0:¬(l.getD i []).length=0):Mq f 0 (l.modify i (·.drop 1))+f i=Mq f 0 l:=by
 rw [Qg hi] at h0;rw [In hi];exact Bbs f l i hi EY
def Zt {n:Dx} {i:Nat} (hi:i < n.Ap.Ad.length):Bo n (Jg i)=if (n.down.getD i []).length=0 then none else some (C9 (Q9 n i) i (Nw (n.down.getD i []))):=by
 unfold Bo;rw [aC (by show ¬(2:Int)=1;decide),aC (by show ¬(2:Int)=4;decide)];unfold C6;rw [aC (by show ¬((n.Ap.Ad.length:Int)<=(i:Int));omega)];rfl
def Xb {n:Dx} {i:Nat} (hi:i < n.Ap.Ad.length):Bo n (Mn i)=if (n.up.getD i []).length=0 then none else some (Qz (Pa n i) i (Nw (n.up.getD i [])),[]):=by
 unfold Bo;rw [aC (by show ¬(5:Int)=1;decide),aC (by show ¬(5:Int)=4;decide)];unfold C6;rw [aC (by show ¬((n.Ap.Ad.length:Int)<=(i:Int));omega)];rfl
def Bdj {i:Nat} (h0:1<=i) (h:i<=7):Dq (Jg i)=true:=by
 unfold Dq;rw [aC (by show ¬(2:Int)=1;decide),aC (by show ¬(2:Int)=4;decide)];have:Pj (Jg i).node=true:=Nt.2 (by show 1<=((i:Nat):Int)/\((i:Nat):Int)<=7;omega);rw [this];rfl
def Azn {i:Nat} (h0:1<=i) (h:i<=7):Dq (Mn i)=true:=by
 unfold Dq;rw [aC (by show ¬(5:Int)=1;decide),aC (by show ¬(5:Int)=4;decide)];have:Pj (Mn i).node=true:=Nt.2 (by show 1<=((i:Nat):Int)/\((i:Nat):Int)<=7;omega);rw [this];rfl
def At0 {n:Dx} (hg:At n=true) {i:Nat} {p:As} (hp:Br p=true) (h0:1<=i) (hi:i < n.Ap.Ad.length):(C9 n i p).2.length<=24:=by
 obtain ⟨i1,i2,i3,i4,hrn⟩:=(Ax.1 hg).rn hi;unfold C9
 split
 ·rename_i hl;have hgr:=El.1 (hrn.hf EY hl).2.1;obtain ⟨d0,d1⟩:=Ac9 (i:=i);have:=(Vi hgr hp d0 d1).2;rw [Hf i2];show ((Is _ _).map _).length<=_;rw [bf];exact this
 ·exact aD _
def Bht (n:Dx) (i:Nat) (p:As):(C9 n i p).1.Ab=n.Ab:=by unfold C9;split <;> rfl
def Bhu (n:Dx) (i:Nat) (p:As):(Qz n i p).Ab.Ai=n.Ab.Ai:=by
 unfold Qz
 split
 ·show (My n.Ab p.Ae).Ai=_;unfold My
  split <;> rfl
 ·rfl
structure Wb (x y:NE):Prop where
 g:At y.1=true
 t:y.1.Ap=x.1.Ap
 c:y.1.Ab.Ai=x.1.Ab.Ai
 e:y.2.length+24 * wN y.1<=x.2.length+24 * wN x.1
 w:wN y.1<=wN x.1
def Wb.refl {x:NE} (h:At x.1=true):Wb x x:=⟨h,rfl,rfl,aK _,aK _⟩
def Wb.trans {x y z:NE} (h:Wb x y) (k:Wb y z):Wb x z:=⟨k.g,k.t.trans h.t,k.c.trans h.c,bE k.e h.e,bE k.w h.w⟩
def Kd {x:NE} {s:Js} (h:Bo x.1 s=none):Nd x s=x:=by
 unfold Nd;rw [h];show (x.1,x.2++[])=x;rw [bc]
def Zv {x:NE} {s:Js} {r:NE} (h:Bo x.1 s=some r):Nd x s=(r.1,x.2++r.2):=by
 unfold Nd;rw [h];rfl
def Apt {x:NE} (hg:At x.1=true) {i:Nat} (h0:1<=i) (hi:i < x.1.Ap.Ad.length):Wb x (Nd x (Jg i))/\((Bo x.1 (Jg i)).isSome=true->wN (Nd x (Jg i)).1 < wN x.1):=by
 have hG:=Ax.1 hg;have hn8:=(Hl hG.t).n1;obtain ⟨q1,q2,q3,q4⟩:=Bn.1 hG.l;cases e:Bo x.1 (Jg i) with
 | none =>
  rw [Kd e];exact ⟨.refl hg,fun h=>by cases h⟩
 | some r =>
  have hr:=M0 hg (Bdj h0 EY) e;have ht:=Ts e;rw [Zv e];rw [Zt hi] at e
  split at e
  ·cases e
  ·rename_i hq;cases e;have hp:=GN.pd (Ax.1 hg) i;have hpg:At (Q9 x.1 i)=true:=Ax.2 hp;have h1:=Bcl hpg i (Nw (x.1.down.getD i []));have h2:wN (Q9 x.1 i)+vd i=wN x.1:=by
    have:=Be9 vd (l:=x.1.down) (i:=i) EY hq;show Mq vd 0 (x.1.down.modify i (·.drop 1))+Mq vu 0 x.1.up+vd i=Mq vd 0 x.1.down+Mq vu 0 x.1.up;omega
   have hpk:Br (Nw (x.1.down.getD i []))=true:=Np (Mx (s:=Jg i) hg).1 (Pl (by show 0 < (x.1.down.getD i []).length;omega));have h3:=At0 hpg hpk h0 hi;have hlt:wN (C9 (Q9 x.1 i) i (Nw (x.1.down.getD i []))).1 < wN x.1:=EY
   refine ⟨⟨hr,ht,by rw [Bht];rfl,?_,Nat.le_of_lt hlt⟩,fun _=>hlt⟩;show (x.2++_).length+24 * wN (C9 (Q9 x.1 i) i (Nw (x.1.down.getD i []))).1<=_;rw [aA];omega
def Bbc {x:NE} (hg:At x.1=true) {i:Nat} (h0:1<=i) (hi:i < x.1.Ap.Ad.length):Wb x (Nd x (Mn i))/\((Bo x.1 (Mn i)).isSome=true->wN (Nd x (Mn i)).1 < wN x.1)/\(Nd x (Mn i)).2=x.2:=by
 have hG:=Ax.1 hg;have hn8:=(Hl hG.t).n1;obtain ⟨q1,q2,q3,q4⟩:=Bn.1 hG.l;cases e:Bo x.1 (Mn i) with
 | none =>
  rw [Kd e];exact ⟨.refl hg,fun h=>(by cases h),rfl⟩
 | some r =>
  have hr:=M0 hg (Azn h0 EY) e;have ht:=Ts e;rw [Zv e];rw [Xb hi] at e
  split at e
  ·cases e
  ·rename_i hq;cases e;have hp:=GN.pu (Ax.1 hg) i;have hpg:At (Pa x.1 i)=true:=Ax.2 hp;have h1:=Bjm hpg h0 hi (Nw (x.1.up.getD i []));have h2:wN (Pa x.1 i)+vu i=wN x.1:=by
    have:=Be9 vu (l:=x.1.up) (i:=i) EY hq;show Mq vd 0 x.1.down+Mq vu 0 (x.1.up.modify i (·.drop 1))+vu i=Mq vd 0 x.1.down+Mq vu 0 x.1.up;omega
   have hlt:wN (Qz (Pa x.1 i) i (Nw (x.1.up.getD i []))) < wN x.1:=EY
   refine ⟨⟨hr,ht,by rw [Bhu];rfl,?_,Nat.le_of_lt hlt⟩,fun _=>hlt,bc _⟩;show (x.2++[]).length+24 * wN (Qz (Pa x.1 i) i (Nw (x.1.up.getD i [])))<=_;rw [bc];omega
def Pv {x:NE} (hg:At x.1=true):∀k,k+1<=x.1.Ap.Ad.length->Wb x (Ib x k)/\(Q7 x k=true->wN (Ib x k).1 < wN x.1)/\(Q7 x k=false->Ib x k=x/\∀i,1<=i->i<=k->Bo x.1 (Jg i)=none/\Bo x.1 (Mn i)=none)
 | 0,_=>⟨.refl hg,fun h=>(by cases h),fun _=>⟨rfl,fun i a b=>by omega⟩⟩
 | k+1,hk=>by
  obtain ⟨f1,m1,z1⟩:=Pv hg k EY;have hk1:k+1 < (Ib x k).1.Ap.Ad.length:=by rw [f1.t];omega
  obtain ⟨f2,m2⟩:=Apt f1.g EY hk1;have hk2:k+1 < (Nd (Ib x k) (Jg (k+1))).1.Ap.Ad.length:=by rw [f2.t];exact hk1
  obtain ⟨f3,m3,e3⟩:=Bbc f2.g EY hk2;have w2:=f2.w;have w3:=f3.w;have w1:=f1.w;refine ⟨(f1.trans f2).trans f3,fun h=>?_,fun h=>?_⟩
  ·show wN (Nd (Nd (Ib x k) (Jg (k+1))) (Mn (k+1))).1 < _;unfold Q7 at h;rw [bX,bX] at h;rcases h with (h|h)|h
   ·have:=m1 h;omega
   ·have:=m2 h;omega
   ·have:=m3 h;omega
  ·unfold Q7 at h;rw [dy,dy] at h;obtain ⟨⟨h1,h2⟩,h3⟩:=h;obtain ⟨e1,z⟩:=z1 h1;have n2:Bo (Ib x k).1 (Jg (k+1))=none:=HN
   have n3:Bo (Nd (Ib x k) (Jg (k+1))).1 (Mn (k+1))=none:=IA
   have e2:=Kd n2;rw [e2] at n3;refine ⟨?_,fun i a b=>?_⟩
   ·show Nd (Nd (Ib x k) (Jg (k+1))) (Mn (k+1))=x;rw [e2,Kd n3,e1]
   ·by_cases hi:i=k+1
    ·subst hi;rw [e1] at n2 n3;exact ⟨n2,n3⟩
    ·exact z i a EY
def Acb:∀{l:List (List As)},qd l=0↔∀q∈l,q=[]
 | []=>by simp [qd]
 | x::r=>by
  have ih:=Acb (l:=r);show x.length+qd r=0↔_;rw [Nat.add_eq_zero_iff,bu,ih];simp
def Abw {l:List (List As)} {i:Nat} (h:qd l=0):(l.getD i []).length=0:=by
 rw [bt];cases e:l[i]? with
 | none=>rfl
 | some q=>rw [Acb.1 h q (ci e)];rfl
def Ab6 {n:Dx} (hg:At n=true):(n.down.getD 0 []).length=0/\(n.up.getD 0 []).length=0:=by
 have hG:=Ax.1 hg;have h2:=(Hl hG.t).n0;obtain ⟨h1,h2,h3,h4,r⟩:=hG.rn (i:=0) EY;obtain ⟨-, -,a,b⟩:=r.hz rfl;rw [Qg h3,Qg h4];exact ⟨a,b⟩
def Bdt {n:Dx} (hg:At n=true) (h:∀i,1<=i->i < n.Ap.Ad.length->Bo n (Jg i)=none/\Bo n (Mn i)=none):Yr n=0:=by
 have hG:=Ax.1 hg;obtain ⟨q1,q2,q3,q4⟩:=Bn.1 hG.l;obtain ⟨z1,z2⟩:=Ab6 hg;have hd:qd n.down=0:=Acb.2 fun q hq=>by
  obtain ⟨i,hi,rfl⟩:=bl hq;rw [<-bu,<-Qg hi []];by_cases e:i=0
  ·rw [e];exact z1
  ·have:=(h i EY EY).1;rw [Zt EY] at this
   split at this
   ·assumption
   ·cases this
 have hu:qd n.up=0:=Acb.2 fun q hq=>by
  obtain ⟨i,hi,rfl⟩:=bl hq;rw [<-bu,<-Qg hi []];by_cases e:i=0
  ·rw [e];exact z2
  ·have:=(h i EY EY).2;rw [Xb EY] at this
   split at this
   ·assumption
   ·cases this
 unfold Yr;omega
def Ahk {x:NE} (hg:At x.1=true):Q7 x (x.1.Ap.Ad.length - 1)=false↔Yr x.1=0:=by
 have h2:=(Hl (Ax.1 hg).t).n0;constructor
 ·intro h;obtain ⟨-,hz⟩:=(Pv hg (x.1.Ap.Ad.length - 1) EY).2.2 h;exact Bdt hg fun i a b=>hz i a EY
 ·intro h;have hd:qd x.1.down=0:=by unfold Yr at h;omega
  have hu:qd x.1.up=0:=by unfold Yr at h;omega
  have:∀k,k+1<=x.1.Ap.Ad.length->Q7 x k=false:=by
   intro k
   induction k with
   | zero=>intro _;rfl
   | succ k ih =>
    intro hk;have h1:=ih EY;have e1:=((Pv hg k EY).2.2 h1).1;unfold Q7;have n1:Bo x.1 (Jg (k+1))=none:=by rw [Zt EY,aH (Abw hd)]
    have n2:Bo x.1 (Mn (k+1))=none:=by rw [Xb EY,aH (Abw hu)]
    rw [h1,e1,Kd n1,n1,n2];rfl
  exact this _ EY
def Ark {x:NE} (hg:At x.1=true) (h:Yr x.1=0):W9 x=x:=by
 have h2:=(Hl (Ax.1 hg).t).n0;exact ((Pv hg (x.1.Ap.Ad.length - 1) EY).2.2 ((Ahk hg).2 h)).1
def M6 {x:NE} (hg:At x.1=true):Wb x (W9 x)/\(¬Yr x.1=0->wN (W9 x).1 < wN x.1):=by
 have h2:=(Hl (Ax.1 hg).t).n0;obtain ⟨a,b, -⟩:=Pv hg (x.1.Ap.Ad.length - 1) EY;refine ⟨a,fun h=>b ?_⟩;cases e:Q7 x (x.1.Ap.Ad.length - 1)
 ·exact absurd ((Ahk hg).1 e) h
 ·rfl
def Rt {f:Nat} {x:NE} (h:Yr x.1=0):Tx f x=x:=by
 cases f
 ·rfl
 ·unfold Tx;rw [aH h]
def Ael:∀(f g:Nat) {x:NE},At x.1=true->wN x.1<=f->wN x.1<=g->Tx f x=Tx g x
 | 0,g,x,hg,h,_=>by
  have hz:Yr x.1=0:=by
   by_cases h0:Yr x.1=0
   ·exact h0
   ·have:=(M6 hg).2 h0;omega
  rw [Rt hz,Rt hz]
 | f+1,g,x,hg,h,h2=>by
  by_cases hz:Yr x.1=0
  ·rw [Rt hz,Rt hz]
  ·obtain ⟨hf,hw⟩:=M6 hg;have hw:=hw hz;obtain ⟨m,rfl⟩:∃m,g=m+1:=⟨g - 1,EY⟩;unfold Tx;rw [aC hz,aC hz];exact Ael f m hf.g EY EY
def Ai3 {f:Nat} {x:NE} (hg:At x.1=true) (h:wN x.1<=f):Tx f x=Tx (wN x.1) x:=Ael _ _ hg h (aK _)
def Abr {x:NE} (h:Yr x.1=0):drE x=x:=Rt h
def Agr {x:NE} (hg:At x.1=true) (h:¬Yr x.1=0):drE x=drE (W9 x):=by
 obtain ⟨hf,hw⟩:=M6 hg;have hw:=hw h;obtain ⟨m,hm⟩:∃m,wN x.1=m+1:=⟨wN x.1 - 1,EY⟩;unfold drE;rw [hm];show (if Yr x.1=0 then x else Tx m (W9 x))=_;rw [aC h,Ai3 hf.g EY]
def Agq {x:NE} (hg:At x.1=true):Wb x (drE x)/\Yr (drE x).1=0:=by
 obtain ⟨k,hk⟩:∃k,wN x.1<=k:=⟨_,aK _⟩
 induction k generalizing x with
 | zero =>
  have hz:Yr x.1=0:=by
   by_cases h:Yr x.1=0
   ·exact h
   ·have:=(M6 hg).2 h;omega
  rw [Abr hz];exact ⟨.refl hg,hz⟩
 | succ k ih =>
  by_cases h:Yr x.1=0
  ·rw [Abr h];exact ⟨.refl hg,h⟩
  ·obtain ⟨hf,hw⟩:=M6 hg;have hw:=hw h;rw [Agr hg h];obtain ⟨a,b⟩:=ih hf.g EY;exact ⟨hf.trans a,b⟩
def Amu (f:Nat->Nat) (B:Nat):∀(l:List (List As)) (k:Nat),(∀q∈l,q.length<=6)->(∀i,k<=i->i < k+l.length->f i<=B)->Mq f k l<=l.length * (6 * B)
 | [],_,_,_=>aD _
 | x::r,k,h,hB=>by
  have ih:=Amu f B r (k+1) (fun q hq=>h q GB) fun i a b=>hB i EY (by simp only [aU];omega);have h1:=Nat.mul_le_mul (h x FA) (hB k (aK _) (by simp only [aU];omega));show x.length * f k+Mq f (k+1) r<=(r.length+1) * (6 * B);rw [gH];omega
def Bbp {n:Dx} (hg:At n=true):wN n<=280000000:=by
 have hG:=Ax.1 hg;have h8:=(Hl hG.t).n1;obtain ⟨q1,q2,q3,q4⟩:=Bn.1 hG.l;obtain ⟨-, -,e3,e4⟩:=If hg;have h1:=Amu vd 2097152 n.down 0 (fun q hq=>(C8 (e3 q hq)).1) fun i _ _=>bE (dR (n:=8) EZ (show 7 - i<=7 by omega)) EZ;have h2:=Amu vu 3670023 n.up 0 (fun q hq=>(C8 (e4 q hq)).1) fun i _ _=>by unfold vu;omega
 have h3:=cF (6 * 2097152) (show n.down.length<=8 by omega);have h4:=cF (6 * 3670023) (show n.up.length<=8 by omega);unfold wN;omega
def Ase {n:Dx} (hg:At n=true):(Q2 n).2.length<=6720000000:=by
 have h:=(Agq (x:=(n,[])) hg).1.e;have:=Bbp hg;show (drE (n,[])).2.length<=_;simp only [aY] at h;omega
def kst (m i:Nat):Js:=⟨if m=0 then 2 else 5,(i:Int),⟨#[]⟩⟩
def T0 (y:NE) (i:Nat):Nat->NE
 | 0=>y
 | m+1=>Nd (T0 y i m) (kst m i)
def Aeq (b:Bool) (y:NE) (i:Nat):Nat->Bool
 | 0=>b
 | m+1=>Aeq b y i m || (Bo (T0 y i m).1 (kst m i)).isSome
def Acg (x:NE) (k:Nat):Ib x (k+1)=T0 (Ib x k) (k+1) 2:=rfl
def Aop (x:NE) (k:Nat):Q7 x (k+1)=Aeq (Q7 x k) (Ib x k) (k+1) 2:=rfl
def Bji {m i:Nat} (h0:1<=i) (h:i<=7) (hm:m < 2):Dq (kst m i)=true:=by
 rcases (show m=0\/m=1 by omega) with rfl|rfl
 ·exact Bdj h0 h
 ·exact Azn h0 h
def Auk {y:NE} (hg:At y.1=true) {i:Nat} (h0:1<=i) (hi:i < y.1.Ap.Ad.length):∀m,m<=2->Wb y (T0 y i m)
 | 0,_=>.refl hg
 | 1,_=>(Apt hg h0 hi).1
 | 2,_=>by
  have f1:=(Apt hg h0 hi).1;exact f1.trans (Bbc f1.g h0 (by rw [f1.t];exact hi)).1
 | m+3,h=>by omega
def Ey (x:NE):Nat->NE
 | 0=>x
 | k+1=>Ast (Ey x k) k
def Bgv {x:NE} (hg:At x.1=true) {i:Nat} (hi:i < x.1.Ap.Ad.length):Wb x (Nd x (Jg i)):=by
 by_cases h0:i=0
 ·subst h0;rw [Kd (by rw [Zt hi,aH (Ab6 hg).1])];exact .refl hg
 ·exact (Apt hg EY hi).1
def Bgw {x:NE} (hg:At x.1=true) {i:Nat} (hi:i < x.1.Ap.Ad.length):Wb x (Nd x (Mn i))/\(Nd x (Mn i)).2=x.2:=by
 by_cases h0:i=0
 ·subst h0;rw [Kd (by rw [Xb hi,aH (Ab6 hg).2])];exact ⟨.refl hg,rfl⟩
 ·have:=Bbc hg EY hi;exact ⟨this.1,this.2.2⟩
def Ae8 {x:NE} (hg:At x.1=true):∀k,k<=x.1.Ap.Ad.length->Wb x (Ey x k)
 | 0,_=>.refl hg
 | k+1,hk=>by
  have f1:=Ae8 hg k EY;have f2:=Bgv f1.g (i:=k) (by rw [f1.t];omega);have f3:=(Bgw f2.g (i:=k) (by rw [f2.t,f1.t];omega)).1;exact (f1.trans f2).trans f3
def Akw {x:NE} (hg:At x.1=true):∀k,Ey x (k+1)=Ib x k
 | 0=>by
  have h2:=(Hl (Ax.1 hg).t).n0;show Nd (Nd x (Jg 0)) (Mn 0)=x;rw [Kd (x:=x) (s:=Jg 0) (by rw [Zt EY,aH (Ab6 hg).1]),Kd (by rw [Xb EY,aH (Ab6 hg).2])]
 | k+1=>by
  show Ast (Ey x (k+1)) (k+1)=Ast (Ib x k) (k+1);rw [Akw hg k]
def Arj {x:NE} (hg:At x.1=true):Ey x x.1.Ap.Ad.length=W9 x:=by
 have h2:=(Hl (Ax.1 hg).t).n0;obtain ⟨m,hm⟩:∃m,x.1.Ap.Ad.length=m+1:=⟨x.1.Ap.Ad.length - 1,EY⟩;unfold W9;rw [hm,Akw hg,dG]
def Ou {l:List (List As)} (h:∀q∈l,q.length<=6):∀k,qd (l.take k)<=6 * k:=by
 induction l with
 | nil=>intro k;rw [List.take_nil];exact aD _
 | cons q r ih =>
  intro k;cases k with
  | zero=>exact aK _
  | succ k =>
   have:=ih (fun q hq=>h q GB) k;have:=h q FA;show q.length+qd (r.take k)<=_;omega
def Ama {l:List (List As)} {k:Nat} (hk:k < l.length):qd (l.take (k+1))=qd (l.take k)+l[k].length:=by
 unfold qd;rw [aR hk,bB,List.sum_append];simp
def Ay1 (a b:Int):FV 352 [aa a,aa b] [] (aa (min a b)):=by
 refine enter func352 rfl ntmps352 fun w0=>?_;refine go ?_;refine Ay rfl (fun h=>?_) (fun h=>?_)
 ·refine go ?_;rw [show min a b=a by omega];exact BA
 ·refine go ?_;rw [show min a b=b by omega];exact BA
def Au2 (r:A8) (p:As) (d:Int) (v:Value) (F:aq) (hg:Mk r) (hp:Br p=true) (d0:1<=d) (d1:d<=8) :
  Fn prog 305 [v,.agg #[aa p.Ct,aa p.Ae,aa p.Am,aa p.Es,af p.data],aa d] [.isv Cb v r F] [] (fun (_:NwS)=>True) (fun s=>.tuple #[.agg #[.bool ((Ll r p d)).Bg,aa ((Ll r p d)).Ai,aa ((Ll r p d)).Aa.next,.slice s.a1 ((Ll r p d)).Aa.Ao.length s.c1,.slice s.a2 ((Ll r p d)).An.length s.c2],.slice s.ae (M4 r p).length s.ce])
   (fun s=>[.isv Cb (.agg #[.bool ((Ll r p d)).Bg,aa ((Ll r p d)).Ai,aa ((Ll r p d)).Aa.next,.slice s.a1 ((Ll r p d)).Aa.Ao.length s.c1,.slice s.a2 ((Ll r p d)).An.length s.c2]) (Ll r p d) s.F1,.ow A9 9 (.slice s.ae (M4 r p).length s.ce) (M4 r p) s.Fe]):=by
 have k0:=hg.k0;have k1:=hg.k1;obtain ⟨-,q1,q2, -⟩:=Dj.1 hg.q;have hser:∀q∈r.An,Cd q.Ae=true:=fun q hq=>(Yv hg hq).1;obtain ⟨hsg, -⟩:=Rf hg hp;obtain ⟨htg, -,htl⟩:=Ue hg hp;obtain ⟨hng,hnq, -,hnl⟩:=Zn hg hp d0 d1 EY;obtain ⟨s0_,s1_⟩:=Iu hsg;obtain ⟨w0_,w1_⟩:=Iu htg;obtain ⟨v0_,v1_⟩:=Iu hng;obtain ⟨hw8,hit⟩:=Lc hsg;obtain ⟨hu8,hiu⟩:=Lc htg;obtain ⟨n0,n1⟩:=Kz hp;have hrw:=(Lc hg.w).1;have hp2:=hp;unfold Br at hp2;simp only [aw] at hp2;obtain ⟨t0_,t1_⟩:=Ba.1 hp2.1.1.1.1.2;obtain ⟨l0_,l1_⟩:=Ba.1 hp2.1.1.1.2;have hps:p.data.size<=8:=Vn hp2.1.1.2
 refine enter func305 rfl ntmps305 fun w0=>?_;refine Fm (v:=v) (x:=r) (F:=F) ?_;rintro a1 c1 F1 a2 c2 F2 rfl - -;refine go ?_;intros;refine Be (T4 r _ F EY EY) fun u _=>?_;refine I2 ?_;rintro a5 c5 F5 a6 c6 F6 e6 - -;rw [e6];refine Av (E:=C0) fun G5=>?_;refine Av (E:=Az) fun G6=>?_;refine go ?_;intros;rename_i g3 g4 g6 g8 g9;refine C3 A9 ?_
 refine Dv [2,4,6,8,9] [0,2,4,5] (fun _:aq=>[]) (fun s=>[.row g8 118 0 [] [.bool true,aa r.Ai,aa (Eg r p).next,.slice a5 (Eg r p).Ao.length c5,ab a6 r.An.length c6] [],.isv Bx (.agg #[aa (Eg r p).next,.slice a5 (Eg r p).Ao.length c5]) (Eg r p) s]) (fun _=>True) ?_ fun G7 _=>?_
 ·cases hs:r.Bg
  ·by_cases hk:p.Ct=5
   ·have e:Eg r p=⟨p.Es,r.Aa.Ao⟩:=by unfold Eg;rw [hs,aH hk];rfl
    rw [e];refine go ?_;refine Ay rfl (fun _=>?_) (fun h=>absurd hk h);refine Ch (a1:=a5) ⟨p.Es,r.Aa.Ao⟩ ?_;refine go ?_;refine Bk G5 trivial
   ·have e:Eg r p=⟨p.Ae,r.Aa.Ao⟩:=by unfold Eg;rw [hs,aC hk];rfl
    rw [e];refine go ?_;refine Ay rfl (fun h=>absurd h hk) (fun _=>?_);refine Ch (a1:=a5) ⟨p.Ae,r.Aa.Ao⟩ ?_;refine go ?_;refine Bk G5 trivial
  ·have e:Eg r p=r.Aa:=by unfold Eg;rw [hs];rfl
   rw [e];refine Ch (a1:=a5) r.Aa ?_;refine go ?_;refine Bk G5 trivial
 repeat (first|apply X5|apply Zz|apply Pg)
 refine Bcj [2,4,6,8] [3,4,5] (fun s:SkS=>[(9,.slice s.ae (Lh r p).length s.ce)]) (fun s=>[.row g8 118 0 [] [.bool true,aa r.Ai,aa (Gg r p).next,.slice s.a (Gg r p).Ao.length s.c,ab a6 r.An.length c6] [],.isv Bx (.agg #[aa (Gg r p).next,.slice s.a (Gg r p).Ao.length s.c]) (Gg r p) s.F,.ow A9 9 (.slice s.ae (Lh r p).length s.ce) (Lh r p) s.Fe]) (fun _=>True) ?_ fun s _=>?_
 ·by_cases hk:p.Ct=5
  ·have e1:Gg r p=Eg r p:=by unfold Gg;rw [aH hk]
   have e2:Lh r p=[]:=by unfold Lh;rw [aH hk]
   rw [e1,e2];refine go ?_;rw [ay (show ¬ ¬p.Ct=5 from fun h=>h hk)];refine go ?_;refine Bk (⟨a5,c5,G7,_,_,_⟩:SkS) trivial
  ·have e1:Gg r p=Mm (Eg r p) p.Ae p.data:=by unfold Gg;rw [aC hk]
   have e2:Lh r p=L9 (Eg r p) p.Ae p.data:=by unfold Lh;rw [aC hk]
   rw [e1,e2];refine go ?_;rw [av (show ¬p.Ct=5 from hk)];refine go ?_;refine Be (Aqx (Eg r p) p.Ae _ G7 s0_ s1_ n0 n1 hw8) fun _ _=>?_;cases hok:Nx (Eg r p) p.Ae
   ·have e:(Hg (Eg r p) p.Ae || !decide (gp (Eg r p).next p.Ae < 8))=true:=by unfold Nx at hok;simp only [dy] at hok;rw [hok.1,hok.2];rfl
    have e3:Mm (Eg r p) p.Ae p.data=Eg r p:=by unfold Mm;rw [aH e]
    have e4:L9 (Eg r p) p.Ae p.data=[]:=by unfold L9;rw [aH e]
    rw [e3,e4];refine go ?_;refine Bk (⟨a5,c5,G7,_,_,_⟩:SkS) trivial
   ·refine go ?_;refine Be (Auu (Eg r p) p.Ae p.data _ G7 s0_ s1_ n0 n1 hw8 hit hps hok) fun y hy=>?_;obtain ⟨hy1,hy2⟩:=hy;have hyl:y.es.length<=8:=by rw [hy2,<-e2];exact htl
    refine Av (E:=A9) (xs:=y.es) fun G8=>?_;refine go ?_;intros;apply wO;refine N5 (ys:=y.es) D7 Ie fun a9 c9 F9=>?_;rw [aZ];rw [<-hy1,<-hy2];refine go ?_;refine Bk (⟨y.a,y.c,y.F,_,_,_⟩:SkS) trivial
 obtain ⟨a3,c3,F3,ae,cE,Fe⟩:=s;dsimp only;refine go ?_;refine ce (fun w s=>Q6 _ _ _ EY EY) ?_;refine go ?_;refine Dv [2,4,6,8] [3,4,5] (fun s:SkS=>[(9,.slice s.ae (M4 r p).length s.ce)]) (fun s=>[.row g8 118 0 [] [.bool true,aa r.Ai,aa (Cv r p).next,.slice s.a (Cv r p).Ao.length s.c,ab a6 r.An.length c6] [],.isv Bx (.agg #[aa (Cv r p).next,.slice s.a (Cv r p).Ao.length s.c]) (Cv r p) s.F,.ow A9 9 (.slice s.ae (M4 r p).length s.ce) (M4 r p) s.Fe]) (fun _=>True) ?_ fun s _=>?_
 ·cases hb:Ug (Gg r p).next p.Am
  ·have e1:Cv r p=Gg r p:=by show O6 _ _=_;unfold O6;rw [hb];rfl
   have e2:M4 r p=Lh r p:=by unfold M4 Pn;rw [hb];simp
   rw [e1,e2];refine go ?_;refine Bk (⟨a3,c3,F3,_,_,_⟩:SkS) trivial
  refine go ?_;refine ce (fun w s=>Jw _ _ _ EY EY) ?_;refine go ?_;refine Ay rfl (fun h4=>?_) (fun h4=>?_)
  ·have e1:Cv r p=Jq (Gg r p) p.Am:=by show O6 _ _=_;unfold O6;rw [hb,aH rfl,aH h4]
   have e2:M4 r p=Lh r p++Jp (Gg r p) p.Am:=by unfold M4 Pn;rw [hb,aH rfl,aH h4]
   have hl2:=hnl;rw [e2,aA] at hl2;refine go ?_;refine Be (Uq (Gg r p) p.Am _ F3 w0_ w1_ t0_ t1_ hu8 hiu) fun y hy=>?_;obtain ⟨hy1,hy2⟩:=hy;have hyl:y.es.length<=24:=by rw [hy2];show (Jp (Gg r p) p.Am).length<=24;omega
   refine Av (E:=A9) (xs:=y.es) fun G8=>?_;refine go ?_;intros;apply wO;refine N5 (ys:=y.es) D7 Ie fun a9 c9 F9=>?_;rw [e1,e2,show Jq (Gg r p) p.Am=y.y from hy1.symm,show Jp (Gg r p) p.Am=y.es from hy2.symm];refine go ?_;refine Bk (⟨y.a,y.c,y.F,_,_,_⟩:SkS) trivial
  ·have e1:Cv r p=⟨p.Am,[]⟩:=by show O6 _ _=_;unfold O6;rw [hb,aH rfl,aC h4]
   have e2:M4 r p=Lh r p++[⟨#[33]⟩]:=by unfold M4 Pn;rw [hb,aH rfl,aC h4]
   rw [e1,e2];refine go ?_;intros;apply wO;refine N9 (Us ⟨#[33]⟩ EZ) D7 fun a9 c9 F9=>?_;refine Ci C0 EZ ?_;refine Ch (a1:=none) ⟨p.Am,[]⟩ ?_;refine go ?_;refine Bk (⟨none,0,_,_,_,_⟩:SkS) trivial
 obtain ⟨a7,c7,F7,ae,cE,Fe⟩:=s;dsimp only;refine go ?_;refine Be (Aeu r.An (Cv r p) a6 c6 G6 _ F7 EY hser v0_ v1_) fun z _=>?_;refine go ?_;refine ce (fun w s=>Q6 _ _ _ EY EY) ?_;have hNq8:=(Dj.1 hnq).2.1;cases hb:Ug (Cv r p).next p.Es
 ·have e1:Ll r p d=⟨true,r.Ai,Cv r p,Ej r.An (Cv r p)⟩:=by unfold Ll Qd;rw [hb];rfl
  rw [e1];refine go ?_;refine Av (E:=Az) (xs:=Ej r.An (Cv r p)) fun F8=>?_;refine Cq (x:=Cv r p) ?_;rintro b1 dd1 G1 e5 m1;simp only [Value.agg.injEq,Array.mk.injEq,List.cons.injEq,Value.slice.injEq,cM,cO] at e5;obtain ⟨rfl,rfl⟩:=e5;refine D5 ⟨true,r.Ai,Cv r p,Ej r.An (Cv r p)⟩ ?_;exact DJ
 obtain ⟨k,hk⟩:∃k,k=Aap (Cv r p) p.Es:=⟨_,rfl⟩;have hk8:k<=8:=by rw [hk];exact Tk _ _
 have hgb:=Lt (Cv r p).next p.Es
 have hkm:((k:Nat):Int)=min (gp (Cv r p).next p.Es) 8:=by rw [hk];unfold Aap;omega
 obtain ⟨N,hN⟩:∃N,N=O2 (Cv r p) k:=⟨_,rfl⟩;have hNl:N.length<=8:=by have:=Adx (Cv r p) k;rw [hN];omega
 have e1:Ll r p d=⟨true,r.Ai,Cv r p,Ln (Cv r p).next (r.Ai+d) (Ej r.An (Cv r p)) N⟩:=by unfold Ll Qd;rw [hb,aH rfl,hN,hk]
 rw [e1];have Uz:=Jk (Cv r p).next (min (gp (Cv r p).next p.Es) 8)
 have hgp:gp (Cv r p).next (Cf (Cv r p).next (min (gp (Cv r p).next p.Es) 8))=(k:Nat):=by rw [<-hkm];unfold gp Cf;omega
 refine go ?_;refine ce (fun w s=>Jw _ _ _ EY EY) ?_;refine go ?_;refine Be (Ay1 _ _) fun _ _=>?_;refine go ?_;refine ce (fun w s=>Id _ _ _ EY EY) ?_;refine go ?_;refine Be (Al0 (Cv r p) _ k _ F7 v0_ v1_ EY EY hgp) fun m _=>?_;rw [<-hN];refine Av (E:=Bc) (xs:=N) fun GN=>?_;refine Av (E:=Az) (xs:=Ej r.An (Cv r p)) fun F8=>?_;refine go ?_
 refine Ca [2,6,8,9,14,16] (fun s:AwS=>[(17,aa (s.i:Nat))]) (fun s=>[.row g8 118 0 [] [.bool true,aa r.Ai,aa (Cv r p).next,.slice a7 (Cv r p).Ao.length c7,.slice s.a (Ln (Cv r p).next (r.Ai+d) (Ej r.An (Cv r p)) (N.take s.i)).length s.c] [],.sl Az (.slice s.a (Ln (Cv r p).next (r.Ai+d) (Ej r.An (Cv r p)) (N.take s.i)).length s.c) (Ln (Cv r p).next (r.Ai+d) (Ej r.An (Cv r p)) (N.take s.i)) s.F]) (fun s=>s.i<=N.length) (fun s=>N.length - s.i) ⟨0,z.1,z.2.1,F8⟩ (aD _) fun s hs=>?_;obtain ⟨i,a3,c3,F3⟩:=s;dsimp only at hs ⊢
 have hall:=Rq (w:=Cv r p) (u:=r.Ai+d) EY EY (N.take i) (Ej r.An (Cv r p)) (fun n hn=>by
  have:=R5 (w:=Cv r p) (n:=n) hk8 (by rw [<-hN];exact bK hn);exact ⟨this.1,this.2.2⟩) hnq P4
 have hLs:∀h:i < N.length,Ln (Cv r p).next (r.Ai+d) (Ej r.An (Cv r p)) (N.take (i+1))=U8 (Cv r p).next (Ln (Cv r p).next (r.Ai+d) (Ej r.An (Cv r p)) (N.take i)) N[i] (r.Ai+d):=fun h=>Aei h
 generalize hLd:Ln (Cv r p).next (r.Ai+d) (Ej r.An (Cv r p)) (N.take i)=L at *
 have hLq:=hall.1;have hL8:=(Dj.1 hLq).2.1;refine go ?_;refine Ay rfl (fun h4=>?_) (fun h4=>?_)
 ·have hi:i < N.length:=EY
  have hni:=R5 (w:=Cv r p) (n:=N[i]) hk8 (by rw [<-hN];exact aB hi);refine Im (xs:=N) i ?_;rintro hi2 b o2 e;rw [e];refine go ?_;refine Ar [0,1] [12] ?_;refine C4 0 1 2 3 ?_;refine C4 4 5 6 7 ?_;refine Dh 8 9 ?_;refine dN 10 ?_;refine oC ?_;refine Be (Ayt L (Cv r p).next N[i] r.Ai d a3 c3 F3 hLq hni.1 k0 k1 d0 d1) fun u _=>?_;rw [<-hLs hi];refine dk ?_;refine dt 11 ?_;refine dN 12 ?_;refine oS ?_;refine Nm ?_;refine dd ?_;refine Av (E:=Az) fun F9=>?_;refine go ?_;exact CM
 have hi:i=N.length:=EY
 subst hi;rw [bj] at hLd;rw [hLd];refine go ?_;refine Cq (x:=Cv r p) ?_;rintro b1 dd1 G1 e5 m1;simp only [Value.agg.injEq,Array.mk.injEq,List.cons.injEq,Value.slice.injEq,cM,cO] at e5;obtain ⟨rfl,rfl⟩:=e5;refine D5 ⟨true,r.Ai,Cv r p,L⟩ ?_;exact DJ
def Adm (r:A8) (p:As) (d:Int) (v:Value) (F:aq) (hg:Mk r) (hp:Br p=true) (d0:1<=d) (d1:d<=8) :
  Fn prog 238 [v,.agg #[aa p.Ct,aa p.Ae,aa p.Am,aa p.Es,af p.data],aa d] [.isv Cb v r F] [] (fun (_:NwS)=>True) (fun s=>.tuple #[.agg #[.bool ((Dn r p d)).Bg,aa ((Dn r p d)).Ai,aa ((Dn r p d)).Aa.next,.slice s.a1 ((Dn r p d)).Aa.Ao.length s.c1,.slice s.a2 ((Dn r p d)).An.length s.c2],.slice s.ae (Is r p).length s.ce])
   (fun s=>[.isv Cb (.agg #[.bool ((Dn r p d)).Bg,aa ((Dn r p d)).Ai,aa ((Dn r p d)).Aa.next,.slice s.a1 ((Dn r p d)).Aa.Ao.length s.c1,.slice s.a2 ((Dn r p d)).An.length s.c2]) (Dn r p d) s.F1,.ow A9 9 (.slice s.ae (Is r p).length s.ce) (Is r p) s.Fe]):=by
 have k0:=hg.k0;have k1:=hg.k1;have hrw:=(Lc hg.w).1;obtain ⟨-,q1,q2, -⟩:=Dj.1 hg.q;obtain ⟨n0,n1⟩:=Kz hp;have hkd:1<=p.Ct/\p.Ct<=5:=by unfold Br Ff at hp;simp only [aw,aF] at hp;exact hp.1.1.1.1.1.1
 refine enter func238 rfl ntmps238 fun w0=>?_;refine Fm (v:=v) (x:=r) (F:=F) ?_;rintro a1 c1 F1 a2 c2 F2 rfl - -;refine go ?_;intros;by_cases hk4:p.Ct=4
 ·have hn:Mh p=false:=by unfold Mh;simp [hk4]
  have eE:Is r p=[]:=by unfold Is;rw [hn];rfl
  rw [av hk4];cases hs:r.Bg
  ·have eR:Dn r p d=r:=by unfold Dn;rw [hn,hs];simp
   refine go ?_;rw [av hk4];refine go ?_;refine Be (T4 r _ F EY EY) fun u _=>?_;refine I2 ?_;rintro a5 c5 F5 a6 c6 F6 e6 - -;rw [e6];refine Av (E:=C0) fun G5=>?_;refine Av (E:=Az) fun G6=>?_;refine go ?_;intros;refine C3 A9 ?_;refine D5 (a1:=a5) r ?_;rw [eR,eE];rw [hs];exact DJ
  ·have eR:Dn r p d=Ann r p:=by unfold Dn;rw [hn,hs,av hk4];rfl
   refine go ?_;refine Be (T4 r _ F EY EY) fun u _=>?_;refine I2 ?_;rintro a5 c5 F5 a6 c6 F6 e6 - -;rw [e6];refine Av (E:=C0) fun G5=>?_;refine go ?_;intros;refine Be (Al2 r.An r.Aa.next p.Ae r.Ai a2 c2 F2 hg.q (Ba.2 ⟨n0,n1⟩) k0 k1) fun y _=>?_;refine Av (E:=Az) (xs:=Rs r.Aa.next r.An p.Ae (r.Ai+4)) fun G6=>?_;refine go ?_;intros;refine C3 A9 ?_;refine D5 (a1:=a5) (Ann r p) ?_;rw [eR,eE];exact DJ
 rw [ay hk4];refine go ?_;rw [ay hk4];refine go ?_;by_cases hk3:p.Ct=3
 ·have hn:Mh p=false:=by unfold Mh;simp [hk3]
  have eE:Is r p=[]:=by unfold Is;rw [hn];rfl
  have eR:Dn r p d=r:=by unfold Dn;rw [hn,ay hk4];rfl
  rw [av hk3];refine go ?_;refine Be (T4 r _ F EY EY) fun u _=>?_;refine I2 ?_;rintro a5 c5 F5 a6 c6 F6 e6 - -;rw [e6];refine Av (E:=C0) fun G5=>?_;refine Av (E:=Az) fun G6=>?_;refine go ?_;intros;refine C3 A9 ?_;refine D5 (a1:=a5) r ?_;rw [eR,eE];exact DJ
 have hn:Mh p=true:=by
  unfold Mh;have:p.Ct=1\/p.Ct=2\/p.Ct=5:=EY
  rcases this with h|h|h <;> simp [h]
 have eE:Is r p=M4 r p:=by unfold Is;rw [hn];rfl
 have eR:Dn r p d=Ll r p d:=by unfold Dn;rw [hn];rfl
 rw [ay hk3,eE,eR];refine go ?_;refine Be (Au2 r p d _ F hg hp d0 d1) fun s _=>?_;refine go ?_;refine ret ⟨s.a1,s.c1,s.F1,s.a2,s.c2,[],s.ae,s.ce,_⟩ trivial rfl
end Go.Proofs.YtmppejmafbfhlaaGreatDoor
namespace Go.Proofs.YtmppejmafbfhlaaGreatDoor

open Go.RowKit
end Go.Proofs.YtmppejmafbfhlaaGreatDoor
namespace Go.Proofs.YtmppejmafbfhlaaGreatDoor
open Go.RowKit
def Afo (x:A8):Bool:=x.Bg && decide ((x.An.length:Int)=0) && decide ((x.Aa.Ao.length:Int)=0)
def Aer (x:A8) (v:Value) (F:aq):FV 227 [v] [.isv Cb v x F] (.bool (Afo x)):=by
 refine enter func227 rfl ntmps227 fun w0=>?_;refine Fm (v:=v) (x:=x) (F:=F) ?_;rintro a1 c1 F1 a2 c2 F2 rfl l1 l2;unfold maxLen at l1 l2;refine go ?_;intros;cases hs:x.Bg
 ·refine go ?_;refine ret () trivial ?_;unfold Afo;rw [hs];rfl
 refine go ?_;refine Dd rfl rfl (fun h1=>?_) (fun h1=>?_)
 rotate_left
 ·refine go ?_;refine ret () trivial ?_;unfold Afo;rw [hs,ay h1];rfl
 refine go ?_;refine ret () trivial ?_;unfold Afo;rw [hs,av h1];rfl
def Qx (l:ar) (k:Nat):ar:=((List.range k).filter fun i=>Et l ((i:Nat):Int)).map fun (i:Nat)=>((i:Nat):Int)
def lvs (l:ar):ar:=Qx l l.length
def Ahj (l:ar) (k:Nat):Qx l (k+1)=Qx l k++if Et l (k:Int)=true then [(k:Int)] else []:=by
 unfold Qx;rw [dC,cj,bB]
 split <;> simp_all
def Avj {l:ar} {k:Nat} (h:Et l (k:Int)=true):Qx l (k+1)=Qx l k++[(k:Int)]:=by rw [Ahj,aH h]
def Ay4 {l:ar} {k:Nat} (h:Et l (k:Int)=false):Qx l (k+1)=Qx l k:=by rw [Ahj,aC (by rw [h];decide),bc]
def Akl (l:ar) (k:Nat):(Qx l k).length<=k:=by
 unfold Qx;rw [bf];exact bE (bN _ _) FA
def Asp {l:ar} {x:Int} {k:Nat} (h:x∈Qx l k):∃i,i < k/\x=((i:Nat):Int)/\Et l x=true:=by
 unfold Qx at h;obtain ⟨i,hi,rfl⟩:=bL.1 h;obtain ⟨h1,h2⟩:=bR.1 hi;exact ⟨i,cR.1 h1,rfl,h2⟩
def Bd2 {l:ar} (hg:Px l):Et l ((0:Nat):Int)=false:=by
 have h1:=hg.n0;have h2:=hg.p 1 EY EY;have h3:(((0:Nat):Int))∈l:=by
  have:l[1]=((0:Nat):Int):=EY
  rw [<-this];exact aB _
 unfold Et;rw [av h3];rfl
def Bf7 {l:ar} {k:Nat} (h:k < (lvs l).length):∃i,i < l.length/\(lvs l)[k]=((i:Nat):Int)/\Et l ((i:Nat):Int)=true:=by
 obtain ⟨i,hi,e,hl⟩:=Asp (aB h);exact ⟨i,hi,e,e▸hl⟩
def Bav {n:Dx} {s:Js} (hg:At n=true) (hs:Dq s=true) {y:NE} (e:Bo n s=some y):Bm n s=(y.1,y.2,true):=by
 unfold Bm;rw [hg,hs,e];rfl
def Awd {n:Dx} {s:Js} (e:Bo n s=none):(Bm n s).2.2=false:=by
 unfold Bm;rw [e];cases At n <;> cases Dq s <;> rfl
def Xc {n:Dx} {s:Js} (h:(Bm n s).2.2=true):At (Bm n s).1=true:=by
 cases g:At n
 ·exact absurd h (by unfold Bm;rw [g];cases Dq s <;> exact Bool.false_ne_true)
 cases k:Dq s
 ·exact absurd h (by unfold Bm;rw [g,k];exact Bool.false_ne_true)
 cases e:Bo n s with
 | none=>rw [Awd e] at h;cases h
 | some y=>rw [Bav g k e];exact M0 g k e
def Ax0 {n:Dx} (hg:At n=true):At (Q2 n).1=true/\Yr (Q2 n).1=0:=⟨(Agq (x:=(n,[])) hg).1.g,(Agq (x:=(n,[])) hg).2⟩
def Ra (n:Dx):Int × Int × Bool:=if At n then (((qd n.down:Nat):Int),((qd n.up:Nat):Int),true) else (0,0,false)
def Adg (n:Dx) (i:Nat):Bool:=Afo (Qt n i) && decide ((Qt n i).Aa.next=Cf n.Ab.Aa.Am n.Ab.Aa.Al.length)
def Z5 (n:Dx):Bool:=decide (Yr n=0) && (lvs n.Ap.Ad).all fun x=>Adg n x.toNat
def Gn (n:Dx):Bool × Bool:=if At n then (Z5 n,true) else (false,false)
def Azx {l:List (List As)} (h:∀i (hi:i < l.length),l[i].length=0):qd l=0:=by
 refine Acb.2 fun q hq=>?_;obtain ⟨i,hi,rfl⟩:=bl hq;exact bu.1 (h i hi)
def Ay5 {l:ar} {i:Nat} (hi:i < l.length) (h:Et l ((i:Nat):Int)=true):((i:Nat):Int)∈lvs l:=by
 unfold lvs Qx;exact bL.2 ⟨i,bR.2 ⟨cR.2 hi,h⟩,rfl⟩
def Baw {n:Dx} (h:¬Yr n=0):Z5 n=false:=by unfold Z5;rw [ay h];rfl
def Aij {n:Dx} {i:Nat} (hi:i < n.Ap.Ad.length) (h:Et n.Ap.Ad ((i:Nat):Int)=true) (hb:Adg n i=false):Z5 n=false:=by
 unfold Z5;rw [Bool.and_eq_false_iff];right;rw [cS];exact ⟨_,Ay5 hi h,by rw [show ((i:Nat):Int).toNat=i from rfl,hb];decide⟩
def Apm {n:Dx} (h:Yr n=0) (hl:∀i,i < n.Ap.Ad.length->Et n.Ap.Ad ((i:Nat):Int)=true->Adg n i=true):Z5 n=true:=by
 unfold Z5;rw [av h,bQ,aW];intro x hx;obtain ⟨i,hi,rfl,h2⟩:=Asp hx;exact hl i hi h2
def Yf:au:=⟨#[33]⟩
def SlI (S:ai) (k:Nat) (l:List Ig):Prop:=∀(j:Nat) s,l[j]?=some s->s.Uz=true->S[k+j]?=some s.Dk
def EvI (S:ai) (b:Nat) (es:ai):Prop:=∀(i:Nat) e,es[i]?=some e->e=Aon\/∃t,S[b+i]?=some t/\e=Ahv t
section
variable {S:ai} {f:Int} {k b:Nat}
def EvI.nil:EvI S b []:=fun i e h=>by simp at h
def EvI.app {x y:ai} (h:EvI S b x) (h2:EvI S (b+x.length) y):EvI S b (x++y):=fun i e he=>by
 by_cases hi:i < x.length
 ·rw [bx hi] at he;exact h i e he
 ·rw [bV EY] at he;have:=h2 _ e he
  rwa [show b+x.length+(i - x.length)=b+i by omega] at this
def SlI.drop {l:List Ig} (h:SlI S k l) (m:Nat):SlI S (k+m) (l.drop m):=fun j s hs hv=>by
 rw [dH] at hs;have:=h _ s hs hv
 rwa [show k+(m+j)=k+m+j by omega] at this
def SlI.nil:SlI S k []:=fun j s h=>by simp at h
def EvI.mono {S2:ai} {es:ai} (h:EvI S b es):EvI (S++S2) b es:=fun i e he=>by
 rcases h i e he with h|⟨t,h,e2⟩
 ·exact .inl h
 ·exact .inr ⟨t,by rw [bx (cm.1 h).1];exact h,e2⟩
def SlI.mono {S2:ai} {l:List Ig} (h:SlI S k l):SlI (S++S2) k l:=fun j s hs hv=>by
 have:=h j s hs hv;rw [bx (cm.1 this).1];exact this
structure PkI (S:ai) (f:Int) (p:As):Prop where
 t:Mh p=true->∃i:Nat,i<=S.length/\p.Am=Cf f i
 l:Mh p=true->∃i:Nat,i<=S.length/\p.Es=Cf f i
 n:Mh p=true->p.Ct≠5->∃i:Nat,S[i]?=some p.data/\p.Ae=Cf f i
def PkI.mono {S2:ai} {p:As} (h:PkI S f p):PkI (S++S2) f p :=
 ⟨fun hn=>by obtain ⟨i,a,e⟩:=h.t hn;exact ⟨i,IS,e⟩,fun hn=>by obtain ⟨i,a,e⟩:=h.l hn;exact ⟨i,IS,e⟩,
  fun hn h5=>by obtain ⟨i,a,e⟩:=h.n hn h5;exact ⟨i,by rw [bx (cm.1 a).1];exact a,e⟩⟩
structure WnI (S:ai) (f:Int) (w:Aj) (es:ai) (k:Nat):Prop where
 le:k<=S.length
 n:w.next=Cf f k
 s:SlI S k w.Ao
 e:Yf∈es\/∃b,b+es.length=k/\EvI S b es
def WnI.on {w w2:Aj} {es e2:ai} (h:WnI S f w es k) (h1:EvI S k e2) (h2:k+e2.length<=S.length) (h3:w2.next=Cf f ((k+e2.length:Nat):Int)) (h4:SlI S (k+e2.length) w2.Ao):WnI S f w2 (es++e2) (k+e2.length) :=
 ⟨h2,h3,h4,by
  rcases h.e with h|⟨b,hb,he⟩
  ·exact .inl (cA _ h)
  ·exact .inr ⟨b,IS,he.app (by rw [hb];exact h1)⟩⟩
def WnI.mono {S2:ai} {w:Aj} {es:ai} (h:WnI S f w es k):WnI (S++S2) f w es k :=
 ⟨by rw [aA];have:=h.le;omega,h.n,h.s.mono,by
  rcases h.e with h|⟨b,hb,he⟩
  ·exact .inl h
  ·exact .inr ⟨b,hb,he.mono⟩⟩
structure RcI (S:ai) (f:Int) (r:A8) (es:ai):Prop where
 z:r.Bg=false->es=[]
 w:r.Bg=true->∃k,WnI S f r.Aa es k/\∀q∈r.An,∃j:Nat,j < S.length/\q.Ae=Cf f j
def RcI.mono {S2:ai} {r:A8} {es:ai} (h:RcI S f r es):RcI (S++S2) f r es :=
 ⟨h.z,fun hs=>by obtain ⟨k,a,c⟩:=h.w hs;exact ⟨k,a.mono,fun q hq=>by obtain ⟨j,hj,e⟩:=c q hq;exact ⟨j,IS,e⟩⟩⟩
end
end Go.Proofs.YtmppejmafbfhlaaGreatDoor
namespace Go.Proofs.YtmppejmafbfhlaaGreatDoor

open Go.RowKit
end Go.Proofs.YtmppejmafbfhlaaGreatDoor
