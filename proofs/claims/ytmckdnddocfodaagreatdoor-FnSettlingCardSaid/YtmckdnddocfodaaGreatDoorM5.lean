/- Part 5 of the proof: 30 texts, one behind the other. -/
import Derived.Test.YtmckdnddocfodaaGreatDoorM4
open _root_.Go.Proofs.Tryz
set_option maxRecDepth 100000
set_option maxHeartbeats 8000000
set_option linter.all false
set_option linter.unusedVariables false
set_option linter.unusedSimpArgs false
namespace Go.Proofs.YtmckdnddocfodaaGreatDoor
theorem AP{p:Prop}(h:p:=by apply Cq;rfl;intro _;refine dk ?_;refine dN 12 ?_;refine oS ?_;refine dk ?_;refine dN 13 ?_;refine oS ?_;refine dk ?_;refine dd ?_;refine Cs ((_,_):Nat × Nat) trivial):p:=h
theorem AZ{p:Prop}(h:p:=by refine Ek 3 4 ?_;refine ds 5 ?_;refine ds 6 ?_;refine ds 7 ?_;refine ds 8 ?_;refine ds 9 ?_;refine ds 10 ?_;refine ds 11 ?_;refine ds 12 ?_;refine ds 13 ?_;refine ds 14 ?_;refine ds 15 ?_;refine ds 16 ?_;refine Ek 17 18 ?_;refine dd ?_;exact AB):p:=h
theorem BD{p:Prop}(h:p:=by have h9:=hpk;unfold Bh Qd at h9;simp only [av,aC] at h9;unfold maxLen;omega):p:=h
theorem BH{p:Prop}(h:p:=by have hz:n.up[i]=[]:=bx.1 (by omega);rw [show C4 n s=none by unfold C4;rw [aq (by omega),hq,ar (by omega)],ay h0,show n.up.set i (n.up[i].drop 1)=n.up by rw [hz,fN];rw [<-hz,bu]];refine go ?_;intros;refine ret (⟨a1,c1,F1,a2,c2,F2,a3,c3,F3,a4,c4,F4,a5,c5,F5,a6,c6,F6,a7,c7,J⟩,⟨0,none,0,[]⟩) trivial rfl):p:=h
theorem BR{p:Prop}(h:p:=by refine go ?_;refine ret () trivial ?_;rw [show Ht 1 s.Bd 6=true by unfold Ht;simp;omega];rfl):p:=h
theorem CL{p:Prop}(h:p:=by have:=(Lw (s:=s) hg).1;rw [hq] at this;unfold E9 at this;simp only [av,aC] at this;exact this.1):p:=h
theorem CW{p:Prop}(h:p:=by refine ret ⟨_,_,_,_,_,[],_,_,_⟩ trivial rfl):p:=h
theorem DE{p:Prop}(h:p:=by refine go ?_;refine ret () trivial ?_;rw [bV,du];rfl):p:=h
theorem DZ{p:Prop}(h:p:=by refine go ?_;refine ret (⟨a1,c1,F1,a2,c2,F2,a3,c3,F3,a4,c4,F4,a5,c5,F5,a6,c6,F6,a7,c7,F7⟩,⟨0,none,0,[]⟩) trivial rfl):p:=h
theorem ED{p:Prop}(h:p:=by refine go ?_;refine ret (⟨x1,w1,K1,x2,w2,K2,x3,w3,K3,x4,w4,K4,x5,w5,K5,x6,w6,K6,x7,w7,K7⟩,⟨0,ea,ec,eF⟩) trivial rfl):p:=h
theorem EJ{p:Prop}(h:p:=by refine ret (⟨some ⟨gp,0,none⟩,c1,[gp],a2,c2,F2,z.a2,z.c2,z.F,a4,c4,F4,a5,c5,F5,a6,c6,J6,a7,c7,F7⟩:NV) trivial rfl):p:=h
theorem EL{p:Prop}(h:p:=by rw [show Ff f z=(⟨⟨f,z,[]⟩,0,0,[]⟩,true) by unfold Ff;rw [g1];rfl];refine go ?_;refine ret ([]++[]) trivial rfl):p:=h
theorem FE{p:Prop}(h:p:=by show n.Ao.Ad.length - (k+1) < n.Ao.Ad.length - k;omega):p:=h
theorem FI{p:Prop}(h:p:=by dsimp only;rw [hnx];exact hsE):p:=h
theorem FJ{p:Prop}(h:p:=by dsimp only;rw [hnx];exact frE):p:=h
theorem FZ{p:Prop}(h:p:=by unfold Bt;rw [ar hn]):p:=h
theorem HB{p:Prop}(h:p:=by unfold Do;split <;> rfl):p:=h
theorem HT{p:Prop}(h:p:=by unfold Do;rw [hu,ar rfl,hi,ba]):p:=h
theorem HV{p:Prop}(h:p:=by unfold C4;rw [aq (by omega),hq,ar (by omega)]):p:=h
theorem HZ{p:Prop}(h:p:=by simp only [aK];omega):p:=h
theorem IQ{p:Prop}(h:p:=by show k+1+1<=_;omega):p:=h
end Go.Proofs.YtmckdnddocfodaaGreatDoor
namespace Go.Proofs.YtmckdnddocfodaaGreatDoor
open Go.RowKit
theorem Azl (x:Cc) (n:Int):(Hb x n).Aa=x.Aa:=by unfold Hb;split <;> rfl
theorem Azj (x:Cc) (n:Int):(Hb x n).Ae=x.Ae:=by unfold Hb;split <;> rfl
theorem Azk (x:Cc) (n:Int):(Hb x n).quiet=x.quiet:=by unfold Hb;split <;> rfl
theorem Ana {n:Du} {i k:Nat} (hg:Hf n.Ao.Ad) (hi:i < n.Ao.Ad.length) (h0:i≠0) (h:V7 n i=k):n.Ao.Ad[i]=((k:Nat):Int)/\k < i/\Br n.Ao.Ad ((k:Nat):Int)=false:=by
 have h1:=hg.p i hi EM;have e:n.Ao.Ad.getD i 0=n.Ao.Ad[i]:=N2 hi 0;unfold V7 at h;rw [e] at h;have e2:n.Ao.Ad[i]=((k:Nat):Int):=EM
 refine ⟨e2,EM,?_⟩;unfold Br;rw [<-e2,au (aE hi)];rfl
theorem Auk (n:Du) (i:Nat) (p:Ar) (g:Nat) (a1:ai) (c1:Nat) (F1:ak) (a2:ai) (c2:Nat) (F2:ak) (a3:ai) (c3:Nat) (F3:ak) (a4:ai) (c4:Nat) (F4:ak) (a5:ai) (c5:Nat) (F5:ak) (a6:ai) (c6:Nat) (F6:ak) (a7:ai) (c7:Nat) (F7:ak) (hl:Kn n=true) (h0:i≠0) (hi:i < n.Ao.Ad.length) (h8:Hf n.Ao.Ad) (hsrc:Cj n.Ac=true) (he:∀k,k≠0->k < n.Ao.Ad.length->Br n.Ao.Ad (k:Nat)=false->Ba (Li n k)=true) (hp:Bh p=true) (hps:p.data.size<=maxLen) :
  Fn prog 157 [Fv g 0 0,aa (i:Nat),.agg #[aa (p).Bd,aa (p).Ab,aa (p).Al,aa (p).Cy,af (p).data]] [] [.row g 37 0 [] [ab a1 n.Ao.Ad.length c1,aa n.Ac.Aa.Al,aa n.Ac.Aa.size,ab a2 n.Ac.Aa.An.length c2,aa n.Ac.Ae,aa n.Ac.quiet,ab a3 n.Ac.holds.length c3,ab a4 n.Ai.length c4,ab a5 n.Ah.length c5,ab a6 n.down.length c6,ab a7 n.up.length c7] [],.ow Bi 3 (ab a1 n.Ao.Ad.length c1) n.Ao.Ad F1,.ow Bc 9 (ab a2 n.Ac.Aa.An.length c2) n.Ac.Aa.An F2,.ow Bx 130 (ab a3 n.Ac.holds.length c3) n.Ac.holds F3,.ow Ck 76 (ab a4 n.Ai.length c4) n.Ai F4,.ow Ca 83 (ab a5 n.Ah.length c5) n.Ah F5,.ow (Jo Ap 103) 85 (ab a6 n.down.length c6) n.down F6,.ow (Jo Ap 103) 85 (ab a7 n.up.length c7) n.up F7] (fun (_:NV)=>True) (fun _=>.tuple #[]) (fun z=>[.row g 37 0 [] [ab z.a1 n.Ao.Ad.length z.c1,aa (Ou n i p).Ac.Aa.Al,aa (Ou n i p).Ac.Aa.size,.slice z.a2 (Ou n i p).Ac.Aa.An.length z.c2,aa (Ou n i p).Ac.Ae,aa (Ou n i p).Ac.quiet,.slice z.a3 (Ou n i p).Ac.holds.length z.c3,ab z.a4 n.Ai.length z.c4,ab z.a5 n.Ah.length z.c5,ab z.a6 n.down.length z.c6,ab z.a7 n.up.length z.c7] [],.ow Bi 3 (ab z.a1 n.Ao.Ad.length z.c1) (Ou n i p).Ao.Ad z.F1,.ow Bc 9 (.slice z.a2 (Ou n i p).Ac.Aa.An.length z.c2) (Ou n i p).Ac.Aa.An z.F2,.ow Bx 130 (.slice z.a3 (Ou n i p).Ac.holds.length z.c3) (Ou n i p).Ac.holds z.F3,.ow Ck 76 (ab z.a4 n.Ai.length z.c4) (Ou n i p).Ai z.F4,.ow Ca 83 (ab z.a5 n.Ah.length z.c5) (Ou n i p).Ah z.F5,.ow (Jo Ap 103) 85 (ab z.a6 n.down.length z.c6) (Ou n i p).down z.F6,.ow (Jo Ap 103) 85 (ab z.a7 n.up.length z.c7) (Ou n i p).up z.F7]):=by
 obtain ⟨q1,q2,q3,q4⟩:=Bk.1 hl;have hn8:=h8.n1;obtain ⟨n0,n1⟩:=Fg hp;have hone:∀x∈[((i:Nat):Int)],0<=x/\x.toNat < n.down.length:=fun x hx=>by
  rw [aH] at hx;subst hx;omega
 obtain ⟨k,hk⟩:∃k,V7 n i=k:=⟨_,rfl⟩;obtain ⟨e1,e2,e3⟩:=Ana h8 hi h0 hk;refine enter func157 rfl ntmps157 fun w0=>?_;refine Qq (xs:=n.Ao.Ad) (m:=1) Eh i ?_ EP rfl hi;rintro _ gp A0 cs B0 rfl rfl hr hH;obtain ⟨rfl, -⟩:=hr w0;rw [e1];refine go ?_;intros;refine Pf ((k:Nat):Int) hH (fun w=>⟨rfl,rfl⟩) ?_;rw [show n.Ao.Ad.set i ((k:Nat):Int)=n.Ao.Ad by rw [<-e1,bu]];refine Bf rfl (fun h5=>?_) (fun h5=>?_)
 ·obtain rfl:k=0:=EM
  rw [show Ou n i p=⟨n.Ao,Hb n.Ac p.Ab,n.Ai,n.Ah,Dc n.down [((i:Nat):Int)] (Ib n.Ac p),n.up⟩ by unfold Ou;rw [ar hk]];dsimp only;rw [Azl,Azj,Azk];refine go ?_;refine Ans [ab (some ⟨gp,0,none⟩) n.Ao.Ad.length c1] [aa n.Ac.Aa.Al,aa n.Ac.Aa.size,ab a2 n.Ac.Aa.An.length c2,aa n.Ac.Ae,aa n.Ac.quiet,ab a3 n.Ac.holds.length c3] [ab a4 n.Ai.length c4,ab a5 n.Ah.length c5,ab a6 n.down.length c6,ab a7 n.up.length c7] ?_;refine As [2] [] ?_;refine D7 0 1 3 4 ?_;refine Ek 5 6 ?_;refine dM 2 7 ?_ ?_
  ·apply In;rfl;rfl;rfl;rfl;exact Ik;exact Ie;intro _;refine Eo (E:=Bi) (xs:=[((i:Nat):Int)]) (N7 _) ?_ EO;refine Az (E:=Bi) (xs:=[((i:Nat):Int)]) fun Fo=>?_;refine dk ?_;refine dN 7 ?_;refine oC ?_;refine Bw (Ac2 n.Ac.Aa n.Ac.holds p g 37 (0+1) _ _ a2 a3 c2 c3 n.Ac.Ae n.Ac.quiet F2 F3 hsrc n0 n1 hps) fun z _=>?_
   refine Ael [ab (some ⟨gp,0,none⟩) n.Ao.Ad.length c1] [aa n.Ac.Aa.Al,aa n.Ac.Aa.size,ab a2 n.Ac.Aa.An.length c2,aa n.Ac.Ae,aa n.Ac.quiet,.slice z.a2 (Hb n.Ac p.Ab).holds.length z.c2] [ab a4 n.Ai.length c4,ab a5 n.Ah.length c5,ab a6 n.down.length c6,ab a7 n.up.length c7] ?_;refine Az (E:=Ap) (xs:=Ib n.Ac p) fun Fq=>?_;refine dk ?_;refine dN 8 ?_;refine oC ?_;refine Bw (Xm n.down [((i:Nat):Int)] (Ib n.Ac p) g _ _ _ _ _ _ _ _ _ _ a6 _ c6 F6 _ _ Fo _ _ Fq rfl hone) fun J6 _=>?_;refine dk ?_;refine dd ?_;refine go ?_
   exact EJ
  ·refine oC ?_;refine Bw (Ac2 n.Ac.Aa n.Ac.holds p g 37 (0+1) _ _ a2 a3 c2 c3 n.Ac.Ae n.Ac.quiet F2 F3 hsrc n0 n1 hps) fun z _=>?_;refine Ael [ab (some ⟨gp,0,none⟩) n.Ao.Ad.length c1] [aa n.Ac.Aa.Al,aa n.Ac.Aa.size,ab a2 n.Ac.Aa.An.length c2,aa n.Ac.Ae,aa n.Ac.quiet,.slice z.a2 (Hb n.Ac p.Ab).holds.length z.c2] [ab a4 n.Ai.length c4,ab a5 n.Ah.length c5,ab a6 n.down.length c6,ab a7 n.up.length c7] ?_;refine Az (E:=Ap) (xs:=Ib n.Ac p) fun Fq=>?_;refine dk ?_;refine dN 2 ?_;apply In;rfl;rfl;rfl;rfl;exact Ik;exact Ie;intro _
   refine Eo (E:=Bi) (xs:=[((i:Nat):Int)]) (N7 _) ?_ EO;refine Az (E:=Bi) (xs:=[((i:Nat):Int)]) fun Fo=>?_;refine dk ?_;refine dN 8 ?_;refine oC ?_;refine Bw (Xm n.down [((i:Nat):Int)] (Ib n.Ac p) g _ _ _ _ _ _ _ _ _ _ a6 _ c6 F6 _ _ Fo _ _ Fq rfl hone) fun J6 _=>?_;refine dk ?_;refine dd ?_;refine go ?_;exact EJ
 have h6:k≠0:=EM
 have hkl:k < n.Ai.length:=EM
 have hku:k < n.up.length:=EM
 have hge:Ba n.Ai[k]=true:=Jl hkl▸he k h6 EM e3;have hel:=(D6.1 hge).2.1;obtain ⟨hc0,hc1⟩:=Mq.1 (D6.1 hge).1;rw [show Ou n i p=⟨n.Ao,n.Ac,n.Ai.set k (Ka n.Ai[k] p.Ab ((i:Nat):Int)),n.Ah,Dc n.down [((i:Nat):Int)] [Rz p],if Pi n.Ai[k] p.Ab then n.up.modify k fun q=>Da q [p] else n.up⟩ by unfold Ou;rw [aq EM,hk,Jl hkl]];refine go ?_;refine Aae (xs:=n.Ai) (m:=2) k ?_ rfl hkl;rintro _ g5 A5 cs B5 k1 k2 J1 Ji J2 rfl - hc5 hH5;refine Ia ?_;rintro b1 d1 G1 ev l1;obtain rfl:=Oe ev;refine As [5,6] [] ?_;refine D7 0 1 2 3 ?_;refine D7 4 5 6 7 ?_;refine dt 8 ?_;refine dN 9 ?_
 refine oC ?_;refine Bw (Aky n.Ai[k] p.Ab ((i:Nat):Int) g5 76 (0+k * 2) A5 B5 b1 d1 G1 EM (fun x hx=>⟨by have:=Ol hge hx;omega,Ai1 hge hx⟩) EM EM) fun s _=>?_;refine dk ?_;refine dt 10 ?_;refine dd ?_;refine Hg (Ka n.Ai[k] p.Ab ((i:Nat):Int)) ?_;refine Vb _ hH5 rfl fun J5=>?_;refine Ke ?_;intros;refine Eo (E:=Bi) (xs:=[((i:Nat):Int)]) (N7 _) ?_ EO;refine Az (E:=Bi) (xs:=[((i:Nat):Int)]) fun Fo=>?_;refine Eo (E:=Ap) (xs:=[Rz p]) (Dj (Rz p) (aD _)) ?_ EO;refine Az (E:=Ap) (xs:=[Rz p]) fun Fp=>?_;refine go ?_
 refine Bw (Xm n.down [((i:Nat):Int)] [Rz p] g _ _ _ _ _ _ _ _ _ _ a6 _ c6 F6 _ _ Fo _ _ Fp rfl hone) fun J6 _=>?_;cases hf:Pi n.Ai[k] p.Ab
 ·rw [aq EN];refine go ?_;refine Va ?_;refine ret (⟨some ⟨gp,0,none⟩,c1,[gp],a2,c2,F2,a3,c3,F3,_,c4,J5,a5,c5,F5,a6,c6,J6,a7,c7,F7⟩:NV) trivial rfl
 ·rw [ar rfl,show (n.up.modify k fun q=>Da q [p])=n.up.set k (Er n.up[k] p) by rw [Hk hku,T7]];refine go ?_;refine As [0,6] [] ?_;refine D7 0 1 2 3 ?_;refine Ek 4 5 ?_;refine dN 6 ?_;refine oC ?_;refine Bw (Aau n.up k p a7 _ c7 F7 rfl hku hps) fun J7 _=>?_;refine dk ?_;refine dd ?_;refine go ?_;refine Va ?_;refine ret (⟨some ⟨gp,0,none⟩,c1,[gp],a2,c2,F2,a3,c3,F3,_,c4,J5,a5,c5,F5,a6,c6,J6,a7,c7,J7⟩:NV) trivial rfl
def Asp (es:List Et) (ck:Int):List Et:=es.filter fun x=>!decide (x.Bl<=ck)
theorem Arx (x:Et) (ck:Int) (gb g o:Nat) (u q:Value) (G:ak):FV 125 [u,Fv gb 0 0] [.isv Eg u x G,.cel gb 0 [Fv g o 0],.cel g o [aa ck,q]] (.bool (decide (x.Bl<=ck))):=by
 refine enter func125 rfl ntmps125 fun w0=>?_;refine Agd ?_;rintro a1 c1 F1 rfl l1;refine go ?_;intros;refine As [0,3,4] [] ?_;refine D7 0 1 2 3 ?_;refine D7 4 5 6 7 ?_;exact CG
theorem Ary (es:List Et) (ck:Int) (gb tb g t o:Nat) (A B:aj) (a:ai) (c:Nat) (F:ak) :
  Fn prog 124 [ab a es.length c,.func (.func 125) #[] #[Fv gb 0 0]] [] [.ow Ew 132 (ab a es.length c) es F,.row gb tb 0 [] [Fv g o 0] [],.row g t o A [aa ck,ab a es.length c] B] (fun (_:ai × Nat × ak)=>True)
   (fun z=>.slice z.1 (Asp es ck).length z.2.1) (fun z=>[.ow Ew 132 (.slice z.1 (Asp es ck).length z.2.1) (Asp es ck) z.2.2,.row gb tb 0 [] [Fv g o 0] [],.row g t o A [aa ck,ab a es.length c] B]):=by
 refine Alg rfl fun w ⟨hnd,ho⟩ _ hk=>?_;refine (Zw _ (Uo ER) #[Fv gb 0 0] _ es F (fun x=>decide (x.Bl<=ck)) w ho hnd fun k hk2 wr u G hK hu=>?_).mono ?_
 ·have hr:=hk wr hK;have r1:=hr (.row gb tb 0 [] [Fv g o 0] []) EO;have r2:=hr (.row g t o A [aa ck,ab a es.length c] B) EO;refine (Arx es[k] ck gb g o u (ab a es.length c) G).val wr ?_;intro p hp;simp only [aF,aM,bn] at hp;rcases hp with rfl|rfl|rfl
  ·exact hu
  ·exact ⟨EO,Hq r1⟩
  ·exact ⟨EO,Hq r2⟩
 ·rintro e w' ⟨v',F',rfl,h1,h2,h3,h4⟩;exact CC
theorem Au2 (e:Bg) (g t o:Nat) (A B:aj) (a:ai) (c:Nat) (F:ak) (h0:-1000000<=e.Ae) (h1:e.Ae<=1000000) :
  Fn prog 63 [Fv g o 0] [] [.row g t o A [aa e.Ae,ab a e.Af.length c] B,.ow Ew 132 (ab a e.Af.length c) e.Af F] (fun (_:ai × Nat × ak)=>True)
   (fun _=>.tuple #[]) (fun z=>[.row g t o A [aa (Cn e).Ae,.slice z.1 (Cn e).Af.length z.2.1] B,.ow Ew 132 (.slice z.1 (Cn e).Af.length z.2.1) (Cn e).Af z.2.2]):=by
 refine enter func63 rfl ntmps63 fun w0=>?_;refine go ?_;intros;refine As [0,1] [9] ?_;refine D7 0 1 2 3 ?_;refine Ek 4 5 ?_;refine dN 6 ?_;refine oC ?_;refine Bw (Ary e.Af (e.Ae+1) _ _ g t o A B a c F) fun z _=>?_;refine dk ?_;refine Ek 7 8 ?_;refine dN 9 ?_;refine oS ?_;refine Pg ?_;refine dd ?_;refine Va ?_;exact DD
theorem Alj {e:Bg} (h:Ba e=true) (hc:e.Ae < 9999):Ba (Cn e)=true:=by
 obtain ⟨h1,h2,h3,h4⟩:=D6.1 h;have h5:=Mq.1 h1;unfold Cn;refine D6.2 ⟨Mq.2 ⟨by show 0<=e.Ae+1;omega,by show e.Ae+1<=9999;omega⟩,bi (bA _ _) h2,fun x hx=>?_,h4.filter _⟩;obtain ⟨hx1,hx2⟩:=aO.1 hx;obtain ⟨a,b,c,d,f⟩:=Js.1 (h3 x hx1);simp only [bv,bD] at hx2;exact Js.2 ⟨a,b,c,by show e.Ae+1+1<=x.Bl;omega,by show x.Bl<=e.Ae+1+6;omega⟩
theorem Aps {k n t l:Int} {s:am} (hk:1<=k/\k<=5) (hn:Cm n=true) (ht:Cm t=true) (hl:Cm l=true) (hg:gp t l<=32767) (hs:Qd s=true) (he:s=⟨#[]⟩\/k<=2):Bh ⟨k,n,t,l,s⟩=true:=by
 unfold Bh Ht;simp only [av,bJ,aC];refine ⟨⟨⟨⟨⟨⟨hk,hn⟩,ht⟩,hl⟩,hs⟩,hg⟩,?_⟩;rcases he with h|h
 ·exact .inl (.inl h)
 ·by_cases h1:k=1
  ·exact .inl (.inr h1)
  ·exact .inr EM
theorem Acj:Qd ⟨#[]⟩=true:=by decide
theorem Ahn {x:Ax} (h:D9 x=true):Cm x.Al=true/\Cm (Im x)=true/\gp x.Al (Im x)<=32767:=by
 obtain ⟨⟨t0,t1⟩,⟨s0,s1⟩,hl, -⟩:=D0.1 h;refine ⟨Bb.2 ⟨t0,t1⟩,N8 _ _,?_⟩;unfold Im gp A8;omega
theorem Agp {x:Ax} (h:D9 x=true):Bh (Kd x)=true:=by
 obtain ⟨a,b,c⟩:=Ahn h;exact Aps EN a a b c Acj (.inl rfl)
theorem Amb {x:Ax} {q:Int} (h:D9 x=true):∀p∈G0 x q,Bh p=true:=fun p hp=>by
 unfold G0 at hp
 split at hp
 ·simp at hp
 ·rw [aH] at hp;subst hp;exact Agp h
theorem Arf {x:Ax} {n:Int} (h:D9 x=true) (hn:Cm n=true) (hh:E5 x n=true):Bh (Ac5 x n)=true:=by
 obtain ⟨a,b,c⟩:=Ahn h;have hi:=(D0.1 h).2.2.2;have hl:=Y9 hh;exact Aps EN hn a b c (by rw [Tz hl];exact aQ.1 hi _ (aE hl)) (.inr EN)
theorem Afl {x:Ax} {n:Int} (h:D9 x=true) (hn:Cm n=true):Bh (Qn x n)=true:=by
 obtain ⟨a,b,c⟩:=Ahn h;exact Aps EN hn a b c Acj (.inl rfl)
theorem Ap7 {x:Cc} {p:Ar} (h:D9 x.Aa=true) (hp:Bh p=true) (hk:p.Bd=3):∀r∈Ib x p,Bh r=true:=fun r hr=>by
 have hn:=Bb.2 (Fg hp);unfold Ib at hr
 split at hr
 ·rename_i hh
  split at hr
  ·rw [aH] at hr;subst hr;exact Afl h hn
  ·simp only [aF,aM,bn] at hr;rcases hr with rfl|rfl
   ·exact Afl h hn
   ·rw [show C9 x.Aa p=(Ac5 x.Aa p.Ab,true) by unfold C9 Hh;rw [h,hp,hh,au hk];rfl];exact Arf h hn hh
 ·rw [aH] at hr;subst hr;exact Agp h
theorem Ap1 {x:Ax} {s:am} (h:D9 x=true) (hs:Qd s=true):Bh (Di x s)=true:=by
 obtain ⟨⟨t0,t1⟩,⟨s0,s1⟩,hl, -⟩:=D0.1 h;have hr:=P0 t0 t1;have hrl:(Cw x).An.length<=6:=by
  unfold Cw
  split
  ·show (x.An.drop 1).length<=6;rw [aU];omega
  ·omega
 refine Aps EN (N8 _ _) (Bb.2 hr) (N8 _ _) ?_ hs (.inr EN);unfold gp A8;omega
theorem Arm {p:Ar} (h:Bh p=true):Bh (Rz p)=true:=by
 unfold Bh at h;simp only [av,aC] at h;exact Aps EN h.1.1.1.1.1.2 h.1.1.1.1.2 h.1.1.1.2 h.1.2 Acj (.inl rfl)
theorem Abz {r:Ay} (h:Eu r):∀p∈Db r,Bh p=true/\p.Bd=3:=fun p hp=>by
 unfold Db at hp;obtain ⟨k,hk,rfl⟩:=bU.1 hp;obtain ⟨q,hq,hs⟩:=bB.1 hk;obtain ⟨-, -,q2, -⟩:=Dv.1 h.q;have hn:=(Ep.1 (q2 q hq)).n;have hw:=Acc h.w;have e:k=q.Ab:=by
  unfold Nq at hs
  split at hs
  ·cases hs
  ·split at hs
   ·cases hs
   ·split at hs
    ·exact (Option.some.inj hs).symm
    ·cases hs
 subst e;have hx:=Bb.2 ⟨hw.n0,hw.n1⟩;exact ⟨Aps EN hn hx hx (by unfold gp;omega) Acj (.inl rfl),rfl⟩
theorem GN.ck {ck ck':Nat->Int} {n:Du} (h:GN ck n) (he:∀i,i≠0->i < n.Ao.Ad.length->ck i=ck' i):GN ck' n:=by
 obtain ⟨q1,q2,q3,q4⟩:=Bk.1 h.l;refine .mk' h.t h.s h.l fun i h1 h2 h3 h4=>?_;have r:=Ng.1 (h.a i h1 h2 h3 h4);exact ⟨r.hd,r.hu,r.hk,r.hz,fun e0 l=>by rw [<-he i e0 EM];exact r.hf e0 l,fun e0 l=>by rw [<-he i e0 EM];exact r.hn e0 l⟩
theorem Acf {l:al} (hg:Hf l) (i:Nat):∀x∈E7 l ((i:Nat):Int),x.toNat≠0:=fun x hx=>by have:=If hg hx;omega
theorem Ama {ck:Nat->Int} {n:Du} {i:Nat} (h:GN ck n) (h0:i≠0) (hi:i < n.Ao.Ad.length) (hc:ck i < 9999):GN (Ab6 ck i (ck i+1)) (Ju n i).1:=by
 obtain ⟨h1,h2,h3,h4,r⟩:=h.rn hi;obtain ⟨d0,d1⟩:1<=Ij i/\Ij i<=8:=by unfold Ij;omega
 unfold Ju;cases hl:Br n.Ao.Ad ((i:Nat):Int)
 ·rw [aq EN];obtain ⟨he,e2,e3⟩:=r.hn h0 hl;have e:Li n i=n.Ai[i]:=by unfold Li;rw [aT,aB h1];rfl
  have:=h.el h0 hl (Alj (e:=n.Ai[i]) he EM);rw [show (Cn n.Ai[i]).Ae=ck i+1 by rw [<-e2];rfl] at this;rw [e];exact this
 ·rw [ar rfl];obtain ⟨he,e2,e3⟩:=r.hf h0 hl;have e:N6 n i=n.Ah[i]:=by unfold N6;rw [aT,aB h2];rfl
  have hg:=Gm.1 e2;have ht:=Aa8 hg EM d0 d1;have:=h.rc h0 hl (Gm.2 ht);rw [show (Bj n.Ah[i] (Ij i)).Ae=ck i+1 by unfold Bj;split <;> (show n.Ah[i].Ae+1=_;rw [e3])] at this;rw [e];exact this.un i _ (fun e=>absurd e h0) fun q a b=>⟨Aay a fun p hp=>(Abz hg p hp).1,Anc b fun p hp=>(Abz hg p hp).2⟩
theorem Yb (n:Du) (i:Nat):(Ju n i).1.Ao=n.Ao/\(Ju n i).1.Ac=n.Ac:=by unfold Ju;split <;> exact ⟨rfl,rfl⟩
def ckT (c:Int) (k:Nat):Nat->Int:=fun j=>if j<=k then c+1 else c
theorem Ot {n:Du} (hg:At n=true) (hc:n.Ac.Ae < 9999):∀k,k+1<=n.Ao.Ad.length->GN (ckT n.Ac.Ae k) (A4 n k).1/\(A4 n k).1.Ao=n.Ao/\(A4 n k).1.Ac=Lg n.Ac
 | 0,_=>by
  have h:=Av.1 hg;have ht:=Ev h.t;refine ⟨?_,rfl,rfl⟩;have h2:=((h.src (Aov h.s hc)).sp (Amb (q:=n.Ac.quiet) (Dd.1 h.s).1) (Acf ht 0)).ck (ck':=ckT n.Ac.Ae 0) fun i h0 _=>by unfold ckT;rw [aq EM]
  exact h2
 | k+1,hk=>by
  obtain ⟨h1,h2,h3⟩:=Ot hg hc k EM;obtain ⟨t1,t2⟩:=Yb (A4 n k).1 (k+1);have e:ckT n.Ac.Ae k (k+1)=n.Ac.Ae:=by unfold ckT;rw [aq EM]
  have:=Ama h1 (i:=k+1) EM (by rw [h2];omega) (by rw [e];exact hc);refine ⟨this.ck fun i h0 hi=>?_,t1.trans h2,t2.trans h3⟩;rw [e];unfold Ab6 ckT;by_cases c1:i=k+1
  ·rw [ar c1,ar EM]
  ·rw [aq c1];by_cases c2:i<=k
   ·rw [ar c2,ar EM]
   ·rw [aq c2,aq EM]
theorem P5 {n:Du} (hg:At n=true) (hc:n.Ac.Ae < 9999):At (Bv n).1=true:=by
 have h:=Av.1 hg;have ht:=Ev h.t;have:=ht.n0;obtain ⟨h1,h2,h3⟩:=Ot hg hc (n.Ao.Ad.length - 1) EM;refine Av.2 ?_;show GN (fun _=>(A4 n (n.Ao.Ad.length - 1)).1.Ac.Ae) _;rw [h3];exact h1.ck fun i h0 hi=>by rw [h2] at hi;unfold ckT;rw [ar EM];rfl
theorem Atr {g t o k:Nat} {A B X cs Y:aj} (hk:X.length=k) {w:World}:(Pc.row g t (o+k) (A++X) cs (Y++B)).P w↔(Pc.row g t o A (X++cs++Y) B).P w:=by
 show ((A++X).length=o+k/\Jd w g t (A++X++cs++(Y++B)))↔(A.length=o/\Jd w g t (A++(X++cs++Y)++B));rw [aw,hk];have e:A++X++cs++(Y++B)=A++(X++cs++Y)++B:=GK
 rw [e];exact ⟨fun h=>⟨EM,h.2⟩,fun h=>⟨EM,h.2⟩⟩
theorem Asd {p q:Pc} {R:List Pc} {w:World} (h:p.P w->q.P w) (hH:Nh (p::R) w):Nh (q::R) w:=fun x hx=>by
 rcases aF.1 hx with rfl|hx
 ·exact h (hH p EO)
 ·exact hH x IH
theorem Atw {p q:Pc} {R:List Pc} (hm:p.mu=q.mu) (hF:p.F=q.F) (hS:Rj (p::R)):Rj (q::R):=⟨fun x hx hmu b hb=>hS.1 x hx (by rw [hm];exact hmu) b (by rw [hF];exact hb),hS.2⟩
theorem Ar2 {P:Program} {f:FuncId} {args:aj} {A M':List Pc} {g t o k:Nat} {A' B X cs Y L:aj} {σ:Type} {C:σ->Prop} {v:σ->Value} {cs' L':σ->aj} {N':σ->List Pc}
  (h:Fn P f args A (.row g t (o+k) (A'++X) cs (Y++B)::M') C v (fun s=>.row g t (o+k) (A'++X) (cs' s) (Y++B)::N' s)) (hk:X.length=k) (hL:L=X++cs++Y) (hL':∀s,L' s=X++cs' s++Y) :
  Fn P f args A (.row g t o A' L B::M') C v (fun s=>.row g t o A' (L' s) B::N' s):=fun w hH hS=>by
 subst hL;refine (h w (Asd (Atr hk).2 hH) (Atw rfl rfl hS)).mono ?_;rintro e w' ⟨s,hC,he,h1,h2,h3,h4⟩;refine ⟨s,hC,he,?_,Atw rfl rfl h2,?_,?_⟩
 ·show Nh (.row g t o A' (L' s) B::N' s) w';rw [hL' s];exact Asd (Atr hk).1 h1
 ·simpa [fp,Pc.mu,Pc.F] using h3
 ·intro p hp b hb;have hp':∃q∈(Pc.row g t (o+k) (A'++X) (cs' s) (Y++B)::N' s),q.mu=p.mu/\b∈q.F:=by
   rcases aF.1 hp with rfl|hp
   ·exact ⟨_,.head _,rfl,hb⟩
   ·exact ⟨p,.tail _ hp,rfl,hb⟩
  obtain ⟨q,hq,hm,hbq⟩:=hp';rcases h4 q hq b hbq with h|⟨x,hx,hbx⟩|⟨hm2,x,hx,hbx⟩
  ·exact DS
  ·refine .inr (.inl ?_);rcases aF.1 hx with rfl|hx
   ·exact ⟨_,.head _,hbx⟩
   ·exact ⟨x,.tail _ hx,hbx⟩
  ·exact .inr (.inr ⟨by rw [<-hm];exact hm2,x,hx,hbx⟩)
structure TkN where
 k:Nat
 z:NV
 a:ai
 c:Nat
 F:ak
theorem Amn (n:Du) (g:Nat) (a1:ai) (c1:Nat) (F1:ak) (a2:ai) (c2:Nat) (F2:ak) (a3:ai) (c3:Nat) (F3:ak) (a4:ai) (c4:Nat) (F4:ak) (a5:ai) (c5:Nat) (F5:ak) (a6:ai) (c6:Nat) (F6:ak) (a7:ai) (c7:Nat) (F7:ak) (FT:ak) (hg:At n=true) (hc:n.Ac.Ae < 9999) :
  Fn prog 22 [Fv g 0 0] [Nx FT] [.row g 37 0 [] [ab a1 n.Ao.Ad.length c1,aa n.Ac.Aa.Al,aa n.Ac.Aa.size,ab a2 n.Ac.Aa.An.length c2,aa n.Ac.Ae,aa n.Ac.quiet,ab a3 n.Ac.holds.length c3,ab a4 n.Ai.length c4,ab a5 n.Ah.length c5,ab a6 n.down.length c6,ab a7 n.up.length c7] [],.ow Bi 3 (ab a1 n.Ao.Ad.length c1) n.Ao.Ad F1,.ow Bc 9 (ab a2 n.Ac.Aa.An.length c2) n.Ac.Aa.An F2,.ow Bx 130 (ab a3 n.Ac.holds.length c3) n.Ac.holds F3,.ow Ck 76 (ab a4 n.Ai.length c4) n.Ai F4,.ow Ca 83 (ab a5 n.Ah.length c5) n.Ah F5,.ow (Jo Ap 103) 85 (ab a6 n.down.length c6) n.down F6,.ow (Jo Ap 103) 85 (ab a7 n.up.length c7) n.up F7] (fun (_:NV × KA)=>True) (fun z=>.slice z.2.a (Bv n).2.length z.2.c) (fun z=>[.row g 37 0 [] [ab z.1.a1 n.Ao.Ad.length z.1.c1,aa (Bv n).1.Ac.Aa.Al,aa (Bv n).1.Ac.Aa.size,.slice z.1.a2 (Bv n).1.Ac.Aa.An.length z.1.c2,aa (Bv n).1.Ac.Ae,aa (Bv n).1.Ac.quiet,.slice z.1.a3 (Bv n).1.Ac.holds.length z.1.c3,ab z.1.a4 n.Ai.length z.1.c4,ab z.1.a5 n.Ah.length z.1.c5,ab z.1.a6 n.down.length z.1.c6,ab z.1.a7 n.up.length z.1.c7] [],.ow Bi 3 (ab z.1.a1 n.Ao.Ad.length z.1.c1) (Bv n).1.Ao.Ad z.1.F1,.ow Bc 9 (.slice z.1.a2 (Bv n).1.Ac.Aa.An.length z.1.c2) (Bv n).1.Ac.Aa.An z.1.F2,.ow Bx 130 (.slice z.1.a3 (Bv n).1.Ac.holds.length z.1.c3) (Bv n).1.Ac.holds z.1.F3,.ow Ck 76 (ab z.1.a4 n.Ai.length z.1.c4) (Bv n).1.Ai z.1.F4,.ow Ca 83 (ab z.1.a5 n.Ah.length z.1.c5) (Bv n).1.Ah z.1.F5,.ow (Jo Ap 103) 85 (ab z.1.a6 n.down.length z.1.c6) (Bv n).1.down z.1.F6,.ow (Jo Ap 103) 85 (ab z.1.a7 n.up.length z.1.c7) (Bv n).1.up z.1.F7,.ow Bc 9 (.slice z.2.a (Bv n).2.length z.2.c) (Bv n).2 z.2.F]):=by
 have hG:=Av.1 hg;have h8:=Ev hG.t;have hn8:=h8.n1;have hn2:=h8.n0;obtain ⟨q1,q2,q3,q4⟩:=Bk.1 hG.l;have hS:=M4 hG.s;obtain ⟨hq0,hq3⟩:=Aj4 hG.s;have hkl:=T0 n.Ao.Ad 0;have hkx:∀x∈E7 n.Ao.Ad 0,0<=x/\x.toNat < n.down.length:=fun x hx=>by have:=If (i:=0) h8 hx;omega
 refine enter func22 rfl ntmps22 fun w0=>?_;refine go ?_;refine dsI [.cel g 0 [ab a1 n.Ao.Ad.length c1]] [] ?_;refine dtI 0 (fun w h=>I0 (Hi (h (.row g _ 0 [] _ []) EQ))) ?_;refine dtI 1 (fun w h=>I0 (Hi (h (.row g _ 0 [] _ []) EQ))) ?_;refine dtI 2 (fun w h=>I0 (Hi (h (.row g _ 0 [] _ []) EQ))) ?_;refine dtI 3 (fun w h=>I0 (Hi (h (.row g _ 0 [] _ []) EQ))) ?_;refine dtI 4 (fun w h=>I0 (Hi (h (.row g _ 0 [] _ []) EQ))) ?_;refine dtI 6 (fun w h=>I0 (Hi (h (.row g _ 0 [] _ []) EQ))) ?_
 refine dtI 7 (fun w h=>I0 (Hi (h (.row g _ 0 [] _ []) EQ))) ?_;refine dtI 8 (fun w h=>I0 (Hi (h (.row g _ 0 [] _ []) EQ))) ?_;refine dN 5 ?_;refine oC ?_;refine cfr (fun w st=>by obtain ⟨Fq,hq⟩:=Ad7 (st.get (p:=.ow Bi 3 (ab a1 n.Ao.Ad.length c1) n.Ao.Ad F1) EQ);exact ⟨_,I0 hq,rfl,Xl n.Ao 0 _ Fq IU⟩) (fun u _=>?_);refine Q3 ?_;refine Az (E:=Bi) (xs:=E7 n.Ao.Ad 0) fun Fk=>?_;refine dkI (fun w h=>I0 (Hi (h (.row g _ 0 [] _ []) EQ))) ?_;refine dN 9 ?_;refine oC ?_
 refine Bw (Ar2 (X:=[ab a1 n.Ao.Ad.length c1]) (cs:=[aa n.Ac.Aa.Al,aa n.Ac.Aa.size,ab a2 n.Ac.Aa.An.length c2,aa n.Ac.Ae,aa n.Ac.quiet,ab a3 n.Ac.holds.length c3]) (Y:=[ab a4 n.Ai.length c4,ab a5 n.Ah.length c5,ab a6 n.down.length c6,ab a7 n.up.length c7]) (L:=[ab a1 n.Ao.Ad.length c1,aa n.Ac.Aa.Al,aa n.Ac.Aa.size,ab a2 n.Ac.Aa.An.length c2,aa n.Ac.Ae,aa n.Ac.quiet,ab a3 n.Ac.holds.length c3,ab a4 n.Ai.length c4,ab a5 n.Ah.length c5,ab a6 n.down.length c6,ab a7 n.up.length c7]) (L':=fun z:TiS=>[ab a1 n.Ao.Ad.length c1,aa n.Ac.Aa.Al,aa n.Ac.Aa.size,ab a2 n.Ac.Aa.An.length c2,aa (n.Ac.Ae+1),aa (L9 n.Ac.quiet),.slice z.a2 (Qs (n.Ac.Ae+1) n.Ac.holds).length z.c2,ab a4 n.Ai.length c4,ab a5 n.Ah.length c5,ab a6 n.down.length c6,ab a7 n.up.length c7]) (cs':=fun z:TiS=>[aa n.Ac.Aa.Al,aa n.Ac.Aa.size,ab a2 n.Ac.Aa.An.length c2,aa (n.Ac.Ae+1),aa (L9 n.Ac.quiet),.slice z.a2 (Qs (n.Ac.Ae+1) n.Ac.holds).length z.c2]) (Ava n.Ac.Aa n.Ac.holds g 37 (0+1) _ _ a2 a3 c2 c3 n.Ac.Ae n.Ac.quiet F3 hS.t0 hS.t1 hS.l hS.k0 hS.k1 hq0 hq3) rfl rfl (fun _=>rfl)) fun z _=>?_
 refine Az (E:=Ap) (xs:=G0 n.Ac.Aa n.Ac.quiet) fun Fp=>?_;refine dkI (fun w h=>I0 (Hi (h (.row g _ 0 [] _ []) EQ))) ?_;refine dN 10 ?_;refine oC ?_;refine Bw (Xm n.down (E7 n.Ao.Ad 0) (G0 n.Ac.Aa n.Ac.quiet) g _ _ _ _ _ _ _ _ _ _ a6 _ c6 F6 _ _ Fk _ _ Fp rfl hkx) fun J6 _=>?_;refine dkI (fun w h=>I0 (Hi (h (.row g _ 0 [] _ []) EQ))) ?_;refine dd ?_;refine B4 Bc 9 ?_;rw [show Dc n.down (E7 n.Ao.Ad 0) (G0 n.Ac.Aa n.Ac.quiet)=(A4 n 0).1.down from rfl];refine go ?_
 refine Cu [0,2] (fun s:TkN=>[(3,.slice s.a (A4 n s.k).2.length s.c),(4,aa ((s.k+1:Nat):Int))]) (fun s=>[.row g 37 0 [] [ab s.z.a1 n.Ao.Ad.length s.z.c1,aa (A4 n s.k).1.Ac.Aa.Al,aa (A4 n s.k).1.Ac.Aa.size,.slice s.z.a2 (A4 n s.k).1.Ac.Aa.An.length s.z.c2,aa (A4 n s.k).1.Ac.Ae,aa (A4 n s.k).1.Ac.quiet,.slice s.z.a3 (A4 n s.k).1.Ac.holds.length s.z.c3,ab s.z.a4 n.Ai.length s.z.c4,ab s.z.a5 n.Ah.length s.z.c5,ab s.z.a6 n.down.length s.z.c6,ab s.z.a7 n.up.length s.z.c7] [],.ow Bi 3 (ab s.z.a1 n.Ao.Ad.length s.z.c1) (A4 n s.k).1.Ao.Ad s.z.F1,.ow Bc 9 (.slice s.z.a2 (A4 n s.k).1.Ac.Aa.An.length s.z.c2) (A4 n s.k).1.Ac.Aa.An s.z.F2,.ow Bx 130 (.slice s.z.a3 (A4 n s.k).1.Ac.holds.length s.z.c3) (A4 n s.k).1.Ac.holds s.z.F3,.ow Ck 76 (ab s.z.a4 n.Ai.length s.z.c4) (A4 n s.k).1.Ai s.z.F4,.ow Ca 83 (ab s.z.a5 n.Ah.length s.z.c5) (A4 n s.k).1.Ah s.z.F5,.ow (Jo Ap 103) 85 (ab s.z.a6 n.down.length s.z.c6) (A4 n s.k).1.down s.z.F6,.ow (Jo Ap 103) 85 (ab s.z.a7 n.up.length s.z.c7) (A4 n s.k).1.up s.z.F7,.ow Bc 9 (.slice s.a (A4 n s.k).2.length s.c) (A4 n s.k).2 s.F]) (fun s=>s.k+1<=n.Ao.Ad.length/\(A4 n s.k).2.length<=40000 * s.k) (fun s=>n.Ao.Ad.length - s.k) ⟨0,⟨a1,c1,F1,a2,c2,F2,z.a2,z.c2,z.F,a4,c4,F4,a5,c5,F5,a6,c6,J6,a7,c7,F7⟩,none,0,[]⟩ ⟨by show 0+1<=_;omega,aA _⟩ fun s hs0=>?_
 obtain ⟨k,⟨x1,w1,K1,x2,w2,K2,x3,w3,K3,x4,w4,K4,x5,w5,K5,x6,w6,K6,x7,w7,K7⟩,ea,ec,eF⟩:=s;obtain ⟨hk,hel⟩:=hs0;dsimp only at hk hel ⊢;obtain ⟨hGN,hT,hSrc⟩:=Ot hg hc k EM;obtain ⟨r1,r2,r3,r4⟩:=Bk.1 hGN.l;rw [hT] at r1 r2 r3 r4;rw [hT,hSrc];refine go ?_;refine Bf rfl (fun h1=>?_) (fun h1=>?_)
 ·have hj:k+1 < n.Ao.Ad.length:=EM
  obtain ⟨i1,i2,i3,i4,hrn⟩:=hGN.rn (i:=k+1) (by rw [hT];exact hj);rw [hT] at hrn;obtain ⟨d0,d1_⟩:=Lp (i:=k+1);refine go ?_;refine cfr (fun w st=>by obtain ⟨Fq,hq⟩:=Ad7 (st.get (p:=.ow Bi 3 (ab x1 n.Ao.Ad.length w1) n.Ao.Ad K1) EQ);exact ⟨_,I0 hq,rfl,Zb n.Ao ((k+1:Nat):Int) _ Fq⟩) (fun _ _=>?_);refine Q3 ?_;cases hlf:Br n.Ao.Ad ((k+1:Nat):Int)
  ·obtain ⟨hge,hck, -⟩:=hrn.hn EM hlf;obtain ⟨hc0,hc1⟩:=Mq.1 (D6.1 hge).1;have hnx:A4 n (k+1)=(⟨n.Ao,Lg n.Ac,(A4 n k).1.Ai.set (k+1) (Cn (A4 n k).1.Ai[k+1]),(A4 n k).1.Ah,(A4 n k).1.down,(A4 n k).1.up⟩,(A4 n k).2++[]):=by
    show ((Ju (A4 n k).1 (k+1)).1,(A4 n k).2++(Ju (A4 n k).1 (k+1)).2)=_;unfold Ju;rw [hT,hlf,aq EN,Jl i1,hSrc]
   rw [aP] at hnx;refine Aae (xs:=(A4 n k).1.Ai) (m:=2) (k+1) ?_ rfl i1;rintro _ g5 A5 cs B5 k1 k2 J1 Ji J2 e5 - hc5 hH5;rw [e5];refine Ia ?_;rintro b1 d1 G1 ev l1;obtain rfl:=Oe ev;refine go ?_;refine Bw (Au2 (A4 n k).1.Ai[k+1] g5 76 (0+(k+1) * 2) A5 B5 b1 d1 G1 EM EM) fun s9 _=>?_;refine Hg (Cn (A4 n k).1.Ai[k+1]) ?_;refine Vb _ hH5 rfl fun J5=>?_;refine go ?_
   refine Cv ⟨k+1,⟨x1,w1,K1,x2,w2,K2,x3,w3,K3,_,w4,J5,x5,w5,K5,x6,w6,K6,x7,w7,K7⟩,ea,ec,eF⟩ ⟨IQ,by rw [hnx];dsimp only;omega⟩ FE FJ FI
  ·obtain ⟨-,hgr0,hck⟩:=hrn.hf EM hlf;have hgr:=Gm.1 hgr0;obtain ⟨hsm,hfew⟩:=Aa6 hgr;have hnx:A4 n (k+1)=(⟨n.Ao,Lg n.Ac,(A4 n k).1.Ai,(A4 n k).1.Ah.set (k+1) (Bj (A4 n k).1.Ah[k+1] (Ij (k+1))),(A4 n k).1.down,Qt (A4 n k).1.up (k+1) (Db (A4 n k).1.Ah[k+1])⟩,(A4 n k).2++Q2 (k+1) (Gs (A4 n k).1.Ah[k+1])):=by
    show ((Ju (A4 n k).1 (k+1)).1,(A4 n k).2++(Ju (A4 n k).1 (k+1)).2)=_;unfold Ju;rw [hT,hlf,ar rfl,Iq i2,hSrc];rfl
   have htl:(Q2 (k+1) (Gs (A4 n k).1.Ah[k+1])).length=(Gs (A4 n k).1.Ah[k+1]).length:=cg ..;generalize hR:(A4 n k).1.Ah[k+1]=R at *;refine go ?_;refine Aae (xs:=(A4 n k).1.Ah) (m:=5) (k+1) ?_ rfl i2;rintro _ g5 A5 cs B5 k1 k2 J1 Ji J2 e5 - hc5 hH5;rw [e5,hR];refine I3 ?_;rintro b1 d1 G1 b2 d2 G2 ev l1 l2;obtain rfl:=Oe ev;refine As [5] [] ?_;refine D7 0 1 2 3 ?_;refine Ek 4 5 ?_;refine dt 6 ?_;refine dN 7 ?_;refine oC ?_;refine Bw (Afm (k+1) EM) fun _ _=>?_;refine dk ?_;refine dN 8 ?_;refine oC ?_
   refine Bw (Au8 R (Ij (k+1)) g5 83 (0+(k+1) * 5) A5 B5 b1 d1 G1 b2 d2 G2 hgr EM EM) fun s9 _=>?_;refine dk ?_;refine D7 9 10 11 12 ?_;refine dt 13 ?_;refine dd ?_;refine Ln (Bj R (Ij (k+1))) ?_;refine Vb _ hH5 rfl fun J5=>?_;refine Az (E:=Ap) (xs:=Db R) fun Fp=>?_;refine Aa3 (E:=Ap) (fun p:Ar=>p.data.size<=maxLen) (fun w cs x F h=>by obtain ⟨_,h,_⟩:=h;exact h) ?_;intro hz;refine Th (E:=Ap) (xs:=Db R) ?_;rintro pa pc e9 hp1 hp2;clear e9;refine go ?_;rw [show (A4 n k).1.up=Qt (A4 n k).1.up (k+1) ((Db R).take 0) by rw [List.take_zero,Agg]]
   refine Cu [0,2,3,4,6,56,57] (fun y:KF=>[(58,aa (y.k:Nat))]) (fun y=>[.ow (Jo Ap 103) 85 (ab x7 n.up.length w7) (Qt (A4 n k).1.up (k+1) ((Db R).take y.k)) y.F]) (fun y=>y.k<=(Db R).length) (fun y=>(Db R).length - y.k) ⟨0,K7⟩ (aD _) fun y hy0=>?_;have hpl:=Agf (A4 n k).1.up (k+1) ((Db R).take y.k);refine go ?_;refine Bf rfl (fun h2=>?_) (fun h2=>?_)
   ·have hm:y.k < (Db R).length:=EM
    refine N0 (xs:=Db R) y.k ?_;rintro hi3 b3 o3 e3 s3;rw [e3];refine go ?_;intros;refine As [0,6] [] ?_;refine D7 0 1 2 3 ?_;refine Ek 4 5 ?_;refine dN 6 ?_;refine oC ?_;refine Bw (Aau (Qt (A4 n k).1.up (k+1) ((Db R).take y.k)) (k+1) (Db R)[y.k] x7 _ w7 y.F EM EM s3) fun f1 _=>?_;rw [Ad4 i4 hm];refine dk ?_;refine dd ?_;refine go ?_;refine Cv ⟨y.k+1,f1⟩ hm (by show (Db R).length - (y.k+1) < (Db R).length - y.k;omega)
   ·rw [show (Db R).take y.k=Db R from bc EM];refine go ?_;refine cfr (fun w st=>by obtain ⟨Fq, -,hq⟩:=(st.get (p:=.ow Bc 9 (.slice s9.a4 (Gs R).length s9.c4) (Gs R) s9.F4) EQ).2.read;exact ⟨[.sl Bc (.slice s9.a4 (Gs R).length s9.c4) (Gs R) Fq,Nx FT],Vp ⟨EN,hq⟩ (st.get (p:=Nx FT) EQ),rfl,Auh (k+1) _ _ _ Fq FT EM EM hsm⟩) (fun u9 _=>?_);refine Q3 ?_;refine Az (E:=Bc) (xs:=Q2 (k+1) (Gs R)) fun F8=>?_;apply wO;refine M0 (E:=Bc) (xs:=(A4 n k).2) (ys:=Q2 (k+1) (Gs R)) Ej Gp fun a9 c9 F9=>?_;refine go ?_
    refine Cv ⟨k+1,⟨x1,w1,K1,x2,w2,K2,x3,w3,K3,x4,w4,K4,_,w5,J5,x6,w6,K6,x7,w7,y.F⟩,a9,c9,F9⟩ ⟨IQ,by rw [hnx];dsimp only;rw [aw,htl];omega⟩ FE FJ FI
 ·have hke:n.Ao.Ad.length - 1=k:=EM
  rw [show Bv n=A4 n k by unfold Bv;rw [hke],hT,hSrc];exact ED
structure Gf where
 Bd:Int
 node:Int
 data:am
def Ox:B8 Gf where
 sz:=3
 L5 _ cs x F:=cs=[aa x.Bd,aa x.node,af x.data]/\x.data.size<=maxLen/\F=[]
 len h:=by obtain ⟨rfl,s1,rfl⟩:=h;rfl
 lt h:=by obtain ⟨rfl,s1,rfl⟩:=h;simp
 frame h _:=h
theorem Aav:Zz Ox:=fun h u hu=>by
 obtain ⟨rfl,s1,rfl⟩:=h;simp only [aF,aM,bn] at hu;rcases hu with rfl|rfl|rfl
 ·rfl
 ·rfl
 ·rfl
def D5 (s:Gf):Bool:=if s.Bd=1 then decide (s.node=0) && Qd s.data else if s.Bd=4 then decide (s.node=0) && decide (s.data=⟨#[]⟩) else Ht 1 s.Bd 6 && M7 s.node && decide (s.data=⟨#[]⟩)
def Q7 (s:Gf):Bool:=decide (s.Bd=5) || decide (s.Bd=6)
def Qu (n:Du) (s:Gf):List Ar:=(if Q7 s then n.up else n.down).getD s.node.toNat []
def Do (n:Du) (s:Gf):Du:=if Q7 s then Lv n s.node.toNat else Mg n s.node.toNat
def C4 (n:Du) (s:Gf):Option (Du × ah) :=
 if (n.Ao.Ad.length:Int)<=s.node then none
 else if (Qu n s).length=0 then none
 else if s.Bd=2 then some (C1 (Do n s) s.node.toNat (Lu (Qu n s)))
 else if s.Bd=5 then some (Ou (Do n s) s.node.toNat (Lu (Qu n s)),[])
 else some (Do n s,[])
def Bm (n:Du) (s:Gf):Option (Du × ah) :=
 if s.Bd=1 then some (Xb n s.data,[])
 else if s.Bd=4 then (if n.Ac.Ae=9999 then none else some (Bv n))
 else C4 n s
def Ha (n:Du) (r:Option (Du × ah)):Du:=match r with|some x=>x.1|none=>n
def Zh (r:Option (Du × ah)):ah:=match r with|some x=>x.2|none=>[]
theorem Aqd {n:Du} {s:am} (h:At n=true) (hs:Qd s=true):At (Xb n s)=true:=by
 have hg:=Av.1 h;have ht:=Ev hg.t;exact Av.2 (((hg.src (Aou hg.s hs)).sp (fun p hp=>by rw [aH] at hp;subst hp;exact Ap1 (Dd.1 hg.s).1 hs) (Acf ht 0)))
theorem Abb {ck:Nat->Int} {i:Nat} {c:Int} (h:ck i=c):Ab6 ck i c=ck:=by
 funext j;unfold Ab6;by_cases e:j=i
 ·rw [ar e,e,h]
 ·rw [aq e]
theorem Aok {e:Bg} {n:Int} {l:al}:∀x∈Pr e n l,x∈l:=Tu
theorem Ajb (r:Ay) (p:Ar) (d:Int):(Bt r p d).Ae=r.Ae:=by
 unfold Bt
 split
 ·rfl
 ·split <;> rfl
theorem Aly (e:Bg) (n f:Int):(Ka e n f).Ae=e.Ae:=by
 unfold Ka
 split
 ·rfl
 ·split <;> rfl
theorem Alx (e:Bg) (n:Int):(Jz e n).Ae=e.Ae:=by unfold Jz;split <;> rfl
theorem Ak9 {n:Du} {i:Nat} {p:Ar} (h:At n=true) (h0:i≠0) (hi:i < n.Ao.Ad.length) (hp:Bh p=true):At (C1 n i p).1=true:=by
 have hg:=Av.1 h;have ht:=Ev hg.t;obtain ⟨h1,h2,h3,h4,r⟩:=hg.rn hi;have d0:1<=Ij i/\Ij i<=8:=by unfold Ij;omega
 have ee:Li n i=n.Ai[i]:=by unfold Li;rw [aT,aB h1];rfl
 have er:N6 n i=n.Ah[i]:=by unfold N6;rw [aT,aB h2];rfl
 have hps:∀q∈[p],Bh q=true:=fun q hq=>by rw [aH] at hq;rw [hq];exact hp
 unfold C1;cases hl:Br n.Ao.Ad ((i:Nat):Int)
 ·rw [aq EN];obtain ⟨he,e2, -⟩:=r.hn h0 hl;by_cases hk:p.Bd=2
  ·have:=(hg.el h0 hl (Afx (n:=p.Ab) he)).sp hps (nodes:=Pr n.Ai[i] p.Ab (Sc n i)) (fun x hx=>Acf ht i x (Aok x hx));rw [Abb (show (fun _=>n.Ac.Ae) i=(Jz n.Ai[i] p.Ab).Ae by rw [Alx,e2])] at this;unfold Vo;rw [ar hk,ar hk,ee];exact Av.2 this
  ·unfold Vo;rw [aq hk,aq hk];exact Av.2 (hg.sp hps (Acf ht i))
 ·rw [ar rfl,er];obtain ⟨-,e2,e3⟩:=r.hf h0 hl;have:=hg.rc h0 hl (Gm.2 (Oo (d:=Ij i) (Gm.1 e2) hp d0.1 d0.2).1);rw [Abb (show (fun _=>n.Ac.Ae) i=(Bt n.Ah[i] p (Ij i)).Ae by rw [Ajb,e3])] at this;exact Av.2 this
theorem Axd {n:Du} {i:Nat} {p:Ar} (h:At n=true) (h0:i≠0) (hi:i < n.Ao.Ad.length) (hp:Bh p=true) (hk:p.Bd=3):At (Ou n i p)=true:=by
 have hg:=Av.1 h;have ht:=Ev hg.t;have hone:∀x∈[((i:Nat):Int)],x.toNat≠0:=fun x hx=>by rw [aH] at hx;subst hx;omega
 have h1:=ht.p i hi EM;have e:n.Ao.Ad.getD i 0=n.Ao.Ad[i]:=by rw [aT,aB hi];rfl
 obtain ⟨k,hkk⟩:∃k,V7 n i=k:=⟨_,rfl⟩;have hk2:n.Ao.Ad[i]=((k:Nat):Int):=by unfold V7 at hkk;rw [e] at hkk;omega
 unfold Ou;rw [hkk];by_cases hz:k=0
 ·rw [ar hz];have:=(hg.src (Ar5 (n:=p.Ab) hg.s (Fg hp))).sp (Ap7 (Dd.1 hg.s).1 hp hk) hone;refine Av.2 ?_;rw [show (Hb n.Ac p.Ab).Ae=n.Ac.Ae by unfold Hb;split <;> rfl];exact this
 ·rw [aq hz];have hkl:k < n.Ao.Ad.length:=EM
  obtain ⟨r1,r2,r3,r4,r⟩:=hg.rn hkl;have ee:Li n k=n.Ai[k]:=by unfold Li;rw [aT,aB r1];rfl
  have hl:Br n.Ao.Ad ((k:Nat):Int)=false:=by
   unfold Br;rw [<-hk2,au (aE hi)];rfl
  obtain ⟨he,e2, -⟩:=r.hn hz hl;rw [ee];have hf:M7 ((i:Nat):Int)=true:=Jy.2 ⟨EM,by have:=ht.n1;omega⟩;have:=(hg.el hz hl (Aag he (Bb.2 (Fg hp)) hf)).sp (nodes:=[((i:Nat):Int)]) (ps:=[Rz p]) (fun q hq=>by rw [aH] at hq;rw [hq];exact Arm hp) hone;rw [Abb (show (fun _=>n.Ac.Ae) k=(Ka n.Ai[k] p.Ab ((i:Nat):Int)).Ae by rw [Aly,e2])] at this;refine Av.2 ?_
  split
  ·exact this.un k _ (fun e=>absurd e hz) fun q a b=>⟨Aay a fun x hx=>by rw [aH] at hx;rw [hx];exact hp,Anc b fun x hx=>by rw [aH] at hx;rw [hx];exact hk⟩
  ·exact this
theorem Lw {n:Du} {s:Gf} (h:At n=true):E9 (Qu n s)=true/\(Q7 s=true->Yh (Qu n s)=true):=by
 have hg:=Av.1 h;obtain ⟨q1,q2,q3,q4⟩:=Bk.1 hg.l;unfold Qu;by_cases hi:s.node.toNat < n.Ao.Ad.length
 ·obtain ⟨h1,h2,h3,h4,r⟩:=hg.rn hi;cases Q7 s
  ·rw [aq EN,N2 h3];exact ⟨r.hd,fun e=>by cases e⟩
  ·rw [ar rfl,N2 h4];exact ⟨r.hu,fun _=>r.hk⟩
 ·have e:((if Q7 s then n.up else n.down).getD s.node.toNat [])=[]:=by
   rw [aT,bf (by split <;> omega)];rfl
  rw [e];exact ⟨rfl,fun _=>rfl⟩
theorem Kr {n:Du} {s:Gf} (h:At n=true):At (Do n s)=true:=by
 have hg:=Av.1 h;unfold Do
 split
 ·exact Av.2 (hg.pu _)
 ·exact Av.2 (hg.pd _)
theorem N5 {q:List Ar} (h:0 < q.length):Lu q∈q:=by rw [V8 h];exact aE _
theorem Kj {q:List Ar} (h:E9 q=true) {p:Ar} (hp:p∈q):Bh p=true:=by
 unfold E9 at h;rw [av] at h;exact aQ.1 h.2 p hp
theorem Anx {q:List Ar} (h:Yh q=true) {p:Ar} (hp:p∈q):p.Bd=3:=bP (aQ.1 h p hp)
theorem Aki {n:Du} {s:Gf} {r:Du × ah} (h:At n=true) (hn:M7 s.node=true) (hr:C4 n s=some r):At r.1=true:=by
 have hf:=Jy.1 hn;have hpg:=Kr (s:=s) h;have hq:=Lw (s:=s) h;have htl:(Do n s).Ao=n.Ao:=HB
 unfold C4 at hr
 split at hr
 ·cases hr
 ·rename_i h1
  split at hr
  ·cases hr
  ·rename_i h2;have hm:=N5 (q:=Qu n s) EM;have hpk:=Kj hq.1 hm;have hi:s.node.toNat < (Do n s).Ao.Ad.length:=by rw [htl];omega
   split at hr
   ·cases hr;exact Ak9 hpg EM hi hpk
   ·split at hr
    ·rename_i h5;cases hr;exact Axd hpg EM hi hpk (Anx (hq.2 (by unfold Q7;rw [au h5];rfl)) hm)
    ·cases hr;exact hpg
theorem Sk {x:Cc} (h:Cj x=true):0<=x.Ae/\x.Ae<=9999:=by
 unfold Cj at h;simp only [av] at h;exact Mq.1 h.1.1.2
theorem Kk {n:Du} {s:Gf} {r:Du × ah} (h:At n=true) (hs:D5 s=true) (hr:Bm n s=some r):At r.1=true:=by
 unfold Bm at hr;unfold D5 at hs
 split at hr
 ·rename_i h1;rw [ar h1,av] at hs;cases hr;exact Aqd h hs.2
 ·rename_i h1
  split at hr
  ·rename_i h4
   split at hr
   ·cases hr
   ·rename_i hc;cases hr;have:=Sk (Av.1 h).s;exact P5 h EM
  ·rename_i h4;rw [aq h1,aq h4] at hs;simp only [av] at hs;exact Aki h hs.1.2 hr
section
variable {c:Cx} {fr:Fr} {H:List Pc} {Φ:Gl}
theorem Arj {a:ai} {n cp:Nat} {xs:List Gf} {F:ak} (i:Nat) (h:∀(hi:i < xs.length) (b o:Nat),a=some ⟨b,o,none⟩->xs[i].data.size<=maxLen->T c fr (.cel b (o+i * 3) [aa xs[i].Bd,aa xs[i].node,af xs[i].data]::H) Φ) (hm:.sl Ox (ab a n cp) xs F∈H:=by exact Cb) (hi:i < xs.length:=by omega):T c fr H Φ:=.mk fun ac w s g=>by
 exact AU
theorem Ade (x:Gf) (s1:x.data.size<=maxLen) (w:World):C6 Ox w [aa x.Bd,aa x.node,af x.data] [x] []:=⟨_,[],[],[],EO,EO,⟨rfl,s1,rfl⟩,rfl,rfl⟩
end
theorem Aw5 (n:Du) (s:Gf) (g:Nat) (a1:ai) (c1:Nat) (F1:ak) (a2:ai) (c2:Nat) (F2:ak) (a3:ai) (c3:Nat) (F3:ak) (a4:ai) (c4:Nat) (F4:ak) (a5:ai) (c5:Nat) (F5:ak) (a6:ai) (c6:Nat) (F6:ak) (a7:ai) (c7:Nat) (F7:ak) (FT:ak) (hg:At n=true) (hf:M7 s.node=true) :
  Fn prog 90 [Fv g 0 0,.agg #[aa s.Bd,aa s.node,af s.data]] [Nx FT] [.row g 37 0 [] [ab a1 n.Ao.Ad.length c1,aa n.Ac.Aa.Al,aa n.Ac.Aa.size,ab a2 n.Ac.Aa.An.length c2,aa n.Ac.Ae,aa n.Ac.quiet,ab a3 n.Ac.holds.length c3,ab a4 n.Ai.length c4,ab a5 n.Ah.length c5,ab a6 n.down.length c6,ab a7 n.up.length c7] [],.ow Bi 3 (ab a1 n.Ao.Ad.length c1) n.Ao.Ad F1,.ow Bc 9 (ab a2 n.Ac.Aa.An.length c2) n.Ac.Aa.An F2,.ow Bx 130 (ab a3 n.Ac.holds.length c3) n.Ac.holds F3,.ow Ck 76 (ab a4 n.Ai.length c4) n.Ai F4,.ow Ca 83 (ab a5 n.Ah.length c5) n.Ah F5,.ow (Jo Ap 103) 85 (ab a6 n.down.length c6) n.down F6,.ow (Jo Ap 103) 85 (ab a7 n.up.length c7) n.up F7] (fun (_:NV × KA)=>True) (fun z=>.tuple #[.slice z.2.a (Zh (C4 n s)).length z.2.c,.bool (C4 n s).isSome]) (fun z=>[.row g 37 0 [] [ab z.1.a1 n.Ao.Ad.length z.1.c1,aa (Ha n (C4 n s)).Ac.Aa.Al,aa (Ha n (C4 n s)).Ac.Aa.size,.slice z.1.a2 (Ha n (C4 n s)).Ac.Aa.An.length z.1.c2,aa (Ha n (C4 n s)).Ac.Ae,aa (Ha n (C4 n s)).Ac.quiet,.slice z.1.a3 (Ha n (C4 n s)).Ac.holds.length z.1.c3,ab z.1.a4 n.Ai.length z.1.c4,ab z.1.a5 n.Ah.length z.1.c5,ab z.1.a6 n.down.length z.1.c6,ab z.1.a7 n.up.length z.1.c7] [],.ow Bi 3 (ab z.1.a1 n.Ao.Ad.length z.1.c1) (Ha n (C4 n s)).Ao.Ad z.1.F1,.ow Bc 9 (.slice z.1.a2 (Ha n (C4 n s)).Ac.Aa.An.length z.1.c2) (Ha n (C4 n s)).Ac.Aa.An z.1.F2,.ow Bx 130 (.slice z.1.a3 (Ha n (C4 n s)).Ac.holds.length z.1.c3) (Ha n (C4 n s)).Ac.holds z.1.F3,.ow Ck 76 (ab z.1.a4 n.Ai.length z.1.c4) (Ha n (C4 n s)).Ai z.1.F4,.ow Ca 83 (ab z.1.a5 n.Ah.length z.1.c5) (Ha n (C4 n s)).Ah z.1.F5,.ow (Jo Ap 103) 85 (ab z.1.a6 n.down.length z.1.c6) (Ha n (C4 n s)).down z.1.F6,.ow (Jo Ap 103) 85 (ab z.1.a7 n.up.length z.1.c7) (Ha n (C4 n s)).up z.1.F7,.ow Bc 9 (.slice z.2.a (Zh (C4 n s)).length z.2.c) (Zh (C4 n s)) z.2.F]):=by
 have hG:=Av.1 hg;have h8:=Ev hG.t;have hn8:=h8.n1;obtain ⟨q1,q2,q3,q4⟩:=Bk.1 hG.l;obtain ⟨f1,f2⟩:=Jy.1 hf;obtain ⟨i,hi⟩:∃i:Nat,s.node=((i:Nat):Int):=⟨s.node.toNat,EM⟩;have i0:i≠0:=EM
 refine enter func90 rfl ntmps90 fun w0=>?_;refine B4 Bc 9 ?_;rw [hi];refine go ?_;intros;refine As [0,2] [] ?_;refine D7 0 1 2 3 ?_;refine D7 4 5 6 7 ?_;refine dt 8 ?_;refine dd ?_;refine go ?_;refine Bf rfl (fun h1=>?_) (fun h1=>?_)
 ·rw [show C4 n s=none by unfold C4;rw [ar EM]];exact DZ
 have hil:i < n.Ao.Ad.length:=EM
 by_cases k5:s.Bd=5
 ·have hu:Q7 s=true:=by unfold Q7;rw [au k5];rfl
  have hq:Qu n s=n.up[i]:=by unfold Qu;rw [hu,ar rfl,hi,ba];exact N2 EM []
  have hpo:Do n s=Lv n i:=HT
  have h6:n.up[i].length<=6:=by
   exact CL
  refine go ?_;refine Dm rfl rfl (fun g5=>?_) (fun g5=>?_)
  rotate_left
  ·exact absurd k5 g5
  refine go ?_;refine Bw (Ad1 n.up i a7 _ c7 F7 rfl EM h6) fun J _=>?_;by_cases h0:0 < n.up[i].length
  rotate_left
  ·exact BH
  have hmem:=N5 h0;have hpk:Bh (Lu n.up[i])=true:=Kj (hq▸(Lw (s:=s) hg).1) hmem;have hpz:(Lu n.up[i]).data.size<=maxLen:=by
   exact BD
  rw [au h0,show n.up.set i (n.up[i].drop 1)=(Lv n i).up from (Hk EM).symm];have hgm:At (Lv n i)=true:=hpo▸Kr hg;have hGm:=Av.1 hgm;have hlm:n.up.length=(Lv n i).up.length:=(cB ..).symm;generalize hP:Lu n.up[i]=P at *;have htk:C4 n s=some (Ou (Lv n i) i P,[]):=by
   unfold C4;rw [aq EM,hq,aq EM,hpo,hP,hi,ba];rw [aq EM,ar k5]
  rw [htk];refine go ?_;intros;refine Bf rfl (fun k2=>?_) (fun k2=>?_)
  ·exact absurd k2 EM
  refine go ?_;refine Bf rfl (fun m5=>?_) (fun m5=>?_)
  rotate_left
  ·exact absurd k5 m5
  refine go ?_;rw [hlm];refine cf (Auk (Lv n i) i P g a1 c1 F1 a2 c2 F2 a3 c3 F3 a4 c4 F4 a5 c5 F5 a6 c6 F6 a7 c7 J hGm.l i0 hil (Ev hGm.t) hGm.s (fun k hk hkl hl=>?_) hpk hpz) fun z _=>?_
  rotate_left
  ·refine Q3 ?_;refine go ?_;refine ret (z,⟨0,none,0,[]⟩) trivial rfl
  ·obtain ⟨x1,x2,x3,x4,r⟩:=hGm.rn (i:=k) hkl;rw [Jl x1];exact (r.hn hk hl).1
 by_cases k6:s.Bd=6
 ·have hu:Q7 s=true:=by unfold Q7;rw [au k6,fW]
  have hq:Qu n s=n.up[i]:=by unfold Qu;rw [hu,ar rfl,hi,ba];exact N2 EM []
  have hpo:Do n s=Lv n i:=HT
  have h6:n.up[i].length<=6:=by
   exact CL
  refine go ?_;refine Dm rfl rfl (fun g5=>?_) (fun g5=>?_)
  ·exact absurd g5 EM
  refine go ?_;refine Bf rfl (fun g6=>?_) (fun g6=>?_)
  rotate_left
  ·exact absurd k6 g6
  refine go ?_;refine Bw (Ad1 n.up i a7 _ c7 F7 rfl EM h6) fun J _=>?_;by_cases h0:0 < n.up[i].length
  rotate_left
  ·exact BH
  have hmem:=N5 h0;have hpk:Bh (Lu n.up[i])=true:=Kj (hq▸(Lw (s:=s) hg).1) hmem;have hpz:(Lu n.up[i]).data.size<=maxLen:=by
   exact BD
  rw [au h0,show n.up.set i (n.up[i].drop 1)=(Lv n i).up from (Hk EM).symm];have hgm:At (Lv n i)=true:=hpo▸Kr hg;have hGm:=Av.1 hgm;have hlm:n.up.length=(Lv n i).up.length:=(cB ..).symm;generalize hP:Lu n.up[i]=P at *;have htk:C4 n s=some (Lv n i,[]):=by
   unfold C4;rw [aq EM,hq,aq EM,hpo,hP,hi,ba];rw [aq EM,aq EM]
  rw [htk];refine go ?_;intros;refine Bf rfl (fun k2=>?_) (fun k2=>?_)
  ·exact absurd k2 EM
  refine go ?_;refine Bf rfl (fun m5=>?_) (fun m5=>?_)
  ·exact absurd m5 EM
  refine go ?_;refine ret (⟨a1,c1,F1,a2,c2,F2,a3,c3,F3,a4,c4,F4,a5,c5,F5,a6,c6,F6,a7,c7,J⟩,⟨0,none,0,[]⟩) trivial rfl
 ·have hu:Q7 s=false:=by unfold Q7;rw [ay k5,ay k6];rfl
  have hq:Qu n s=n.down[i]:=by unfold Qu;rw [hu,aq EN,hi,ba];exact N2 EM []
  have hpo:Do n s=Mg n i:=by unfold Do;rw [hu,aq EN,hi,ba]
  have h6:n.down[i].length<=6:=by
   exact CL
  refine go ?_;refine Dm rfl rfl (fun g5=>?_) (fun g5=>?_)
  ·exact absurd g5 k5
  refine go ?_;refine Bf rfl (fun g6=>?_) (fun g6=>?_)
  ·exact absurd g6 k6
  refine go ?_;refine Bw (Ad1 n.down i a6 _ c6 F6 rfl EM h6) fun J _=>?_;by_cases h0:0 < n.down[i].length
  rotate_left
  ·have hz:n.down[i]=[]:=bx.1 EM;rw [show C4 n s=none by unfold C4;rw [aq EM,hq,ar EM],ay h0,show n.down.set i (n.down[i].drop 1)=n.down by rw [hz,fN];rw [<-hz,bu]];refine go ?_;intros;refine ret (⟨a1,c1,F1,a2,c2,F2,a3,c3,F3,a4,c4,F4,a5,c5,F5,a6,c6,J,a7,c7,F7⟩,⟨0,none,0,[]⟩) trivial rfl
  have hmem:=N5 h0;have hpk:Bh (Lu n.down[i])=true:=Kj (hq▸(Lw (s:=s) hg).1) hmem;have hpz:(Lu n.down[i]).data.size<=maxLen:=by
   exact BD
  rw [au h0,show n.down.set i (n.down[i].drop 1)=(Mg n i).down from (Hk EM).symm];have hgm:At (Mg n i)=true:=hpo▸Kr hg;have hGm:=Av.1 hgm;have hlm:n.down.length=(Mg n i).down.length:=(cB ..).symm;generalize hP:Lu n.down[i]=P at *;have htk:C4 n s=if s.Bd=2 then some (C1 (Mg n i) i P) else some (Mg n i,[]):=by
   unfold C4;rw [aq EM,hq,aq EM,hpo,hP,hi,ba]
   split
   ·rfl
   ·first|rfl|rw [aq k5]
  rw [htk];refine go ?_;intros;refine Bf rfl (fun k2=>?_) (fun k2=>?_)
  ·rw [ar k2];refine go ?_;rw [hlm];refine cf (Aoh (Mg n i) i P g a1 c1 F1 a2 c2 F2 a3 c3 F3 a4 c4 F4 a5 c5 F5 a6 c6 J a7 c7 F7 FT hGm.l hil (Ev hGm.t) (fun hl=>?_) (fun hl=>?_) hpk hpz) fun z _=>?_
   rotate_left
   rotate_left
   ·refine Q3 ?_;refine go ?_;refine ret (z.1,z.2) trivial rfl
   ·obtain ⟨x1,x2,x3,x4,r⟩:=hGm.rn (i:=i) hil;rw [Iq x2];exact (r.hf i0 hl).2.1
   ·obtain ⟨x1,x2,x3,x4,r⟩:=hGm.rn (i:=i) hil;rw [Jl x1];exact (r.hn i0 hl).1
  ·rw [aq k2];refine go ?_;refine Bf rfl (fun m5=>?_) (fun m5=>?_)
   ·exact absurd m5 k5
   refine go ?_;refine ret (⟨a1,c1,F1,a2,c2,F2,a3,c3,F3,a4,c4,F4,a5,c5,F5,a6,c6,J,a7,c7,F7⟩,⟨0,none,0,[]⟩) trivial rfl
theorem Azu (n:Du) (s:Gf) (g:Nat) (a1:ai) (c1:Nat) (F1:ak) (a2:ai) (c2:Nat) (F2:ak) (a3:ai) (c3:Nat) (F3:ak) (a4:ai) (c4:Nat) (F4:ak) (a5:ai) (c5:Nat) (F5:ak) (a6:ai) (c6:Nat) (F6:ak) (a7:ai) (c7:Nat) (F7:ak) (FT:ak) (hg:At n=true) (hs:D5 s=true) (hss:s.data.size<=maxLen) :
  Fn prog 41 [Fv g 0 0,.agg #[aa s.Bd,aa s.node,af s.data]] [Nx FT] [.row g 37 0 [] [ab a1 n.Ao.Ad.length c1,aa n.Ac.Aa.Al,aa n.Ac.Aa.size,ab a2 n.Ac.Aa.An.length c2,aa n.Ac.Ae,aa n.Ac.quiet,ab a3 n.Ac.holds.length c3,ab a4 n.Ai.length c4,ab a5 n.Ah.length c5,ab a6 n.down.length c6,ab a7 n.up.length c7] [],.ow Bi 3 (ab a1 n.Ao.Ad.length c1) n.Ao.Ad F1,.ow Bc 9 (ab a2 n.Ac.Aa.An.length c2) n.Ac.Aa.An F2,.ow Bx 130 (ab a3 n.Ac.holds.length c3) n.Ac.holds F3,.ow Ck 76 (ab a4 n.Ai.length c4) n.Ai F4,.ow Ca 83 (ab a5 n.Ah.length c5) n.Ah F5,.ow (Jo Ap 103) 85 (ab a6 n.down.length c6) n.down F6,.ow (Jo Ap 103) 85 (ab a7 n.up.length c7) n.up F7] (fun (_:NV × KA)=>True) (fun z=>.tuple #[.slice z.2.a (Zh (Bm n s)).length z.2.c,.bool (Bm n s).isSome]) (fun z=>[.row g 37 0 [] [ab z.1.a1 n.Ao.Ad.length z.1.c1,aa (Ha n (Bm n s)).Ac.Aa.Al,aa (Ha n (Bm n s)).Ac.Aa.size,.slice z.1.a2 (Ha n (Bm n s)).Ac.Aa.An.length z.1.c2,aa (Ha n (Bm n s)).Ac.Ae,aa (Ha n (Bm n s)).Ac.quiet,.slice z.1.a3 (Ha n (Bm n s)).Ac.holds.length z.1.c3,ab z.1.a4 n.Ai.length z.1.c4,ab z.1.a5 n.Ah.length z.1.c5,ab z.1.a6 n.down.length z.1.c6,ab z.1.a7 n.up.length z.1.c7] [],.ow Bi 3 (ab z.1.a1 n.Ao.Ad.length z.1.c1) (Ha n (Bm n s)).Ao.Ad z.1.F1,.ow Bc 9 (.slice z.1.a2 (Ha n (Bm n s)).Ac.Aa.An.length z.1.c2) (Ha n (Bm n s)).Ac.Aa.An z.1.F2,.ow Bx 130 (.slice z.1.a3 (Ha n (Bm n s)).Ac.holds.length z.1.c3) (Ha n (Bm n s)).Ac.holds z.1.F3,.ow Ck 76 (ab z.1.a4 n.Ai.length z.1.c4) (Ha n (Bm n s)).Ai z.1.F4,.ow Ca 83 (ab z.1.a5 n.Ah.length z.1.c5) (Ha n (Bm n s)).Ah z.1.F5,.ow (Jo Ap 103) 85 (ab z.1.a6 n.down.length z.1.c6) (Ha n (Bm n s)).down z.1.F6,.ow (Jo Ap 103) 85 (ab z.1.a7 n.up.length z.1.c7) (Ha n (Bm n s)).up z.1.F7,.ow Bc 9 (.slice z.2.a (Zh (Bm n s)).length z.2.c) (Zh (Bm n s)) z.2.F]):=by
 have hG:=Av.1 hg;have h8:=Ev hG.t;have hn8:=h8.n1;have hn2:=h8.n0;obtain ⟨q1,q2,q3,q4⟩:=Bk.1 hG.l;have hS:=M4 hG.s;obtain ⟨-,⟨hz1, -⟩, -, -⟩:=D0.1 hS.w;have hkl:=T0 n.Ao.Ad 0;have hkx:∀x∈E7 n.Ao.Ad 0,0<=x/\x.toNat < n.down.length:=fun x hx=>by have:=If (i:=0) h8 hx;omega
 refine enter func41 rfl ntmps41 fun w0=>?_;refine B4 Bc 9 ?_;refine go ?_;intros;rename_i gs;refine Bf rfl (fun h1=>?_) (fun h1=>?_)
 ·rw [show Bm n s=some (Xb n s.data,[]) by unfold Bm;rw [ar h1]];refine go ?_;refine dsI [.cel g 0 [ab a1 n.Ao.Ad.length c1],.row gs 70 0 [] [aa s.Bd,aa s.node,af s.data] []] [] ?_;refine dtI 0 (fun w h=>Vp (Hi (h (.row g _ 0 [] _ []) EQ)) (h _ EQ)) ?_;refine dtI 1 (fun w h=>Vp (Hi (h (.row g _ 0 [] _ []) EQ)) (h _ EQ)) ?_;refine dtI 2 (fun w h=>Vp (Hi (h (.row g _ 0 [] _ []) EQ)) (h _ EQ)) ?_;refine dtI 3 (fun w h=>Vp (Hi (h (.row g _ 0 [] _ []) EQ)) (h _ EQ)) ?_
  refine dtI 4 (fun w h=>Vp (Hi (h (.row g _ 0 [] _ []) EQ)) (h _ EQ)) ?_;refine dtI 6 (fun w h=>Vp (Hi (h (.row g _ 0 [] _ []) EQ)) (h _ EQ)) ?_;refine dtI 7 (fun w h=>Vp (Hi (h (.row g _ 0 [] _ []) EQ)) (h _ EQ)) ?_;refine dtI 8 (fun w h=>Vp (Hi (h (.row g _ 0 [] _ []) EQ)) (h _ EQ)) ?_;refine dtI 9 (fun w h=>Vp (Hi (h (.row g _ 0 [] _ []) EQ)) (h _ EQ)) ?_;refine dtI 10 (fun w h=>Vp (Hi (h (.row g _ 0 [] _ []) EQ)) (h _ EQ)) ?_;refine dN 5 ?_;refine oC ?_
  refine cfr (fun w st=>by obtain ⟨Fq,hq⟩:=Ad7 (st.get (p:=.ow Bi 3 (ab a1 n.Ao.Ad.length c1) n.Ao.Ad F1) EQ);exact ⟨_,I0 hq,rfl,Xl n.Ao 0 _ Fq IU⟩) (fun u _=>?_);refine Q3 ?_;refine Az (E:=Bi) (xs:=E7 n.Ao.Ad 0) fun Fk=>?_;refine dkI (fun w h=>Vp (Hi (h (.row g _ 0 [] _ []) EQ)) (h _ EQ)) ?_;refine dN 11 ?_;refine oC ?_
  refine Bw (Ar2 (X:=[ab a1 n.Ao.Ad.length c1]) (cs:=[aa n.Ac.Aa.Al,aa n.Ac.Aa.size,ab a2 n.Ac.Aa.An.length c2,aa n.Ac.Ae,aa n.Ac.quiet,ab a3 n.Ac.holds.length c3]) (Y:=[ab a4 n.Ai.length c4,ab a5 n.Ah.length c5,ab a6 n.down.length c6,ab a7 n.up.length c7]) (L:=[ab a1 n.Ao.Ad.length c1,aa n.Ac.Aa.Al,aa n.Ac.Aa.size,ab a2 n.Ac.Aa.An.length c2,aa n.Ac.Ae,aa n.Ac.quiet,ab a3 n.Ac.holds.length c3,ab a4 n.Ai.length c4,ab a5 n.Ah.length c5,ab a6 n.down.length c6,ab a7 n.up.length c7]) (L':=fun z:SeS=>[ab a1 n.Ao.Ad.length c1,aa (Dt n.Ac.Aa s.data).Al,aa (Dt n.Ac.Aa s.data).size,.slice z.a (Dt n.Ac.Aa s.data).An.length z.c,aa n.Ac.Ae,aa 0,.slice z.a2 (Mv (Dt n.Ac.Aa s.data) n.Ac.holds).length z.c2,ab a4 n.Ai.length c4,ab a5 n.Ah.length c5,ab a6 n.down.length c6,ab a7 n.up.length c7]) (cs':=fun z:SeS=>[aa (Dt n.Ac.Aa s.data).Al,aa (Dt n.Ac.Aa s.data).size,.slice z.a (Dt n.Ac.Aa s.data).An.length z.c,aa n.Ac.Ae,aa 0,.slice z.a2 (Mv (Dt n.Ac.Aa s.data) n.Ac.holds).length z.c2]) (Au9 n.Ac.Aa s.data n.Ac.holds g 37 (0+1) _ _ a2 a3 c2 c3 n.Ac.Ae n.Ac.quiet F2 F3 hS.l hS.t0 hS.t1 hss hz1 hS.n) rfl rfl (fun _=>rfl)) fun z _=>?_
  refine dkI (fun w h=>Vp (Hi (h (.row g _ 0 [] _ []) EQ)) (h _ EQ)) ?_;refine dN 12 ?_;apply In;rfl;rfl;rfl;rfl;exact Ik;exact Ie;intro _;refine Eo (E:=Ap) (xs:=[Di n.Ac.Aa s.data]) (Dj (Di n.Ac.Aa s.data) hss) ?_ EO;refine Az (E:=Ap) (xs:=[Di n.Ac.Aa s.data]) fun Fp=>?_;refine dkI (fun w h=>Vp (Hi (h (.row g _ 0 [] _ []) EQ)) (h _ EQ)) ?_;refine dN 13 ?_;refine oC ?_;refine Bw (Xm n.down (E7 n.Ao.Ad 0) [Di n.Ac.Aa s.data] g _ _ _ _ _ _ _ _ _ _ a6 _ c6 F6 _ _ Fk _ _ Fp rfl hkx) fun J6 _=>?_
  refine dkI (fun w h=>Vp (Hi (h (.row g _ 0 [] _ []) EQ)) (h _ EQ)) ?_;refine dd ?_;refine go ?_;refine ret (⟨a1,c1,F1,z.a,z.c,z.F,z.a2,z.c2,z.F2,a4,c4,F4,a5,c5,F5,a6,c6,J6,a7,c7,F7⟩,⟨0,none,0,[]⟩) trivial rfl
 refine go ?_;refine Bf rfl (fun h4=>?_) (fun h4=>?_)
 ·refine go ?_;refine Bf rfl (fun hc=>?_) (fun hc=>?_)
  ·rw [show Bm n s=none by unfold Bm;rw [aq h1,ar h4,ar hc]];exact DZ
  ·rw [show Bm n s=some (Bv n) by unfold Bm;rw [aq h1,ar h4,aq hc]];have hck:=Sk hG.s;refine go ?_;refine Bw (Amn n g a1 c1 F1 a2 c2 F2 a3 c3 F3 a4 c4 F4 a5 c5 F5 a6 c6 F6 a7 c7 F7 FT hg EM) fun z _=>?_;refine go ?_;refine ret (z.1,z.2) trivial rfl
 ·rw [show Bm n s=C4 n s by unfold Bm;rw [aq h1,aq h4]];have hf:M7 s.node=true:=by
   unfold D5 at hs;rw [aq h1,aq h4] at hs;simp only [av] at hs;exact hs.1.2
  refine go ?_;refine Bw (Aw5 n s g a1 c1 F1 a2 c2 F2 a3 c3 F3 a4 c4 F4 a5 c5 F5 a6 c6 F6 a7 c7 F7 FT hg hf) fun z _=>?_;refine go ?_;refine ret (z.1,z.2) trivial rfl
theorem Ae3 (s:Gf) (hss:s.data.size<=maxLen):FV 88 [.agg #[aa s.Bd,aa s.node,af s.data]] [] (.bool (D5 s)):=by
 refine enter func88 rfl ntmps88 fun w0=>?_;refine go ?_;intros;refine Bf rfl (fun h1=>?_) (fun h1=>?_)
 ·rw [show D5 s=(decide (s.node=0) && Qd s.data) by unfold D5;rw [ar h1]];refine go ?_;refine Dm rfl rfl (fun h2=>?_) (fun h2=>?_)
  ·refine go ?_;refine cb (fun w st=>Za s.data w hss) ?_;refine go ?_;refine ret () trivial ?_;rw [au h2];rfl
  ·refine go ?_;refine ret () trivial ?_;rw [ay h2];rfl
 refine go ?_;refine Bf rfl (fun h4=>?_) (fun h4=>?_)
 ·rw [show D5 s=(decide (s.node=0) && decide (s.data=⟨#[]⟩)) by unfold D5;rw [aq h1,ar h4]];refine go ?_;refine Dm rfl rfl (fun h2=>?_) (fun h2=>?_)
  ·refine go ?_;refine ret () trivial ?_;rw [au h2];rfl
  ·refine go ?_;refine ret () trivial ?_;rw [ay h2];rfl
 rw [show D5 s=(Ht 1 s.Bd 6 && M7 s.node && decide (s.data=⟨#[]⟩)) by unfold D5;rw [aq h1,aq h4]];refine go ?_;refine Bf rfl (fun k2=>?_) (fun k2=>?_)
 ·refine go ?_;refine Bf rfl (fun _=>?_) (fun hx=>absurd k2 hx);refine go ?_;refine ce (fun w st=>Tw s.node _) ?_;cases g5:M7 s.node
  ·exact DE
  ·exact BR
 ·refine go ?_;refine Bf rfl (fun k3=>?_) (fun k3=>?_)
  ·refine go ?_;refine Bf rfl (fun _=>?_) (fun hx=>absurd k3 hx);refine go ?_;refine ce (fun w st=>Tw s.node _) ?_;cases g5:M7 s.node
   ·exact DE
   ·exact BR
  ·refine go ?_;refine Bf rfl (fun k5=>?_) (fun k5=>?_)
   ·refine go ?_;refine Bf rfl (fun _=>?_) (fun hx=>absurd k5 hx);refine go ?_;refine ce (fun w st=>Tw s.node _) ?_;cases g5:M7 s.node
    ·exact DE
    ·exact BR
   ·refine go ?_;refine Bf rfl (fun k6=>?_) (fun k6=>?_)
    ·refine go ?_;refine ce (fun w st=>Tw s.node _) ?_;cases g5:M7 s.node
     ·exact DE
     ·exact BR
    ·refine go ?_;refine ret () trivial ?_;rw [show Ht 1 s.Bd 6=false by unfold Ht;simp;omega];rfl
def L4:Du:=⟨⟨[]⟩,Aku,[],[],[],[]⟩
theorem Mk {n:Du} (h:At n=true):(∀x∈n.Ai,Ba x=true)/\(∀x∈n.Ah,Dx x=true)/\(∀q∈n.down,E9 q=true)/\∀q∈n.up,E9 q=true:=by
 have hG:=Av.1 h;obtain ⟨q1,q2,q3,q4⟩:=Bk.1 hG.l;refine ⟨fun x hx=>?_,fun x hx=>?_,fun x hx=>?_,fun x hx=>?_⟩
 all_goals
  obtain ⟨i,hi,rfl⟩:=aR hx;obtain ⟨h1,h2,h3,h4,r⟩:=hG.rn (i:=i) EM
 ·by_cases e:i=0
  ·exact Ur (r.hz e).1
  ·cases l:Br n.Ao.Ad ((i:Nat):Int)
   ·exact (r.hn e l).1
   ·exact Ur (r.hf e l).1
 ·by_cases e:i=0
  ·exact Us (r.hz e).2.1
  ·cases l:Br n.Ao.Ad ((i:Nat):Int)
   ·exact Us (r.hn e l).2.2
   ·exact (r.hf e l).2.1
 ·exact r.hd
 ·exact r.hu
theorem Ga {q:List Ar} (h:E9 q=true):q.length<=6/\∀p∈q,Bh p=true:=by
 unfold E9 at h;simpa [aQ] using h
theorem Te {n:Du} (h:At n=true):Ag0 n:=by
 have hG:=Av.1 h;have h8:=(Ev hG.t).n1;obtain ⟨q1,q2,q3,q4⟩:=Bk.1 hG.l;have hS:=M4 hG.s;have hl:=hS.l;have hm:=hS.m;obtain ⟨e1,e2,e3,e4⟩:=Mk h;refine ⟨EM,EM,EM,EM,fun x hx=>?_,fun x hx y hy=>?_,EM,fun x hx=>⟨?_,?_⟩,EM,fun q hq=>?_,EM,fun q hq=>?_⟩
 ·have:=(D6.1 (e1 x hx)).2.1;omega
 ·have:=(Afy (e1 x hx)).2.2 y hy;omega
 ·have:=(Kz (Gm.1 (e2 x hx)).w).1;omega
 ·have:=(Dv.1 (Gm.1 (e2 x hx)).q).2.1;omega
 ·have:=(Ga (e3 q hq)).1;omega
 ·have:=(Ga (e4 q hq)).1;omega
theorem Qv (n:Du):∀k,(A4 n k).1.Ao=n.Ao
 | 0=>rfl
 | k+1=>(Yb _ _).1.trans (Qv n k)
theorem P4 {n:Du} {s:Gf} {r:Du × ah} (hr:Bm n s=some r):r.1.Ao=n.Ao:=by
 have hd:∀(n:Du) i p,(C1 n i p).1.Ao=n.Ao:=fun n i p=>by unfold C1;split <;> rfl
 have hu:∀(n:Du) i p,(Ou n i p).Ao=n.Ao:=fun n i p=>by unfold Ou;split <;> rfl
 have hp:(Do n s).Ao=n.Ao:=HB
 unfold Bm C4 at hr
 split at hr
 ·cases hr;rfl
 split at hr
 ·split at hr
  ·cases hr
  ·cases hr;exact Qv n _
 split at hr
 ·cases hr
 split at hr
 ·cases hr
 split at hr
 ·cases hr;exact (hd _ _ _).trans hp
 split at hr
 ·cases hr;exact (hu _ _ _).trans hp
 ·cases hr;exact hp
theorem Am1 {n m:Du} (h1:At n=true) (h2:At m=true) (h:m.Ao=n.Ao):n.Ao.Ad.length=m.Ao.Ad.length/\n.Ai.length=m.Ai.length/\n.Ah.length=m.Ah.length/\n.down.length=m.down.length/\n.up.length=m.up.length:=by
 obtain ⟨p1,p2,p3,p4⟩:=Bk.1 (Av.1 h1).l;obtain ⟨q1,q2,q3,q4⟩:=Bk.1 (Av.1 h2).l;rw [h] at q1 q2 q3 q4;exact ⟨by rw [h],EM,EM,EM,EM⟩
def Bo (n:Du) (s:Gf):Du × ah × Bool:=if At n && D5 s then (match Bm n s with
 | some r=>(r.1,r.2,true)
 | none=>(L4,[],false)) else (L4,[],false)
def okQ (up:Bool) (p:Ar):Bool:=Bh p && (!up || decide (p.Bd=3))
theorem Am7 (up:Bool) (l:List Ar):(l.all (okQ up) && decide (l.length<=6))=(E9 l && (!up || Yh l)):=by
 have h:l.all (okQ up)=(l.all Bh && (!up || Yh l)):=by
  unfold Yh okQ
  induction l with
  | nil=>cases up <;> rfl
  | cons p l ih =>
   simp only [dK,ih];cases Bh p <;> cases up <;> cases decide (p.Bd=3) <;> cases l.all Bh <;> simp
 rw [h];unfold E9;cases decide (l.length<=6) <;> cases l.all Bh <;> simp
theorem As1 {up:Bool} {l:List Ar} {k:Nat} (h:k < l.length) (hp:okQ up l[k]=false):(E9 l && (!up || Yh l))=false:=by
 rw [<-Am7,show l.all (okQ up)=false from cU.2 ⟨l[k],aE h,HF⟩];rfl
theorem Ads (l:List Ar) (up:Bool) (a:ai) (c:Nat) (F:ak) (hl:l.length<=9223372036854775807):FV 137 [ab a l.length c,.bool up] [.sl Ap (ab a l.length c) l F] (.bool (E9 l && (!up || Yh l))):=by
 refine enter func137 rfl ntmps137 fun w0=>?_;refine go ?_;refine Ei [0,1,4] (fun k:Nat=>[(5,aa (k:Nat))]) (fun k=>k<=l.length/\∀j,j < k->∀h:j < l.length,okQ up l[j]=true) (fun k=>l.length - k) 0 ⟨aD _,fun j h=>by omega⟩ fun k hk=>?_;obtain ⟨hk1,hk2⟩:=hk;refine go ?_;refine Bf rfl (fun h1=>?_) (fun h1=>?_)
 ·have hh:k < l.length:=EM
  refine N0 (xs:=l) k ?_;rintro hi b o e1 s1;rw [e1];refine go ?_;refine Bw (Ajk l[k] s1) fun _ _=>?_;cases g:Bh l[k]
  ·rw [As1 hh (by unfold okQ;rw [g];rfl)];exact AB
  cases up
  ·refine go ?_;refine Cv (k+1) ⟨hh,fun j hj h=>?_⟩ GP;rcases aY (bt.1 hj) with h'|rfl
   ·exact hk2 j h' h
   ·unfold okQ;rw [g];rfl
  ·refine go ?_;refine Bf rfl (fun h3=>?_) (fun h3=>?_)
   ·rw [As1 hh (by unfold okQ;rw [g,ay h3];rfl)];exact AB
   ·refine go ?_;refine Cv (k+1) ⟨hh,fun j hj h=>?_⟩ GP;rcases aY (bt.1 hj) with h'|rfl
    ·exact hk2 j h' h
    ·unfold okQ;rw [g,au EM];rfl
 ·obtain rfl:k=l.length:=EM
  refine go ?_;refine ret () trivial ?_;rw [<-Am7,show l.all (okQ up)=true from aQ.2 fun p hp=>by obtain ⟨j,hj,rfl⟩:=aR hp;exact hk2 j hj hj,bW];by_cases h6:l.length<=6
  ·rw [au h6,au EM];rfl
  ·rw [ay h6,ay EM];rfl
theorem Vj (e:Bg) (v:Value) (F:ak):FV 110 [v] [.isv B9 v e F] (.bool (Mc e)):=by
 refine enter func110 rfl ntmps110 fun w0=>?_;refine Ez ?_;rintro a1 c1 F1 rfl l1;refine go ?_;intros;refine Dm rfl rfl (fun h1=>?_) (fun h1=>?_)
 ·refine go ?_;refine ret () trivial ?_;unfold Mc;rw [au h1,bW];by_cases h:e.Af.length=0
  ·rw [au h,au EM];rfl
  ·rw [ay h,ay EM];rfl
 ·refine go ?_;refine ret () trivial ?_;unfold Mc;rw [ay h1];rfl
theorem Ay1 (p:Ar) (hs:p.data.size<=maxLen):FV 167 [.agg #[aa (p).Bd,aa (p).Ab,aa (p).Al,aa (p).Cy,af (p).data]] [] (.bool (!Bh p)):=by
 refine enter func167 rfl ntmps167 fun w0=>?_;refine go ?_;intros;refine Bw (Vg p hs) fun _ _=>?_;exact AB
theorem Af1 (l:List Ar) (a:ai) (c:Nat) (F:ak):FV 107 [ab a l.length c] [.sl Ap (ab a l.length c) l F] (.bool (E9 l)):=by
 refine enter func107 rfl ntmps107 fun w0=>?_;refine Aa3 (E:=Ap) (fun p:Ar=>p.data.size<=maxLen) (fun w cs x F h=>by obtain ⟨_,h,_⟩:=h;exact h) ?_;intro hz;refine go ?_;refine Dm rfl rfl (fun h1=>?_) (fun h1=>?_)
 ·refine go ?_;refine cb (fun w st=>(Aml 167 [] [] [] rfl l a c F (fun p=>!Bh p) ER EM (fun p hp w _=>(Ay1 p (hz p hp)).val w (by intro q hq;cases hq))).val w (I0 (st.get (p:=.sl _ _ _ _) EQ))) ?_;refine go ?_;refine ret () trivial ?_;unfold E9;rw [au (show l.length<=6 by omega),dy];simp;rfl
 ·refine go ?_;refine ret () trivial ?_;unfold E9;rw [ay (show ¬l.length<=6 by omega)];rfl
theorem Ty (r:Ay) (v:Value) (F:ak):FV 111 [v] [.isv Cg v r F] (.bool (Sp r)):=by
 have key:∀b:Bool,(b=(!r.A1 && decide (r.Ae=0) && (decide (r.Aa.next=0) && decide (r.Aa.Am.length=0) && decide (r.Aj.length=0))))->b=Sp r:=fun b h=>h;refine enter func111 rfl ntmps111 fun w0=>?_;refine Gn ?_;rintro a1 c1 F1 a2 c2 F2 rfl l1 l2;unfold maxLen at l1 l2;cases hs:r.A1 <;> rw [hs] at key
 ·refine go ?_;intros;refine Dm rfl rfl (fun h1=>?_) (fun h1=>?_)
  ·refine go ?_;refine Dm rfl rfl (fun h2=>?_) (fun h2=>?_)
   ·refine go ?_;refine Dm rfl rfl (fun h3=>?_) (fun h3=>?_)
    ·refine go ?_;refine ret () trivial ?_;rw [<-key (decide ((r.Aj.length:Int)=0)) (by simp [h1,h2,show r.Aa.Am.length=0 by omega])];rfl
    ·refine go ?_;refine ret () trivial ?_;rw [<-key false (by simp [show ¬r.Aa.Am=[] from fun e=>h3 (by rw [e];rfl)])];rfl
   ·refine go ?_;refine ret () trivial ?_;rw [<-key false (by simp [h2])];rfl
  ·refine go ?_;refine ret () trivial ?_;rw [<-key false (by simp [h1])];rfl
 ·refine go ?_;intros;refine ret () trivial ?_;rw [<-key false EO];rfl
theorem Ay0 (p:Ar):FV 109 [.agg #[aa (p).Bd,aa (p).Ab,aa (p).Al,aa (p).Cy,af (p).data]] [] (.bool (!decide (p.Bd=3))):=by
 refine enter func109 rfl ntmps109 fun w0=>?_;refine go ?_;intros;refine ret () trivial ?_;rw [<-decide_not];rfl
theorem Axc (l:List Ar):(l.any fun p=>!decide (p.Bd=3)) = !Yh l:=by
 unfold Yh;rw [dX]
theorem Am0 {α:Type} (l:List α):decide ((l.length:Int)=0)=decide (l.length=0):=by
 by_cases h:l.length=0
 ·rw [au h,au EM]
 ·rw [ay h,ay EM]
theorem Atq {Cp:al} {clk:Int} {i:Nat} {e:Bg} {r:Ay} {d u:List Ar} (h:(E9 d && E9 u && Yh u)=false):Py Cp clk i e r d u=false:=by unfold Py;rw [h];rfl
theorem Azm {Cp:al} {clk:Int} {i:Nat} {e:Bg} {r:Ay} {d u:List Ar} (h:(E9 d && E9 u && Yh u)=true):Py Cp clk i e r d u=(if i=0 then Mc e && Sp r && decide (d.length=0) && decide (u.length=0)
  else if Br Cp i then Mc e && Dx r && decide (r.Ae=clk) else Ba e && decide (e.Ae=clk) && Sp r):=by unfold Py;rw [h,bW]
theorem Ae9 (n:Du) (i:Nat) (v:Value) (F:ak) (hl:Kn n=true) (hi:i < n.Ao.Ad.length):FV 54 [v,aa (i:Nat)] [.isv Nw v n F] (.bool (Rw n i)):=by
 obtain ⟨q1,q2,q3,q4⟩:=Bk.1 hl;rw [Wg EM EM EM EM];refine enter func54 rfl ntmps54 fun w0=>?_;refine Eb ?_;rintro a1 c1 F1 a2 c2 F2 a3 c3 F3 a4 c4 F4 a5 c5 F5 a6 c6 F6 a7 c7 F7 rfl l1 l2 l3 l4 l5 l6 l7;unfold maxLen at l1 l2 l3 l4 l5 l6 l7;refine Mn n.Ao ?_;refine Rl (xs:=n.Ai) i ?_;rintro hi4 b4 o4 a8 c8 F8 rfl l8;refine Gk n.Ai[i] ?_;refine Od (xs:=n.Ah) i ?_;rintro hi5 b5 o5 a9 c9 F9 a10 c10 F10 rfl l9 l10;refine E8 n.Ah[i] ?_;refine O0 (E:=Ap) (hz:=EN) (xs:=n.down) i ?_;rintro hi6 b6 o6 a11 c11 F11 rfl l11
 refine O0 (E:=Ap) (hz:=EN) (xs:=n.up) i ?_;rintro hi7 b7 o7 a12 c12 F12 rfl l12;unfold maxLen at l8 l9 l10 l11 l12;refine go ?_;intros;refine Gw [1,2,4] [0,1,2,3,4,5,6,7,8,9,10,11,12,13,14,15,16,17,18,19,20] (fun z:Nat × Nat=>[(5,Fv z.1 0 0),(6,Fv z.2 0 0)]) (fun z=>[.row z.1 76 0 [] [aa n.Ai[i].Ae,.slice a8 n.Ai[i].Af.length c8] [],.row z.2 83 0 [] [.bool n.Ah[i].A1,aa n.Ah[i].Ae,aa n.Ah[i].Aa.next,.slice a9 n.Ah[i].Aa.Am.length c9,.slice a10 n.Ah[i].Aj.length c10] []]) (fun _=>True) ?_ fun z _=>?_
 ·refine As [0,6,10] [] ?_;refine D7 0 1 2 3 ?_;refine D7 4 5 6 7 ?_;refine Ek 8 9 ?_;refine dM 10 11 ?_ ?_
  ·apply Cq;rfl;intro _;refine dk ?_;refine dN 11 ?_;exact AP
  ·apply Cq;rfl;intro _;refine dk ?_;refine dN 10 ?_;exact AP
 refine go ?_;refine Bw (Af1 n.down[i] _ _ F11) fun _ _=>?_;cases g1:E9 n.down[i]
 ·rw [Atq (by rw [g1];rfl)];exact AB
 refine go ?_;refine Bw (Af1 n.up[i] _ _ F12) fun _ _=>?_;cases g2:E9 n.up[i]
 ·rw [Atq (by rw [g1,g2];rfl)];exact AB
 have u6:n.up[i].length<=6:=by
  unfold E9 at g2;simp only [av,aC] at g2;exact g2.1
 refine go ?_;refine cb (fun w st=>(Aml 109 [] [] [] rfl n.up[i] a12 c12 F12 (fun p=>!decide (p.Bd=3)) ER EM (fun p hp w _=>(Ay0 p).val w (by intro q hq;cases hq))).val w (I0 (st.get (p:=.sl _ _ _ _) EQ))) ?_;rw [Axc];cases g3:Yh n.up[i]
 ·rw [Atq (by rw [g1,g2,g3];rfl)];exact AB
 rw [Azm (by rw [g1,g2,g3];rfl)];refine go ?_;refine Bf rfl (fun h0=>?_) (fun h0=>?_)
 ·obtain rfl:i=0:=EM
  rw [ar rfl];refine go ?_;refine Bw (Vj n.Ai[0] _ F8) fun _ _=>?_;cases g4:Mc n.Ai[0]
  ·exact AB
  refine go ?_;refine Bw (Ty n.Ah[0] _ (F9++F10)) fun _ _=>?_;cases g5:Sp n.Ah[0]
  ·exact AB
  refine go ?_;refine Dm rfl rfl (fun h6=>?_) (fun h6=>?_)
  ·refine go ?_;refine ret () trivial ?_;rw [<-Am0 n.down[0],<-Am0 n.up[0],au h6];rfl
  ·refine go ?_;refine ret () trivial ?_;rw [<-Am0 n.down[0],ay h6];rfl
 rw [aq EM];refine go ?_;refine Bw (Zb n.Ao i _ F1) fun _ _=>?_;cases g6:Br n.Ao.Ad i
 ·rw [aq EN];refine go ?_;refine cb (fun w st=>Zy _ n.Ai[i] F8 w (st.get (p:=.isv _ _ _ _) EQ)) ?_;cases g4:Ba n.Ai[i]
  ·exact AB
  refine go ?_;refine Dm rfl rfl (fun h7=>?_) (fun h7=>?_)
  ·refine go ?_;refine Bw (Ty n.Ah[i] _ (F9++F10)) fun _ _=>?_;refine go ?_;refine ret () trivial ?_;rw [au h7];rfl
  ·refine go ?_;refine ret () trivial ?_;rw [ay h7];rfl
 ·rw [ar rfl];refine go ?_;refine Bw (Vj n.Ai[i] _ F8) fun _ _=>?_;cases g4:Mc n.Ai[i]
  ·exact AB
  refine go ?_;refine Bw (Yk n.Ah[i] _ (F9++F10)) fun _ _=>?_;cases g5:Dx n.Ah[i]
  ·exact AB
  exact AB
theorem Uk (n:Du) (v:Value) (F:ak):FV 18 [v] [.isv Nw v n F] (.bool (At n)):=by
 refine enter func18 rfl ntmps18 fun w0=>?_;refine Eb ?_;rintro a1 c1 F1 a2 c2 F2 a3 c3 F3 a4 c4 F4 a5 c5 F5 a6 c6 F6 a7 c7 F7 rfl l1 l2 l3 l4 l5 l6 l7;unfold maxLen at l1 l2 l3 l4 l5 l6 l7;refine Mn n.Ao ?_;refine Ed n.Ac ?_;refine go ?_;intros;refine Bw (Ta n.Ao _ F1) fun _ _=>?_;cases g1:Fc n.Ao
 ·rw [show At n=false by unfold At;rw [g1];rfl];exact AB
 refine go ?_;refine Bw (Vh n.Ac _ (F2++F3)) fun _ _=>?_;cases g2:Cj n.Ac
 ·rw [show At n=false by unfold At;rw [g1,g2];rfl];exact AB
 refine go ?_;refine Dm rfl rfl (fun m0=>?_) (fun m0=>?_)
 ·rw [show At n=false by
   have:Kn n=false:=by
    cases hl:Kn n
    ·rfl
    ·obtain ⟨q1,q2,q3,q4⟩:=Bk.1 hl;exact absurd EM m0
   unfold At;rw [this];simp]
  exact AB
 refine go ?_;refine Dm rfl rfl (fun m1=>?_) (fun m1=>?_)
 ·rw [show At n=false by
   have:Kn n=false:=by
    cases hl:Kn n
    ·rfl
    ·obtain ⟨q1,q2,q3,q4⟩:=Bk.1 hl;exact absurd EM m1
   unfold At;rw [this];simp]
  exact AB
 refine go ?_;refine Dm rfl rfl (fun m2=>?_) (fun m2=>?_)
 ·rw [show At n=false by
   have:Kn n=false:=by
    cases hl:Kn n
    ·rfl
    ·obtain ⟨q1,q2,q3,q4⟩:=Bk.1 hl;exact absurd EM m2
   unfold At;rw [this];simp]
  exact AB
 refine go ?_;refine Bf rfl (fun m3=>?_) (fun m3=>?_)
 ·rw [show At n=false by
   have:Kn n=false:=by
    cases hl:Kn n
    ·rfl
    ·obtain ⟨q1,q2,q3,q4⟩:=Bk.1 hl;exact absurd EM m3
   unfold At;rw [this];simp]
  exact AB
 have q1:n.Ai.length=n.Ao.Ad.length:=EM
 have q2:n.Ah.length=n.Ao.Ad.length:=EM
 have q3:n.down.length=n.Ao.Ad.length:=EM
 have q4:n.up.length=n.Ao.Ad.length:=EM
 have hl:=Bk.2 ⟨q1,q2,q3,q4⟩;refine go ?_;refine Ei [1,2,47] (fun k:Nat=>[(48,aa (k:Nat))]) (fun k=>k<=n.Ao.Ad.length/\∀j,j < k->Rw n j=true) (fun k=>n.Ao.Ad.length - k) 0 ⟨aD _,fun j h=>by omega⟩ fun k hk=>?_;obtain ⟨hk1,hk2⟩:=hk;refine go ?_;refine Bf rfl (fun h1=>?_) (fun h1=>?_)
 ·have hh:k < n.Ao.Ad.length:=EM
  refine go ?_;refine Bw (Ae9 n k _ F hl hh) fun _ _=>?_;cases g:Rw n k
  ·rw [Adi hh g];exact AB
  refine go ?_;refine Cv (k+1) ⟨hh,fun j hj=>?_⟩ FE;rcases aY (bt.1 hj) with h|rfl
  ·exact hk2 j h
  ·exact g
 ·obtain rfl:k=n.Ao.Ad.length:=EM
  refine go ?_;refine ret () trivial ?_;rw [Vv.2 ⟨g1,g2,hl,hk2⟩];rfl
theorem Anj {Cp:al} {clk:Int} {i:Nat} {e:Bg} {r:Ay} {d u:List Ar} (h:(Ba e && Dx r && E9 d && (E9 u && Yh u))=false):Py Cp clk i e r d u=false:=by rw [<-Agl];unfold Ahw;rw [h];rfl
theorem Azn {Cp:al} {clk:Int} {i:Nat} {e:Bg} {r:Ay} {d u:List Ar} (h:(Ba e && Dx r && E9 d && (E9 u && Yh u))=true):Py Cp clk i e r d u=(if i=0 then Mc e && (!r.A1 && decide (r.Ae=0)) && decide (d.length+u.length=0)
  else if Br Cp i then Mc e && decide (r.Ae=clk) else (!r.A1 && decide (r.Ae=0)) && decide (e.Ae=clk)):=by rw [<-Agl];unfold Ahw;rw [h,bW]
theorem Av3 (n:Du) (i:Nat) (v:Value) (F:ak) (hl:Kn n=true) (hi:i < n.Ao.Ad.length) (hg:Hf n.Ao.Ad):FV 70 [v,aa (i:Nat)] [.isv Nw v n F] (.bool (Rw n i)):=by
 obtain ⟨q1,q2,q3,q4⟩:=Bk.1 hl;rw [Wg EM EM EM EM];refine enter func70 rfl ntmps70 fun w0=>?_;refine Eb ?_;rintro a1 c1 F1 a2 c2 F2 a3 c3 F3 a4 c4 F4 a5 c5 F5 a6 c6 F6 a7 c7 F7 rfl l1 l2 l3 l4 l5 l6 l7;unfold maxLen at l1 l2 l3 l4 l5 l6 l7;refine Mn n.Ao ?_;refine Rl (xs:=n.Ai) i ?_;rintro hi4 b4 o4 a8 c8 F8 rfl l8;refine Gk n.Ai[i] ?_;refine Od (xs:=n.Ah) i ?_;rintro hi5 b5 o5 a9 c9 F9 a10 c10 F10 rfl l9 l10;refine E8 n.Ah[i] ?_;refine O0 (E:=Ap) (hz:=EN) (xs:=n.down) i ?_;rintro hi6 b6 o6 a11 c11 F11 rfl l11
 refine O0 (E:=Ap) (hz:=EN) (xs:=n.up) i ?_;rintro hi7 b7 o7 a12 c12 F12 rfl l12;unfold maxLen at l8 l9 l10 l11 l12;refine go ?_;intros;refine Gw [1,2,4] [0,1,2,3,4,5,6,7,8,9,10,11,12,13,14,15,16,17,18,19,20] (fun z:Nat × Nat=>[(5,Fv z.1 0 0),(6,Fv z.2 0 0)]) (fun z=>[.row z.1 76 0 [] [aa n.Ai[i].Ae,.slice a8 n.Ai[i].Af.length c8] [],.row z.2 83 0 [] [.bool n.Ah[i].A1,aa n.Ah[i].Ae,aa n.Ah[i].Aa.next,.slice a9 n.Ah[i].Aa.Am.length c9,.slice a10 n.Ah[i].Aj.length c10] []]) (fun _=>True) ?_ fun z _=>?_
 ·refine As [0,6,10] [] ?_;refine D7 0 1 2 3 ?_;refine D7 4 5 6 7 ?_;refine Ek 8 9 ?_;refine dM 10 11 ?_ ?_
  ·apply Cq;rfl;intro _;refine dk ?_;refine dN 11 ?_;exact AP
  ·apply Cq;rfl;intro _;refine dk ?_;refine dN 10 ?_;exact AP
 refine go ?_;refine cb (fun w st=>Aph _ n.Ai[i] F8 w (st.get (p:=.isv _ _ _ _) EQ)) ?_;cases g1:Ba n.Ai[i]
 ·rw [Anj (by rw [g1];rfl)];exact AB
 refine go ?_;refine Bw (Apf n.Ah[i] _ (F9++F10)) fun _ _=>?_;cases g2:Dx n.Ah[i]
 ·rw [Anj (by rw [g1,g2];rfl)];exact AB
 refine go ?_;refine Bw (Ads n.down[i] false _ _ F11 EM) fun _ _=>?_;rw [show (E9 n.down[i] && (!false || Yh n.down[i]))=E9 n.down[i] by simp];cases g3:E9 n.down[i]
 ·rw [Anj (by rw [g1,g2,g3];rfl)];exact AB
 refine go ?_;refine Bw (Ads n.up[i] true _ _ F12 EM) fun _ _=>?_;rw [show (E9 n.up[i] && (!true || Yh n.up[i]))=(E9 n.up[i] && Yh n.up[i]) by simp];cases g4:(E9 n.up[i] && Yh n.up[i])
 ·rw [Anj (by rw [g1,g2,g3,g4];rfl)];exact AB
 rw [Azn (by rw [g1,g2,g3,g4];rfl)]
 repeat (first|apply Yp|(apply wO;apply oc;rfl;exact ydE)|apply Aey|apply Ajs|(apply Aut;rfl;rfl)|(apply Aus;rfl;rfl;rfl;rfl)|(apply Auu;rfl;rfl;rfl)|(apply c_t;rfl)|(apply c_f;rfl)|apply Aaa|apply Yo|apply Ajr)
 refine Gw [1,2,4,5,6] [0,1,2,3,4,5,6,7,8,9,10,11,12,13,14,15,16,17,18,19,20,21,22] (fun _:Unit=>[(7,.bool (Mc n.Ai[i]))]) (fun _=>[]) (fun _=>True) ?_ fun _ _=>?_
 ·refine go ?_;refine Dm rfl rfl (fun h1=>?_) (fun h1=>?_)
  ·refine go ?_;rw [show decide ((n.Ai[i].Af.length:Int)=0)=Mc n.Ai[i] by unfold Mc;rw [au h1,Am0];rfl];refine Cs () trivial
  ·refine go ?_;rw [show false=Mc n.Ai[i] by unfold Mc;rw [ay h1];rfl];refine Cs () trivial
 repeat (first|apply Yp|(apply wO;apply oc;rfl;exact ydE)|apply Aey|apply Ajs|(apply Aut;rfl;rfl)|(apply Aus;rfl;rfl;rfl;rfl)|(apply Auu;rfl;rfl;rfl)|(apply c_t;rfl)|(apply c_f;rfl)|apply Aaa|apply Yo|apply Ajr)
 refine Gw [1,2,4,5,6,7] [0,1,2,3,4,5,6,7,8,9,10,11,12,13,14,15,16,17,18,19,20,21,22] (fun _:Unit=>[(8,.bool (!n.Ah[i].A1 && decide (n.Ah[i].Ae=0)))]) (fun _=>[]) (fun _=>True) ?_ fun _ _=>?_
 ·cases hs:n.Ah[i].A1
  ·refine go ?_;refine Cs () trivial
  ·refine go ?_;refine Cs () trivial
 refine Q3 ?_;generalize hzr:(!n.Ah[i].A1 && decide (n.Ah[i].Ae=0))=zr;refine go ?_;refine Bf rfl (fun h0=>?_) (fun h0=>?_)
 ·obtain rfl:i=0:=EM
  rw [ar rfl];have hd6:(n.down[0].length:Int)+(n.up[0].length:Int)<=12:=by
   unfold E9 at g3 g4;simp only [av,aC] at g3 g4;omega
  cases hze:Mc n.Ai[0] <;> cases zr
  ·refine go ?_;refine As [2,3,5] [] ?_;refine Ek 0 1 ?_;refine ds 2 ?_;exact AZ
  ·refine go ?_;refine As [2,3,5] [] ?_;refine Ek 0 1 ?_;refine ds 2 ?_;exact AZ
  ·refine go ?_;refine As [2,3,5] [] ?_;refine Ek 0 1 ?_;refine E6 2 ?_;exact AZ
  ·refine go ?_;refine As [2,3,5] [] ?_;refine Ek 0 1 ?_;refine E6 2 ?_;refine Ek 3 4 ?_;refine E6 5 ?_;refine E6 6 ?_;refine E6 7 ?_;refine E6 8 ?_;refine E6 9 ?_;refine E6 10 ?_;refine E6 11 ?_;refine E6 12 ?_;refine E6 13 ?_;refine E6 14 ?_;refine E6 15 ?_;refine E6 16 ?_;refine Ek 17 18 ?_;refine dd ?_;refine go ?_;refine ret () trivial ?_;rw [show decide ((n.down[0].length:Int)+(n.up[0].length:Int)=0)=decide (n.down[0].length+n.up[0].length=0) by congr 1;rw [eq_iff_iff];omega];rfl
 rw [aq EM];refine go ?_;refine Bw (Aaq n.Ao i _ F1 hg EM) fun _ _=>?_;cases g6:Br n.Ao.Ad i
 ·rw [aq EN];cases zr
  ·exact AB
  ·exact AB
 ·rw [ar rfl];cases hze:Mc n.Ai[i]
  ·exact AB
  ·exact AB
theorem Apk (n:Du) (v:Value) (F:ak):FV 23 [v] [.isv Nw v n F] (.bool (At n)):=by
 refine enter func23 rfl ntmps23 fun w0=>?_;refine Eb ?_;rintro a1 c1 F1 a2 c2 F2 a3 c3 F3 a4 c4 F4 a5 c5 F5 a6 c6 F6 a7 c7 F7 rfl l1 l2 l3 l4 l5 l6 l7;unfold maxLen at l1 l2 l3 l4 l5 l6 l7;refine Mn n.Ao ?_;refine Ed n.Ac ?_;refine go ?_;intros;refine Bw (Adt n.Ao _ F1) fun _ _=>?_;cases g1:Fc n.Ao
 ·rw [show At n=false by unfold At;rw [g1];rfl];exact AB
 refine go ?_;refine Bw (Af4 n.Ac _ (F2++F3)) fun _ _=>?_;cases g2:Cj n.Ac
 ·rw [show At n=false by unfold At;rw [g1,g2];rfl];exact AB
 refine go ?_;refine Dm rfl rfl (fun m0=>?_) (fun m0=>?_)
 ·rw [show At n=false by
   have:Kn n=false:=by
    cases hl:Kn n
    ·rfl
    ·obtain ⟨q1,q2,q3,q4⟩:=Bk.1 hl;exact absurd EM m0
   unfold At;rw [this];simp]
  exact AB
 refine go ?_;refine Dm rfl rfl (fun m1=>?_) (fun m1=>?_)
 ·rw [show At n=false by
   have:Kn n=false:=by
    cases hl:Kn n
    ·rfl
    ·obtain ⟨q1,q2,q3,q4⟩:=Bk.1 hl;exact absurd EM m1
   unfold At;rw [this];simp]
  exact AB
 refine go ?_;refine Dm rfl rfl (fun m2=>?_) (fun m2=>?_)
 ·rw [show At n=false by
   have:Kn n=false:=by
    cases hl:Kn n
    ·rfl
    ·obtain ⟨q1,q2,q3,q4⟩:=Bk.1 hl;exact absurd EM m2
   unfold At;rw [this];simp]
  exact AB
 refine go ?_;refine Bf rfl (fun m3=>?_) (fun m3=>?_)
 ·rw [show At n=false by
   have:Kn n=false:=by
    cases hl:Kn n
    ·rfl
    ·obtain ⟨q1,q2,q3,q4⟩:=Bk.1 hl;exact absurd EM m3
   unfold At;rw [this];simp]
  exact AB
 have q1:n.Ai.length=n.Ao.Ad.length:=EM
 have q2:n.Ah.length=n.Ao.Ad.length:=EM
 have q3:n.down.length=n.Ao.Ad.length:=EM
 have q4:n.up.length=n.Ao.Ad.length:=EM
 have hl:=Bk.2 ⟨q1,q2,q3,q4⟩;refine go ?_;refine Ei [1,2,3] (fun k:Nat=>[(4,aa (k:Nat))]) (fun k=>k<=n.Ao.Ad.length/\∀j,j < k->Rw n j=true) (fun k=>n.Ao.Ad.length - k) 0 ⟨aD _,fun j h=>by omega⟩ fun k hk=>?_;obtain ⟨hk1,hk2⟩:=hk;refine go ?_;refine Bf rfl (fun h1=>?_) (fun h1=>?_)
 ·have hh:k < n.Ao.Ad.length:=EM
  refine go ?_;refine Bw (Av3 n k _ F hl hh (Ev g1)) fun _ _=>?_;cases g:Rw n k
  ·rw [Adi hh g];exact AB
  refine go ?_;refine Cv (k+1) ⟨hh,fun j hj=>?_⟩ FE;rcases aY (bt.1 hj) with h|rfl
  ·exact hk2 j h
  ·exact g
 ·obtain rfl:k=n.Ao.Ad.length:=EM
  refine go ?_;refine ret () trivial ?_;rw [Vv.2 ⟨g1,g2,hl,hk2⟩];rfl
structure Wx where
 cs:aj
 F:ak
 a:ai
 c:Nat
 Fe:ak
theorem Zq {n:Du} (hg:At n=true) (hc:n.Ac.Ae < 9999):∀k,k+1<=n.Ao.Ad.length->(A4 n k).2.length<=40000 * k
 | 0,_=>aA _
 | k+1,hk=>by
  have h:=Zq hg hc k EM;obtain ⟨hGN,hT,hSrc⟩:=Ot hg hc k EM;obtain ⟨i1,i2,i3,i4,hrn⟩:=hGN.rn (i:=k+1) (by rw [hT];omega);show ((A4 n k).2++(Ju (A4 n k).1 (k+1)).2).length<=_;rw [aw];have:(Ju (A4 n k).1 (k+1)).2.length<=40000:=by
   unfold Ju
   split
   ·rename_i hl;have hgr:=Gm.1 (hrn.hf EM hl).2.1;obtain ⟨-,hfew⟩:=Aa6 hgr;rw [Iq i2];show ((Gs _).map _).length<=_;rw [cg];omega
   ·exact aD _
  omega
theorem Akf {n:Du} {s:Gf} {r:Du × ah} (hg:At n=true) (hs:D5 s=true) (hr:Bm n s=some r):r.2.length<=400000:=by
 have hG:=Av.1 hg;have h8:=Ev hG.t;have hn8:=h8.n1;have hn2:=h8.n0;have hck:=Sk hG.s;have hr0:=hr;unfold Bm at hr
 split at hr
 ·cases hr;exact aD _
 split at hr
 ·split at hr
  ·cases hr
  ·cases hr;have:=Zq hg EM (n.Ao.Ad.length - 1) EM;show (A4 n (n.Ao.Ad.length - 1)).2.length<=_;omega
 unfold C4 at hr
 split at hr
 ·cases hr
 split at hr
 ·cases hr
 split at hr
 ·rename_i h1 h4 hlt h0 hk;cases hr;have hgp:=Kr (s:=s) hg;have hGp:=Av.1 hgp;have hf:M7 s.node=true:=by
   have:=hs;unfold D5 at this;rw [aq h1,aq h4] at this;simp only [av] at this;exact this.1.2
  obtain ⟨f1,f2⟩:=Jy.1 hf;have hpt:(Do n s).Ao=n.Ao:=HB
  obtain ⟨i1,i2,i3,i4,hrn⟩:=hGp.rn (i:=s.node.toNat) (by rw [hpt];omega);unfold C1
  split
  ·rename_i hl;have hgr:=Gm.1 (hrn.hf EM hl).2.1;obtain ⟨d0,d1⟩:=Lp (i:=s.node.toNat);have hp:Bh (Lu (Qu n s))=true:=Kj (Lw (s:=s) hg).1 (N5 EM);have:=(Oo hgr hp d0 d1).2;rw [Iq i2];show ((Hp _ _).map _).length<=_;rw [cg];omega
  ·exact aD _
 split at hr
 ·cases hr;exact aD _
 ·cases hr;exact aD _
abbrev NE:=Du × ah
def Gz (i:Nat):Gf:=⟨2,(i:Int),⟨#[]⟩⟩
def Jw (i:Nat):Gf:=⟨5,(i:Int),⟨#[]⟩⟩
def Aby:Gf:=⟨4,0,⟨#[]⟩⟩
def J0 (x:NE) (s:Gf):NE:=(Ha x.1 (Bm x.1 s),x.2++Zh (Bm x.1 s))
def Am5 (x:NE) (i:Nat):NE:=J0 (J0 x (Gz i)) (Jw i)
def Dy (x:NE):Nat->NE
 | 0=>x
 | k+1=>Am5 (Dy x k) (k+1)
def Q1 (x:NE):NE:=Dy x (x.1.Ao.Ad.length - 1)
def Pu (x:NE):Nat->Bool
 | 0=>false
 | k+1=>Pu x k || (Bm (Dy x k).1 (Gz (k+1))).isSome || (Bm (J0 (Dy x k) (Gz (k+1))).1 (Jw (k+1))).isSome
def qd (l:List (List Ar)):Nat:=(l.map List.length).sum
def Wp (n:Du):Nat:=qd n.down+qd n.up
def vd (i:Nat):Nat:=8 ^ (7 - i)
def vu (i:Nat):Nat:=524289 * i
def wN (n:Du):Nat:=Ll vd 0 n.down+Ll vu 0 n.up
def Of:Nat->NE->NE
 | 0,x=>x
 | f+1,x=>if Wp x.1=0 then x else Of f (Q1 x)
def drE (x:NE):NE:=Of (wN x.1) x
def Jk (n:Du):NE:=drE (n,[])
theorem Aun (i:Nat):0 < vd i:=Nat.pow_pos EN
theorem Ayc {i:Nat} (h:1<=i):vd i<=262144:=bi (eL (n:=8) EN (show 7 - i<=6 by omega)) EN
theorem Aum {nodes:al} {i:Nat} (hl:nodes.length<=7) (h:∀x∈nodes,i < x.toNat/\x.toNat<=7):Yf vd nodes+1<=vd i:=by
 cases nodes with
 | nil=>exact Aun i
 | cons x r =>
  obtain ⟨a,b⟩:=h x EO;have h1:=Agu vd (8 ^ (6 - i)) (x::r) fun y hy=>by
   have:=h y hy;exact eL EN EM
  have h2:=cC (8 ^ (6 - i)) hl;have h3:0 < 8 ^ (6 - i):=Nat.pow_pos EN;have h4:vd i=8 ^ (6 - i) * 8:=by unfold vd;rw [<-fU];congr 1;omega
  omega
theorem Ayd {i p:Nat} (h0:1<=i) (h:p < i):2 * vd i+vu p+1<=vu i:=by
 have h1:=Ayc h0;unfold vu;omega
theorem Ash {l:al} (hg:Hf l) (i:Nat):(E7 l (i:Int)).length<=7:=by
 have h0:=hg.n0;have h1:=hg.n1;rw [<-Af2 (Rq hg.z (Int.natCast_nonneg i)) (k:=l.length - 1) EM];have:=Af3 l (i:Int) (l.length - 1);omega
theorem Ai0 {e:Bg} (he:Ba e=true) {n:Int} {l:al} (hl:l.length<=7):(Pr e n l).length<=7:=by
 unfold Pr
 split
 ·rename_i x hx;exact bi (bA _ _) ((Afy he).2.2 x (bM hx))
 ·split
  ·exact hl
  ·exact aD _
theorem Avq {n:Du} (hg:At n=true) (i:Nat) (p:Ar):(Vo n i p).length<=7/\∀x∈Vo n i p,i < x.toNat/\x.toNat<=7:=by
 have hG:=Av.1 hg;have h8:=Ev hG.t;have hn8:=h8.n1;have hk:=Ash h8 i;have hb:∀x∈Sc n i,i < x.toNat/\x.toNat<=7:=fun x hx=>by
  have:=If h8 hx;omega
 unfold Vo
 split
 ·refine ⟨?_,fun x hx=>hb x (Tu x hx)⟩;by_cases hi:i < n.Ai.length
  ·have ee:Li n i=n.Ai[i]:=by unfold Li;rw [aT,aB hi];rfl
   rw [ee];exact Ai0 ((Mk hg).1 _ (aE hi)) hk
  ·have ee:Li n i=⟨0,[]⟩:=by unfold Li;rw [aT,bf EM];rfl
   rw [ee];exact Ai0 EN hk
 ·exact ⟨hk,hb⟩
theorem Avk {n:Du} (hg:At n=true) (i:Nat) (p:Ar):wN (C1 n i p).1+1<=wN n+vd i:=by
 have h0:=Aun i;unfold C1
 split
 ·show wN n+1<=_;omega
 ·obtain ⟨h1,h2⟩:=Avq hg i p;have h3:=Aum h1 h2;have h4:=S9 vd [p] (Vo n i p) n.down;show Ll vd 0 (Dc n.down (Vo n i p) [p])+Ll vu 0 n.up+1<=Ll vd 0 n.down+Ll vu 0 n.up+vd i;simp only [bY,fZ] at h4;omega
theorem Atm (x:Cc) (p:Ar):(Ib x p).length<=2:=by
 unfold Ib
 split
 ·split
  ·exact (by decide:1<=2)
  ·exact (by decide:2<=2)
 ·exact (by decide:1<=2)
theorem Bce {n:Du} (hg:At n=true) {i:Nat} (h0:1<=i) (hi:i < n.Ao.Ad.length) (p:Ar):wN (Ou n i p)+1<=wN n+vu i:=by
 have hG:=Av.1 hg;have h8:=Ev hG.t;have hn8:=h8.n1;have hv:=Ayc h0;have hone:Yf vd [((i:Nat):Int)]=vd i:=by show vd ((i:Nat):Int).toNat+0=_;rfl
 unfold Ou
 split
 ·have h4:=S9 vd (Ib n.Ac p) [((i:Nat):Int)] n.down;have h5:=cC (vd i) (Atm n.Ac p);rw [hone] at h4;have h6:=Ayd (p:=0) h0 EM;show Ll vd 0 (Dc n.down [((i:Nat):Int)] (Ib n.Ac p))+Ll vu 0 n.up+1<=Ll vd 0 n.down+Ll vu 0 n.up+vu i;omega
 ·rename_i hp;have hlt:V7 n i < i:=by
   have:=h8.p i hi EM;unfold V7;rw [aT,aB hi];show (n.Ao.Ad[i]).toNat < i;omega
  have h4:=S9 vd [Rz p] [((i:Nat):Int)] n.down;rw [hone] at h4;simp only [bY,fZ] at h4;have h6:=Ayd h0 hlt;have h7:=Akq vu n.up (V7 n i) [p];simp only [bY,fZ] at h7;show Ll vd 0 (Dc n.down [((i:Nat):Int)] [Rz p])+Ll vu 0 (if Pi (Li n (V7 n i)) p.Ab then n.up.modify (V7 n i) fun q=>Da q [p] else n.up)+1<=Ll vd 0 n.down+Ll vu 0 n.up+vu i
  split <;> omega
theorem Ax7 (f:Nat->Nat) {l:List (List Ar)} {i:Nat} (hi:i < l.length) (h0:¬(l.getD i []).length=0):Ll f 0 (l.modify i (·.drop 1))+f i=Ll f 0 l:=by
 rw [N2 hi] at h0;rw [Hk hi];exact Auw f l i hi EM
theorem S0 {n:Du} {i:Nat} (hi:i < n.Ao.Ad.length):Bm n (Gz i)=if (n.down.getD i []).length=0 then none else some (C1 (Mg n i) i (Lu (n.down.getD i []))):=by
 unfold Bm;rw [aq (by show ¬(2:Int)=1;decide),aq (by show ¬(2:Int)=4;decide)];unfold C4;rw [aq (by show ¬((n.Ao.Ad.length:Int)<=(i:Int));omega)];rfl
theorem Rb {n:Du} {i:Nat} (hi:i < n.Ao.Ad.length):Bm n (Jw i)=if (n.up.getD i []).length=0 then none else some (Ou (Lv n i) i (Lu (n.up.getD i [])),[]):=by
 unfold Bm;rw [aq (by show ¬(5:Int)=1;decide),aq (by show ¬(5:Int)=4;decide)];unfold C4;rw [aq (by show ¬((n.Ao.Ad.length:Int)<=(i:Int));omega)];rfl
theorem Apw {i:Nat} (h0:1<=i) (h:i<=7):D5 (Gz i)=true:=by
 unfold D5;rw [aq (by show ¬(2:Int)=1;decide),aq (by show ¬(2:Int)=4;decide)];have:M7 (Gz i).node=true:=Jy.2 (by show 1<=((i:Nat):Int)/\((i:Nat):Int)<=7;omega);rw [this];rfl
theorem Alu {i:Nat} (h0:1<=i) (h:i<=7):D5 (Jw i)=true:=by
 unfold D5;rw [aq (by show ¬(5:Int)=1;decide),aq (by show ¬(5:Int)=4;decide)];have:M7 (Jw i).node=true:=Jy.2 (by show 1<=((i:Nat):Int)/\((i:Nat):Int)<=7;omega);rw [this];rfl
theorem Aog {n:Du} (hg:At n=true) {i:Nat} {p:Ar} (hp:Bh p=true) (h0:1<=i) (hi:i < n.Ao.Ad.length):(C1 n i p).2.length<=24:=by
 obtain ⟨i1,i2,i3,i4,hrn⟩:=(Av.1 hg).rn hi;unfold C1
 split
 ·rename_i hl;have hgr:=Gm.1 (hrn.hf EM hl).2.1;obtain ⟨d0,d1⟩:=Lp (i:=i);have:=(Oo hgr hp d0 d1).2;rw [Iq i2];show ((Hp _ _).map _).length<=_;rw [cg];exact this
 ·exact aD _
theorem Axx (n:Du) (i:Nat) (p:Ar):(C1 n i p).1.Ac=n.Ac:=by unfold C1;split <;> rfl
theorem Axy (n:Du) (i:Nat) (p:Ar):(Ou n i p).Ac.Ae=n.Ac.Ae:=by
 unfold Ou
 split
 ·show (Hb n.Ac p.Ab).Ae=_;unfold Hb
  split <;> rfl
 ·rfl
structure Uj (x y:NE):Prop where
 g:At y.1=true
 t:y.1.Ao=x.1.Ao
 c:y.1.Ac.Ae=x.1.Ac.Ae
 e:y.2.length+24 * wN y.1<=x.2.length+24 * wN x.1
 w:wN y.1<=wN x.1
theorem Uj.refl {x:NE} (h:At x.1=true):Uj x x:=⟨h,rfl,rfl,aA _,aA _⟩
theorem Uj.trans {x y z:NE} (h:Uj x y) (k:Uj y z):Uj x z:=⟨k.g,k.t.trans h.t,k.c.trans h.c,bi k.e h.e,bi k.w h.w⟩
theorem Ix {x:NE} {s:Gf} (h:Bm x.1 s=none):J0 x s=x:=by
 unfold J0;rw [h];show (x.1,x.2++[])=x;rw [aP]
theorem P6 {x:NE} {s:Gf} {r:NE} (h:Bm x.1 s=some r):J0 x s=(r.1,x.2++r.2):=by
 unfold J0;rw [h];rfl
theorem Ab1 {x:NE} (hg:At x.1=true) {i:Nat} (h0:1<=i) (hi:i < x.1.Ao.Ad.length):Uj x (J0 x (Gz i))/\((Bm x.1 (Gz i)).isSome=true->wN (J0 x (Gz i)).1 < wN x.1):=by
 have hG:=Av.1 hg;have hn8:=(Ev hG.t).n1;obtain ⟨q1,q2,q3,q4⟩:=Bk.1 hG.l;cases e:Bm x.1 (Gz i) with
 | none =>
  rw [Ix e];exact ⟨.refl hg,fun h=>by cases h⟩
 | some r =>
  have hr:=Kk hg (Apw h0 EM) e;have ht:=P4 e;rw [P6 e];rw [S0 hi] at e
  split at e
  ·cases e
  ·rename_i hq;cases e;have hp:=GN.pd (Av.1 hg) i;have hpg:At (Mg x.1 i)=true:=Av.2 hp;have h1:=Avk hpg i (Lu (x.1.down.getD i []));have h2:wN (Mg x.1 i)+vd i=wN x.1:=by
    have:=Ax7 vd (l:=x.1.down) (i:=i) EM hq;show Ll vd 0 (x.1.down.modify i (·.drop 1))+Ll vu 0 x.1.up+vd i=Ll vd 0 x.1.down+Ll vu 0 x.1.up;omega
   have hpk:Bh (Lu (x.1.down.getD i []))=true:=Kj (Lw (s:=Gz i) hg).1 (N5 (by show 0 < (x.1.down.getD i []).length;omega));have h3:=Aog hpg hpk h0 hi;have hlt:wN (C1 (Mg x.1 i) i (Lu (x.1.down.getD i []))).1 < wN x.1:=EM
   refine ⟨⟨hr,ht,by rw [Axx];rfl,?_,Nat.le_of_lt hlt⟩,fun _=>hlt⟩;show (x.2++_).length+24 * wN (C1 (Mg x.1 i) i (Lu (x.1.down.getD i []))).1<=_;rw [aw];omega
theorem Anw {x:NE} (hg:At x.1=true) {i:Nat} (h0:1<=i) (hi:i < x.1.Ao.Ad.length):Uj x (J0 x (Jw i))/\((Bm x.1 (Jw i)).isSome=true->wN (J0 x (Jw i)).1 < wN x.1)/\(J0 x (Jw i)).2=x.2:=by
 have hG:=Av.1 hg;have hn8:=(Ev hG.t).n1;obtain ⟨q1,q2,q3,q4⟩:=Bk.1 hG.l;cases e:Bm x.1 (Jw i) with
 | none =>
  rw [Ix e];exact ⟨.refl hg,fun h=>(by cases h),rfl⟩
 | some r =>
  have hr:=Kk hg (Alu h0 EM) e;have ht:=P4 e;rw [P6 e];rw [Rb hi] at e
  split at e
  ·cases e
  ·rename_i hq;cases e;have hp:=GN.pu (Av.1 hg) i;have hpg:At (Lv x.1 i)=true:=Av.2 hp;have h1:=Bce hpg h0 hi (Lu (x.1.up.getD i []));have h2:wN (Lv x.1 i)+vu i=wN x.1:=by
    have:=Ax7 vu (l:=x.1.up) (i:=i) EM hq;show Ll vd 0 x.1.down+Ll vu 0 (x.1.up.modify i (·.drop 1))+vu i=Ll vd 0 x.1.down+Ll vu 0 x.1.up;omega
   have hlt:wN (Ou (Lv x.1 i) i (Lu (x.1.up.getD i []))) < wN x.1:=EM
   refine ⟨⟨hr,ht,by rw [Axy];rfl,?_,Nat.le_of_lt hlt⟩,fun _=>hlt,aP _⟩;show (x.2++[]).length+24 * wN (Ou (Lv x.1 i) i (Lu (x.1.up.getD i [])))<=_;rw [aP];omega
theorem K9 {x:NE} (hg:At x.1=true):∀k,k+1<=x.1.Ao.Ad.length->Uj x (Dy x k)/\(Pu x k=true->wN (Dy x k).1 < wN x.1)/\(Pu x k=false->Dy x k=x/\∀i,1<=i->i<=k->Bm x.1 (Gz i)=none/\Bm x.1 (Jw i)=none)
 | 0,_=>⟨.refl hg,fun h=>(by cases h),fun _=>⟨rfl,fun i a b=>by omega⟩⟩
 | k+1,hk=>by
  obtain ⟨f1,m1,z1⟩:=K9 hg k EM;have hk1:k+1 < (Dy x k).1.Ao.Ad.length:=by rw [f1.t];omega
  obtain ⟨f2,m2⟩:=Ab1 f1.g EM hk1;have hk2:k+1 < (J0 (Dy x k) (Gz (k+1))).1.Ao.Ad.length:=by rw [f2.t];exact hk1
  obtain ⟨f3,m3,e3⟩:=Anw f2.g EM hk2;have w2:=f2.w;have w3:=f3.w;have w1:=f1.w;refine ⟨(f1.trans f2).trans f3,fun h=>?_,fun h=>?_⟩
  ·show wN (J0 (J0 (Dy x k) (Gz (k+1))) (Jw (k+1))).1 < _;unfold Pu at h;rw [bJ,bJ] at h;rcases h with (h|h)|h
   ·have:=m1 h;omega
   ·have:=m2 h;omega
   ·have:=m3 h;omega
  ·unfold Pu at h;rw [cS,cS] at h;obtain ⟨⟨h1,h2⟩,h3⟩:=h;obtain ⟨e1,z⟩:=z1 h1;have n2:Bm (Dy x k).1 (Gz (k+1))=none:=GD
   have n3:Bm (J0 (Dy x k) (Gz (k+1))).1 (Jw (k+1))=none:=HL
   have e2:=Ix n2;rw [e2] at n3;refine ⟨?_,fun i a b=>?_⟩
   ·show J0 (J0 (Dy x k) (Gz (k+1))) (Jw (k+1))=x;rw [e2,Ix n3,e1]
   ·by_cases hi:i=k+1
    ·subst hi;rw [e1] at n2 n3;exact ⟨n2,n3⟩
    ·exact z i a EM
theorem Acl:∀{l:List (List Ar)},qd l=0↔∀q∈l,q=[]
 | []=>by simp [qd]
 | x::r=>by
  have ih:=Acl (l:=r);show x.length+qd r=0↔_;rw [Nat.add_eq_zero_iff,bx,ih];simp
theorem Adh {l:List (List Ar)} {i:Nat} (h:qd l=0):(l.getD i []).length=0:=by
 rw [aT];cases e:l[i]? with
 | none=>rfl
 | some q=>rw [Acl.1 h q (bM e)];rfl
theorem Abs {n:Du} (hg:At n=true):(n.down.getD 0 []).length=0/\(n.up.getD 0 []).length=0:=by
 have hG:=Av.1 hg;have h2:=(Ev hG.t).n0;obtain ⟨h1,h2,h3,h4,r⟩:=hG.rn (i:=0) EM;obtain ⟨-, -,a,b⟩:=r.hz rfl;rw [N2 h3,N2 h4];exact ⟨a,b⟩
theorem Awr {n:Du} (hg:At n=true) (h:∀i,1<=i->i < n.Ao.Ad.length->Bm n (Gz i)=none/\Bm n (Jw i)=none):Wp n=0:=by
 have hG:=Av.1 hg;obtain ⟨q1,q2,q3,q4⟩:=Bk.1 hG.l;obtain ⟨z1,z2⟩:=Abs hg;have hd:qd n.down=0:=Acl.2 fun q hq=>by
  obtain ⟨i,hi,rfl⟩:=aR hq;rw [<-bx,<-N2 hi []];by_cases e:i=0
  ·rw [e];exact z1
  ·have:=(h i EM EM).1;rw [S0 EM] at this
   split at this
   ·assumption
   ·cases this
 have hu:qd n.up=0:=Acl.2 fun q hq=>by
  obtain ⟨i,hi,rfl⟩:=aR hq;rw [<-bx,<-N2 hi []];by_cases e:i=0
  ·rw [e];exact z2
  ·have:=(h i EM EM).2;rw [Rb EM] at this
   split at this
   ·assumption
   ·cases this
 unfold Wp;omega
theorem Ad0 {x:NE} (hg:At x.1=true):Pu x (x.1.Ao.Ad.length - 1)=false↔Wp x.1=0:=by
 have h2:=(Ev (Av.1 hg).t).n0;constructor
 ·intro h;obtain ⟨-,hz⟩:=(K9 hg (x.1.Ao.Ad.length - 1) EM).2.2 h;exact Awr hg fun i a b=>hz i a EM
 ·intro h;have hd:qd x.1.down=0:=by unfold Wp at h;omega
  have hu:qd x.1.up=0:=by unfold Wp at h;omega
  have:∀k,k+1<=x.1.Ao.Ad.length->Pu x k=false:=by
   intro k
   induction k with
   | zero=>intro _;rfl
   | succ k ih =>
    intro hk;have h1:=ih EM;have e1:=((K9 hg k EM).2.2 h1).1;unfold Pu;have n1:Bm x.1 (Gz (k+1))=none:=by rw [S0 EM,ar (Adh hd)]
    have n2:Bm x.1 (Jw (k+1))=none:=by rw [Rb EM,ar (Adh hu)]
    rw [h1,e1,Ix n1,n1,n2];rfl
  exact this _ EM
theorem Al2 {x:NE} (hg:At x.1=true) (h:Wp x.1=0):Q1 x=x:=by
 have h2:=(Ev (Av.1 hg).t).n0;exact ((K9 hg (x.1.Ao.Ad.length - 1) EM).2.2 ((Ad0 hg).2 h)).1
theorem L8 {x:NE} (hg:At x.1=true):Uj x (Q1 x)/\(¬Wp x.1=0->wN (Q1 x).1 < wN x.1):=by
 have h2:=(Ev (Av.1 hg).t).n0;obtain ⟨a,b, -⟩:=K9 hg (x.1.Ao.Ad.length - 1) EM;refine ⟨a,fun h=>b ?_⟩;cases e:Pu x (x.1.Ao.Ad.length - 1)
 ·exact absurd ((Ad0 hg).1 e) h
 ·rfl
theorem Qp {f:Nat} {x:NE} (h:Wp x.1=0):Of f x=x:=by
 cases f
 ·rfl
 ·unfold Of;rw [ar h]
theorem Abf:∀(f g:Nat) {x:NE},At x.1=true->wN x.1<=f->wN x.1<=g->Of f x=Of g x
 | 0,g,x,hg,h,_=>by
  have hz:Wp x.1=0:=by
   by_cases h0:Wp x.1=0
   ·exact h0
   ·have:=(L8 hg).2 h0;omega
  rw [Qp hz,Qp hz]
 | f+1,g,x,hg,h,h2=>by
  by_cases hz:Wp x.1=0
  ·rw [Qp hz,Qp hz]
  ·obtain ⟨hf,hw⟩:=L8 hg;have hw:=hw hz;obtain ⟨m,rfl⟩:∃m,g=m+1:=⟨g - 1,EM⟩;unfold Of;rw [aq hz,aq hz];exact Abf f m hf.g EM EM
theorem Ae8 {f:Nat} {x:NE} (hg:At x.1=true) (h:wN x.1<=f):Of f x=Of (wN x.1) x:=Abf _ _ hg h (aA _)
theorem Yu {x:NE} (h:Wp x.1=0):drE x=x:=Qp h
theorem Ac9 {x:NE} (hg:At x.1=true) (h:¬Wp x.1=0):drE x=drE (Q1 x):=by
 obtain ⟨hf,hw⟩:=L8 hg;have hw:=hw h;obtain ⟨m,hm⟩:∃m,wN x.1=m+1:=⟨wN x.1 - 1,EM⟩;unfold drE;rw [hm];show (if Wp x.1=0 then x else Of m (Q1 x))=_;rw [aq h,Ae8 hf.g EM]
theorem Qo {x:NE} (hg:At x.1=true):Uj x (drE x)/\Wp (drE x).1=0:=by
 obtain ⟨k,hk⟩:∃k,wN x.1<=k:=⟨_,aA _⟩
 induction k generalizing x with
 | zero =>
  have hz:Wp x.1=0:=by
   by_cases h:Wp x.1=0
   ·exact h
   ·have:=(L8 hg).2 h;omega
  rw [Yu hz];exact ⟨.refl hg,hz⟩
 | succ k ih =>
  by_cases h:Wp x.1=0
  ·rw [Yu h];exact ⟨.refl hg,h⟩
  ·obtain ⟨hf,hw⟩:=L8 hg;have hw:=hw h;rw [Ac9 hg h];obtain ⟨a,b⟩:=ih hf.g EM;exact ⟨hf.trans a,b⟩
theorem Aia (f:Nat->Nat) (B:Nat):∀(l:List (List Ar)) (k:Nat),(∀q∈l,q.length<=6)->(∀i,k<=i->i < k+l.length->f i<=B)->Ll f k l<=l.length * (6 * B)
 | [],_,_,_=>aD _
 | x::r,k,h,hB=>by
  have ih:=Aia f B r (k+1) (fun q hq=>h q FB) fun i a b=>hB i EM HZ;have h1:=Nat.mul_le_mul (h x EO) (hB k (aA _) HZ);show x.length * f k+Ll f (k+1) r<=(r.length+1) * (6 * B);rw [dS];omega
theorem Aur {n:Du} (hg:At n=true):wN n<=280000000:=by
 have hG:=Av.1 hg;have h8:=(Ev hG.t).n1;obtain ⟨q1,q2,q3,q4⟩:=Bk.1 hG.l;obtain ⟨-, -,e3,e4⟩:=Mk hg;have h1:=Aia vd 2097152 n.down 0 (fun q hq=>(Ga (e3 q hq)).1) fun i _ _=>bi (eL (n:=8) EN (show 7 - i<=7 by omega)) EN;have h2:=Aia vu 3670023 n.up 0 (fun q hq=>(Ga (e4 q hq)).1) fun i _ _=>by unfold vu;omega
 have h3:=cC (6 * 2097152) (show n.down.length<=8 by omega);have h4:=cC (6 * 3670023) (show n.up.length<=8 by omega);unfold wN;omega
theorem Ag8 {n:Du} (hg:At n=true):(Jk n).2.length<=6720000000:=by
 have h:=(Qo (x:=(n,[])) hg).1.e;have:=Aur hg;show (drE (n,[])).2.length<=_;simp only [aV] at h;omega
def By (n:Du):Nat->NE
 | 0=>Jk n
 | k+1=>((Jk (Bv (By n k).1).1).1,(By n k).2++(Bv (By n k).1).2++(Jk (Bv (By n k).1).1).2)
theorem Uc (n:Du):∀k,(A4 n k).1.Ac=Lg n.Ac
 | 0=>rfl
 | k+1=>(Yb _ _).2.trans (Uc n k)
theorem Add {n:Du} (hg:At n=true):∀k:Nat,n.Ac.Ae+(k:Int)<=9999->At (By n k).1=true/\(By n k).1.Ao=n.Ao/\(By n k).1.Ac.Ae=n.Ac.Ae+(k:Int)/\(By n k).2.length<=6720000000+6721000000 * k
 | 0,_=>by
  obtain ⟨h, -⟩:=Qo (x:=(n,[])) hg;exact ⟨h.g,h.t,by rw [show ((0:Nat):Int)=0 from rfl,Int.add_zero];exact h.c,Ag8 hg⟩
 | k+1,hk=>by
  obtain ⟨h1,h2,h3,h4⟩:=Add hg k EM;have hc:(By n k).1.Ac.Ae < 9999:=EM
  have t1:=P5 h1 hc;have t2:(Bv (By n k).1).1.Ao=(By n k).1.Ao:=Qv _ _;have t3:(Bv (By n k).1).1.Ac.Ae=(By n k).1.Ac.Ae+1:=by
   show (A4 _ _).1.Ac.Ae=_;rw [Uc];rfl
  have hn8:=(Ev (Av.1 h1).t).n1;have hn2:=(Ev (Av.1 h1).t).n0;have t4:(Bv (By n k).1).2.length<=40000 * ((By n k).1.Ao.Ad.length - 1):=Zq h1 hc _ EM;obtain ⟨d, -⟩:=Qo (x:=((Bv (By n k).1).1,[])) t1;have d4:=Ag8 t1;refine ⟨d.g,(d.t.trans t2).trans h2,?_,?_⟩
  ·show (Jk (Bv (By n k).1).1).1.Ac.Ae=_;rw [show (Jk (Bv (By n k).1).1).1.Ac.Ae=(Bv (By n k).1).1.Ac.Ae from d.c,t3,h3];omega
  ·show ((By n k).2++(Bv (By n k).1).2++(Jk (Bv (By n k).1).1).2).length<=_;rw [aw,aw];omega
def kst (m i:Nat):Gf:=⟨if m=0 then 2 else 5,(i:Int),⟨#[]⟩⟩
def Sa (y:NE) (i:Nat):Nat->NE
 | 0=>y
 | m+1=>J0 (Sa y i m) (kst m i)
def Abj (b:Bool) (y:NE) (i:Nat):Nat->Bool
 | 0=>b
 | m+1=>Abj b y i m || (Bm (Sa y i m).1 (kst m i)).isSome
theorem Zm (x:NE) (k:Nat):Dy x (k+1)=Sa (Dy x k) (k+1) 2:=rfl
theorem Ajp (x:NE) (k:Nat):Pu x (k+1)=Abj (Pu x k) (Dy x k) (k+1) 2:=rfl
theorem Bb8 {m i:Nat} (h0:1<=i) (h:i<=7) (hm:m < 2):D5 (kst m i)=true:=by
 rcases (show m=0\/m=1 by omega) with rfl|rfl
 ·exact Apw h0 h
 ·exact Alu h0 h
theorem Aow {y:NE} (hg:At y.1=true) {i:Nat} (h0:1<=i) (hi:i < y.1.Ao.Ad.length):∀m,m<=2->Uj y (Sa y i m)
 | 0,_=>.refl hg
 | 1,_=>(Ab1 hg h0 hi).1
 | 2,_=>by
  have f1:=(Ab1 hg h0 hi).1;exact f1.trans (Anw f1.g h0 (by rw [f1.t];exact hi)).1
 | m+3,h=>by omega
def Ey (x:NE):Nat->NE
 | 0=>x
 | k+1=>Am5 (Ey x k) k
theorem Azz {x:NE} (hg:At x.1=true) {i:Nat} (hi:i < x.1.Ao.Ad.length):Uj x (J0 x (Gz i)):=by
 by_cases h0:i=0
 ·subst h0;rw [Ix (by rw [S0 hi,ar (Abs hg).1])];exact .refl hg
 ·exact (Ab1 hg EM hi).1
theorem Az0 {x:NE} (hg:At x.1=true) {i:Nat} (hi:i < x.1.Ao.Ad.length):Uj x (J0 x (Jw i))/\(J0 x (Jw i)).2=x.2:=by
 by_cases h0:i=0
 ·subst h0;rw [Ix (by rw [Rb hi,ar (Abs hg).2])];exact ⟨.refl hg,rfl⟩
 ·have:=Anw hg EM hi;exact ⟨this.1,this.2.2⟩
theorem Abw {x:NE} (hg:At x.1=true):∀k,k<=x.1.Ao.Ad.length->Uj x (Ey x k)
 | 0,_=>.refl hg
 | k+1,hk=>by
  have f1:=Abw hg k EM;have f2:=Azz f1.g (i:=k) (by rw [f1.t];omega);have f3:=(Az0 f2.g (i:=k) (by rw [f2.t,f1.t];omega)).1;exact (f1.trans f2).trans f3
theorem Agm {x:NE} (hg:At x.1=true):∀k,Ey x (k+1)=Dy x k
 | 0=>by
  have h2:=(Ev (Av.1 hg).t).n0;show J0 (J0 x (Gz 0)) (Jw 0)=x;rw [Ix (x:=x) (s:=Gz 0) (by rw [S0 EM,ar (Abs hg).1]),Ix (by rw [Rb EM,ar (Abs hg).2])]
 | k+1=>by
  show Am5 (Ey x (k+1)) (k+1)=Am5 (Dy x k) (k+1);rw [Agm hg k]
theorem Al1 {x:NE} (hg:At x.1=true):Ey x x.1.Ao.Ad.length=Q1 x:=by
 have h2:=(Ev (Av.1 hg).t).n0;obtain ⟨m,hm⟩:∃m,x.1.Ao.Ad.length=m+1:=⟨x.1.Ao.Ad.length - 1,EM⟩;unfold Q1;rw [hm,Agm hg,eT]
theorem Zj {l:List (List Ar)} (h:∀q∈l,q.length<=6):∀k,qd (l.take k)<=6 * k:=by
 induction l with
 | nil=>intro k;rw [List.take_nil];exact aD _
 | cons q r ih =>
  intro k;cases k with
  | zero=>exact aA _
  | succ k =>
   have:=ih (fun q hq=>h q FB) k;have:=h q EO;show q.length+qd (r.take k)<=_;omega
theorem Aws {l:List (List Ar)} {k:Nat} (hk:k < l.length):qd (l.take (k+1))=qd (l.take k)+l[k].length:=by
 unfold qd;rw [aZ hk,bZ,List.sum_append];simp
def Po (n:Du) (r:Int):Bool:=At n && Ht 0 r 60 && decide (n.Ac.Ae+r<=9999)
def Ce (n:Du) (r:Int):Du × ah × Bool:=if Po n r then ((By n r.toNat).1,(By n r.toNat).2,true) else (L4,[],false)
def Q9:NE->List Gf->Nat->NE × Nat
 | x,[],i=>(x,i)
 | x,s::r,i=>match Bm x.1 s with
  | none=>(x,i)
  | some y=>Q9 (y.1,x.2++y.2) r (i+1)
def V5 (n:Du) (l:List Gf):Bool:=At n && decide (l.length<=30) && l.all D5
def Je (n:Du) (l:List Gf):Du × ah × Int × Bool:=if V5 n l then ((Q9 (n,[]) l 0).1.1,(Q9 (n,[]) l 0).1.2,((Q9 (n,[]) l 0).2:Int),true) else (L4,[],0,false)
theorem Afo {n:Du} {r:Int} (h:Po n r=true):At (By n r.toNat).1=true/\(By n r.toNat).2.length<=500000000000:=by
 unfold Po Ht at h;simp only [av,aC] at h;obtain ⟨⟨h1,h2,h3⟩,h4⟩:=h;obtain ⟨a, -, -,b⟩:=Add h1 r.toNat EM;exact ⟨a,EM⟩
theorem Asn (a b:Int):FV 222 [aa a,aa b] [] (aa (min a b)):=by
 refine enter func222 rfl ntmps222 fun w0=>?_;refine go ?_;refine Bf rfl (fun h=>?_) (fun h=>?_)
 ·refine go ?_;rw [show min a b=a by omega];exact BA
 ·refine go ?_;rw [show min a b=b by omega];exact BA
theorem Apg (r:Ay) (p:Ar) (d:Int) (v:Value) (F:ak) (hg:Eu r) (hp:Bh p=true) (d0:1<=d) (d1:d<=8) :
  Fn prog 200 [v,.agg #[aa p.Bd,aa p.Ab,aa p.Al,aa p.Cy,af p.data],aa d] [.isv Cg v r F] [] (fun (_:NwS)=>True) (fun s=>.tuple #[.agg #[.bool ((Gb r p d)).A1,aa ((Gb r p d)).Ae,aa ((Gb r p d)).Aa.next,.slice s.a1 ((Gb r p d)).Aa.Am.length s.c1,.slice s.a2 ((Gb r p d)).Aj.length s.c2],.slice s.ae (Ls r p).length s.ce])
   (fun s=>[.isv Cg (.agg #[.bool ((Gb r p d)).A1,aa ((Gb r p d)).Ae,aa ((Gb r p d)).Aa.next,.slice s.a1 ((Gb r p d)).Aa.Am.length s.c1,.slice s.a2 ((Gb r p d)).Aj.length s.c2]) (Gb r p d) s.F1,.ow Bc 9 (.slice s.ae (Ls r p).length s.ce) (Ls r p) s.Fe]):=by
 have k0:=hg.k0;have k1:=hg.k1;obtain ⟨-,q1,q2, -⟩:=Dv.1 hg.q;have hser:∀q∈r.Aj,Cm q.Ab=true:=fun q hq=>(U6 hg hq).1;obtain ⟨hsg, -⟩:=Jj hg hp;obtain ⟨htg, -,htl⟩:=Oh hg hp;obtain ⟨hng,hnq, -,hnl⟩:=T5 hg hp d0 d1 EM;obtain ⟨s0_,s1_⟩:=Gg hsg;obtain ⟨w0_,w1_⟩:=Gg htg;obtain ⟨v0_,v1_⟩:=Gg hng;obtain ⟨hw8,hit⟩:=Kz hsg;obtain ⟨hu8,hiu⟩:=Kz htg;obtain ⟨n0,n1⟩:=Fg hp;have hrw:=(Kz hg.w).1;have hp2:=hp;unfold Bh at hp2;simp only [av] at hp2;obtain ⟨t0_,t1_⟩:=Bb.1 hp2.1.1.1.1.2;obtain ⟨l0_,l1_⟩:=Bb.1 hp2.1.1.1.2;have hps:p.data.size<=8:=V1 hp2.1.1.2
 refine enter func200 rfl ntmps200 fun w0=>?_;refine Gn (v:=v) (x:=r) (F:=F) ?_;rintro a1 c1 F1 a2 c2 F2 rfl - -;refine go ?_;intros;refine Bw (T2 r _ F EM EM) fun u _=>?_;refine I3 ?_;rintro a5 c5 F5 a6 c6 F6 e6 - -;rw [e6];refine Az (E:=C5) fun G5=>?_;refine Az (E:=A9) fun G6=>?_;refine go ?_;intros;rename_i g3 g4 g6 g8 g9;refine Dk Bc ?_
 refine Gw [2,4,6,8,9] [0,2,4,5] (fun _:ak=>[]) (fun s=>[.row g8 83 0 [] [.bool true,aa r.Ae,aa (C8 r p).next,.slice a5 (C8 r p).Am.length c5,ab a6 r.Aj.length c6] [],.isv Bz (.agg #[aa (C8 r p).next,.slice a5 (C8 r p).Am.length c5]) (C8 r p) s]) (fun _=>True) ?_ fun G7 _=>?_
 ·cases hs:r.A1
  ·by_cases hk:p.Bd=5
   ·have e:C8 r p=⟨p.Cy,r.Aa.Am⟩:=by unfold C8;rw [hs,ar hk];rfl
    rw [e];refine go ?_;refine Bf rfl (fun _=>?_) (fun h=>absurd hk h);refine Cr (a1:=a5) ⟨p.Cy,r.Aa.Am⟩ ?_;refine go ?_;refine Cs G5 trivial
   ·have e:C8 r p=⟨p.Ab,r.Aa.Am⟩:=by unfold C8;rw [hs,aq hk];rfl
    rw [e];refine go ?_;refine Bf rfl (fun h=>absurd h hk) (fun _=>?_);refine Cr (a1:=a5) ⟨p.Ab,r.Aa.Am⟩ ?_;refine go ?_;refine Cs G5 trivial
  ·have e:C8 r p=r.Aa:=by unfold C8;rw [hs];rfl
   rw [e];refine Cr (a1:=a5) r.Aa ?_;refine go ?_;refine Cs G5 trivial
 repeat (first|apply Aaa|apply Ajs|apply Yp)
 refine Avi [2,4,6,8] [3,4,5] (fun s:SkS=>[(9,.slice s.ae (Jq r p).length s.ce)]) (fun s=>[.row g8 83 0 [] [.bool true,aa r.Ae,aa (C0 r p).next,.slice s.a (C0 r p).Am.length s.c,ab a6 r.Aj.length c6] [],.isv Bz (.agg #[aa (C0 r p).next,.slice s.a (C0 r p).Am.length s.c]) (C0 r p) s.F,.ow Bc 9 (.slice s.ae (Jq r p).length s.ce) (Jq r p) s.Fe]) (fun _=>True) ?_ fun s _=>?_
 ·by_cases hk:p.Bd=5
  ·have e1:C0 r p=C8 r p:=by unfold C0;rw [ar hk]
   have e2:Jq r p=[]:=by unfold Jq;rw [ar hk]
   rw [e1,e2];refine go ?_;rw [ay (show ¬ ¬p.Bd=5 from fun h=>h hk)];refine go ?_;refine Cs (⟨a5,c5,G7,_,_,_⟩:SkS) trivial
  ·have e1:C0 r p=Hy (C8 r p) p.Ab p.data:=by unfold C0;rw [aq hk]
   have e2:Jq r p=Jb (C8 r p) p.Ab p.data:=by unfold Jq;rw [aq hk]
   rw [e1,e2];refine go ?_;rw [au (show ¬p.Bd=5 from hk)];refine go ?_;refine Bw (Alo (C8 r p) p.Ab _ G7 s0_ s1_ n0 n1 hw8) fun _ _=>?_;cases hok:Ms (C8 r p) p.Ab
   ·have e:(Em (C8 r p) p.Ab || !decide (gp (C8 r p).next p.Ab < 8))=true:=by unfold Ms at hok;simp only [cS] at hok;rw [hok.1,hok.2];rfl
    have e3:Hy (C8 r p) p.Ab p.data=C8 r p:=by unfold Hy;rw [ar e]
    have e4:Jb (C8 r p) p.Ab p.data=[]:=by unfold Jb;rw [ar e]
    rw [e3,e4];refine go ?_;refine Cs (⟨a5,c5,G7,_,_,_⟩:SkS) trivial
   ·refine go ?_;refine Bw (Ao7 (C8 r p) p.Ab p.data _ G7 s0_ s1_ n0 n1 hw8 hit hps hok) fun y hy=>?_;obtain ⟨hy1,hy2⟩:=hy;have hyl:y.es.length<=8:=by rw [hy2,<-e2];exact htl
    refine Az (E:=Bc) (xs:=y.es) fun G8=>?_;refine go ?_;intros;apply wO;refine M0 (ys:=y.es) Ej Gp fun a9 c9 F9=>?_;rw [bb];rw [<-hy1,<-hy2];refine go ?_;refine Cs (⟨y.a,y.c,y.F,_,_,_⟩:SkS) trivial
 obtain ⟨a3,c3,F3,ae,cE,Fe⟩:=s;dsimp only;refine go ?_;refine ce (fun w s=>Ps _ _ _ EM EM) ?_;refine go ?_;refine Gw [2,4,6,8] [3,4,5] (fun s:SkS=>[(9,.slice s.ae (Ls r p).length s.ce)]) (fun s=>[.row g8 83 0 [] [.bool true,aa r.Ae,aa (Be r p).next,.slice s.a (Be r p).Am.length s.c,ab a6 r.Aj.length c6] [],.isv Bz (.agg #[aa (Be r p).next,.slice s.a (Be r p).Am.length s.c]) (Be r p) s.F,.ow Bc 9 (.slice s.ae (Ls r p).length s.ce) (Ls r p) s.Fe]) (fun _=>True) ?_ fun s _=>?_
 ·cases hb:Qa (C0 r p).next p.Al
  ·have e1:Be r p=C0 r p:=by show Jt _ _=_;unfold Jt;rw [hb];rfl
   have e2:Ls r p=Jq r p:=by unfold Ls Np;rw [hb];simp
   rw [e1,e2];refine go ?_;refine Cs (⟨a3,c3,F3,_,_,_⟩:SkS) trivial
  refine go ?_;refine ce (fun w s=>I1 _ _ _ EM EM) ?_;refine go ?_;refine Bf rfl (fun h4=>?_) (fun h4=>?_)
  ·have e1:Be r p=Gt (C0 r p) p.Al:=by show Jt _ _=_;unfold Jt;rw [hb,ar rfl,ar h4]
   have e2:Ls r p=Jq r p++Fm (C0 r p) p.Al:=by unfold Ls Np;rw [hb,ar rfl,ar h4]
   have hl2:=hnl;rw [e2,aw] at hl2;refine go ?_;refine Bw (Sx (C0 r p) p.Al _ F3 w0_ w1_ t0_ t1_ hu8 hiu) fun y hy=>?_;obtain ⟨hy1,hy2⟩:=hy;have hyl:y.es.length<=24:=by rw [hy2];show (Fm (C0 r p) p.Al).length<=24;omega
   refine Az (E:=Bc) (xs:=y.es) fun G8=>?_;refine go ?_;intros;apply wO;refine M0 (ys:=y.es) Ej Gp fun a9 c9 F9=>?_;rw [e1,e2,show Gt (C0 r p) p.Al=y.y from hy1.symm,show Fm (C0 r p) p.Al=y.es from hy2.symm];refine go ?_;refine Cs (⟨y.a,y.c,y.F,_,_,_⟩:SkS) trivial
  ·have e1:Be r p=⟨p.Al,[]⟩:=by show Jt _ _=_;unfold Jt;rw [hb,ar rfl,aq h4]
   have e2:Ls r p=Jq r p++[⟨#[33]⟩]:=by unfold Ls Np;rw [hb,ar rfl,aq h4]
   rw [e1,e2];refine go ?_;intros;apply wO;refine No (Sz ⟨#[33]⟩ EN) Ej fun a9 c9 F9=>?_;refine Bn C5 EN ?_;refine Cr (a1:=none) ⟨p.Al,[]⟩ ?_;refine go ?_;refine Cs (⟨none,0,_,_,_,_⟩:SkS) trivial
 obtain ⟨a7,c7,F7,ae,cE,Fe⟩:=s;dsimp only;refine go ?_;refine Bw (Abn r.Aj (Be r p) a6 c6 G6 _ F7 EM hser v0_ v1_) fun z _=>?_;refine go ?_;refine ce (fun w s=>Ps _ _ _ EM EM) ?_;have hNq8:=(Dv.1 hnq).2.1;cases hb:Qa (Be r p).next p.Cy
 ·have e1:Gb r p d=⟨true,r.Ae,Be r p,C3 r.Aj (Be r p)⟩:=by unfold Gb H8;rw [hb];rfl
  rw [e1];refine go ?_;refine Az (E:=A9) (xs:=C3 r.Aj (Be r p)) fun F8=>?_;refine Cz (x:=Be r p) ?_;rintro b1 dd1 G1 e5 m1;simp only [Value.agg.injEq,Array.mk.injEq,List.cons.injEq,Value.slice.injEq,cP,de] at e5;obtain ⟨rfl,rfl⟩:=e5;refine E8 ⟨true,r.Ae,Be r p,C3 r.Aj (Be r p)⟩ ?_;exact CW
 obtain ⟨k,hk⟩:∃k,k=O1 (Be r p) p.Cy:=⟨_,rfl⟩;have hk8:k<=8:=by rw [hk];exact Oi _ _
 have hgb:=Kc (Be r p).next p.Cy
 have hkm:((k:Nat):Int)=min (gp (Be r p).next p.Cy) 8:=by rw [hk];unfold O1;omega
 obtain ⟨N,hN⟩:∃N,N=Ko (Be r p) k:=⟨_,rfl⟩;have hNl:N.length<=8:=by have:=Aat (Be r p) k;rw [hN];omega
 have e1:Gb r p d=⟨true,r.Ae,Be r p,Ii (Be r p).next (r.Ae+d) (C3 r.Aj (Be r p)) N⟩:=by unfold Gb H8;rw [hb,ar rfl,hN,hk]
 rw [e1];have Vi:=Is (Be r p).next (min (gp (Be r p).next p.Cy) 8)
 have hgp:gp (Be r p).next (A8 (Be r p).next (min (gp (Be r p).next p.Cy) 8))=(k:Nat):=by rw [<-hkm];unfold gp A8;omega
 refine go ?_;refine ce (fun w s=>I1 _ _ _ EM EM) ?_;refine go ?_;refine Bw (Asn _ _) fun _ _=>?_;refine go ?_;refine ce (fun w s=>Hc _ _ _ EM EM) ?_;refine go ?_;refine Bw (Ahj (Be r p) _ k _ F7 v0_ v1_ EM EM hgp) fun m _=>?_;rw [<-hN];refine Az (E:=Bi) (xs:=N) fun GN=>?_;refine Az (E:=A9) (xs:=C3 r.Aj (Be r p)) fun F8=>?_;refine go ?_
 refine Cu [2,6,8,9,14,16] (fun s:AwS=>[(17,aa (s.i:Nat))]) (fun s=>[.row g8 83 0 [] [.bool true,aa r.Ae,aa (Be r p).next,.slice a7 (Be r p).Am.length c7,.slice s.a (Ii (Be r p).next (r.Ae+d) (C3 r.Aj (Be r p)) (N.take s.i)).length s.c] [],.sl A9 (.slice s.a (Ii (Be r p).next (r.Ae+d) (C3 r.Aj (Be r p)) (N.take s.i)).length s.c) (Ii (Be r p).next (r.Ae+d) (C3 r.Aj (Be r p)) (N.take s.i)) s.F]) (fun s=>s.i<=N.length) (fun s=>N.length - s.i) ⟨0,z.1,z.2.1,F8⟩ (aD _) fun s hs=>?_;obtain ⟨i,a3,c3,F3⟩:=s;dsimp only at hs ⊢
 have hall:=Qk (w:=Be r p) (u:=r.Ae+d) EM EM (N.take i) (C3 r.Aj (Be r p)) (fun n hn=>by
  have:=N4 (w:=Be r p) (n:=n) hk8 (by rw [<-hN];exact bg hn);exact ⟨this.1,this.2.2⟩) hnq Oq
 have hLs:∀h:i < N.length,Ii (Be r p).next (r.Ae+d) (C3 r.Aj (Be r p)) (N.take (i+1))=Nz (Be r p).next (Ii (Be r p).next (r.Ae+d) (C3 r.Aj (Be r p)) (N.take i)) N[i] (r.Ae+d):=fun h=>Abe h
 generalize hLd:Ii (Be r p).next (r.Ae+d) (C3 r.Aj (Be r p)) (N.take i)=L at *
 have hLq:=hall.1;have hL8:=(Dv.1 hLq).2.1;refine go ?_;refine Bf rfl (fun h4=>?_) (fun h4=>?_)
 ·have hi:i < N.length:=EM
  have hni:=N4 (w:=Be r p) (n:=N[i]) hk8 (by rw [<-hN];exact aE hi);refine Jg (xs:=N) i ?_;rintro hi2 b o2 e;rw [e];refine go ?_;refine As [0,1] [12] ?_;refine D7 0 1 2 3 ?_;refine D7 4 5 6 7 ?_;refine Ek 8 9 ?_;refine dN 10 ?_;refine oC ?_;refine Bw (Asi L (Be r p).next N[i] r.Ae d a3 c3 F3 hLq hni.1 k0 k1 d0 d1) fun u _=>?_;rw [<-hLs hi];refine dk ?_;refine dt 11 ?_;refine dN 12 ?_;refine oS ?_;refine Pg ?_;refine dd ?_;refine Az (E:=A9) fun F9=>?_;refine go ?_;exact CB
 have hi:i=N.length:=EM
 subst hi;rw [bG] at hLd;rw [hLd];refine go ?_;refine Cz (x:=Be r p) ?_;rintro b1 dd1 G1 e5 m1;simp only [Value.agg.injEq,Array.mk.injEq,List.cons.injEq,Value.slice.injEq,cP,de] at e5;obtain ⟨rfl,rfl⟩:=e5;refine E8 ⟨true,r.Ae,Be r p,L⟩ ?_;exact CW
theorem Aao (r:Ay) (p:Ar) (d:Int) (v:Value) (F:ak) (hg:Eu r) (hp:Bh p=true) (d0:1<=d) (d1:d<=8) :
  Fn prog 148 [v,.agg #[aa p.Bd,aa p.Ab,aa p.Al,aa p.Cy,af p.data],aa d] [.isv Cg v r F] [] (fun (_:NwS)=>True) (fun s=>.tuple #[.agg #[.bool ((Bt r p d)).A1,aa ((Bt r p d)).Ae,aa ((Bt r p d)).Aa.next,.slice s.a1 ((Bt r p d)).Aa.Am.length s.c1,.slice s.a2 ((Bt r p d)).Aj.length s.c2],.slice s.ae (Hp r p).length s.ce])
   (fun s=>[.isv Cg (.agg #[.bool ((Bt r p d)).A1,aa ((Bt r p d)).Ae,aa ((Bt r p d)).Aa.next,.slice s.a1 ((Bt r p d)).Aa.Am.length s.c1,.slice s.a2 ((Bt r p d)).Aj.length s.c2]) (Bt r p d) s.F1,.ow Bc 9 (.slice s.ae (Hp r p).length s.ce) (Hp r p) s.Fe]):=by
 have k0:=hg.k0;have k1:=hg.k1;have hrw:=(Kz hg.w).1;obtain ⟨-,q1,q2, -⟩:=Dv.1 hg.q;obtain ⟨n0,n1⟩:=Fg hp;have hkd:1<=p.Bd/\p.Bd<=5:=by unfold Bh Ht at hp;simp only [av,aC] at hp;exact hp.1.1.1.1.1.1
 refine enter func148 rfl ntmps148 fun w0=>?_;refine Gn (v:=v) (x:=r) (F:=F) ?_;rintro a1 c1 F1 a2 c2 F2 rfl - -;refine go ?_;intros;by_cases hk4:p.Bd=4
 ·have hn:Dq p=false:=by unfold Dq;simp [hk4]
  have eE:Hp r p=[]:=by unfold Hp;rw [hn];rfl
  rw [au hk4];cases hs:r.A1
  ·have eR:Bt r p d=r:=by unfold Bt;rw [hn,hs];simp
   refine go ?_;rw [au hk4];refine go ?_;refine Bw (T2 r _ F EM EM) fun u _=>?_;refine I3 ?_;rintro a5 c5 F5 a6 c6 F6 e6 - -;rw [e6];refine Az (E:=C5) fun G5=>?_;refine Az (E:=A9) fun G6=>?_;refine go ?_;intros;refine Dk Bc ?_;refine E8 (a1:=a5) r ?_;rw [eR,eE];rw [hs];exact CW
  ·have eR:Bt r p d=Ts r p:=by unfold Bt;rw [hn,hs,au hk4];rfl
   refine go ?_;refine Bw (T2 r _ F EM EM) fun u _=>?_;refine I3 ?_;rintro a5 c5 F5 a6 c6 F6 e6 - -;rw [e6];refine Az (E:=C5) fun G5=>?_;refine go ?_;intros;refine Bw (Ahl r.Aj r.Aa.next p.Ab r.Ae a2 c2 F2 hg.q (Bb.2 ⟨n0,n1⟩) k0 k1) fun y _=>?_;refine Az (E:=A9) (xs:=Ok r.Aa.next r.Aj p.Ab (r.Ae+4)) fun G6=>?_;refine go ?_;intros;refine Dk Bc ?_;refine E8 (a1:=a5) (Ts r p) ?_;rw [eR,eE];exact CW
 rw [ay hk4];refine go ?_;rw [ay hk4];refine go ?_;by_cases hk3:p.Bd=3
 ·have hn:Dq p=false:=by unfold Dq;simp [hk3]
  have eE:Hp r p=[]:=by unfold Hp;rw [hn];rfl
  have eR:Bt r p d=r:=by unfold Bt;rw [hn,ay hk4];rfl
  rw [au hk3];refine go ?_;refine Bw (T2 r _ F EM EM) fun u _=>?_;refine I3 ?_;rintro a5 c5 F5 a6 c6 F6 e6 - -;rw [e6];refine Az (E:=C5) fun G5=>?_;refine Az (E:=A9) fun G6=>?_;refine go ?_;intros;refine Dk Bc ?_;refine E8 (a1:=a5) r ?_;rw [eR,eE];exact CW
 have hn:Dq p=true:=by
  unfold Dq;have:p.Bd=1\/p.Bd=2\/p.Bd=5:=EM
  rcases this with h|h|h <;> simp [h]
 have eE:Hp r p=Ls r p:=by unfold Hp;rw [hn];rfl
 have eR:Bt r p d=Gb r p d:=by unfold Bt;rw [hn];rfl
 rw [ay hk3,eE,eR];refine go ?_;refine Bw (Apg r p d _ F hg hp d0 d1) fun s _=>?_;refine go ?_;refine ret ⟨s.a1,s.c1,s.F1,s.a2,s.c2,[],s.ae,s.ce,_⟩ trivial rfl
end Go.Proofs.YtmckdnddocfodaaGreatDoor
namespace Go.Proofs.YtmckdnddocfodaaGreatDoor

open Go.RowKit
end Go.Proofs.YtmckdnddocfodaaGreatDoor
namespace Go.Proofs.YtmckdnddocfodaaGreatDoor
open Go.RowKit
def Ah3 (x:Ay):Bool:=x.A1 && decide ((x.Aj.length:Int)=0) && decide ((x.Aa.Am.length:Int)=0)
theorem Abk (x:Ay) (v:Value) (F:ak):FV 43 [v] [.isv Cg v x F] (.bool (Ah3 x)):=by
 refine enter func43 rfl ntmps43 fun w0=>?_;refine Gn (v:=v) (x:=x) (F:=F) ?_;rintro a1 c1 F1 a2 c2 F2 rfl l1 l2;unfold maxLen at l1 l2;refine go ?_;intros;cases hs:x.A1
 ·refine go ?_;refine ret () trivial ?_;unfold Ah3;rw [hs];rfl
 refine go ?_;refine Dm rfl rfl (fun h1=>?_) (fun h1=>?_)
 rotate_left
 ·refine go ?_;refine ret () trivial ?_;unfold Ah3;rw [hs,ay h1];rfl
 refine go ?_;refine ret () trivial ?_;unfold Ah3;rw [hs,au h1];rfl
def Pn (l:al) (k:Nat):al:=((List.range k).filter fun i=>Br l ((i:Nat):Int)).map fun (i:Nat)=>((i:Nat):Int)
def lvs (l:al):al:=Pn l l.length
theorem Ady (l:al) (k:Nat):Pn l (k+1)=Pn l k++if Br l (k:Int)=true then [(k:Int)] else []:=by
 unfold Pn;rw [dB,bp,bZ]
 split <;> simp_all
theorem App {l:al} {k:Nat} (h:Br l (k:Int)=true):Pn l (k+1)=Pn l k++[(k:Int)]:=by rw [Ady,ar h]
theorem Asq {l:al} {k:Nat} (h:Br l (k:Int)=false):Pn l (k+1)=Pn l k:=by rw [Ady,aq (by rw [h];decide),aP]
theorem Af9 (l:al) (k:Nat):(Pn l k).length<=k:=by
 unfold Pn;rw [cg];exact bi (bA _ _) EO
theorem Am2 {l:al} {x:Int} {k:Nat} (h:x∈Pn l k):∃i,i < k/\x=((i:Nat):Int)/\Br l x=true:=by
 unfold Pn at h;obtain ⟨i,hi,rfl⟩:=bU.1 h;obtain ⟨h1,h2⟩:=aO.1 hi;exact ⟨i,bX.1 h1,rfl,h2⟩
theorem Ay3 {l:al} {k:Nat} (h:k < (lvs l).length):∃i,i < l.length/\(lvs l)[k]=((i:Nat):Int)/\Br l ((i:Nat):Int)=true:=by
 obtain ⟨i,hi,e,hl⟩:=Am2 (aE h);exact ⟨i,hi,e,e▸hl⟩
theorem At6 {n:Du} {s:Gf} (hg:At n=true) (hs:D5 s=true) {y:NE} (e:Bm n s=some y):Bo n s=(y.1,y.2,true):=by
 unfold Bo;rw [hg,hs,e];rfl
theorem Aqi {n:Du} {s:Gf} (e:Bm n s=none):(Bo n s).2.2=false:=by
 unfold Bo;rw [e];cases At n <;> cases D5 s <;> rfl
theorem U9 {n:Du} {s:Gf} (h:(Bo n s).2.2=true):At (Bo n s).1=true:=by
 cases g:At n
 ·exact absurd h (by unfold Bo;rw [g];cases D5 s <;> exact Bool.false_ne_true)
 cases k:D5 s
 ·exact absurd h (by unfold Bo;rw [g,k];exact Bool.false_ne_true)
 cases e:Bm n s with
 | none=>rw [Aqi e] at h;cases h
 | some y=>rw [At6 g k e];exact Kk g k e
theorem Art {n:Du} (hg:At n=true):At (Jk n).1=true/\Wp (Jk n).1=0:=⟨(Qo (x:=(n,[])) hg).1.g,(Qo (x:=(n,[])) hg).2⟩
def Aja (n:Du) (i:Nat):Bool:=Ah3 (N6 n i) && decide ((N6 n i).Aa.next=A8 n.Ac.Aa.Al n.Ac.Aa.An.length)
def Ab5 (n:Du):Bool:=decide (Wp n=0) && (lvs n.Ao.Ad).all fun x=>Aja n x.toNat
def Nf (n:Du):Bool × Bool:=if At n then (Ab5 n,true) else (false,false)
theorem Asr {l:al} {i:Nat} (hi:i < l.length) (h:Br l ((i:Nat):Int)=true):((i:Nat):Int)∈lvs l:=by
 unfold lvs Pn;exact bU.2 ⟨i,aO.2 ⟨bX.2 hi,h⟩,rfl⟩
theorem Azv {n:Du} (h:¬Wp n=0):Ab5 n=false:=by unfold Ab5;rw [ay h];rfl
theorem At7 {n:Du} {i:Nat} (hi:i < n.Ao.Ad.length) (h:Br n.Ao.Ad ((i:Nat):Int)=true) (hb:Aja n i=false):Ab5 n=false:=by
 unfold Ab5;rw [Bool.and_eq_false_iff];right;rw [cU];exact ⟨_,Asr hi h,by rw [show ((i:Nat):Int).toNat=i from rfl,hb];decide⟩
theorem Akg {n:Du} (h:Wp n=0) (hl:∀i,i < n.Ao.Ad.length->Br n.Ao.Ad ((i:Nat):Int)=true->Aja n i=true):Ab5 n=true:=by
 unfold Ab5;rw [au h,bW,aQ];intro x hx;obtain ⟨i,hi,rfl,h2⟩:=Am2 hx;exact hl i hi h2
theorem Pm (f:Int) {i j:Nat} (hi:i<=2000) (hj:j<=2000) (h:i<=j):gp (A8 f i) (A8 f j)=((j - i:Nat):Int):=by unfold gp A8;omega
theorem Ahe (f:Int) {i j:Nat} (hi:i<=2000) (hj:j<=2000) (h:j < i):gp (A8 f i) (A8 f j)=65536 - ((i - j:Nat):Int):=by unfold gp A8;omega
theorem Ky (f:Int) {i j:Nat} (hi:i<=2000) (hj:j<=2000):Qa (A8 f i) (A8 f j)=decide (i < j):=by
 unfold Qa Ht;by_cases h:i < j
 ·rw [Pm f hi hj EM,au h,au EM,au EM];rfl
 ·rw [ay h];by_cases e:i=j
  ·subst e;rw [Pm f hi hj EM,ay EM];rfl
  ·rw [Ahe f hi hj EM,ay (show ¬65536 - ((i - j:Nat):Int)<=32767 by omega),bV]
theorem Oy (f:Int) {i j:Nat} (hi:i<=2000) (hj:j<=2000) (h:A8 f i=A8 f j):i=j:=by unfold A8 at h;omega
def Bb6:am:=⟨#[33]⟩
def SlI (S:ah) (k:Nat) (l:List Hn):Prop:=∀(j:Nat) s,l[j]?=some s->s.Vi=true->S[k+j]?=some s.Ea
def EvI (S:ah) (b:Nat) (es:ah):Prop:=∀(i:Nat) e,es[i]?=some e->e=Am3\/∃t,S[b+i]?=some t/\e=Aj0 t
section
variable {S:ah} {f:Int} {k b:Nat}
theorem EvI.nil:EvI S b []:=fun i e h=>by simp at h
theorem EvI.app {x y:ah} (h:EvI S b x) (h2:EvI S (b+x.length) y):EvI S b (x++y):=fun i e he=>by
 by_cases hi:i < x.length
 ·rw [bo hi] at he;exact h i e he
 ·rw [br EM] at he;have:=h2 _ e he
  rwa [show b+x.length+(i - x.length)=b+i by omega] at this
theorem SlI.drop {l:List Hn} (h:SlI S k l) (m:Nat):SlI S (k+m) (l.drop m):=fun j s hs hv=>by
 rw [di] at hs;have:=h _ s hs hv
 rwa [show k+(m+j)=k+m+j by omega] at this
theorem SlI.nil:SlI S k []:=fun j s h=>by simp at h
theorem EvI.mono {S2:ah} {es:ah} (h:EvI S b es):EvI (S++S2) b es:=fun i e he=>by
 rcases h i e he with h|⟨t,h,e2⟩
 ·exact DS
 ·exact .inr ⟨t,by rw [bo (bh.1 h).1];exact h,e2⟩
theorem SlI.mono {S2:ah} {l:List Hn} (h:SlI S k l):SlI (S++S2) k l:=fun j s hs hv=>by
 have:=h j s hs hv;rw [bo (bh.1 this).1];exact this
theorem Atf:∀(l:List Hn) (n:Int) (k:Nat),SlI S k l->k<=S.length->EvI S k (rel n l).2.2/\k+(rel n l).2.2.length<=S.length
 | [],n,k,_,hk=>⟨EvI.nil,hk⟩
 | s::r,n,k,h,hk=>by
  unfold rel
  split
  ·rename_i hs;have h0:=h 0 s rfl hs;have hk1:k < S.length:=(bh.1 h0).1;have ⟨a,c⟩:=Atf r (A8 n 1) (k+1) (h.drop 1) hk1;refine ⟨fun i e he=>?_,HZ⟩;cases i with
   | zero=>cases he;exact .inr ⟨_,h0,rfl⟩
   | succ i =>
    have:=a i e he
    rwa [show k+1+i=k+(i+1) by omega] at this
  ·exact ⟨EvI.nil,hk⟩
theorem Ar4:∀(m:Nat) (w:Ak) (k:Nat),SlI S k w.Am->EvI S k (Mu m w)
 | 0,_,_,_=>EvI.nil
 | m+1,w,k,h=>fun i e he=>by
  have ih:=Ar4 m (Ww w) (k+1) (by
   have:=h.drop 1
   rwa [show (Ww w).Am=w.Am.drop 1 by simp [Ww]])
  unfold Mu at he;cases i with
  | zero =>
   cases he;cases hw:w.Am with
   | nil=>exact .inl rfl
   | cons s r =>
    by_cases hs:s.Vi=true
    ·exact .inr ⟨s.Ea,h 0 s (by rw [hw];rfl) hs,by simp [Fh,hs]⟩
    ·exact .inl (by simp [Fh,hs])
  | succ i =>
   have:=ih i e he
   rwa [show k+1+i=k+(i+1) by omega] at this
theorem Uq:∀(m:Nat) (w:Ak),(Mu m w).length=m
 | 0,_=>rfl
 | m+1,w=>by unfold Mu;rw [aK,Uq m]
theorem U1 {w:Ak} {i:Nat} (hg:C7 w=true) (hn:w.next=A8 f k) (hs:SlI S k w.Am) (hk:k<=S.length) (hi:i<=S.length) (hS:S.length<=2000) :
  EvI S k (Fm w (A8 f i))/\k+(Fm w (A8 f i)).length<=S.length/\(Gt w (A8 f i)).next=A8 f ((k+(Fm w (A8 f i)).length:Nat):Int)/\SlI S (k+(Fm w (A8 f i)).length) (Gt w (A8 f i)).Am/\i<=k+(Fm w (A8 f i)).length:=by
 obtain ⟨e1,e2, -,e4⟩:=Na (t:=A8 f i) hg;have hst:k+Ec w.next (A8 f i)<=S.length/\i<=k+Ec w.next (A8 f i):=by
  unfold Ec;rw [hn,Ky f EM EM];by_cases h:k < i
  ·rw [au h,ar rfl,Pm f EM EM EM];omega
  ·rw [ay h,aq EN];omega
 have h1:=Ar4 (Ec w.next (A8 f i)) w k hs;have h2:=Atf (Hw (Ec w.next (A8 f i)) w).Am (Hw (Ec w.next (A8 f i)) w).next (k+Ec w.next (A8 f i)) (by rw [R9];exact hs.drop _) hst.1
 refine ⟨?_,?_,?_,?_,EM⟩
 ·unfold Fm;exact h1.app (by rw [Uq];exact h2.1)
 ·unfold Fm;rw [aw,Uq];have:=h2.2;unfold Pj;omega
 ·rw [e1,hn,Lm]
 ·rw [e2];exact hs.drop _
theorem Ba9 {w:Ak} {j:Nat} {t:am} (hn:w.next=A8 f k) (hs:SlI S k w.Am) (hk:k<=S.length) (hj:S[j]?=some t) (hkj:k<=j) (hS:S.length<=2000) :
  SlI S k (Mz w (A8 f j) t).Am:=by
 have hjl:j < S.length:=(bh.1 hj).1;have hgp:(gp w.next (A8 f j)).toNat=j - k:=by rw [hn,Pm f EM EM hkj];rfl
 intro i s h hv;unfold Mz Kh at h;rw [hgp] at h;dsimp only at h;rw [dY] at h
 split at h
 ·rename_i e
  split at h
  ·cases h;rw [show k+i=j by omega];exact hj
  ·cases h
 ·unfold Lj at h;by_cases hi:i < w.Am.length
  ·rw [bo hi] at h;exact hs i s h hv
  ·rw [br EM] at h;have:=bM h;rw [(dA.1 this).2] at hv;cases hv
theorem Al8 {w:Ak} {j:Nat} {t:am} (hg:C7 w=true) (hn:w.next=A8 f k) (hs:SlI S k w.Am) (hk:k<=S.length) (hj:S[j]?=some t) (hS:S.length<=2000) :
  EvI S k (Jb w (A8 f j) t)/\k+(Jb w (A8 f j) t).length<=S.length/\(Hy w (A8 f j) t).next=A8 f ((k+(Jb w (A8 f j) t).length:Nat):Int)/\SlI S (k+(Jb w (A8 f j) t).length) (Hy w (A8 f j) t).Am:=by
 have hjl:j < S.length:=(bh.1 hj).1;unfold Jb Hy
 split
 ·exact ⟨EvI.nil,hk,by rw [hn];rfl,hs⟩
 ·rename_i h;have hb:Qa (A8 f j) w.next=false:=by
   cases hb:Qa (A8 f j) w.next
   ·rfl
   ·exact absurd (show (Em w (A8 f j) || _)=true by unfold Em;rw [hb];rfl) h
  rw [hn,Ky f EM EM] at hb;have hkj:k<=j:=IJ
  have h1:=Ba9 hn hs hk hj hkj hS;have h2:=Atf (Mz w (A8 f j) t).Am (Mz w (A8 f j) t).next k h1 hk
  have h3:=T8 (Mz w (A8 f j) t).Am (Mz w (A8 f j) t).next (Gg hg).1 (Gg hg).2
  have h4:=(Sg (Mz w (A8 f j) t).Am (Mz w (A8 f j) t).next).1;refine ⟨h2.1,h2.2,?_,?_⟩
  ·show (rel _ _).1=_;rw [h3,show (Mz w (A8 f j) t).next=w.next from rfl,hn,Lm];unfold Pj;rw [show (Mz w (A8 f j) t).next=w.next from rfl,hn]
  ·show SlI S _ (rel _ _).2.1;rw [h4];exact h1.drop _
structure PkI (S:ah) (f:Int) (p:Ar):Prop where
 t:Dq p=true->∃i:Nat,i<=S.length/\p.Al=A8 f i
 l:Dq p=true->∃i:Nat,i<=S.length/\p.Cy=A8 f i
 n:Dq p=true->p.Bd≠5->∃i:Nat,S[i]?=some p.data/\p.Ab=A8 f i
theorem PkI.mono {S2:ah} {p:Ar} (h:PkI S f p):PkI (S++S2) f p :=
 ⟨fun hn=>by obtain ⟨i,a,e⟩:=h.t hn;exact ⟨i,HC,e⟩,fun hn=>by obtain ⟨i,a,e⟩:=h.l hn;exact ⟨i,HC,e⟩,
  fun hn h5=>by obtain ⟨i,a,e⟩:=h.n hn h5;exact ⟨i,by rw [bo (bh.1 a).1];exact a,e⟩⟩
structure WnI (S:ah) (f:Int) (w:Ak) (es:ah) (k:Nat):Prop where
 le:k<=S.length
 n:w.next=A8 f k
 s:SlI S k w.Am
 e:Bb6∈es\/∃b,b+es.length=k/\EvI S b es
theorem WnI.on {w w2:Ak} {es e2:ah} (h:WnI S f w es k) (h1:EvI S k e2) (h2:k+e2.length<=S.length) (h3:w2.next=A8 f ((k+e2.length:Nat):Int)) (h4:SlI S (k+e2.length) w2.Am):WnI S f w2 (es++e2) (k+e2.length) :=
 ⟨h2,h3,h4,by
  rcases h.e with h|⟨b,hb,he⟩
  ·exact .inl (bC _ h)
  ·exact .inr ⟨b,HC,he.app (by rw [hb];exact h1)⟩⟩
theorem WnI.mono {S2:ah} {w:Ak} {es:ah} (h:WnI S f w es k):WnI (S++S2) f w es k :=
 ⟨by rw [aw];have:=h.le;omega,h.n,h.s.mono,by
  rcases h.e with h|⟨b,hb,he⟩
  ·exact DS
  ·exact .inr ⟨b,hb,he.mono⟩⟩
structure RcI (S:ah) (f:Int) (r:Ay) (es:ah):Prop where
 z:r.A1=false->es=[]
 w:r.A1=true->∃k,WnI S f r.Aa es k/\∀q∈r.Aj,∃j:Nat,j < S.length/\q.Ab=A8 f j
theorem RcI.mono {S2:ah} {r:Ay} {es:ah} (h:RcI S f r es):RcI (S++S2) f r es :=
 ⟨h.z,fun hs=>by obtain ⟨k,a,c⟩:=h.w hs;exact ⟨k,a.mono,fun q hq=>by obtain ⟨j,hj,e⟩:=c q hq;exact ⟨j,HC,e⟩⟩⟩
theorem Azs {w:Ak} {es:ah} {i:Nat} (hg:C7 w=true) (h:WnI S f w es k) (hi:i<=S.length) (hS:S.length<=2000):∃k2,k<=k2/\i<=k2/\WnI S f (Jt w (A8 f i)) (es++Np w (A8 f i)) k2:=by
 have hk:=h.le;unfold Jt Np;cases hb:Qa w.next (A8 f i)
 ·rw [h.n,Ky f EM EM,bD] at hb;refine ⟨k,aA _,EM,?_⟩;rw [aq EN,aq EN,aP];exact h
 ·rw [ar rfl,ar rfl]
  split
  ·obtain ⟨a,b2,c,d,e⟩:=U1 hg h.n h.s hk hi hS;exact ⟨_,EM,e,h.on a b2 c d⟩
  ·rw [h.n,Ky f EM EM,aC] at hb;exact ⟨i,EM,aA _,⟨hi,rfl,SlI.nil,.inl (cI _ (aH.2 rfl))⟩⟩
theorem Adz {base u:Int}:∀(ns:al) (l:List Aw) {q:Aw},q∈Ii base u l ns->q∈l\/q.Ab∈ns
 | [],_,_,h=>.inl h
 | n::ns,l,q,h=>by
  rcases Adz ns (Nz base l n u) h with h|h
  ·rcases Ajn h with h|h
   ·exact DS
   ·exact .inr (by rw [h];simp)
  ·exact .inr (aN _ h)
theorem Avf {w:Ak} {l:List Aw} {i:Nat} {u:Int} (hn:w.next=A8 f k) (hk:k<=S.length) (hi:i<=S.length) (hS:S.length<=2000) (hl:∀q∈l,∃j:Nat,j < S.length/\q.Ab=A8 f j):∀q∈H8 w l (A8 f i) u,∃j:Nat,j < S.length/\q.Ab=A8 f j:=fun q hq=>by
 unfold H8 at hq
 split at hq
 ·rename_i hb;rw [hn,Ky f EM EM,aC] at hb;rcases Adz _ _ hq with h|h
  ·exact hl q h
  ·unfold Ko Or at h;obtain ⟨h1, -⟩:=aO.1 h;obtain ⟨m,hm,e⟩:=bU.1 h1;rw [bX] at hm;unfold O1 at hm;rw [hn,Pm f EM EM EM] at hm;exact ⟨k+m,EM,by rw [<-e,hn,Lm]⟩
 ·exact hl q hq
theorem Ah1 {r:Ay} {es:ah} {p:Ar} (hg:Eu r) (h:RcI S f r es) (hp:PkI S f p) (hn:Dq p=true):∃k,WnI S f (C8 r p) es k:=by
 unfold C8;cases hs:r.A1
 ·have e:=h.z hs;subst e;rw [aq EN,(hg.z hs).1];by_cases h5:p.Bd=5
  ·rw [ar h5];obtain ⟨i,hi,e⟩:=hp.l hn;exact ⟨i,hi,e,SlI.nil,.inr ⟨i,rfl,EvI.nil⟩⟩
  ·rw [aq h5];obtain ⟨i,hi,e⟩:=hp.n hn h5;have:=(bh.1 hi).1;exact ⟨i,EM,e,SlI.nil,.inr ⟨i,rfl,EvI.nil⟩⟩
 ·rw [ar rfl];obtain ⟨k,a, -⟩:=h.w hs;exact ⟨k,a⟩
theorem Ayy {r:Ay} {es:ah} {p:Ar} {d:Int} (hg:Eu r) (hpk:Bh p=true) (h:RcI S f r es) (hp:PkI S f p) (hS:S.length<=2000):RcI S f (Bt r p d) (es++Hp r p):=by
 unfold Bt Hp;cases hn:Dq p
 ·simp only [dz,if_false,aP]
  split
  ·rename_i hc;rw [av] at hc;obtain ⟨k,a,c⟩:=h.w hc.2;refine ⟨h.z,fun _=>⟨k,a,fun q hq=>?_⟩⟩;obtain ⟨r',hr,e⟩:=Wm hq;rw [<-e];exact c r' hr
  ·exact h
 ·rw [ar rfl,ar rfl];obtain ⟨k,hw⟩:=Ah1 hg h hp hn;have hsg:=(Jj hg hpk).1;have htk:∃k2,WnI S f (C0 r p) (es++Jq r p) k2:=by
   unfold C0 Jq;by_cases h5:p.Bd=5
   ·rw [ar h5,ar h5,aP];exact ⟨k,hw⟩
   ·rw [aq h5,aq h5];obtain ⟨j,hj,e⟩:=hp.n hn h5;rw [e];obtain ⟨a,b2,c,d2⟩:=Al8 hsg hw.n hw.s hw.le hj hS;exact ⟨_,hw.on a b2 c d2⟩
  obtain ⟨k2,hw2⟩:=htk;obtain ⟨i,hi,et⟩:=hp.t hn;obtain ⟨i2,hi2,el⟩:=hp.l hn;obtain ⟨k3, -, -,hw3⟩:=Azs (Oh hg hpk).1 hw2 hi hS;rw [<-et] at hw3;refine ⟨fun hs=>(by cases hs),fun _=>⟨k3,?_,?_⟩⟩
  ·show WnI S f (Be r p) (es++Ls r p) k3;unfold Ls Be;rw [<-aJ];exact hw3
  ·show ∀q∈H8 (Be r p) (C3 r.Aj (Be r p)) p.Cy (r.Ae+d),_;rw [el];refine Avf (w:=Be r p) hw3.n hw3.le hi2 hS fun q hq=>?_;have hq2:=(aO.1 hq).1;cases hs:r.A1
   ·rw [(hg.z hs).2] at hq2;cases hq2
   ·obtain ⟨_, -,c⟩:=h.w hs;exact c q hq2
theorem Azx {r:Ay} {es:ah} {d:Int} (hg:Eu r) (h:RcI S f r es) (hS:S.length<=2000):RcI S f (Bj r d) (es++Gs r):=by
 have hq2:r.A1=true->∀q∈Ir r d,∃j:Nat,j < S.length/\q.Ab=A8 f j:=fun hs q hq=>by
  obtain ⟨_, -,c⟩:=h.w hs;obtain ⟨q',hq',e⟩:=bB.1 hq;rw [Rd e];exact c q' hq'
 unfold Bj Gs
 split
 ·rw [aP];refine ⟨h.z,fun hs=>?_⟩;obtain ⟨k,a,c⟩:=h.w hs;exact ⟨k,a,hq2 hs⟩
 ·rename_i hl;have hs:r.A1=true:=by
   cases hs:r.A1
   ·exact absurd (by unfold Cf;rw [(hg.z hs).2];rfl) hl
   ·rfl
  obtain ⟨k,a,c⟩:=h.w hs;have hm:(Cf r).getLastD 0∈Cf r:=by
   rw [cG,cJ hl];exact dI hl
  obtain ⟨q',hq',e⟩:=bB.1 hm;obtain ⟨j,hj,e2⟩:=c q' hq';have et:Ct (Cf r)=A8 f ((j+1:Nat):Int):=by
   unfold Ct;rw [Ws e,e2,show A8 (A8 f (j:Nat)) 1=A8 (A8 f (j:Nat)) ((1:Nat):Int) from rfl,Lm]
  obtain ⟨x,b2,c2,d2, -⟩:=U1 (i:=j+1) hg.w a.n a.s a.le EM hS;rw [<-et] at x b2 c2 d2;exact ⟨fun h=>(by rw [hs] at h;cases h),fun _=>⟨_,a.on x b2 c2 d2,fun q hq=>hq2 hs q (aO.1 hq).1⟩⟩
end
end Go.Proofs.YtmckdnddocfodaaGreatDoor
namespace Go.Proofs.YtmckdnddocfodaaGreatDoor.Se
open Go.RowKit
def rq (r:Ay) (x:Int):Option Aw:=r.Aj.find? fun q=>decide (q.Ab=x)
theorem Es {r:Ay} {x:Int} {q:Aw} (h:rq r x=some q):q∈r.Aj/\q.Ab=x:=⟨fm h,by have:=List.find?_some h;simpa using this⟩
theorem Zo {r:Ay} {x:Int}:rq r x=none↔∀q∈r.Aj,q.Ab≠x:=by unfold rq;rw [List.find?_eq_none];simp
theorem Mh {r:Ay} (hg:Eu r) {q:Aw} (h:q∈r.Aj):rq r q.Ab=some q:=by
 cases e:rq r q.Ab with
 | none=>exact absurd rfl (Zo.1 e q h)
 | some z =>
  obtain ⟨hz,hn⟩:=Es e;obtain ⟨-, -, -,hp⟩:=Dv.1 hg.q;obtain ⟨i,hi,rfl⟩:=aR h;obtain ⟨j,hj,rfl⟩:=aR hz;have:=aX.1 hp;rcases d8 i j with c|c|c
  ·have:=this i j hi hj c;rw [hn] at this;omega
  ·subst c;rfl
  ·have:=this j i hj hi c;rw [hn] at this;omega
theorem Aj1 (w:Ak) (k i:Nat) (s:Hn):C2 (Kh w k s) i=if i=k then s.Vi else C2 w.Am i:=by
 unfold Kh;rw [Aah _ _ _ _ (by rw [Nb];omega)]
 split
 ·rfl
 ·unfold Lj;by_cases h:i < w.Am.length
  ·rw [I7 HC,I7 h,dR h]
  ·rw [Lq (l:=w.Am) EM];unfold C2;rw [br EM]
   split
   ·rename_i s hs;rw [(dA.1 (bM hs)).2];rfl
   ·rfl
section
variable {f:Int} {k m j:Nat} {w:Ak}
theorem Acr {t:am} (hg:C7 w=true) (hn:w.next=A8 f k) (hk:k<=2000) (hj:j<=2000) (h8:j < k+8):∃k2,k<=k2/\(Hy w (A8 f j) t).next=A8 f (k2:Nat)/\(∀i,k2<=i->C2 (Hy w (A8 f j) t).Am (i - k2)=(C2 w.Am (i - k) || decide (i=j)))/\(j < k2\/C2 (Hy w (A8 f j) t).Am (j - k2)=true)/\(∀i,k<=i->i < k2->C2 w.Am (i - k)=true\/i=j):=by
 unfold Hy;have hb:Qa (A8 f j) w.next=decide (j < k):=by rw [hn,Ky f hj hk]
 split
 ·rename_i h;have hh:j < k\/C2 w.Am (j - k)=true:=by
   unfold Em at h;rw [hb] at h;by_cases c:j < k
   ·exact .inl c
   ·right;have hgp:gp w.next (A8 f j)=((j - k:Nat):Int):=by rw [hn,Pm f hk hj EM]
    rw [ay c,eu,hgp,au (show (((j - k:Nat):Int)) < 8 by omega)] at h;unfold Ho at h;rw [hgp] at h;simpa using h
  refine ⟨k,aA _,hn,fun i hi=>?_,hh,fun i a b=>by omega⟩;by_cases c:i=j
  ·subst c;rcases hh with hh|hh
   ·omega
   ·rw [hh];rfl
  ·rw [ay c,eV]
 ·rename_i h;simp only [bJ,not_or,Bool.not_eq_true,Bool.not_eq_eq_eq_not,Bool.not_true] at h;unfold Em at h;rw [cS,hb,bD] at h;have hkj:k<=j:=EM
  have hgp:(gp w.next (A8 f j)).toNat=j - k:=by rw [hn,Pm f hk hj hkj];rfl
  have e0:(Mz w (A8 f j) t).Am=Kh w (j - k) ⟨true,t⟩:=by unfold Mz;rw [hgp]
  have hd:=Sg (Mz w (A8 f j) t).Am (Mz w (A8 f j) t).next
  have hx:=T8 (Mz w (A8 f j) t).Am (Mz w (A8 f j) t).next (Gg hg).1 (Gg hg).2
  have hall:∀(l:List Hn) (n:Int) (i:Nat),i < (rel n l).2.2.length->C2 l i=true:=by
   intro l
   induction l with
   | nil=>intro n i hi;simp [rel] at hi
   | cons s r ih =>
    intro n i hi;unfold rel at hi
    split at hi
    ·rename_i hs;cases i with
     | zero=>exact hs
     | succ i=>exact ih (A8 n 1) i GG
    ·simp at hi
  obtain ⟨n,hN⟩:∃n,(rel (Mz w (A8 f j) t).next (Mz w (A8 f j) t).Am).2.2.length=n:=⟨_,rfl⟩;have hs:∀i,k+n<=i->C2 (Og (Mz w (A8 f j) t)).Am (i - (k+n))=(C2 w.Am (i - k) || decide (i=j)):=fun i hi=>by
   show C2 (rel _ _).2.1 _=_;rw [hd.1,hN,K0,e0,show n+(i - (k+n))=i - k by omega,Aj1];by_cases c:i=j
   ·subst c;rw [ar rfl];simp
   ·rw [aq EM,ay c,eV]
  refine ⟨k+n,EM,?_,hs,?_,fun i a b=>?_⟩
  ·show (rel _ _).1=_;rw [hx,hN,show (Mz w (A8 f j) t).next=w.next from rfl,hn,Lm]
  ·by_cases c:j < k+n
   ·exact .inl c
   ·right;rw [hs j EM];simp
  ·have:=hall (Mz w (A8 f j) t).Am (Mz w (A8 f j) t).next (i - k) (by rw [hN];omega)
   rw [e0,Aj1] at this
   split at this
   ·right;omega
   ·exact .inl this
structure Cmp (f:Int) (m:Nat) (r:Ay) (k:Nat):Prop where
 s:r.A1=true
 n:r.Aa.next=A8 f k
 l:k<=m
 c:∀j,k<=j->j < m->C2 r.Aa.Am (j - k)=true\/∃q,rq r (A8 f j)=some q
theorem Wj (hk:k<=2000) (hn:w.next=A8 f k) {i:Nat} (hi:i<=2000) (h:k<=i):Ho w (A8 f i)=C2 w.Am (i - k):=by
 unfold Ho;rw [hn,Pm f hk hi h];rfl
theorem Awg {r:Ay} {p:Ar} {d:Int} (hg:Eu r) (hp:Bh p=true) (d0:1<=d) (d1:d<=8) (hc:Cmp f m r k) (hm:m<=8) (hb:∀i,C2 r.Aa.Am i=true->k+i < m)
  (hn:Dq p=true) (hl:p.Cy=A8 f m) (ht:∃i:Nat,i<=k/\p.Al=A8 f i) (hx:p.Bd=5\/∃j:Nat,j < m/\p.Ab=A8 f j) :
  ∃k2,Cmp f m (Bt r p d) k2/\k<=k2/\(∀x q,rq (Bt r p d) x=some q->rq r x=some q)/\(p.Bd≠5->rq (Bt r p d) p.Ab=none):=by
 have hkm:=hc.l;have e1:Bt r p d=Gb r p d:=FZ
 have hst:C8 r p=r.Aa:=(Jj hg hp).2 hc.s;obtain ⟨g1,g2,g3, -⟩:=T5 (d:=d) hg hp d0 d1 (by have:=hg.k1;omega)
 -- the window after the item
 obtain ⟨k2,a1,a2,a3,a4,a5⟩:∃k2,k<=k2/\(C0 r p).next=A8 f (k2:Nat)/\(∀i,k2<=i->C2 (C0 r p).Am (i - k2)=true->C2 r.Aa.Am (i - k)=true\/p.Ab=A8 f i)/\(∀i,k2<=i->C2 r.Aa.Am (i - k)=true->C2 (C0 r p).Am (i - k2)=true)/\k2<=m/\(p.Bd≠5->∃j:Nat,p.Ab=A8 f j/\j < m/\(j < k2\/C2 (C0 r p).Am (j - k2)=true)):=by
  unfold C0;by_cases h5:p.Bd=5
  ·rw [ar h5,hst];exact ⟨k,aA _,hc.n,fun i _ h=>.inl h,fun i _ h=>h,hkm,fun h=>absurd h5 h⟩
  ·rw [aq h5,hst];obtain ⟨j,hj,ej⟩:=hx.resolve_left h5;rw [ej];obtain ⟨k2,b1,b2,b3,b4,b5⟩:=Acr (t:=p.data) hg.w hc.n EM (show j<=2000 by omega) EM;refine ⟨k2,b1,b2,fun i hi h=>?_,fun i hi h=>by rw [b3 i hi,h];rfl,?_,fun _=>⟨j,rfl,hj,b4⟩⟩
   ·rw [b3 i hi,bJ,aC] at h;rcases h with h|h
    ·exact DS
    ·exact .inr (by rw [h])
   ·by_cases c:k2<=k
    ·omega
    ·rcases b5 (k2 - 1) EM EM with h|h
     ·have:=hb _ h;omega
     ·omega
 have hw:Be r p=C0 r p:=by
  unfold Be Jt;obtain ⟨i,hi,ei⟩:=ht;rw [a2,ei,Ky f EM EM,ay EM];rfl
 have hnx:(Be r p).next=A8 f (k2:Nat):=by rw [hw];exact a2
 have hnd:∀i,k2<=i->i < m->C2 (Be r p).Am (i - k2)=false->∀q,rq r (A8 f i)=some q->q∈C3 r.Aj (Be r p):=fun i h1 h2 h3 q hq=>by
  obtain ⟨q1,q2⟩:=Es hq;unfold C3;refine aO.2 ⟨q1,?_⟩;rw [q2,hnx,Ky f EM EM,ay EM,Wj (show k2<=2000 by omega) hnx EM h1,h3,Pm f EM EM h1,au (show (((i - k2:Nat):Int)) < 8 by omega)];rfl
 have hreq:(Gb r p d).Aj=C3 r.Aj (Be r p):=by
  show H8 (Be r p) (C3 r.Aj (Be r p)) p.Cy (r.Ae+d)=_;unfold H8
  split
  rotate_left
  ·rfl
  ·rename_i hbl;rw [hnx,hl,Ky f EM EM,aC] at hbl;have hall:∀n∈Ko (Be r p) (O1 (Be r p) p.Cy),Km (Be r p).next (C3 r.Aj (Be r p)) n=true:=fun n hn'=>by
    have hs:=(N4 (Oi _ _) hn').1;unfold Ko Or at hn';obtain ⟨h1,h2⟩:=aO.1 hn';obtain ⟨i,hi,e⟩:=bU.1 h1;rw [bX] at hi;unfold O1 at hi;rw [hnx,hl,Pm f EM EM EM] at hi;rw [hnx,Lm] at e;have hi2:k2+i < m:=EM
    subst e;rw [Wj (show k2<=2000 by omega) hnx EM EM] at h2;have h3:C2 (Be r p).Am (k2+i - k2)=false:=GD
    have h4:C2 r.Aa.Am (k2+i - k)=false:=by
     cases c:C2 r.Aa.Am (k2+i - k)
     ·rfl
     ·have:=a4 (k2+i) EM c;rw [hw] at h3;rw [h3] at this;cases this
    obtain ⟨q,hq⟩:=(hc.c (k2+i) EM hi2).resolve_left (by rw [h4];decide);have hmem:=hnd (k2+i) EM hi2 h3 q hq;cases ha:Km (Be r p).next (C3 r.Aj (Be r p)) (A8 f ((k2+i:Nat):Int))
    ·exact absurd (by rw [(Es hq).2]) (Ak5 g2 hs ha q hmem)
    ·rfl
   generalize Ko (Be r p) (O1 (Be r p) p.Cy)=ns at hall;unfold Ii
   induction ns with
   | nil=>rfl
   | cons n ns ih =>
    rw [List.foldl_cons,show Nz (Be r p).next (C3 r.Aj (Be r p)) n (r.Ae+d)=C3 r.Aj (Be r p) by unfold Nz;rw [hall n EO];rfl];exact ih fun n hn=>hall n (by simp [hn])
 have hrq:∀x q,rq (Gb r p d) x=some q->rq r x=some q:=fun x q h=>by
  obtain ⟨q1,q2⟩:=Es h;rw [hreq] at q1;have:=Mh hg (aO.1 q1).1
  rwa [q2] at this
 rw [e1];refine ⟨k2,⟨rfl,hnx,a5.1,fun i h1 h2=>?_⟩,a1,hrq,fun h5=>?_⟩
 ·cases h3:C2 (Be r p).Am (i - k2)
  ·right;have h4:C2 r.Aa.Am (i - k)=false:=by
    cases c:C2 r.Aa.Am (i - k)
    ·rfl
    ·have:=a4 i h1 c;rw [hw] at h3;rw [h3] at this;cases this
   obtain ⟨q,hq⟩:=(hc.c i EM h2).resolve_left (by rw [h4];decide);have hmem:=hnd i h1 h2 h3 q hq;have:=Mh (r:=Gb r p d) g3 (q:=q) (by rw [hreq];exact hmem);rw [(Es hq).2] at this;exact ⟨q,this⟩
  ·exact .inl h3
 ·obtain ⟨j,ej,hj,hh⟩:=a5.2 h5;rw [Zo,hreq];intro q hq e;have hq2:=(aO.1 hq).2;rw [e,ej,hnx,Ky f EM EM] at hq2;rcases hh with hh|hh
  ·rw [au hh] at hq2;simp at hq2
  ·by_cases c:j < k2
   ·rw [au c] at hq2;simp at hq2
   ·rw [Wj (show k2<=2000 by omega) hnx EM EM,hw,hh] at hq2;simp at hq2
theorem Ab9 {r:Ay} {p:Ar} {d:Int} (hg:Eu r) (hp:Bh p=true) (h4:p.Bd=4) (hs:r.A1=true) (x:Int) :
  rq (Bt r p d) x=if x=p.Ab then (rq r x).map fun q=>⟨x,3,r.Ae+4,q.Ch⟩ else rq r x:=by
 have e1:Bt r p d=Ts r p:=by unfold Bt Dq;rw [h4,hs];rfl
 rw [e1];have hser:=Bb.2 (Fg hp);have hG:Eu (Ts r p):=by
  have:=(Oo (d:=1) hg hp EN EN).1;have e2:Bt r p 1=Ts r p:=by unfold Bt Dq;rw [h4,hs];rfl
  rwa [e2] at this
 cases ha:Km r.Aa.next r.Aj p.Ab
 ·have hne:=Ak5 hg.q hser ha;have e2:Ts r p=r:=by unfold Ts;rw [Tq ha]
  rw [e2]
  split
  ·rename_i e;subst e;rw [Zo.2 fun q hq e=>hne q hq (by rw [e])];rfl
  ·rfl
 ·have hlt:=Qm ha;have hnum:(r.Aj[D8 r.Aa.next r.Aj p.Ab]).Ab=p.Ab:=by
   rw [Ql hlt] at ha;exact bP ha
  have e2:(Ts r p).Aj=r.Aj.set (D8 r.Aa.next r.Aj p.Ab) ⟨p.Ab,3,r.Ae+4,(r.Aj[D8 r.Aa.next r.Aj p.Ab]).Ch⟩:=by
   show Ok _ _ _ _=_;rw [Rm ha]
  have e3:=Mh hg (aE hlt);rw [hnum] at e3
  split
  ·rename_i e;subst e;rw [e3];have hm:=List.mem_set (h:=hlt) (a:=(⟨p.Ab,3,r.Ae+4,(r.Aj[D8 r.Aa.next r.Aj p.Ab]).Ch⟩:Aw));rw [<-e2] at hm;exact Mh hG hm
  ·rename_i hne;cases e4:rq r x with
   | none =>
    rw [Zo] at e4 ⊢;intro q hq;rw [e2] at hq;rcases bq hq with h|rfl
    ·exact e4 q h
    ·exact fun e=>hne e.symm
   | some q =>
    obtain ⟨q1,q2⟩:=Es e4;obtain ⟨i,hi,ei⟩:=aR q1;have hii:i≠D8 r.Aa.next r.Aj p.Ab:=fun c=>hne (by rw [<-q2,<-ei];subst c;exact hnum)
    have hm:q∈(Ts r p).Aj:=by
     rw [e2,<-ei];refine fM.2 ⟨i,GG,?_⟩;rw [dv,aq (Ne.symm hii)]
    have:=Mh hG hm
    rwa [q2] at this
theorem Ane {R:Int->Int->Prop}:∀{l:al},l.Pairwise R->∀n∈l,n=l.getLastD 0\/R n (l.getLastD 0)
 | [],_,n,h=>by cases h
 | [a],_,n,h=>.inl (by rw [aH] at h;rw [h];rfl)
 | a::b::r,hp,n,h=>by
  have e:(a::b::r).getLastD 0=(b::r).getLastD 0:=by simp [List.getLastD]
  rw [e];have hp2:=ci.1 hp;rcases aF.1 h with rfl|h
  ·right;refine hp2.1 _ ?_;rw [cG,cJ (List.cons_ne_nil _ _)];exact dI _
  ·exact Ane hp2.2 n h
theorem Ah7 {r:Ay} {d:Int} (hg:Eu r) (hk:r.Ae < 9999) (d0:1<=d) (d1:d<=8) {x:Int} {q':Aw} (h:rq (Bj r d) x=some q'):∃q,rq r x=some q/\Qh (r.Ae+1) d q=some q':=by
 obtain ⟨h1,h2⟩:=Es h;have h3:q'∈Ir r d:=by
  unfold Bj at h1
  split at h1
  ·exact h1
  ·exact (aO.1 h1).1
 obtain ⟨q,hq,e⟩:=bB.1 h3;have:=Mh hg hq;rw [<-Rd e,h2] at this;exact ⟨q,this,e⟩
theorem Aug {S:ah} {r:Ay} {d:Int} (hg:Eu r) (hk:r.Ae < 9999) (d0:1<=d) (d1:d<=8) (hc:Cmp f S.length r k) (hm:S.length<=8) (hs:SlI S k r.Aa.Am)
  (hq:∀q∈r.Aj,∃j:Nat,j < S.length/\q.Ab=A8 f j):∃k2,Cmp f S.length (Bj r d) k2/\k<=k2:=by
 have hkm:=hc.l;have hG:=Aa8 hg hk d0 d1;by_cases hl:Cf r=[]
 ·have e1:Bj r d=⟨r.A1,r.Ae+1,r.Aa,Ir r d⟩:=by unfold Bj;rw [ar hl]
  refine ⟨k,⟨by rw [e1];exact hc.s,by rw [e1];exact hc.n,hkm,fun j h1 h2=>?_⟩,aA _⟩;rcases hc.c j h1 h2 with h|⟨q,h⟩
  ·left;rw [e1];exact h
  ·right;obtain ⟨q1,q2⟩:=Es h;cases e:Qh (r.Ae+1) d q with
   | none =>
    exfalso;have:Sm (r.Ae+1) q=some q.Ab:=by
     unfold Qh at e;unfold Sm
     split at e
     ·cases e
     ·rename_i c;rw [aq c]
      split at e
      ·rename_i c3;rw [ar c3]
      ·split at e <;> cases e
    have hm:q.Ab∈Cf r:=bB.2 ⟨q,q1,this⟩;rw [hl] at hm;cases hm
   | some q' =>
    have hm:q'∈(Bj r d).Aj:=by rw [e1];exact bB.2 ⟨q,q1,e⟩
    have:=Mh hG hm;rw [Rd e,q2] at this;exact ⟨q',this⟩
 ·have e1:Bj r d=⟨r.A1,r.Ae+1,Gt r.Aa (Ct (Cf r)),Vk (Ir r d) (Gt r.Aa (Ct (Cf r))).next⟩:=by unfold Bj;rw [aq hl]
  have hmL:(Cf r).getLastD 0∈Cf r:=by
   rw [cG,cJ hl];exact dI hl
  obtain ⟨ql,hql,el⟩:=bB.1 hmL;obtain ⟨jl,hjl,ejl⟩:=hq ql hql;have hlast:(Cf r).getLastD 0=A8 f (jl:Nat):=by rw [Ws el,ejl]
  have et:Ct (Cf r)=A8 f ((jl+1:Nat):Int):=by
   unfold Ct;rw [hlast,show A8 (A8 f (jl:Nat)) 1=A8 (A8 f (jl:Nat)) ((1:Nat):Int) from rfl,Lm]
  obtain ⟨-,b2,b3, -,b5⟩:=U1 (i:=jl+1) hg.w hc.n hs hkm EM EM;obtain ⟨-,b6, -, -⟩:=Na (t:=A8 f ((jl+1:Nat):Int)) hg.w;rw [<-et] at b2 b3 b5 b6;generalize (Fm r.Aa (Ct (Cf r))).length=n at b2 b3 b5 b6;refine ⟨k+n,⟨by rw [e1];exact hc.s,by rw [e1];exact b3,b2,fun j h1 h2=>?_⟩,EM⟩;cases h3:C2 (Bj r d).Aa.Am (j - (k+n))
  ·right;have h4:C2 r.Aa.Am (j - k)=false:=by
    rw [e1] at h3;have h5:C2 (Gt r.Aa (Ct (Cf r))).Am (j - (k+n))=false:=h3;rw [b6,K0,show n+(j - (k+n))=j - k by omega] at h5;exact h5
   obtain ⟨q,h⟩:=(hc.c j EM h2).resolve_left (by rw [h4];decide);obtain ⟨q1,q2⟩:=Es h;cases e:Qh (r.Ae+1) d q with
   | none =>
    exfalso;have hL:Sm (r.Ae+1) q=some q.Ab:=by
     unfold Qh at e;unfold Sm
     split at e
     ·cases e
     ·rename_i c;rw [aq c]
      split at e
      ·rename_i c3;rw [ar c3]
      ·split at e <;> cases e
    have hm:q.Ab∈Cf r:=bB.2 ⟨q,q1,hL⟩;obtain ⟨-, -, -,hp⟩:=Dv.1 hg.q;have hp2:(Cf r).Pairwise fun a b=>gp r.Aa.next a < gp r.Aa.next b:=by
     unfold Cf;refine List.Pairwise.filterMap _ (fun a a' h b hb b' hb'=>?_) hp;rw [Ws hb,Ws hb'];exact h
    have hb1:=Pm f (show k<=2000 by omega) (show j<=2000 by omega) (show k<=j by omega);rcases Ane hp2 _ hm with c|c
    ·rw [q2,hlast] at c;have:=Oy f EM EM c;omega
    ·rw [q2,hlast,hc.n,hb1] at c;by_cases c2:k<=jl
     ·rw [Pm f EM EM c2] at c;omega
     ·have:=(U6 hg hql).2.1;rw [ejl,hc.n,Ahe f EM EM EM] at this;omega
   | some q' =>
    have hm:q'∈(Bj r d).Aj:=by
     rw [e1];refine aO.2 ⟨bB.2 ⟨q,q1,e⟩,?_⟩;rw [Rd e,q2,b3,Ky f EM EM,ay EM];rfl
    have:=Mh hG hm;rw [Rd e,q2] at this;exact ⟨q',this⟩
  ·exact .inl rfl
end
def en (e:Bg) (x:Int):Option Et:=e.Af.find? fun y=>decide (y.Ab=x)
theorem Qc {e:Bg} {x:Int} {y:Et} (h:en e x=some y):y∈e.Af/\y.Ab=x:=⟨fm h,by have:=List.find?_some h;simpa using this⟩
theorem O5 {e:Bg} {x:Int}:en e x=none↔∀y∈e.Af,y.Ab≠x:=by unfold en;rw [List.find?_eq_none];simp
theorem Ald {e:Bg} (hg:Ba e=true) {y:Et} (h:y∈e.Af):en e y.Ab=some y:=by
 obtain ⟨-, -, -,hp⟩:=D6.1 hg;cases c:en e y.Ab with
 | none=>exact absurd rfl (O5.1 c y h)
 | some z =>
  obtain ⟨hz,hn⟩:=Qc c;obtain ⟨i,hi,rfl⟩:=aR h;obtain ⟨j,hj,rfl⟩:=aR hz;have:=aX.1 hp;rcases d8 i j with c|c|c
  ·exact absurd hn.symm (this i j hi hj c)
  ·subst c;rfl
  ·exact absurd hn (this j i hj hi c)
theorem Ada {e:Bg} (hg:Ba e=true) {x:Int} {y:Et}:en e x=some y↔y∈e.Af/\y.Ab=x:=⟨Qc,fun ⟨a,b⟩=>by rw [<-b];exact Ald hg a⟩
theorem Alc {e e':Bg} (hg:Ba e=true) (hg':Ba e'=true) {x:Int} (h:∀y:Et,y.Ab=x->(y∈e'.Af↔y∈e.Af)):en e' x=en e x:=by
 cases c:en e x with
 | some y =>
  obtain ⟨a,b⟩:=Qc c;exact (Ada hg').2 ⟨(h y b).2 a,b⟩
 | none =>
  rw [O5] at c ⊢;exact fun y hy hx=>c y ((h y hx).1 hy) hx
theorem Aaf (e:Bg) (n:Int):Pi e n=(en e n).isNone:=by
 unfold Pi;cases c:en e n with
 | none =>
  rw [O5] at c;rw [cN.2 fun y hy=>by have:=c y hy;simpa using this];rfl
 | some y =>
  obtain ⟨a,b⟩:=Qc c;rw [bS.2 ⟨y,a,by simpa using b⟩];rfl
theorem Bav {e:Bg} (hg:Ba e=true) (n:Int):e.Af[Le e n]?=en e n:=by
 rcases O6 e n with ⟨h, -,h2, -⟩|⟨-,h1, -,h2⟩
 ·rw [aB h];exact ((Ada hg).2 ⟨aE h,h2⟩).symm
 ·rw [h1,(O5).2 h2]
theorem Aha {e:Bg} (hg:Ba e=true) (n:Int) (l:al):Pr e n l=match en e n with|some y=>y.Bp.filter fun f=>decide (f∈l)|none=>if e.Af.length=5 then l else []:=by
 unfold Pr;rw [Bav hg];cases en e n <;> rfl
theorem Adb {e:Bg} (hg:Ba e=true) (n x:Int):en (Jz e n) x=if x=n then none else en e x:=by
 have hg':=Afx (n:=n) hg;obtain ⟨-, -, -,hp⟩:=D6.1 hg;rcases O6 e n with ⟨h, -,h2, -⟩|⟨-,h1, -,h2⟩
 ·have er:(Jz e n).Af=e.Af.take (Le e n)++e.Af.drop (Le e n+1):=by unfold Jz;rw [aB h]
  have hm:∀y:Et,y∈(Jz e n).Af↔y∈e.Af/\y.Ab≠n:=fun y=>by
   rw [er,aG];have hpw:=aX.1 hp;constructor
   ·rintro (hy|hy)
    ·obtain ⟨i,hi,rfl⟩:=aR hy;rw [aL] at hi;rw [fl];exact ⟨aE _,fun c=>hpw i (Le e n) EM h EM (by rw [c,h2])⟩
    ·obtain ⟨i,hi,rfl⟩:=aR hy;rw [aU] at hi;rw [dD];exact ⟨aE _,fun c=>hpw (Le e n) (Le e n+1+i) h EM EM (by rw [c,h2])⟩
   ·rintro ⟨hy,hn⟩;obtain ⟨i,hi,rfl⟩:=aR hy;rcases d8 i (Le e n) with c|c|c
    ·exact .inl (cu.2 ⟨i,EM,rfl⟩)
    ·subst c;exact absurd h2 hn
    ·refine .inr (dQ.2 ⟨i - (Le e n+1),EM,?_⟩)
     congr 1;omega
  split
  ·rename_i c;subst c;exact O5.2 fun y hy=>((hm y).1 hy).2
  ·rename_i c;exact Alc hg hg' fun y hy=>by rw [hm y];exact ⟨fun h=>h.1,fun h=>⟨h,by rw [hy];exact c⟩⟩
 ·have er:Jz e n=e:=by unfold Jz;rw [h1]
  rw [er]
  split
  ·rename_i c;subst c;exact O5.2 h2
  ·rfl
theorem Ale {e:Bg} (hg:Ba e=true) {n f:Int} (hn:Cm n=true) (hf:M7 f=true) (h5:e.Af.length < 5) (x:Int) :
  en (Ka e n f) x=if x=n then some (match en e n with|some y=>⟨y.Ab,Px y.Bp f,y.Bl⟩|none=>⟨n,[f],e.Ae+6⟩) else en e x:=by
 have hg':=Aag hg hn hf;rcases O6 e n with ⟨h, -,h2, -⟩|⟨-,h1, -,h2⟩
 ·have er:(Ka e n f).Af=e.Af.set (Le e n) ⟨(e.Af[Le e n]).Ab,Px (e.Af[Le e n]).Bp f,(e.Af[Le e n]).Bl⟩:=by unfold Ka;rw [aB h]
  have e1:en e n=some e.Af[Le e n]:=(Ada hg).2 ⟨aE h,h2⟩
  split
  ·rename_i c;rw [c,e1];refine (Ada hg').2 ⟨?_,h2⟩;rw [er];exact List.mem_set h _
  ·rename_i c;refine Alc hg hg' fun y hy=>?_;rw [er];constructor
   ·intro hm;rcases bq hm with q|rfl
    ·exact q
    ·exact absurd (hy.symm.trans h2) c
   ·intro hm;obtain ⟨i,hi,rfl⟩:=aR hm;refine fM.2 ⟨i,GG,?_⟩;rw [dv,aq];intro q;subst q;exact c (hy.symm.trans h2)
 ·have er:(Ka e n f).Af=e.Af++[⟨n,[f],e.Ae+6⟩]:=by unfold Ka;rw [h1];dsimp only;rw [ar h5]
  have e1:en e n=none:=O5.2 h2
  split
  ·rename_i c;rw [c,e1];exact (Ada hg').2 ⟨by rw [er];simp,rfl⟩
  ·rename_i c;refine Alc hg hg' fun y hy=>?_;rw [er,aG,aH];exact ⟨fun q=>q.resolve_right fun q=>c (by rw [<-hy,q]),.inl⟩
theorem Acb {e:Bg} (hg:Ba e=true) (x:Int):en (Cn e) x=(en e x).bind fun y=>if y.Bl<=e.Ae+1 then none else some y:=by
 cases c:en e x with
 | none =>
  rw [O5] at c;exact O5.2 fun y hy=>c y (aO.1 hy).1
 | some y =>
  obtain ⟨a,b⟩:=Qc c;show _=if y.Bl<=e.Ae+1 then none else some y
  by_cases h:y.Bl<=e.Ae+1
  ·rw [ar h];refine O5.2 fun z hz hx=>?_;obtain ⟨h1,h2⟩:=aO.1 hz;have:=Ald hg h1;rw [hx,c] at this;cases this;rw [au h] at h2;cases h2
  ·rw [aq h];unfold en Cn;dsimp only;obtain ⟨-, -, -,hp⟩:=D6.1 hg;have hm:y∈e.Af.filter fun x=>!decide (x.Bl<=e.Ae+1):=aO.2 ⟨a,by rw [ay h];rfl⟩;have hp2:(e.Af.filter fun x=>!decide (x.Bl<=e.Ae+1)).Pairwise fun a b=>a.Ab≠b.Ab:=hp.sublist cZ;revert hm hp2;generalize (e.Af.filter fun x=>!decide (x.Bl<=e.Ae+1))=l;intro hm hp2
   induction l with
   | nil=>cases hm
   | cons z l ih =>
    obtain ⟨p1,p2⟩:=ci.1 hp2;rw [List.find?_cons];rcases aF.1 hm with rfl|hm
    ·rw [au b]
    ·rw [ay (fun q=>p1 y hm (by rw [q,b]))];exact ih hm p2
theorem Vr {α:Type} {g:α->Int}:∀{l:List α} {X:al},(l.Pairwise fun a b=>g a≠g b)->(∀a∈l,g a∈X)->l.length<=X.length
 | [],_,_,_=>aD _
 | a::l,X,hp,h=>by
  obtain ⟨p1,p2⟩:=ci.1 hp;have ha:=h a EO;have:=Vr (l:=l) (X:=X.erase (g a)) p2 fun b hb=>(List.mem_erase_of_ne (fun q=>p1 b hb q.symm)).2 (h b ES);rw [List.length_erase_of_mem ha] at this;have:=dh ha;rw [aK];omega
end Go.Proofs.YtmckdnddocfodaaGreatDoor.Se
namespace Go.Proofs.YtmckdnddocfodaaGreatDoor
open Go.RowKit
def Ff (f z:Int):Cc × Bool:=if Cj ⟨⟨f,z,[]⟩,0,0,[]⟩ then (⟨⟨f,z,[]⟩,0,0,[]⟩,true) else (Aku,false)
theorem Aim (f z:Int):Fn prog 34 [aa f,aa z] [] [] (fun (_:ak)=>True) (fun _=>.tuple #[.agg #[aa (Ff f z).1.Aa.Al,aa (Ff f z).1.Aa.size,ab none 0 0,aa (Ff f z).1.Ae,aa (Ff f z).1.quiet,ab none 0 0],.bool (Ff f z).2]) (fun s=>[.isv El (.agg #[aa (Ff f z).1.Aa.Al,aa (Ff f z).1.Aa.size,ab none 0 0,aa (Ff f z).1.Ae,aa (Ff f z).1.quiet,ab none 0 0]) (Ff f z).1 s]):=by
 refine enter func34 rfl ntmps34 fun w0=>?_;refine Bn Bc EN ?_;refine Bn Bx EN ?_;refine Ed Aku ?_;refine Bn Bc EN ?_;refine Bn Bx EN ?_;refine Ed ⟨⟨f,z,[]⟩,0,0,[]⟩ ?_;refine go ?_;intros;refine cb (fun w st=>(Vh ⟨⟨f,z,[]⟩,0,0,[]⟩ _ ([]++[])).val w (I0 (st.get (p:=.isv _ _ _ _) EQ))) ?_;cases g1:Cj ⟨⟨f,z,[]⟩,0,0,[]⟩
 ·rw [show Ff f z=(Aku,false) by unfold Ff;rw [g1];rfl];refine go ?_;refine ret ([]++[]) trivial rfl
 exact EL
theorem Vn (f z:Int):Fn prog 94 [aa f,aa z] [] [] (fun (_:ak)=>True) (fun _=>.tuple #[.agg #[aa (Ff f z).1.Aa.Al,aa (Ff f z).1.Aa.size,ab none 0 0,aa (Ff f z).1.Ae,aa (Ff f z).1.quiet,ab none 0 0],.bool (Ff f z).2]) (fun s=>[.isv El (.agg #[aa (Ff f z).1.Aa.Al,aa (Ff f z).1.Aa.size,ab none 0 0,aa (Ff f z).1.Ae,aa (Ff f z).1.quiet,ab none 0 0]) (Ff f z).1 s]):=by
 refine enter func94 rfl ntmps94 fun w0=>?_;refine Bn Bc EN ?_;refine Bn Bx EN ?_;refine Ed Aku ?_;refine Bn Bc EN ?_;refine Bn Bx EN ?_;refine Ed ⟨⟨f,z,[]⟩,0,0,[]⟩ ?_;refine go ?_;intros;refine cb (fun w st=>(Af4 ⟨⟨f,z,[]⟩,0,0,[]⟩ _ ([]++[])).val w (I0 (st.get (p:=.isv _ _ _ _) EQ))) ?_;cases g1:Cj ⟨⟨f,z,[]⟩,0,0,[]⟩
 ·rw [show Ff f z=(Aku,false) by unfold Ff;rw [g1];rfl];refine go ?_;refine ret ([]++[]) trivial rfl
 exact EL
end Go.Proofs.YtmckdnddocfodaaGreatDoor
namespace Go.Proofs.YtmckdnddocfodaaGreatDoor

open Go.RowKit
end Go.Proofs.YtmckdnddocfodaaGreatDoor
