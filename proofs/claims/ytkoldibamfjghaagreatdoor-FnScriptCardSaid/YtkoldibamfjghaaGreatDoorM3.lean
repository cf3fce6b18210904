/- Part 3 of the proof: 40 texts, one behind the other. -/
import Derived.Lib.SliceRun
import Derived.ArgAppend
import Derived.Deep.RegionLaw
import Derived.Test.YtkoldibamfjghaaGreatDoorM2
open _root_.Go.Proofs.Tryz
set_option maxRecDepth 100000
set_option maxHeartbeats 8000000
set_option linter.all false
set_option linter.unusedVariables false
set_option linter.unusedSimpArgs false
namespace Go.Proofs.YtkoldibamfjghaaGreatDoor
theorem AD{p:Prop}(h:p:=by refine go ?_;rw [<-eo,<-es,<-el];refine Ca (⟨k+1,_,_,_,_,_,_,_,_,_⟩:TkS) (by show k+1<=l.length;omega) (by show l.length - (k+1) < l.length - k;omega)):p:=h
theorem AP{p:Prop}(h:p:=by refine Bf (Jj n.up _ _ F7 (by have:=hs.u;omega) (fun q hq=>by have:=hs.uq q hq;omega)) fun s7 _=>?_;refine dk ?_;refine dt 14 ?_;refine dN 16 ?_;refine oS ?_;refine dk ?_;refine dd ?_;refine Bk (⟨_,b1,d1,G1,b2,d2,G2,b3,d3,G3,_,_,_,_⟩:ClN) trivial):p:=h
theorem AT{p:Prop}(h:p:=by obtain ⟨cs,rfl,v1,v2,G1,G2,rfl,h1,h2,rfl⟩:=s.get hm;obtain ⟨a1,c1,rfl⟩:=h1.slice;have l1:=h1.len;obtain ⟨a2,c2,rfl⟩:=h2.slice;have l2:=h2.len;have t2:=s.ro (p:=.sl _ _ _ _) hm rfl rfl ⟨by decide,h2⟩ (by intro b hb;simp only [Pc.F] at hb ⊢;simp [hb]);have t1:=t2.ro (p:=.sl _ _ _ _) (aQ _ hm) rfl rfl ⟨by decide,h1⟩ (by intro b hb;simp only [Pc.F] at hb ⊢;simp [hb]);exact (h a1 c1 G1 a2 c2 G2 rfl  l1 l2).h a w t1 g):p:=h
theorem BL{p:Prop}(h:p:=by refine ret (_,_,_) trivial rfl):p:=h
theorem BS{p:Prop}(h:p:=by refine go ?_;refine ret () trivial ?_;rw [bad (by rw [hck,av h6,ay (show ¬k=0 by omega)];simp)];rfl):p:=h
theorem CB{p:Prop}(h:p:=by refine go ?_;refine ret z trivial rfl):p:=h
theorem CF{p:Prop}(h:p:=by refine ret (_,_) trivial rfl):p:=h
theorem CI{p:Prop}(h:p:=by refine dd ?_;exact AA):p:=h
theorem CK{p:Prop}(h:p:=by apply wO;refine Nb (ys:=[l[k].Ae]) (Rz _) C6 fun a8 c8 F8=>?_;refine go ?_;intros;apply wO;refine Nb (ys:=[(⟨l[k].Ae,2,c+3,l[k].Ee+1⟩:Az)]) (Nn (⟨l[k].Ae,2,c+3,l[k].Ee+1⟩:Az)) Db fun a7 c7 F7=>?_;exact AD):p:=h
theorem CQ{p:Prop}(h:p:=by obtain ⟨a',c',rfl⟩:=h1.slice;exact ⟨(a',c',F'),trivial,rfl,⟨h2,h1⟩,fun b hb=>.inl (h3 b hb),h4⟩):p:=h
theorem CR{p:Prop}(h:p:=by obtain ⟨b,o,cs,G,ha,hrep,hG,hb,hne,hr⟩:=Xq (s.get hm) i hi;obtain ⟨rfl,rfl⟩:=hrep;exact (h hi b o  ha  ).h ac w (s.ro hm rfl rfl ⟨hne,hr⟩ (by intro x hx;simp [Pc.F] at hx;subst hx;exact hb)) g):p:=h
theorem DF{p:Prop}(h:p:=by refine go ?_;refine ret () trivial ?_;rw [show Bp x=decide ((x.Ao.length:Int)=0) by unfold Bp;rw [g1,hs];unfold Ox;rw [av h1,av (show x.Aa.Ap.length=0 by omega)];simp];rfl):p:=h
theorem DJ{p:Prop}(h:p:=by refine go ?_;refine ret (a2,c2,F2) trivial rfl):p:=h
theorem DW{p:Prop}(h:p:=by refine go ?_;rw [<-eo];refine Ca (⟨k+1,_,_,_⟩:PkS) (by show k+1<=sn.length;omega) (by show sn.length - (k+1) < sn.length - k;omega)):p:=h
theorem DY{p:Prop}(h:p:=by refine go ?_;refine ret () trivial ?_;rw [bad (by rw [hck,g4];rfl)];rfl):p:=h
theorem EE{p:Prop}(h:p:=by have:=Ax7 n.toNat (by omega) w;rw [show ((n.toNat:Nat):Int)=n by omega,show n.toNat=n.natAbs by omega,<-Nc h0] at this;exact this):p:=h
theorem EG{p:Prop}(h:p:=by refine oC ?_;refine ce (fun w s=>O6 _ _ _ (by omega) (by omega) (by omega) (by omega)) ?_;refine dk ?_;refine Dh 7 8 ?_;exact CI):p:=h
theorem EK{p:Prop}(h:p:=by apply wO;refine Nb (ys:=[(⟨l[k].Ae,1,c+d,l[k].Ee⟩:Az)]) (Nn (⟨l[k].Ae,1,c+d,l[k].Ee⟩:Az)) Db fun a7 c7 F7=>?_;exact AD):p:=h
theorem FI{p:Prop}(h:p:=by intro b hb;simp only [Pc.F] at hb ⊢;simp [hb]):p:=h
theorem FO{p:Prop}(h:p:=by simp [Value.oneCell']):p:=h
theorem GD{p:Prop}(h:p:=by simpa [fp,Pc.F,aN] using hn):p:=h
theorem GP{p:Prop}(h:p:=by simp [fp,Pc.F]):p:=h
theorem GW{p:Prop}(h:p:=by exact Jl):p:=h
theorem HE{p:Prop}(h:p:=by show (0:Nat)<=maxLen;exact aG _):p:=h
theorem HI{p:Prop}(h:p:=by intro b hb;simp only [Pc.F] at hb ⊢;exact hG b (by simp [hb])):p:=h
theorem HW{p:Prop}(h:p:=by intro p hp;simp at hp;subst hp;rfl):p:=h
theorem IP{p:Prop}(h:p:=by rw [Ig hk];simp [Ty,h5,h6,h7]):p:=h
theorem IQ{p:Prop}(h:p:=by rw [Ig hk];simp [T7,h5,h6,h7]):p:=h
theorem IR{p:Prop}(h:p:=by rw [Ig hk];simp [P3,h5,h6,h7]):p:=h
theorem IV{p:Prop}(h:p:=by intro q hq;obtain rfl:=aM.1 hq;exact ⟨_,rfl,_,_,_,_,rfl,(s.get m1).2,(s.get m2).2,rfl⟩):p:=h
theorem JJ{p:Prop}(h:p:=by rw [bw];omega):p:=h
theorem JK{p:Prop}(h:p:=by rw [Gk,Nc (by omega)];exact Dv 5 _ (by have:(10:Nat) ^ (5+1)=1000000:=rfl;omega)):p:=h
theorem KD{p:Prop}(h:p:=by rw [bf,aP];omega):p:=h
theorem KS{p:Prop}(h:p:=by simp [hy]):p:=h
end Go.Proofs.YtkoldibamfjghaaGreatDoor
namespace Go.Proofs.YtkoldibamfjghaaGreatDoor
open Go.RowKit
theorem Jl {p:Prop} (h:p:=by first|omega|(simp only [aA,aP,aX,aU,aY,bU,bw];omega)):p:=h
def EC (m:Nat):Bt (am) where
 sz:=m
 L8 _ cs x F:=cs=x/\(x.length=m/\∀u∈x,u.oneCell'=true)/\F=[]
 len h:=by obtain ⟨rfl,⟨h,_⟩,_⟩:=h;exact h
 lt h:=by obtain ⟨_,_,rfl⟩:=h;simp
 frame h _:=h
theorem H5 (m:Nat):Aao (EC m):=fun h=>h.2.2
theorem Pp (m:Nat):One (EC m):=fun h=>by obtain ⟨rfl,⟨_,h⟩,_⟩:=h;exact h
theorem Akt {m:Nat} {w:World}:∀{ys:List (am)} {cs:am} {F:aq},Cz (EC m) w cs ys F->cs=ys.flatten/\F=[]/\∀y∈ys,y.length=m
 | [],_,_,h=>⟨h.1,h.2,FB⟩
 | y::r,_,_,h=>by
  obtain ⟨c1,c2,F1,F2,rfl,rfl,⟨rfl,⟨h1,_⟩,rfl⟩,h2⟩:=h;obtain ⟨rfl,rfl,h4⟩:=Akt h2;refine ⟨FB,rfl,fun z hz=>?_⟩;rcases aH.1 hz with rfl|hz
  ·exact h1
  ·exact h4 z hz
theorem Aku {α:Type} {E:Bt α} {w w':World} (one:One E):∀{xs:List α} {cs:am} {G:aq},Cz E w cs xs G->∃ys:List (am),ys.length=xs.length/\cs=ys.flatten/\(∀y∈ys,y.length=E.sz)/\Cz (EC E.sz) w' cs ys []
 | [],_,_,h=>⟨[],rfl,h.1,FB,h.1,rfl⟩
 | x::r,_,_,h=>by
  obtain ⟨c1,c2,F1,F2,rfl,rfl,h1,h2⟩:=h;obtain ⟨ys,e1,rfl,e2,h3⟩:=Aku (w':=w') one h2;refine ⟨c1::ys,by simp [e1],FB,fun z hz=>?_,c1,ys.flatten,[],[],rfl,rfl,⟨rfl,⟨E.len h1,one h1⟩,rfl⟩,h3⟩;rcases aH.1 hz with rfl|hz
  ·exact E.len h1
  ·exact e2 z hz
theorem Amx {m:Nat}:∀{ys:List (am)},(∀y∈ys,y.length=m)->ys.flatten.length=ys.length * m
 | [],_=>by simp
 | y::r,h=>by
  have:=Amx (m:=m) (ys:=r) fun z hz=>h z IW;rw [cm,aA,this,h y FB,aU,cH];omega
theorem Cz.cut {α:Type} {E:Bt α} {w:World} {c1 c2:am} {x1 x2:List α} {G:aq} (h:Cz E w (c1++c2) (x1++x2) G) (hl:c1.length=x1.length * E.sz):∃G1 G2,G=G1++G2/\Cz E w c1 x1 G1/\Cz E w c2 x2 G2:=by
 obtain ⟨d1,d2,G1,G2,he,hG,h1,h2⟩:=h.split;have:d1.length=c1.length:=by rw [h1.len,hl]
 obtain ⟨rfl,rfl⟩:=eL he this.symm;exact ⟨G1,G2,hG,h1,h2⟩
theorem Aze:∀{N:List Pc},(fp N).Nodup->Sc N
 | [],_=>trivial
 | p::N,h=>⟨fun q hq _ b hb hqb=>Auq h hb (Rh.2 ⟨q,hq,hqb⟩),Aze (bN.1 h).2.1⟩
theorem St.swap {G D w0 H M N R w} (s:St G D w0 H w) (hM:Kj H M R) (hm:∀p∈M,p.mu=true) (hN:Ob N w) (hnd:(fp M).Nodup->(fp N).Nodup) (hF:∀b∈fp N,b∈fp M):St G D w0 (N++R) w :=
 have s1:St G D w0 (M++R) w:=by simpa using hM.st (X:=[]) HT
 have sM:Sc M:=by
  have:∀(M:List Pc),Sc (M++R)->Sc M:=by
   intro M
   induction M with
   | nil=>intro _;trivial
   | cons p M ih=>intro h;exact ⟨fun q hq=>h.1 q GB,ih h.2⟩
  exact this M s1.sep
 have hn:(fp M).Nodup:=Amz IT (fun p hp=>s1.on p HH) sM
 St.turn (M:=M) (N:=N) s1 (Ei.refl _ w) hN (Aze (hnd hn)) fun p hp b hb=>by
  obtain ⟨q,hq,hqb⟩:=Rh.1 (hF b (Rh.2 ⟨p,hp,hb⟩));exact .inr (.inl ⟨q,hq,hm q hq,hqb⟩)
section
variable {c:Cx} {fr:Fr} {H:List Pc} {Φ:Gl}
theorem Ac8 {α:Type} {E:Bt α} (one:One E) {t:TypeId} {v:Value} {xs:List α} {F:aq} {S:List Pc} {m:Nat} (hm:E.sz=m)
  (h:∀(ys:List (am)) F0 G,ys.length=xs.length->(∀y∈ys,y.length=m)->T c fr (.ow (EC m) t v ys F0::.flat E ys.flatten xs G::S) Φ) (hp:C2 H (.ow E t v xs F) S:=by exact Dt):T c fr H Φ:=.mk fun a w s g=>by
 subst hm;have s1:=s.pick hp;obtain ⟨hnd,ho⟩:=s1.on (.ow E t v xs F) FB;rcases ho with ⟨rfl,rfl,rfl⟩|⟨b,cap,cs,rest,G,rfl,h2,h3,h4,h5,h6,rfl⟩
 ·refine (h [] [] [] rfl FB).h a w (s1.swap (M:=[_]) (N:=[.ow (EC E.sz) t (ab none 0 0) [] [],.flat E [] [] []]) (.cons .here .nil) HW ?_ (fun _=>by simp [fp,Pc.F]) GP) g;intro p hp;simp only [aH,aT,bm] at hp;rcases hp with rfl|rfl
  ·exact ⟨FB,.inl ⟨rfl,rfl,rfl⟩⟩
  ·exact ⟨FB,rfl,rfl⟩
 ·obtain ⟨ys,e1,rfl,e2,h7⟩:=Aku (w':=w) one h6;refine (h ys [b] G e1 e2).h a w (s1.swap (M:=[_]) (N:=[.ow (EC E.sz) t (ab (some ⟨b,0,none⟩) xs.length cap) ys [b],.flat E ys.flatten xs G]) (.cons .here .nil) HW ?_ (fun hn=>by simpa [fp,Pc.F] using hn) GP) g;intro p hp;simp only [aH,aT,bm] at hp;rcases hp with rfl|rfl
  ·exact ⟨FB,.inr ⟨b,cap,ys.flatten,rest,[],by rw [e1],h2,by rw [e1];exact h3,h4,h5,h7,rfl⟩⟩
  ·exact ⟨(dl.1 hnd).2,h6⟩
theorem Azq {α:Type} {E:Bt α} {t:TypeId} {a:aj} {n cp:Nat} {ys:List (am)} {cs:am} {xs:List α} {F G:aq} {S S2:List Pc} {m:Nat}
  (h:T c fr (.ow E t (ab a n cp) xs (F++G)::S2) Φ) (hm:E.sz=m) (hc:cs=ys.flatten) (hl:ys.length=xs.length) (hp:C2 H (.ow (EC m) t (ab a n cp) ys F) S:=by exact Dt) (hp2:C2 S (.flat E cs xs G) S2:=by exact Dt):T c fr H Φ:=.mk fun ac w s g=>by
 subst hm hc;have a1:=s.on _ hp.mem;have a2:=s.on _ (hp.sub _ hp2.mem);obtain ⟨nd1,o1⟩:=a1;obtain ⟨nd2,f2⟩:=a2;refine h.h ac w (s.swap (M:=[.ow (EC E.sz) t (ab a n cp) ys F,.flat E ys.flatten xs G]) (N:=[.ow E t (ab a n cp) xs (F++G)]) (.cons hp (.cons hp2 .nil)) (by intro p hp;simp at hp;rcases hp with rfl|rfl <;> rfl) ?_ (fun hn=>by simpa [fp,Pc.F] using hn) GP) g;have hnd:(F++G).Nodup:=by
  have s2:=s.pick hp;refine bN.2 ⟨nd1,nd2,fun b hb b' hb' e=>?_⟩;subst e;exact s2.sep.1 (.flat E ys.flatten xs G) hp2.mem rfl b hb hb'
 intro p hp;simp only [aH,aT,bm] at hp;subst hp;refine ⟨hnd,?_⟩;rcases o1 with ⟨h1,rfl,rfl⟩|⟨b,cap,cs,rest,G',h1,h2,h3,h4,h5,h6,rfl⟩
 ·cases h1;have:xs=[]:=bF hl.symm;subst this;exact .inl ⟨rfl,rfl,by simpa using f2.2⟩
 ·cases h1;obtain ⟨rfl,rfl, -⟩:=Akt h6;exact .inr ⟨b,cp,ys.flatten,rest,G,by rw [hl],h2,by rw [<-hl];exact h3,h4,h5,f2,rfl⟩
theorem Azs {α:Type} {E:Bt α} {ys:List (am)} {xs:List α} {G:aq} {S:List Pc} (i:Nat) (hi:i < xs.length) (hl:ys.length=xs.length) (hm:∀y∈ys,y.length=E.sz)
  (h:∀G1 Gi G2,T c fr (.flat E (ys.take i).flatten (xs.take i) G1::.own E (.agg (ys[i]'EZ).toArray) xs[i] Gi::.flat E (ys.drop (i+1)).flatten (xs.drop (i+1)) G2::S) Φ) (hp:C2 H (.flat E ys.flatten xs G) S:=by exact Dt):T c fr H Φ:=.mk fun ac w s g=>by
 have s1:=s.pick hp;obtain ⟨hnd,hf⟩:=s1.on (.flat E ys.flatten xs G) FB;have e1:ys.flatten=(ys.take i).flatten++(ys[i]'EZ++(ys.drop (i+1)).flatten):=by
  rw [<-cm,<-bS,<-dg,bo]
 have e2:xs=xs.take i++([xs[i]]++xs.drop (i+1)):=FB
 have hf2:Cz E w ((ys.take i).flatten++(ys[i]'EZ++(ys.drop (i+1)).flatten)) (xs.take i++([xs[i]]++xs.drop (i+1))) G:=by rw [<-e1,<-e2];exact hf
 obtain ⟨G1,G',rfl,f1,f2⟩:=hf2.cut (by rw [Amx (m:=E.sz) fun y hy=>hm y (bO hy)];simp [hl]);obtain ⟨Gi,G2,rfl,⟨d1,d2,F1,F2,h1,h2,h3,h4⟩,f3⟩:=f2.cut (by rw [hm _ (aB _)];simp);obtain ⟨rfl,rfl⟩:=h4;simp only [bg] at h1 h2;subst h1 h2;refine (h G1 Gi G2).h ac w (s1.swap (M:=[_]) (N:=[.flat E (ys.take i).flatten (xs.take i) G1,.own E (.agg (ys[i]'EZ).toArray) xs[i] Gi,.flat E (ys.drop (i+1)).flatten (xs.drop (i+1)) G2]) (.cons .here .nil) HW ?_ (fun hn=>by simpa [fp,Pc.F] using hn) GP) g
 have hn1:=bN.1 hnd;have hn2:=bN.1 hn1.2.1;intro p hp;simp only [aH,aT,bm] at hp;rcases hp with rfl|rfl|rfl
 ·exact ⟨hn1.1,f1⟩
 ·exact ⟨hn2.1,_,rfl,h3⟩
 ·exact ⟨hn2.2.1,f3⟩
theorem Asg {α:Type} {E:Bt α} {c1 c2:am} {x1 x2:List α} {G1 G2:aq} {S S2:List Pc} (h:T c fr (.flat E (c1++c2) (x1++x2) (G1++G2)::S2) Φ) (hp:C2 H (.flat E c1 x1 G1) S:=by exact Dt) (hp2:C2 S (.flat E c2 x2 G2) S2:=by exact Dt):T c fr H Φ:=.mk fun ac w s g=>by
 obtain ⟨nd1,f1⟩:=s.on _ hp.mem;obtain ⟨nd2,f2⟩:=s.on _ (hp.sub _ hp2.mem);refine h.h ac w (s.swap (M:=[.flat E c1 x1 G1,.flat E c2 x2 G2]) (N:=[.flat E (c1++c2) (x1++x2) (G1++G2)]) (.cons hp (.cons hp2 .nil)) (by intro p hp;simp at hp;rcases hp with rfl|rfl <;> rfl) ?_ (fun hn=>by simpa [fp,Pc.F] using hn) GP) g;intro p hq;simp only [aH,aT,bm] at hq;subst hq;refine ⟨bN.2 ⟨nd1,nd2,fun b hb b' hb' e=>?_⟩,f1.append f2⟩;subst e;exact (s.pick hp).sep.1 (.flat E c2 x2 G2) hp2.mem rfl b hb hb'
def Bdb {α:Type} (E:Bt α) (t:TypeId) (g:Nat) (v:Value) (xs:List α) (i:Nat) (A B c1 c2:am):Prop :=
 ∀w cs y G1 Gi G2,Ib w g t (A++cs++B)->Cz E w c1 (xs.take i) G1->E.L8 w cs y Gi->Cz E w c2 (xs.drop (i+1)) G2->Ow E t w v (xs.set i y) (g::(G1++Gi++G2))
theorem Aca {α:Type} {E:Bt α} {t:TypeId} {a:aj} {n cp m:Nat} {xs:List α} {F:aq} {S:List Pc} (i:Nat)
  (h:∀(_:i < xs.length) g A cs B c1 c2 G1 Gi G2,a=some ⟨g,0,none⟩->n=xs.length->n<=cp->Bdb E t g (ab (some ⟨g,0,none⟩) n cp) xs i A B c1 c2->T c fr (.row g t (0+i * m) A cs B::.own E (.agg cs.toArray) xs[i] Gi::.flat E c1 (xs.take i) G1::.flat E c2 (xs.drop (i+1)) G2::S) Φ)
  (hm:E.sz=m) (hi:i < xs.length) (hp:C2 H (.ow E t (ab a n cp) xs F) S:=by exact Dt):T c fr H Φ:=.mk fun ac w s ag=>by
 subst hm;have s1:=s.pick hp;obtain ⟨hnd,ho⟩:=s1.on (.ow E t (ab a n cp) xs F) FB;rcases ho with ⟨-,rfl, -⟩|⟨g,cap,cs0,rest,G,h1,h2,h3,h4,h5,h6,rfl⟩
 ·simp at hi
 cases h1;obtain ⟨A,cs,B,G1,Gi,G2,rfl,rfl,hA,hc,f1,f2,f3⟩:=h6.focus i hi
 refine (h hi g A cs (B++rest) A B G1 Gi G2 rfl rfl h3 ?_).h ac w (s1.swap (M:=[_]) (N:=[.row g t (0+i * E.sz) A cs (B++rest),.own E (.agg cs.toArray) xs[i] Gi,.flat E A (xs.take i) G1,.flat E B (xs.drop (i+1)) G2]) (.cons .here .nil) HW ?_ (fun hn=>?_) (fun b hb=>?_)) ag
 ·intro w' cs' y G1' Gi' G2' hr k1 k2 k3;have:=Cz.build hi k1 k2 k3;have hl:=this.len;exact .inr ⟨g,cp,A++cs'++B,rest,G1'++Gi'++G2',FB,GK,HX,h4,by
   have e1:=E.len k2;simp only [aA] at h5 ⊢;omega,this,rfl⟩
 ·have hn1:=bN.1 (dl.1 hnd).2;have hn2:=bN.1 hn1.1;intro p hp;simp only [aH,aT,bm] at hp;rcases hp with rfl|rfl|rfl|rfl
  ·exact ⟨EZ,HK⟩
  ·exact ⟨hn2.2.1,_,rfl,f2⟩
  ·exact ⟨hn2.1,f1⟩
  ·exact ⟨hn1.2.1,f3⟩
 ·have:(g::(G1++Gi++G2)).Perm ([g]++(Gi++(G1++(G2++[])))):=by
   simp only [dG,bg,aN];refine List.Perm.cons _ ?_;rw [<-aN,<-aN];exact (fV).append_right _
  exact this.nodup_iff.1 (by simpa [fp,Pc.F] using hn)
 ·simp only [fp,Pc.F,bg,aK,aH,aT,bm] at hb ⊢
  grind
theorem V0 {α:Type} {E:Bt α} {t:TypeId} {g o i:Nat} {u v:Value} {xs:List α} {A cs B c1 c2:am} {x1 x2:List α} {G1 Gi G2:aq} {S1 S2 S3 S4:List Pc} (y:α) (hh:Bdb E t g u xs i A B c1 c2) (hv:v=.agg cs.toArray) (h:∀F',T c fr (.ow E t u (xs.set i y) F'::S4) Φ) (e1:x1=xs.take i:=by rfl) (e2:x2=xs.drop (i+1):=by rfl)
  (hp1:C2 H (.row g t o A cs B) S1:=by exact Dt) (hp2:C2 S1 (.own E v y Gi) S2:=by exact Dt) (hp3:C2 S2 (.flat E c1 x1 G1) S3:=by exact Dt) (hp4:C2 S3 (.flat E c2 x2 G2) S4:=by exact Dt):T c fr H Φ:=.mk fun ac w s ag=>by
 subst hv e1 e2;have hP:Kj H [.row g t o A cs B,.own E (.agg cs.toArray) y Gi,.flat E c1 (xs.take i) G1,.flat E c2 (xs.drop (i+1)) G2] S4:=.cons hp1 (.cons hp2 (.cons hp3 (.cons hp4 .nil)));have s1:St c.G c.D c.w0 ([.row g t o A cs B,.own E (.agg cs.toArray) y Gi,.flat E c1 (xs.take i) G1,.flat E c2 (xs.drop (i+1)) G2]++S4) w:=by simpa using hP.st (X:=[]) HT
 obtain ⟨-,r⟩:=s1.on (.row g t o A cs B) FB;obtain ⟨-,cs',e,hr⟩:=s1.on (.own E (.agg cs.toArray) y Gi) FB;obtain rfl:cs=cs':=JZ
 have f1:=(s1.on (.flat E c1 (xs.take i) G1) FB).2;have f3:=(s1.on (.flat E c2 (xs.drop (i+1)) G2) FB).2;have hO:=hh w cs y G1 Gi G2 r f1 hr f3;have hpm:(g::(G1++Gi++G2)).Perm ([g]++(Gi++(G1++(G2++[])))):=by
  simp only [dG,bg,aN];refine List.Perm.cons _ ?_;rw [<-aN,<-aN];exact (fV).append_right _
 have hmM:∀p∈[Pc.row g t o A cs B,.own E (.agg cs.toArray) y Gi,.flat E c1 (xs.take i) G1,.flat E c2 (xs.drop (i+1)) G2],p.mu=true:=by intro p hp;simp only [aH,aT,bm] at hp;rcases hp with rfl|rfl|rfl|rfl <;> rfl
 have hndM:(fp [Pc.row g t o A cs B,.own E (.agg cs.toArray) y Gi,.flat E c1 (xs.take i) G1,.flat E c2 (xs.drop (i+1)) G2]).Nodup:=Amz (by simpa using hmM) (fun p hp=>s1.on p (cK _ hp)) (by
  have sp:=s1.sep;exact ⟨fun q hq=>sp.1 q (cK _ hq),fun q hq=>sp.2.1 q (cK _ hq),fun q hq=>sp.2.2.1 q (cK _ hq),fun q hq=>sp.2.2.2.1 q (cK _ hq),trivial⟩)
 have hnd:(g::(G1++Gi++G2)).Nodup:=hpm.nodup_iff.2 (by simpa [fp,Pc.F] using hndM);refine (h (g::(G1++Gi++G2))).h ac w (s.swap hP hmM (N:=[.ow E t u (xs.set i y) (g::(G1++Gi++G2))]) (by intro p hp;rw [aM] at hp;subst hp;exact ⟨hnd,hO⟩) (fun _=>by simpa [fp,Pc.F] using hnd) (fun b hb=>?_)) ag;simp only [fp,Pc.F,bg,aK,aH,aT,bm] at hb ⊢
 grind
theorem Ab0 {α:Type} {E:Bt α} {t e m b:Nat} {z:Value} [hS:SlC c.P t e m] [hE:ElT c.P e z m b] {xs:List α} {F Fy:aq} {g tt:Nat} {cs:am} {u:Value} {R R2 S:List Pc} {d:Nat} {ty:TypeId} {v:Value} {x y:Operand} (one:One E) (ey:α) (hu:u=.agg cs.toArray)
  (h:∀a' c' F',T c ((d,.slice a' (xs++[ey]).length c')::fr) (.ow E e (.slice a' (xs++[ey]).length c') (xs++[ey]) F'::S) Φ)
  (hx:ev fr x=some v:=by rfl) (hy:ev fr y=some (ab (some ⟨g,0,none⟩) 1 1):=by rfl) (hp:C2 H (.ow E e v xs F) R:=by exact Dt) (hp2:C2 R (.row g tt 0 [] cs []) R2:=by exact Dt) (hp3:C2 R2 (.own E u ey Fy) S:=by exact Dt) (hz:0 < E.sz:=by decide) (hm:E.sz=m:=by rfl)
  (h63:xs.length+1<=9223372036854775807:=by omega) (hby:(xs.length+1) * b<=140737488355328:=by omega) (hd:Nat.blt d c.n=true:=by rfl) :
  On c fr H (some d) (.call { callee:=.builtin .append,args:=#[x,y],argTypes:=#[t,t] }) ty Φ:=⟨fun _ _ _=>by
 subst hu;refine ap (ys:=[ey]) (Fy:=Fy) (S:=S) one hz hm hp hx hy rfl (fun w s=>?_) (fun w v' F' s hF w' hk hv=>?_) (by unfold maxLen;exact h63) hby h hd
 ·have hro:=s.on (.row g tt 0 [] cs []) (by simp [hp2.mem]);have how:=s.on (.own E (.agg cs.toArray) ey Fy) (by simp [hp2.sub _ hp3.mem]);obtain ⟨hnd,cs',e1,hrep⟩:=how;obtain rfl:cs=cs':=by simpa using e1
  refine ⟨cs,Cz.one hrep,.inr ⟨_,rfl,fun j u hu=>?_⟩,fun b hb hbF=>?_,hnd⟩
  ·have hr:=hro.2;have:=hr.cell j;simp only [aZ,bg] at this;rw [hu] at this;unfold Addr.add
   split
   ·rename_i e;subst e;exact this
   ·exact EX
  ·exact s.sep.1 (.own E (.agg cs.toArray) ey Fy) (hp2.sub _ hp3.mem) rfl b hbF hb
 ·have hP:Kj (.ow E e v xs F::R) [.ow E e v xs F,.own E (.agg cs.toArray) ey Fy,.row g tt 0 [] cs []] S:=.cons .here (by
   have:∀{R R2 S:List Pc} {p q:Pc},C2 R p R2->C2 R2 q S->Kj R [q,p] S:=by
    intro R R2 S p q h1
    induction h1 generalizing S with
    | here=>intro h2;exact .cons (.there h2) (.cons .here .nil)
    | @there x p R R' h ih =>
     intro h2;cases h2 with
     | here=>exact .cons .here (.cons h .nil)
     | there h3 =>
      cases ih h3 with
      | cons a1 a2 =>
       cases a2 with
       | cons b1 b2=>cases b2;exact .cons (.there a1) (.cons (.there b1) .nil)
   exact this hp2 hp3)
  have s1:St c.G c.D c.w0 ([.ow E e v xs F,.own E (.agg cs.toArray) ey Fy]++S) w:=by
   have s0:St c.G c.D c.w0 ([.ow E e v xs F,.own E (.agg cs.toArray) ey Fy,.row g tt 0 [] cs []]++S) w:=by simpa using hP.st (X:=[]) HT
   have sp:=s0.sep;have hm3:∀q,q∈[Pc.ow E e v xs F,.own E (.agg cs.toArray) ey Fy]++S->q∈[Pc.ow E e v xs F,.own E (.agg cs.toArray) ey Fy,.row g tt 0 [] cs []]++S:=fun q hq=>by
    simp only [cj,aZ,aH] at hq ⊢;rcases hq with h|h|h
    ·exact .inl h
    ·exact .inr (.inl h)
    ·exact .inr (.inr (.inr h))
   exact ⟨s0.I0,fun q hq=>s0.on q (hm3 q hq),⟨fun q hq=>sp.1 q (by
    rcases aH.1 hq with h|h
    ·simp [h]
    ·exact aQ _ (aQ _ h)),fun q hq=>sp.2.1 q (aQ _ hq),sp.2.2.2⟩,fun q hq=>s0.Acu q (hm3 q hq)⟩
  refine St.turn (M:=[.ow E e v xs F,.own E (.agg cs.toArray) ey Fy]) (N:=[.ow E e v' (xs++[ey]) F']) s1 (hk.mono (fun b hb _=>by simp [List.filter,Pc.mu,fp,Pc.F,hb])) IX ⟨FB,trivial⟩ ?_;intro q hq b hb;simp only [aH,aT,bm] at hq;subst hq;rcases hF b hb with h|h|h
  ·exact .inr (.inl ⟨.ow E e v xs F,FB,rfl,h⟩)
  ·exact .inr (.inl ⟨.own E (.agg cs.toArray) ey Fy,FB,rfl,h⟩)
  ·exact .inl EZ⟩
theorem Azv {α:Type} {E:Bt α} {a:aj} {n cp:Nat} {xs:List α} {F:aq} (k:Nat) (hk:k<=xs.length) (h:∀F',n<=cp->cp<=9223372036854775807->T c fr (.sl E (ab a k cp) (xs.take k) F'::H) Φ) (hm:.sl E (ab a n cp) xs F∈H:=by exact Bl):T c fr H Φ:=.mk fun ac w s g=>by
 obtain ⟨hz,hs⟩:=s.get hm;obtain ⟨rfl,hnc,hmx⟩:=hs.caps;obtain ⟨F',hF,h2⟩:=hs.takeS k hk;exact (h F' hnc (by unfold maxLen at hmx;omega)).h ac w (s.ro hm rfl rfl ⟨hz,h2⟩ hF) g
/-! the same for slices that read -/
def EA {α:Type} (E:Bt α) (n:Nat):Bt (List α) where
 sz:=n * E.sz
 L8 w cs xs F:=xs.length=n/\Cz E w cs xs F
 len h:=by obtain ⟨rfl,h⟩:=h;exact h.len
 lt h:=h.2.lt
 frame h hF:=⟨h.1,h.2.frame hF⟩
theorem Ae3 {α:Type} {E:Bt α} (one:One E) {a:aj} {n cp:Nat} {xs:List α} {F:aq} {m:Nat} (hm:E.sz=m)
  (h:∀(ys:List (am)) F1 F2,ys.length=xs.length->(∀y∈ys,y.length=m)->T c fr (.sl (EC m) (ab a n cp) ys F1::.isv (EA E xs.length) (.agg ys.flatten.toArray) xs F2::H) Φ) (hp:.sl E (ab a n cp) xs F∈H:=by exact Bl):T c fr H Φ:=.mk fun ac w s g=>by
 subst hm;obtain ⟨hz,a',cap,hv,hl,hh⟩:=s.get hp;cases hv;rcases hh with ⟨rfl,rfl,h0⟩|⟨b,off,F',rfl,hne,rfl,hc⟩
 ·refine (h [] [] [] rfl FB).h ac w (s.add (N:=[.sl (EC E.sz) (ab a 0 cp) [] [],.isv (EA E 0) (.agg #[]) [] []]) (Below.refl _ _) ?_ ?_ ?_) g
  ·intro p hp;simp only [aH,aT,bm] at hp;rcases hp with rfl|rfl
   ·exact ⟨hz,a,cp,rfl,hl,.inl ⟨rfl,rfl,h0⟩⟩
   ·exact ⟨[],rfl,rfl,rfl,rfl⟩
  ·exact ⟨fun q _ hm=>by simp at *;subst_vars;simp [Pc.mu] at hm,fun q hq=>by simp at hq,trivial⟩
  ·intro p hp b hb;simp only [aH,aT,bm] at hp;rcases hp with rfl|rfl <;> simp [Pc.F] at hb
 ·have key:∀(xs:List α) (off:Nat) (G:aq),N4 E w b off xs G->∃cs,Cz E w cs xs G/\∀j u,cs[j]?=some u->w.cell? ⟨b,off+j,none⟩=some u:=by
   intro xs
   induction xs with
   | nil=>intro off G h;exact ⟨[],⟨rfl,h⟩,FB⟩
   | cons x r ih =>
    intro off G h;obtain ⟨c1,F1,F2,rfl,h1,h2,h3⟩:=h;obtain ⟨c2,f2,k2⟩:=ih _ _ h3;have hl1:=E.len h1;refine ⟨c1++c2,⟨c1,c2,F1,F2,rfl,rfl,h1,f2⟩,fun j u hu=>?_⟩;by_cases hj:j < c1.length
    ·rw [bB hj] at hu;rw [h2 j EZ];exact hu
    ·rw [bX EZ] at hu;have:=k2 _ _ hu
     rwa [show off+E.sz+(j - c1.length)=off+j by omega] at this
  obtain ⟨cs,f1,k1⟩:=key xs off F' hc;obtain ⟨ys,e1,rfl,e2,f2⟩:=Aku (w':=w) one f1;have hys:ys≠[]:=by rintro rfl;exact hne (bF e1.symm)
  refine (h ys [b] F' e1 e2).h ac w (s.add (N:=[.sl (EC E.sz) (ab (some ⟨b,off,none⟩) xs.length cp) ys [b],.isv (EA E xs.length) (.agg ys.flatten.toArray) xs F']) (Below.refl _ _) ?_ ?_ ?_) g
  ·intro p hp;simp only [aH,aT,bm] at hp;rcases hp with rfl|rfl
   ·refine ⟨hz,_,cp,by rw [e1],by rw [e1];exact hl,.inr ⟨b,off,[],rfl,hys,rfl,f2.cells (fun j u hu=>k1 j u hu)⟩⟩
   ·exact ⟨_,rfl,rfl,f1⟩
  ·exact ⟨fun q hq hm=>by simp only [aH,aT,bm] at hq;subst hq;simp [Pc.mu] at hm,fun q hq=>by simp at hq,trivial⟩
  ·intro p hq z hb;simp only [aH,aT,bm] at hq;rcases hq with rfl|rfl
   ·exact .inr ⟨rfl,_,hp,rfl,by simp only [Pc.F,aH,aT,bm] at hb ⊢;exact .inl hb⟩
   ·exact .inr ⟨rfl,_,hp,rfl,by simp only [Pc.F,aH] at hb ⊢;exact .inr hb⟩
theorem Ps {α:Type} {E:Bt α} {a:aj} {n cp m k:Nat} {ys:List (am)} {v:Value} {xs:List α} {F G:aq} (hm:E.sz=m) (hl:ys.length=xs.length) (hv:v=.agg ys.flatten.toArray)
  (h:∀F',T c fr (.sl E (ab a n cp) xs F'::H) Φ) (hp:.sl (EC m) (ab a n cp) ys F∈H:=by exact Bl) (hp2:.isv (EA E k) v xs G∈H:=by exact Bl):T c fr H Φ:=.mk fun ac w s g=>by
 subst hm hv;obtain ⟨hz,a',cap,hv,hlc,hh⟩:=s.get hp;cases hv;obtain ⟨cs,e, -,hf⟩:=s.get hp2;obtain rfl:ys.flatten=cs:=JZ
 rcases hh with ⟨rfl,rfl,h0⟩|⟨b,off,F',rfl,hne,rfl,hc⟩
 ·have:xs=[]:=bF hl.symm;subst this;refine (h []).h ac w (s.add (N:=[.sl E (ab a 0 cp) [] []]) (Below.refl _ _) (by intro p hp;simp only [aH,aT,bm] at hp;subst hp;exact ⟨hz,a,cp,rfl,hlc,.inl ⟨rfl,rfl,h0⟩⟩) ⟨FB,trivial⟩ (by intro p hp b hb;simp only [aH,aT,bm] at hp;subst hp;simp [Pc.F] at hb)) g
 ·have hxs:xs≠[]:=by rintro rfl;exact hne (bF hl)
  have key:∀(ys:List (am)) (off:Nat) (G:aq),N4 (EC E.sz) w b off ys G->∀j u,ys.flatten[j]?=some u->w.cell? ⟨b,off+j,none⟩=some u:=by
   intro ys
   induction ys with
   | nil=>intro off G _ j u hu;simp at hu
   | cons y r ih =>
    intro off G h j u hu;obtain ⟨c1,F1,F2,rfl,⟨rfl,⟨hy, -⟩, -⟩,h2,h3⟩:=h;rw [cm] at hu;by_cases hj:j < c1.length
    ·rw [bB hj] at hu;rw [h2 j (by show j < E.sz;omega)];exact hu
    ·rw [bX EZ] at hu;have:=ih _ _ h3 _ _ hu
     rwa [show off+(EC E.sz).sz+(j - c1.length)=off+j by show off+E.sz+(j - c1.length)=off+j;omega] at this
  refine (h (b::G)).h ac w (s.add (N:=[.sl E (ab (some ⟨b,off,none⟩) ys.length cp) xs (b::G)]) (Below.refl _ _) (by
   intro p hp;simp only [aH,aT,bm] at hp;subst hp;exact ⟨hz,_,cp,by rw [hl],by rw [<-hl];exact hlc,.inr ⟨b,off,G,rfl,hxs,rfl,hf.cells (fun j u hu=>key ys off F' hc j u hu)⟩⟩) ⟨FB,trivial⟩ (by
   intro p hq z hb;simp only [aH,aT,bm] at hq;subst hq;simp only [Pc.F,aH] at hb;rcases hb with rfl|hb
   ·exact .inr ⟨rfl,_,hp,rfl,JB⟩
   ·exact .inr ⟨rfl,_,hp2,rfl,hb⟩)) g
theorem Aos {α:Type} {E:Bt α} {v:Value} {x:α} {F:aq} (h:T c fr (.isv (EA E 1) v [x] F::H) Φ) (hp:.isv E v x F∈H:=by exact Bl):T c fr H Φ:=.mk fun ac w s g=>by
 obtain ⟨cs,e,hr⟩:=s.get hp;exact h.h ac w (s.ro hp rfl rfl ⟨cs,e,rfl,Cz.one hr⟩ (fun b hb=>hb)) g
theorem Azr {α:Type} {E:Bt α} {k1 k2:Nat} {c1 c2:am} {v1 v2:Value} {x1 x2:List α} {F1 F2:aq} (e1:v1=.agg c1.toArray) (e2:v2=.agg c2.toArray) (h:T c fr (.isv (EA E (k1+k2)) (.agg (c1++c2).toArray) (x1++x2) (F1++F2)::H) Φ) (hp:.isv (EA E k1) v1 x1 F1∈H:=by exact Bl) (hp2:.isv (EA E k2) v2 x2 F2∈H:=by exact Bl):T c fr H Φ:=.mk fun ac w s g=>by
 subst e1 e2;obtain ⟨cs,e,hl,hf⟩:=s.get hp;obtain ⟨cs2,e2,hl2,hf2⟩:=s.get hp2;obtain rfl:c1=cs:=JZ
 obtain rfl:c2=cs2:=by simpa using e2
 refine h.h ac w (s.add (N:=[.isv (EA E (k1+k2)) (.agg (c1++c2).toArray) (x1++x2) (F1++F2)]) (Below.refl _ _) (by intro p hp;rw [aM] at hp;subst hp;exact ⟨_,rfl,by simp [hl,hl2],hf.append hf2⟩) ⟨FB,trivial⟩ (by
  intro p hq z hb;rw [aM] at hq;subst hq;rcases aK.1 hb with hb|hb
  ·exact .inr ⟨rfl,_,hp,rfl,hb⟩
  ·exact .inr ⟨rfl,_,hp2,rfl,hb⟩)) g
theorem W5 {m:Nat} {cs:am} (hm:cs.length=m) (h1:∀u∈cs,u.oneCell'=true) (w:World):Cz (EC m) w cs [cs] []:=Cz.one ⟨rfl,⟨hm,h1⟩,rfl⟩
theorem Tx {α:Type} {O R:Bt α} (hW:Mq O R) {v:Value} {x:α} {F:aq} {S:List Pc} (h:∀F',T c fr (.isv R v x F'::S) Φ) (hp:C2 H (.own O v x F) S:=by exact Dt):T c fr H Φ:=.mk fun a w s g=>by
 have s1:=s.pick hp;obtain ⟨-,ho⟩:=s1.on (.own O v x F) FB;obtain ⟨F',hF,hs⟩:=Ro.weak hW ho;exact (h F').h a w (s1.conv rfl hs hF) g
end
theorem W7 {p:Pc} {N:List Pc} {w:World} (h:p.P w) (hN:Ob N w):Ob (p::N) w:=fun q hq=>by
 rcases aH.1 hq with rfl|hq
 ·exact h
 ·exact hN q hq
theorem Axa {w:World}:Ob [] w:=fun q hq=>by cases hq
theorem P0 {p:Pc} {N:List Pc} {w:World} (h:Ob (p::N) w):p.P w:=h p FB
theorem Hn {p:Pc} {N:List Pc} {w:World} (h:Ob (p::N) w):Ob N w:=fun q hq=>h q GB
theorem Td {A B:aq} (h:(A++B).Nodup):A.Nodup:=(bN.1 h).1
theorem Anw {A B:aq} (h:(A++B).Nodup):B.Nodup:=(bN.1 h).2.1
theorem St.mer {G D w0 H M N R w} (s:St G D w0 H w) (hM:Kj H M R) (hN:Ob M w->(fp M).Nodup->Ob N w/\(fp N).Nodup) (hF:∀b∈fp N,b∈fp M) (hm:∀p∈M,p.mu=true:=by simp [Pc.mu]):St G D w0 (N++R) w :=
 have s1:St G D w0 (M++R) w:=by simpa using hM.st (X:=[]) HT
 have sM:Sc M:=by
  have:∀(M:List Pc),Sc (M++R)->Sc M:=by
   intro M
   induction M with
   | nil=>intro _;trivial
   | cons p M ih=>intro h;exact ⟨fun q hq=>h.1 q GB,ih h.2⟩
  exact this M s1.sep
 have hh:Ob M w:=fun p hp=>s1.on p HH;have hn:=hN hh (Amz IT hh sM)
 s.swap hM hm hn.1 (fun _=>hn.2) hF
section
variable {c:Cx} {fr:Fr} {H:List Pc} {Φ:Gl}
theorem H9 {v:Value} {x:Cr} {F:aq} (h:∀(a1:aj) (c1:Nat) (F1:aq) (a2:aj) (c2:Nat) (F2:aq),v=.agg #[aa x.Aa.Am,aa x.Aa.size,ab a1 x.Aa.Ak.length c1,aa x.Ai,aa x.quiet,ab a2 x.holds.length c2]->x.Aa.Ak.length<=maxLen->x.holds.length<=maxLen->T c fr (.sl A8 (ab a1 x.Aa.Ak.length c1) x.Aa.Ak F1::.sl Bw (ab a2 x.holds.length c2) x.holds F2::H) Φ) (hm:.isv Ex v x F∈H:=by exact Bl):T c fr H Φ:=.mk fun a w s g=>by
 exact AT
theorem Fb (x:Cr) {a1:aj} {c1:Nat} {F1:aq} {a2:aj} {c2:Nat} {F2:aq}  (h:T c fr (.isv Ex (.agg #[aa x.Aa.Am,aa x.Aa.size,ab a1 x.Aa.Ak.length c1,aa x.Ai,aa x.quiet,ab a2 x.holds.length c2]) x (F1++F2)::H) Φ) (m1:.sl A8 (ab a1 x.Aa.Ak.length c1) x.Aa.Ak F1∈H:=by exact Bl) (m2:.sl Bw (ab a2 x.holds.length c2) x.holds F2∈H:=by exact Bl):T c fr H Φ:=.mk fun a w s g=>by
 refine h.h a w (s.add (N:=[_]) (Below.refl _ _) IV ⟨FB,trivial⟩ fun q hq b hb=>?_) g;obtain rfl:=aM.1 hq;simp only [Pc.F,aK] at hb;rcases hb with hb|hb
 ·exact .inr ⟨rfl,_,m1,rfl,hb⟩
 ·exact .inr ⟨rfl,_,m2,rfl,hb⟩
theorem Xj {v:Value} {x:Cr} {F:aq} {S:List Pc} (h:∀(a1:aj) (c1:Nat) (F1:aq) (a2:aj) (c2:Nat) (F2:aq),v=.agg #[aa x.Aa.Am,aa x.Aa.size,ab a1 x.Aa.Ak.length c1,aa x.Ai,aa x.quiet,ab a2 x.holds.length c2]->x.Aa.Ak.length<=maxLen->x.holds.length<=maxLen->T c fr (.ow A8 9 (ab a1 x.Aa.Ak.length c1) x.Aa.Ak F1::.ow Bw 191 (ab a2 x.holds.length c2) x.holds F2::S) Φ) (hp:C2 H (.own X0 v x F) S:=by exact Dt):T c fr H Φ:=.mk fun a w s g=>by
 obtain ⟨hn,cs,rfl,v1,v2,G1,G2,rfl,h1,h2,rfl⟩:=(s.pick hp).on (.own X0 v x F) FB;obtain ⟨a1,c1,rfl⟩:=h1.slice;have l1:=h1.len;obtain ⟨a2,c2,rfl⟩:=h2.slice;have l2:=h2.len;exact (h a1 c1 G1 a2 c2 G2 rfl  l1 l2).h a w (s.mer (M:=[.own X0 _ x _]) (N:=[.ow A8 _ _ _ G1,.ow Bw _ _ _ G2]) (.cons hp .nil) (fun _ _=>⟨W7 ⟨(Td hn),h1⟩ (W7 ⟨Anw hn,h2⟩ (Axa)),GD⟩) GP) g
theorem Akq (x:Cr) {a1:aj} {c1:Nat} {F1:aq} {a2:aj} {c2:Nat} {F2:aq} {S1 S2:List Pc}  (h:T c fr (.own X0 (.agg #[aa x.Aa.Am,aa x.Aa.size,ab a1 x.Aa.Ak.length c1,aa x.Ai,aa x.quiet,ab a2 x.holds.length c2]) x (F1++F2)::S2) Φ) (m1:C2 H (.ow A8 9 (ab a1 x.Aa.Ak.length c1) x.Aa.Ak F1) S1:=by exact Dt) (m2:C2 S1 (.ow Bw 191 (ab a2 x.holds.length c2) x.holds F2) S2:=by exact Dt)  : T c fr H Φ:=.mk fun a w s g =>
 h.h a w (s.mer (M:=[.ow A8 _ _ _ F1,.ow Bw _ _ _ F2]) (N:=[.own X0 _ x (F1++F2)]) (.cons m1 (.cons m2 (.nil))) (fun hk hn=>⟨Iw ⟨GD,_,rfl,_,_,_,_,rfl,(P0 hk).2,(P0 (Hn hk)).2,rfl⟩,GD⟩) GP) g
end
section
variable {c:Cx} {fr:Fr} {H:List Pc} {Φ:Gl}
theorem An2 {v:Value} {x:Iz} {F:aq} (h:∀(_:Unit),v=.agg #[aa x.Ae,aa x.Co]->T c fr (H) Φ) (hm:.isv Bw v x F∈H:=by exact Bl):T c fr H Φ:=.mk fun a w s g=>by
 obtain ⟨cs,rfl,rfl,rfl⟩:=s.get hm;exact (h () rfl  ).h a w s g
theorem Wt {a:aj} {n cp:Nat} {xs:List Iz} {F:aq} (i:Nat) (h:∀(hi:i < xs.length) (b o:Nat),a=some ⟨b,o,none⟩->T c fr (.cel b (o+i * 2) [aa xs[i].Ae,aa xs[i].Co]::H) Φ) (hm:.sl Bw (ab a n cp) xs F∈H:=by exact Bl) (hi:i < xs.length:=by omega):T c fr H Φ:=.mk fun ac w s g=>by
 exact CR
end
section
variable {c:Cx} {fr:Fr} {H:List Pc} {Φ:Gl}
theorem Gn {v:Value} {x:Aw} {F:aq} (h:∀(a1:aj) (c1:Nat) (F1:aq),v=.agg #[aa x.Am,aa x.size,ab a1 x.Ak.length c1]->x.Ak.length<=maxLen->T c fr (.sl A8 (ab a1 x.Ak.length c1) x.Ak F1::H) Φ) (hm:.isv Cj v x F∈H:=by exact Bl):T c fr H Φ:=.mk fun a w s g=>by
 exact AI
theorem Ct (x:Aw) {a1:aj} {c1:Nat} {F1:aq}  (h:T c fr (.isv Cj (.agg #[aa x.Am,aa x.size,ab a1 x.Ak.length c1]) x (F1)::H) Φ) (m1:.sl A8 (ab a1 x.Ak.length c1) x.Ak F1∈H:=by exact Bl):T c fr H Φ:=.mk fun a w s g=>by
 exact AE
theorem Jw {v:Value} {x:Aw} {F:aq} {S:List Pc} (h:∀(a1:aj) (c1:Nat) (F1:aq),v=.agg #[aa x.Am,aa x.size,ab a1 x.Ak.length c1]->x.Ak.length<=maxLen->T c fr (.ow A8 9 (ab a1 x.Ak.length c1) x.Ak F1::S) Φ) (hp:C2 H (.own Qu v x F) S:=by exact Dt):T c fr H Φ:=.mk fun a w s g=>by
 have z1:=s.pick hp;obtain ⟨hn,cs,rfl,v1,rfl,h1⟩:=z1.on (.own Qu v x F) FB;obtain ⟨a1,c1,rfl⟩:=h1.slice;have l1:=h1.len;refine (h a1 c1 F rfl  l1).h a w (St.turn (M:=[.own Qu (.agg #[aa x.Am,aa x.size,ab a1 x.Ak.length c1]) x _]) (N:=[.ow A8 9 (ab a1 x.Ak.length c1) x.Ak F]) z1 (Ei.refl _ w) ?_ ?_ ?_) g
 ·intro q hq;simp at hq;subst hq;exact ⟨hn,h1⟩
 ·exact ⟨FB,trivial⟩
 ·exact DL
end
def I5 (w:Aw) (n:Int):Bool:=decide (gp w.Am n < (w.Ak.length:Int))
theorem Akp {n:Int} (h:Kq n=true):0<=n/\n<=9999:=by unfold Kq E8 at h;simpa using h
def Ahx (x:Cr) (i:Nat):Bool:=match x.holds[i]? with
 | none=>true
 | some h=>Bz h.Ae && I5 x.Aa h.Ae && E8 (x.Ai+1) h.Co (x.Ai+3) && (decide (i=0) || match x.holds[i - 1]? with|none=>true|some p=>!decide (gp x.Aa.Am h.Ae<=gp x.Aa.Am p.Ae))
theorem Pi {x:Cr} {i:Nat} (h:i < x.holds.length):Ahx x i=(Bz x.holds[i].Ae && I5 x.Aa x.holds[i].Ae && E8 (x.Ai+1) x.holds[i].Co (x.Ai+3) && (decide (i=0) || !decide (gp x.Aa.Am x.holds[i].Ae<=gp x.Aa.Am (x.holds[i - 1]'EZ).Ae))):=by
 unfold Ahx;rw [aD h,aD (show i - 1 < x.holds.length by omega)]
def Ck (x:Cr):Bool:=D8 x.Aa && Kq x.Ai && E8 0 x.quiet 3 && (List.range x.holds.length).all (Ahx x)
theorem Af3 {x:Cr} {i:Nat} (h:i < x.holds.length) (hc:Ahx x i=false):Ck x=false:=by
 have:(List.range x.holds.length).all (Ahx x)=false:=cS.2 ⟨i,FJ,JG⟩;simp [Ck,this]
theorem Ado {x:Cr} (h1:D8 x.Aa=true) (h2:Kq x.Ai=true) (h3:E8 0 x.quiet 3=true) (h:∀j,j < x.holds.length->Ahx x j=true):Ck x=true:=by
 unfold Ck;rw [h1,h2,h3,aW.2 fun j hj=>h j ID];rfl
theorem W8 (x:Aw) (n:Int) (v:Value) (F:aq) (h0:0<=x.Am) (h1:x.Am<=65535) (h2:0<=n) (h3:n<=65535) :
  FV 148 [v,aa n] [.isv Cj v x F] (.bool (I5 x n)):=by
 refine enter func148 rfl ntmps148 fun w0=>?_;refine Gn ?_;rintro a1 c1 F1 rfl l1;refine go ?_;intros;refine Ar [0] [] ?_;refine Df 0 1 2 4 ?_;refine Dh 5 6 ?_;refine dN 3 ?_;exact EG
theorem Yc (x:Aw) (n:Int) (v:Value) (F:aq) (h0:0<=x.Am) (h1:x.Am<=65535) (h2:-1<=n) (h3:n<=65536) :
  FV 203 [v,aa n] [.isv Cj v x F] (.bool (I5 x n)):=by
 refine enter func203 rfl ntmps203 fun w0=>?_;refine Gn ?_;rintro a1 c1 F1 rfl l1;refine go ?_;intros;refine Ar [0] [] ?_;refine Df 0 1 2 4 ?_;refine Dh 5 6 ?_;refine dN 3 ?_;refine oC ?_;refine ce (fun w s=>Jk _ _ _ EZ EZ) ?_;refine dk ?_;refine Dh 7 8 ?_;exact CI
theorem Ank (x:Aw) (n:Int) (v:Value) (F:aq) (h0:0<=x.Am) (h1:x.Am<=65535) (h2:0<=n) (h3:n<=65535) :
  FV 203 [v,aa n] [.isv Cj v x F] (.bool (I5 x n)):=Yc x n v F h0 h1 EZ EZ
theorem Aef (x:Cr) (v:Value) (F:aq):FV 80 [v] [.isv Ex v x F] (.bool (Ck x)):=by
 refine enter func80 rfl ntmps80 fun w0=>?_;refine H9 ?_;rintro a1 c1 F1 a2 c2 F2 rfl l1 l2;unfold maxLen at l1 l2;refine Ct x.Aa ?_;generalize F1=F3;refine go ?_;intros;refine cb (fun w st=>Rk _ x.Aa _ w (st.get (p:=.isv Cj (.agg #[aa x.Aa.Am,aa x.Aa.size,ab a1 x.Aa.Ak.length c1]) x.Aa F3) FB)) ?_;cases g1:D8 x.Aa
 ·refine go ?_;refine ret () trivial ?_;simp [Ck,g1,Tn]
 obtain ⟨⟨t0,t1⟩, -⟩:=Ds.1 g1;refine go ?_;refine ce (fun w s=>Sh _ _) ?_;cases g2:Kq x.Ai
 ·refine go ?_;refine ret () trivial ?_;simp [Ck,g2,Tn]
 obtain ⟨k0,k1⟩:=Akp g2;refine go ?_;refine ce (fun w s=>H1 _ _ _ _) ?_;cases g3:E8 0 x.quiet 3
 ·refine go ?_;refine ret () trivial ?_;simp [Ck,g3,Tn]
 refine go ?_;refine Em [1,2,22,23] (fun k:Nat=>[(24,aa k)]) (fun k=>k<=x.holds.length/\∀j,j < k->Ahx x j=true) (fun k=>x.holds.length - k) 0 ⟨aG _,fun j h=>by omega⟩ fun k hk=>?_;obtain ⟨hk1,hk2⟩:=hk;refine go ?_;refine A4 rfl (fun h3=>?_) (fun h3=>?_)
 ·have hk3:k < x.holds.length:=EZ
  have bad:Ahx x k=false->Ck x=false:=fun h=>Af3 hk3 h;have hck:=Pi hk3;refine Wt (xs:=x.holds) k ?_;rintro hi b o e;rw [e];refine go ?_;intros;refine ce (fun w s=>I6 _ _) ?_;cases g4:Bz x.holds[k].Ae
  ·exact DY
  obtain ⟨m0,m1⟩:=A9.1 g4;refine go ?_;refine cb (fun w st=>(W8 x.Aa x.holds[k].Ae _ _ t0 t1 m0 m1).val w (Iw (st.get (p:=.isv Cj (.agg #[aa x.Aa.Am,aa x.Aa.size,ab a1 x.Aa.Ak.length c1]) x.Aa F3) FB))) ?_;cases g5:I5 x.Aa x.holds[k].Ae
  ·refine go ?_;refine ret () trivial ?_;rw [bad (by rw [hck,g4,g5];rfl)];rfl
  refine go ?_;refine ce (fun w s=>H1 _ _ _ _) ?_;cases g6:E8 (x.Ai+1) x.holds[k].Co (x.Ai+3)
  ·refine go ?_;refine ret () trivial ?_;rw [bad (by rw [hck,g4,g5,g6];rfl)];rfl
  refine go ?_;by_cases hk0:0 < k
  ·have hk4:k - 1 < x.holds.length:=EZ
   have hp:=hk2 (k - 1) EZ;rw [Pi hk4] at hp;simp only [aw] at hp;obtain ⟨p0,p1⟩:=A9.1 hp.1.1.1;rw [<-e];refine Wt (xs:=x.holds) (k - 1) ?_;rintro hi5 b5 o5 e5;rw [e5];refine Ar [0,1,3] [] ?_;refine Dh 0 1 ?_;rw [av (show (0:Int) < k by omega)];refine dt 2 ?_;refine C5 3 ?_;refine C5 4 ?_;refine C5 5 ?_;refine C5 6 ?_;refine C5 7 ?_;refine C5 8 ?_;refine C5 9 ?_;rw [show (k:Int) - 1=((k - 1:Nat):Int) by omega];refine C5 10 ?_;refine C5 11 ?_;refine C5 12 ?_;refine C5 14 ?_;refine C5 15 ?_;refine C5 16 ?_;refine C5 17 ?_;refine C5 18 ?_;refine d1g 13 ?_
   apply On.h;refine oC ?_;refine ce (fun w s=>O6 _ _ _ EZ EZ EZ EZ) ?_;refine dk ?_;refine d1g 19 ?_;apply On.h;refine oC ?_;refine ce (fun w s=>O6 _ _ _ EZ EZ EZ EZ) ?_;refine dk ?_;refine C5 20 ?_;refine dt 21 ?_;refine dd ?_;refine go ?_;refine A4 rfl (fun h6=>?_) (fun h6=>?_)
   ·exact BS
   ·refine go ?_;refine Ca (k+1) ⟨EZ,fun j hj=>?_⟩ EZ;rcases bc (bC.1 hj) with h|rfl
    ·exact hk2 j h
    ·rw [hck,g4,g5,g6,ay h6];simp
  ·have hz:k=0:=EZ
   refine Ar [0,2] [] ?_;refine Dh 0 1 ?_;rw [ay (show ¬(0:Int) < k by omega)];refine dt 2 ?_;refine ds 3 ?_;refine ds 4 ?_;refine ds 5 ?_;refine ds 6 ?_;refine ds 7 ?_;refine ds 8 ?_;refine ds 9 ?_;refine ds 10 ?_;refine ds 11 ?_;refine ds 12 ?_;refine ds 13 ?_;refine ds 14 ?_;refine ds 15 ?_;refine ds 16 ?_;refine ds 17 ?_;refine ds 18 ?_;refine ds 19 ?_;refine ds 20 ?_;refine dt 21 ?_;refine dd ?_;refine go ?_;refine Ca (k+1) ⟨EZ,fun j hj=>?_⟩ EZ;rcases bc (bC.1 hj) with h|rfl
   ·exact hk2 j h
   ·rw [hck,g4,g5,g6,av hz];simp
 have hkl:k=x.holds.length:=EZ
 refine go ?_;refine ret () trivial ?_;rw [Ado g1 g2 g3 (hkl▸hk2)];rfl
theorem Aja (x:Cr) (v:Value) (F:aq):FV 119 [v] [.isv Ex v x F] (.bool (Ck x)):=by
 refine enter func119 rfl ntmps119 fun w0=>?_;refine H9 ?_;rintro a1 c1 F1 a2 c2 F2 rfl l1 l2;unfold maxLen at l1 l2;refine Ct x.Aa ?_;generalize F1=F3;refine go ?_;intros;refine cb (fun w st=>Anj _ x.Aa _ w (st.get (p:=.isv Cj (.agg #[aa x.Aa.Am,aa x.Aa.size,ab a1 x.Aa.Ak.length c1]) x.Aa F3) FB)) ?_;cases g1:D8 x.Aa
 ·refine go ?_;refine ret () trivial ?_;simp [Ck,g1,Tn]
 obtain ⟨⟨t0,t1⟩, -⟩:=Ds.1 g1;refine go ?_;refine ce (fun w s=>Zx _ _) ?_;cases g2:Kq x.Ai
 ·refine go ?_;refine ret () trivial ?_;simp [Ck,g2,Tn]
 obtain ⟨k0,k1⟩:=Akp g2;refine go ?_;refine ce (fun w s=>Ka _ _ _ _) ?_;cases g3:E8 0 x.quiet 3
 ·refine go ?_;refine ret () trivial ?_;simp [Ck,g3,Tn]
 refine go ?_;refine Em [1,2] (fun k:Nat=>[(3,aa k)]) (fun k=>k<=x.holds.length/\∀j,j < k->Ahx x j=true) (fun k=>x.holds.length - k) 0 ⟨aG _,fun j h=>by omega⟩ fun k hk=>?_;obtain ⟨hk1,hk2⟩:=hk;refine go ?_;refine A4 rfl (fun h3=>?_) (fun h3=>?_)
 ·have hk3:k < x.holds.length:=EZ
  have bad:Ahx x k=false->Ck x=false:=fun h=>Af3 hk3 h;have hck:=Pi hk3;refine Wt (xs:=x.holds) k ?_;rintro hi b o e;rw [e];refine go ?_;intros;refine ce (fun w s=>Nt _ _) ?_;cases g4:Bz x.holds[k].Ae
  ·exact DY
  obtain ⟨m0,m1⟩:=A9.1 g4;refine go ?_;refine cb (fun w st=>(Ank x.Aa x.holds[k].Ae _ _ t0 t1 m0 m1).val w (Iw (st.get (p:=.isv Cj (.agg #[aa x.Aa.Am,aa x.Aa.size,ab a1 x.Aa.Ak.length c1]) x.Aa F3) FB))) ?_;cases g5:I5 x.Aa x.holds[k].Ae
  ·refine go ?_;refine ret () trivial ?_;rw [bad (by rw [hck,g4,g5];rfl)];rfl
  refine go ?_;refine ce (fun w s=>Ka _ _ _ _) ?_;cases g6:E8 (x.Ai+1) x.holds[k].Co (x.Ai+3)
  ·refine go ?_;refine ret () trivial ?_;rw [bad (by rw [hck,g4,g5,g6];rfl)];rfl
  refine go ?_;by_cases hk0:0 < k
  ·have hk4:k - 1 < x.holds.length:=EZ
   have hp:=hk2 (k - 1) EZ;rw [Pi hk4] at hp;simp only [aw] at hp;obtain ⟨p0,p1⟩:=A9.1 hp.1.1.1;rw [<-e];refine Wt (xs:=x.holds) (k - 1) ?_;rintro hi5 b5 o5 e5;rw [e5];refine Ar [0,1,3] [] ?_;refine Dh 0 1 ?_;rw [av (show (0:Int) < k by omega)];refine dt 2 ?_;refine C5 3 ?_;refine C5 4 ?_;refine C5 5 ?_;refine C5 6 ?_;refine C5 7 ?_;refine C5 8 ?_;refine C5 9 ?_;rw [show (k:Int) - 1=((k - 1:Nat):Int) by omega];refine C5 10 ?_;refine C5 11 ?_;refine C5 12 ?_;refine C5 14 ?_;refine C5 15 ?_;refine C5 16 ?_;refine C5 17 ?_;refine C5 18 ?_;refine d1g 13 ?_
   apply On.h;refine oC ?_;refine ce (fun w s=>Jk _ _ _ EZ EZ) ?_;refine dk ?_;refine d1g 19 ?_;apply On.h;refine oC ?_;refine ce (fun w s=>Jk _ _ _ EZ EZ) ?_;refine dk ?_;refine C5 20 ?_;refine dt 21 ?_;refine dd ?_;refine go ?_;refine A4 rfl (fun h6=>?_) (fun h6=>?_)
   ·exact BS
   ·refine go ?_;refine Ca (k+1) ⟨EZ,fun j hj=>?_⟩ EZ;rcases bc (bC.1 hj) with h|rfl
    ·exact hk2 j h
    ·rw [hck,g4,g5,g6,ay h6];simp
  ·have hz:k=0:=EZ
   refine Ar [0,2] [] ?_;refine Dh 0 1 ?_;rw [ay (show ¬(0:Int) < k by omega)];refine dt 2 ?_;refine ds 3 ?_;refine ds 4 ?_;refine ds 5 ?_;refine ds 6 ?_;refine ds 7 ?_;refine ds 8 ?_;refine ds 9 ?_;refine ds 10 ?_;refine ds 11 ?_;refine ds 12 ?_;refine ds 13 ?_;refine ds 14 ?_;refine ds 15 ?_;refine ds 16 ?_;refine ds 17 ?_;refine ds 18 ?_;refine ds 19 ?_;refine ds 20 ?_;refine dt 21 ?_;refine dd ?_;refine go ?_;refine Ca (k+1) ⟨EZ,fun j hj=>?_⟩ EZ;rcases bc (bC.1 hj) with h|rfl
   ·exact hk2 j h
   ·rw [hck,g4,g5,g6,av hz];simp
 have hkl:k=x.holds.length:=EZ
 refine go ?_;refine ret () trivial ?_;rw [Ado g1 g2 g3 (hkl▸hk2)];rfl
def Ff (l:List As):Bool:=decide (l.length<=6) && l.all Bo
def upQ (l:List As):Bool:=l.all fun p=>decide (p.Cq=3)
def Mn (e:Bh):Bool:=decide (e.Ai=0) && decide (e.Ah.length=0)
def Tk (r:A1):Bool:=!r.Be && decide (r.Ai=0) && Ox r
def Qj (par:ar) (clk:Int) (i:Nat) (e:Bh) (r:A1) (d u:List As):Bool:=Ff d && Ff u && upQ u &&
 (if i=0 then Mn e && Tk r && decide (d.length=0) && decide (u.length=0)
  else if D5 par i then Mn e && Bp r && decide (r.Ai=clk) else Ba e && decide (e.Ai=clk) && Tk r)
def Ss (n:Du) (i:Nat):Bool:=match n.Af[i]?,n.Ad[i]?,n.down[i]?,n.up[i]? with
 | some e,some r,some d,some u=>Qj n.Al.Ac n.Ab.Ai i e r d u
 | _,_,_,_=>true
def Lj (n:Du):Bool:=decide (n.Af.length=n.Al.Ac.length) && decide (n.Ad.length=n.Al.Ac.length) && decide (n.down.length=n.Al.Ac.length) && decide (n.up.length=n.Al.Ac.length)
def At (n:Du):Bool:=Hj n.Al && Ck n.Ab && Lj n && Ov (Ss n) n.Al.Ac.length
theorem Ug {n:Du} {i:Nat} (h1:i < n.Af.length) (h2:i < n.Ad.length) (h3:i < n.down.length) (h4:i < n.up.length):Ss n i=Qj n.Al.Ac n.Ab.Ai i n.Af[i] n.Ad[i] n.down[i] n.up[i]:=by
 unfold Ss;rw [aD h1,aD h2,aD h3,aD h4]
theorem Bg {n:Du}:Lj n=true↔n.Af.length=n.Al.Ac.length/\n.Ad.length=n.Al.Ac.length/\n.down.length=n.Al.Ac.length/\n.up.length=n.Al.Ac.length:=by
 unfold Lj;simp only [aw,aF];exact ⟨fun ⟨⟨⟨a,b⟩,c⟩,d⟩=>⟨a,b,c,d⟩,fun ⟨a,b,c,d⟩=>⟨⟨⟨a,b⟩,c⟩,d⟩⟩
theorem Mj {n:Du}:At n=true↔Hj n.Al=true/\Ck n.Ab=true/\Lj n=true/\∀i,i < n.Al.Ac.length->Ss n i=true:=by
 unfold At;simp only [aw];exact ⟨fun ⟨⟨⟨a,b⟩,c⟩,d⟩=>⟨a,b,c,Jp d⟩,fun ⟨a,b,c,d⟩=>⟨⟨⟨a,b⟩,c⟩,Kd d⟩⟩
theorem Af1 {n:Du} {i:Nat} (hi:i < n.Al.Ac.length) (h:Ss n i=false):At n=false:=by unfold At;rw [Lr hi h,ci]
theorem Ao5 {r:A1} (h:Bp r=true):Tk r=(!r.Be && decide (r.Ai=0)):=by
 unfold Tk;cases hs:r.Be
 ·unfold Bp at h;rw [hs] at h;simp only [aw,ef,if_false] at h;rw [h.2,fy]
 ·rfl
theorem Vg {r:A1} (h:Tk r=true):Bp r=true:=by
 unfold Tk at h;simp only [aw,bA,aF] at h;unfold Bp;rw [h.1.1,h.2,h.1.2];rfl
theorem Vf {e:Bh} (h:Mn e=true):Ba e=true:=by
 unfold Mn at h;simp only [aw,aF] at h;unfold Ba;rw [h.1,h.2];rfl
def Ag4 (par:ar) (clk:Int) (i:Nat) (e:Bh) (r:A1) (d u:List As):Bool:=Ba e && Bp r && Ff d && (Ff u && upQ u) &&
 (if i=0 then Mn e && (!r.Be && decide (r.Ai=0)) && decide (d.length+u.length=0)
  else if D5 par i then Mn e && decide (r.Ai=clk) else (!r.Be && decide (r.Ai=0)) && decide (e.Ai=clk))
theorem Ac2 (par:ar) (clk:Int) (i:Nat) (e:Bh) (r:A1) (d u:List As):Ag4 par clk i e r d u=Qj par clk i e r d u:=by
 have hz:(decide (d.length+u.length=0))=(decide (d.length=0) && decide (u.length=0)):=by
  by_cases a:d.length=0 <;> by_cases b:u.length=0 <;> simp [a,b]
 unfold Ag4 Qj;rw [hz];cases gq:Ff d <;> cases gu:Ff u <;> cases gk:upQ u <;> simp only [ci,cX,fy,bV]
 split
 ·cases he:Mn e
  ·simp
  ·rw [Vf he];cases hr:Bp r
   ·cases hr2:Tk r
    ·simp
    ·rw [Vg hr2] at hr;cases hr
   ·rw [Ao5 hr];simp [Bool.and_assoc]
 ·split
  ·cases he:Mn e
   ·simp
   ·rw [Vf he];simp
  ·cases hr:Bp r
   ·cases hr2:Tk r
    ·simp
    ·rw [Vg hr2] at hr;cases hr
   ·rw [Ao5 hr];cases Ba e <;> cases (!r.Be && decide (r.Ai=0)) <;> simp
def Uz (q:List As) (p:As):List As:=if q.length < 6 then q++[p] else q
def Hg (q ps:List As):List As:=q++ps.take (6 - q.length)
theorem Aob (q:List As):Hg q []=q:=by unfold Hg;simp
theorem Auw (q:List As) (p:As) (ps:List As):Hg (Uz q p) ps=Hg q (p::ps):=by
 unfold Hg Uz;by_cases h:q.length < 6
 ·rw [aJ h,show 6 - q.length=(6 - (q.length+1))+1 by omega,gi];simp
 ·rw [aC h,show 6 - q.length=0 by omega];simp
theorem Ayo (q:List As) (p:As):Hg q [p]=Uz q p:=by rw [<-Auw,Aob]
theorem Aoa (q ps:List As):(Hg q ps).length<=q.length+ps.length/\(q.length<=6->(Hg q ps).length<=6):=by
 unfold Hg;rw [aA,aP];omega
theorem Ac0 {q ps:List As} (hq:Ff q=true) (hp:∀p∈ps,Bo p=true):Ff (Hg q ps)=true:=by
 unfold Ff at *;simp only [aw,aF] at hq ⊢;refine ⟨(Aoa q ps).2 hq.1,?_⟩;unfold Hg;rw [dV,hq.2,bV,aW];exact fun p h=>hp p (bO h)
def Dr (d:List (List As)) (nodes:ar) (ps:List As):List (List As):=nodes.foldl (fun d x=>d.modify x.toNat fun q=>Hg q ps) d
theorem Aac (ps:List As):∀(nodes:ar) (d:List (List As)),(Dr d nodes ps).length=d.length
 | [],_=>rfl
 | x::r,d=>by
  show (Dr (d.modify x.toNat fun q=>Hg q ps) r ps).length=d.length;rw [Aac ps r,dA]
theorem Aom (d:List (List As)) (nodes:ar) (x:Int) (ps:List As):Dr d (nodes++[x]) ps=(Dr d nodes ps).modify x.toNat fun q=>Hg q ps:=by
 unfold Dr;rw [dF];rfl
def L9 (f:Nat->Nat):Nat->List (List As)->Nat
 | _,[]=>0
 | k,x::r=>x.length * f k+L9 f (k+1) r
theorem Ahr (f:Nat->Nat):∀(l:List (List As)) (k i:Nat) (h:i < l.length) (x:List As),L9 f k (l.set i x)+l[i].length * f (k+i)=L9 f k l+x.length * f (k+i)
 | [],_,_,h,_=>absurd h FB
 | y::r,k,0,_,x=>by
  show x.length * f k+L9 f (k+1) r+y.length * f k=y.length * f k+L9 f (k+1) r+x.length * f k;omega
 | y::r,k,i+1,h,x=>by
  have hr:i < r.length:=FJ
  have ih:=Ahr f r (k+1) i hr x;show y.length * f k+L9 f (k+1) (r.set i x)+r[i].length * f (k+(i+1))=y.length * f k+L9 f (k+1) r+x.length * f (k+(i+1));rw [show k+(i+1)=k+1+i by omega];omega
theorem H8 {l:List (List As)} {i:Nat} {g:List As->List As} (h:i < l.length):l.modify i g=l.set i (g l[i]):=by
 refine dr fun j=>?_;rw [fW,List.getElem?_set];by_cases e:i=j
 ·subst e;simp [h]
 ·simp [e]
theorem Z5 {l:List (List As)} {i:Nat} {g:List As->List As} (h:¬i < l.length):l.modify i g=l:=by
 refine dr fun j=>?_;rw [fW];by_cases e:i=j
 ·subst e;simp [br (show l.length<=i by omega)]
 ·simp [e]
theorem Ao3 (f:Nat->Nat) (l:List (List As)) (i:Nat) (ps:List As):L9 f 0 (l.modify i fun q=>Hg q ps)<=L9 f 0 l+ps.length * f i:=by
 by_cases h:i < l.length
 ·have h1:=Ahr f l 0 i h (Hg l[i] ps);have h2:=cI (f i) (Aoa l[i] ps).1;rw [cO,cH] at *;rw [H8 h];omega
 ·rw [Z5 h];omega
def Aae (f:Nat->Nat) (nodes:ar):Nat:=(nodes.map fun x=>f x.toNat).sum
theorem T0 (f:Nat->Nat) (ps:List As):∀(nodes:ar) (d:List (List As)),L9 f 0 (Dr d nodes ps)<=L9 f 0 d+ps.length * Aae f nodes
 | [],d=>by show L9 f 0 d<=_;omega
 | x::r,d=>by
  have ih:=T0 f ps r (d.modify x.toNat fun q=>Hg q ps);have h1:=Ao3 f d x.toNat ps;show L9 f 0 (Dr (d.modify x.toNat fun q=>Hg q ps) r ps)<=L9 f 0 d+ps.length * (f x.toNat+Aae f r);rw [gE];omega
theorem Bah (f:Nat->Nat) (l:List (List As)) (i:Nat) (h:i < l.length) (h0:0 < l[i].length):L9 f 0 (l.set i (l[i].drop 1))+f i=L9 f 0 l:=by
 have h1:=Ahr f l 0 i h (l[i].drop 1);rw [aX,cO] at h1;have h2:l[i].length * f i=(l[i].length - 1) * f i+f i:=by
  obtain ⟨m,hm⟩:∃m,l[i].length=m+1:=⟨l[i].length - 1,EZ⟩;rw [hm,gC,dX]
 omega
theorem Akc (f:Nat->Nat) (b:Nat):∀nodes:ar,(∀x∈nodes,f x.toNat<=b)->Aae f nodes<=nodes.length * b
 | [],_=>by simp [Aae]
 | x::r,h=>by
  have ih:=Akc f b r fun y hy=>h y KS;have:=h x FB;show f x.toNat+Aae f r<=(r.length+1) * b;rw [gC];omega
theorem Lh {l:ar} (hg:Lv l) {i:Nat} {x:Int} (h:x∈Ij l (i:Int)):i < x.toNat/\x.toNat < l.length/\0<=x:=by
 obtain ⟨j,hj,rfl,e⟩:=Ane h;rcases cy j with rfl|h0
 ·have:=hg.z hj;omega
 ·have:=(hg.p j hj h0).2;simp only [ba];omega
theorem Ur (l:ar) (node:Int):(Ij l node).length<=l.length:=Aga l node l.length
def Mx (i:Nat) (e:au):au:=bz (Lib.itoa ((i:Nat):Int))++⟨#[32]⟩++e
def T6 (i:Nat) (es:ai):ai:=es.map (Mx i)
def M0 (i:Nat):Int:=1+((i:Nat):Int) % 3
section
variable {c:Cx} {fr:Fr} {H:List Pc} {Φ:Gl}
theorem Qw {a:aj} {n cp:Nat} {xs:List As} {F:aq} (i:Nat) (h:∀(hi:i < xs.length) (b o:Nat),a=some ⟨b,o,none⟩->xs[i].data.size<=maxLen->T c fr (.cel b (o+i * 5) [aa xs[i].Cq,aa xs[i].Ae,aa xs[i].Am,aa xs[i].E7,af xs[i].data]::H) Φ) (hm:.sl An (ab a n cp) xs F∈H:=by exact Bl) (hi:i < xs.length:=by omega):T c fr H Φ:=.mk fun ac w s g=>by
 exact CO
theorem Atg {t:TypeId} {a:aj} {n cp:Nat} {xs:List As} {F:aq} {S:List Pc} (i:Nat) (h:∀(_:i < xs.length) g A B,a=some ⟨g,0,none⟩->F=[g]->xs[i].data.size<=maxLen->Avz An t g (ab (some ⟨g,0,none⟩) n cp) xs i A B->T c fr (.row g t (0+i * 5) A [aa xs[i].Cq,aa xs[i].Ae,aa xs[i].Am,aa xs[i].E7,af xs[i].data] B::S) Φ) (hp:C2 H (.ow An t (ab a n cp) xs F) S:=by exact Dt) (hi:i < xs.length:=by omega):T c fr H Φ :=
 Rf Jm i (fun hi g A cs B ha hF hr hh=>by obtain ⟨rfl,s1, -⟩:=hr default;exact h hi g A B ha hF s1 hh) hp rfl hi
theorem Dd (x:As) (s1:x.data.size<=maxLen) (w:World):Cz An w [aa x.Cq,aa x.Ae,aa x.Am,aa x.E7,af x.data] [x] []:=⟨_,[],[],[],FB,FB,⟨rfl,s1,rfl⟩,rfl,rfl⟩
end
section
variable {c:Cx} {fr:Fr} {H:List Pc} {Φ:Gl}
theorem Oc {α:Type} {E:Bt α} {hz:0 < E.sz} {a:aj} {n cp:Nat} {xs:List (List α)} {F:aq} (i:Nat) (h:∀(hi:i < xs.length) (b o:Nat) (a1:aj) (c1:Nat) (F1:aq),a=some ⟨b,o,none⟩->xs[i].length<=maxLen->T c fr (.cel b (o+i * 1) [.slice a1 xs[i].length c1]::.sl E (.slice a1 xs[i].length c1) xs[i] F1::H) Φ) (hm:.sl (Oa E hz) (ab a n cp) xs F∈H:=by exact Bl) (hi:i < xs.length:=by omega):T c fr H Φ:=.mk fun ac w s g=>by
 obtain ⟨b,o,cs,G,ha,hrep,hG,hb,hne,hr⟩:=Xq (s.get hm) i hi;obtain ⟨v1,rfl,h1⟩:=hrep;obtain ⟨a1,c1,rfl⟩:=h1.slice;have l1:=h1.len;have t1:=s.ro (p:=.sl E (.slice a1 xs[i].length c1) xs[i] G) hm rfl rfl ⟨hz,h1⟩ HI;exact (h hi b o a1 c1 G ha l1).h ac w (t1.ro (aQ _ hm) rfl rfl ⟨hne,hr⟩ GL) g
theorem Yh {α:Type} {O:Bt α} {t:TypeId} {v:Value} {xs:List α} {F:aq} {S:List Pc} (h:∀(a1:aj) (c1:Nat),v=.agg #[ab a1 xs.length c1]->xs.length<=maxLen->T c fr (.ow O t (ab a1 xs.length c1) xs F::S) Φ) (hp:C2 H (.own (Ki O t) v xs F) S:=by exact Dt):T c fr H Φ:=.mk fun a w s g=>by
 have z1:=s.pick hp;obtain ⟨hn,cs,rfl,v1,rfl,h1⟩:=z1.on (.own (Ki O t) v xs F) FB;obtain ⟨a1,c1,rfl⟩:=h1.slice;have l1:=h1.len;exact (h a1 c1 rfl l1).h a w (z1.conv rfl ⟨hn,h1⟩ (fun b hb=>hb)) g
theorem Kl {α:Type} {O:Bt α} {t:TypeId} (xs:List α) {a1:aj} {c1:Nat} {F:aq} {S:List Pc} (h:T c fr (.own (Ki O t) (.agg #[ab a1 xs.length c1]) xs F::S) Φ) (hp:C2 H (.ow O t (ab a1 xs.length c1) xs F) S:=by exact Dt):T c fr H Φ:=.mk fun a w s g=>by
 have z1:=s.pick hp;obtain ⟨hn,h1⟩:=z1.on (.ow O t (ab a1 xs.length c1) xs F) FB;exact h.h a w (z1.conv rfl ⟨hn,_,rfl,_,rfl,h1⟩ (fun b hb=>hb)) g
end
section
variable {P:Program} {ops:Array Oper} {Q:Exit->Act->World->Prop} {md:Region.Mode} {S:World->Prop} {X:Nat->Bool}
theorem Ez.firstP {i:Nat} {oi:Oper} {v:Value} (hi:ops[i]?=some oi) (hsel:∀(j:Nat) (o:Oper) cs b,ops[j]?=some o->o.op≠.select cs b)
  (hQ:∀c a w,Q (.panic c) (a.put oi.dst v) w->Q (.panic c) a w) (hXi:X i=true) :
  ∀(f:Nat) (listed:Array Bool) (a:Act) (w:World),
   (∀j oj,ops[j]?=some oj->j≠i->listed.getD j true=false->(∀e∈oj.after,Region.binds md e=true->e.on≠i)->oi.apart ops oj=true) ->
   i∈Region.ready md ops listed->YieldsIf P ops (fun _=>True) oi v a->Ez P md ops Q S X f (listed.setIfInBounds i true) (a.put oi.dst v) w->Ez P md ops Q S X (f+1) listed a w:=by
 intro f
 induction f with
 | zero =>
  intro listed a w _ hr hy H;refine ⟨fun h=>HL,fun j hj=>?_⟩;by_cases hji:j=i
  ·subst hji;exact hy.wpOp hi trivial ⟨(fun h=>by rw [hXi] at h;cases h),H⟩
  ·have:=ready_mono hj hji;rw [H.1] at this;cases this
 | succ f ih =>
  intro listed a w hfree hr hy H;refine ⟨fun h=>HL,fun j hj=>?_⟩;by_cases hji:j=i
  ·subst hji;exact hy.wpOp hi trivial ⟨(fun h=>by rw [hXi] at h;cases h),H⟩
  ·obtain ⟨hju,oj,hoj,hall⟩:=mem_ready.1 hj;have hiu:=Xv (mem_ready.1 hr).1;have hnot:∀e∈oj.after,Region.binds md e=true->e.on≠i:=fun e he hb heq=>by
    have h1:=hall e he hb;rw [heq,hiu] at h1;cases h1
   have h2:=wpOp_putIf hoj (hfree j oj hoj hji hju hnot) (fun cs b=>hsel i oi cs b hi) (fun cs b=>hsel j oj cs b hoj) hQ hy (H.2 j (ready_mono hj hji));refine wpOp_mono (fun a' w' h3=>⟨h3.2.1,ih (listed.setIfInBounds j true) a' w' (fun k ok hk hki hun hno=>hfree k ok hk hki ?_ hno) (ready_mono hr (Ne.symm hji)) h3.1 ?_⟩) h2
   ·by_cases hjk:j=k
    ·subst hjk;exact hju
    ·rw [getD_set_ne true hjk] at hun;exact hun
   ·rw [dY _ _ hji];exact h3.2.2
theorem Ez.takeP {i:Nat} {oi:Oper} {v:Value} {f:Nat} {listed:Array Bool} {a:Act} {w:World} (hi:ops[i]?=some oi)
  (hs:Region.noSelect ops=true) (hf:Region.free md ops listed i=true) (hr:(Region.ready md ops listed).contains i=true) (hXi:X i=true)
  (hQ:∀c a w,Q (.panic c) (a.put oi.dst v) w->Q (.panic c) a w) (hy:YieldsIf P ops (fun _=>True) oi v a)
  (h:Ez P md ops Q S X f (listed.setIfInBounds i true) (a.put oi.dst v) w):Ez P md ops Q S X (f+1) listed a w :=
 Ez.firstP hi (Region.noSelect_spec hs) hQ hXi f listed a w (Region.free_spec hi hf) GK hy h
end
section
variable {c:Cx} {fr:Fr} {H H0:List Pc} {k:List It} {X:aq} {ops:Array Oper} {f:Nat} {listed:Array Bool} {d:Nat} {o:Op} {ty:TypeId} {pos:String} {Cc:Array Edge} {v:Value}
theorem Q0 (i:Nat) (h:T c ((d,v)::fr) H (.dx k H0 X ops f (listed.setIfInBounds i true))) (ho:ops[i]?=some ⟨some d,o,ty,pos,Cc,none⟩:=by rw [aR];rfl) (hy:Yd c.P c.n fr [] o ty v:=by exact ydE) (hX:X.contains i=true:=by rfl)
  (h1:Region.noSelect ops=true:=by kernel_rfl) (h2:Region.free .any ops listed i=true:=by kernel_rfl) (h3:(Region.ready .any ops listed).contains i=true:=by kernel_rfl) (hR:Wq c:=by exact Y7) (hd:Nat.blt d c.n=true:=by rfl) :
  T c fr H (.dx k H0 X ops (f+1) listed):=.mk fun a w s g =>
 Ez.takeP (v:=v) ho h1 h2 h3 hX (fun ch a w hp=>by rw [Mg] at hp ⊢;exact hR _ _ _ _ _ hp) (.inl ⟨rfl,fun w' _=>hy.h a w' _ _ _ _ g (by intro p hp;simp at hp)⟩) (h.h _ _ s (g.put hd))
theorem Ba8 {c:Cx} {fr:Fr} {H:List Pc} {k:List It} {x y:Code} {σ:Type} {cst:Fr} {rest:List Pc} (ks rs:aq) (upd:σ->Fr) (chg:σ->List Pc) (C:σ->Prop) (h:T c fr H (.By (.cd y::.lp (Jn c (fun s=>upd s++cst) (fun s=>chg s++rest) C)::k) x)) (h2:∀s,C s->T c (upd s++cst) (chg s++rest) (.norm k))
  (_hk:Kf fr ks cst:=by repeat (first|exact Kf.nil|apply Kf.cons FL)) (_hr:Sel H rs rest:=by repeat constructor):T c fr H (.By (.cd y::k) x):=.mk fun a w s g=>by
 refine wp_mono (h.h a w s g) fun e a1 w1 he=>?_;cases e with
 | normal =>
  refine wp_mono he fun e a2 w2 he=>?_;cases e with
  | normal=>obtain ⟨s,hC,hs,hg⟩:=he;exact (h2 s hC).h a2 w2 hs hg
  | _=>exact he
 | _=>exact he
end
section
variable {c:Cx} {fr:Fr} {H H0:List Pc} {k:List It} {Φ:Gl} {X:aq} {ops:Array Oper} {f:Nat} {listed:Array Bool} {d:Nat} {o:Op} {ty:TypeId} {v u:Value} {x y:Operand}
theorem Ae4 {α:Type} {O R:Bt α} (hW:Mq O R) {t:TypeId} {v:Value} {xs:List α} {F:aq} {S:List Pc} (h:∀F',T c fr (.sl R v xs F'::S) Φ) (hp:C2 H (.ow O t v xs F) S:=by exact Dt) (hz:0 < R.sz:=by decide):T c fr H Φ:=.mk fun a w s g=>by
 have s1:=s.pick hp;obtain ⟨-,ho⟩:=s1.on (.ow O t v xs F) FB;obtain ⟨F',hF,hs⟩:=ho.sl hW;exact (h F').h a w (s1.conv rfl ⟨hz,hs⟩ hF) g
theorem Put.all:∀{zs l:am},zs.length=l.length->Put zs 0 l l
 | [],[],_=>.zero
 | [],_::_,h=>by simp at h
 | _::_,[],h=>by simp at h
 | _::zs,_::l,h=>.one (Put.all FJ)
end
/-! contracts, with what they ask read off pieces -/
section
variable {G D:aq} {w0 w:World} {H:List Pc}
theorem St.rO {α:Type} {O R:Bt α} (hW:Mq O R) {v:Value} {x:α} {F:aq} (s:St G D w0 H w) (hm:.own O v x F∈H:=by exact Bl):∃F',Ro R w v x F':=by
 obtain ⟨-,ho⟩:=s.get hm;obtain ⟨F', -,h⟩:=Ro.weak hW ho;exact ⟨F',h⟩
end
theorem Pl {α:Type} {l:List α} {i:Nat} (h:i < l.length) (x:α):l.getD i x=l[i]:=by rw [bn,aD h];rfl
theorem Acw (d:List (List As)) (i:Nat) (p:As) (a:aj) (n c:Nat) (F:aq) (hn:n=d.length) (hi:i < d.length) (hs:p.data.size<=maxLen):Fn prog 256 [ab a n c,aa (i:Nat),.agg #[aa (p).Cq,aa (p).Ae,aa (p).Am,aa (p).E7,af (p).data]] [] [.ow (Ki An 141) 125 (ab a n c) d F] (fun (_:aq)=>True) (fun _=>.tuple #[]) (fun G=>[.ow (Ki An 141) 125 (ab a n c) (d.set i (Uz d[i] p)) G]):=by
 refine enter func256 rfl ntmps256 fun w0=>?_;refine Aca (m:=1) i ?_ rfl hi;rintro _ g A cs B k1 k2 G1 Gi G2 rfl - hc hH;refine Yh ?_;rintro a5 c5 ev l5;obtain rfl:=Pw ev;refine go ?_;intros;refine A4 rfl (fun h1=>?_) (fun h1=>?_)
 ·have h6:d[i].length < 6:=EZ
  rw [show Uz d[i] p=d[i]++[p] by unfold Uz;rw [aJ h6]];refine go ?_;refine Ar [0,2] [10] ?_;refine Df 0 1 2 3 ?_;refine Dh 4 5 ?_;refine dt 6 ?_;refine dN 7 ?_;apply Iq;rfl;rfl;rfl;rfl;exact Ik;exact Ih;intro _;refine dk ?_;refine dN 8 ?_;refine Nb (ys:=[p]) (Dd p hs) Ho fun a7 c7 F7=>?_;refine dk ?_;refine dt 9 ?_;refine dN 10 ?_;refine oS ?_;refine Nm ?_;refine dd ?_;refine Kl (d[i]++[p]) ?_;refine go ?_;refine V0 _ hH rfl fun F6=>?_;refine Vz ?_;refine ret F6 trivial rfl
 ·rw [show Uz d[i] p=d[i] by unfold Uz;rw [aC EZ]];refine go ?_;refine Kl d[i] ?_;refine V0 _ hH rfl fun F6=>?_;refine Vz ?_;refine ret F6 trivial rfl
theorem Ajt (q l:List As) (p:As):Hg q (l++[p])=Uz (Hg q l) p:=by
 unfold Hg Uz;by_cases h:l.length < 6 - q.length
 ·rw [aV (by rw [aA];simp;omega),aV EZ,aJ IN,aN]
 ·have e:(l++[p]).take (6 - q.length)=l.take (6 - q.length):=by rw [List.take_append_of_le_length EZ]
  rw [e,aC (by rw [aA,aP];omega)]
def Q7 (s:List (List As)) (i:Nat) (ps:List As):List (List As):=s.modify i fun q=>Hg q ps
theorem Ajr (s:List (List As)) (i:Nat) (ps:List As):(Q7 s i ps).length=s.length:=dA ..
theorem Ajs (s:List (List As)) (i:Nat):Q7 s i []=s:=by
 unfold Q7;by_cases h:i < s.length
 ·rw [H8 h,Aob,bx]
 ·exact Z5 h
theorem Agv {s:List (List As)} {i j:Nat} {ps:List As} (hi:i < s.length) (hj:j < ps.length) (h:i < (Q7 s i (ps.take j)).length):(Q7 s i (ps.take j)).set i (Uz (Q7 s i (ps.take j))[i] ps[j])=Q7 s i (ps.take (j+1)):=by
 unfold Q7;simp only [H8 hi];rw [eJ,List.set_set,aO hj,Ajt]
theorem Ad8 {d:List (List As)} {nodes:ar} {ps:List As} {k:Nat} (hk:k < nodes.length):Dr d (nodes.take (k+1)) ps=Q7 (Dr d (nodes.take k) ps) nodes[k].toNat ps:=by rw [aO hk,Aom];rfl
structure KF where
 k:Nat
 F:aq
theorem Zn (d:List (List As)) (nodes:ar) (ps:List As) (g:Nat) (v0 v1 v2 v3 v4 v5 v6 v7 v8 v10:Value) (a:aj) (n c:Nat) (F:aq) (an:aj) (cn:Nat) (Fn_:aq) (ap:aj) (cp:Nat) (Fp:aq) (hn:n=d.length) (hx:∀x∈nodes,0<=x/\x.toNat < d.length) :
  Fn prog 189 [Ga g 0 0,ab an nodes.length cn,ab ap ps.length cp] [.sl Bc (ab an nodes.length cn) nodes Fn_,.sl An (ab ap ps.length cp) ps Fp] [.row g 37 0 [] [v0,v1,v2,v3,v4,v5,v6,v7,v8,ab a n c,v10] [],.ow (Ki An 141) 125 (ab a n c) d F] (fun (_:aq)=>True) (fun _=>.tuple #[]) (fun G=>[.row g 37 0 [] [v0,v1,v2,v3,v4,v5,v6,v7,v8,ab a n c,v10] [],.ow (Ki An 141) 125 (ab a n c) (Dr d nodes ps) G]):=by
 refine enter func189 rfl ntmps189 fun w0=>?_;refine Abn (E:=Bc) (xs:=nodes) ?_;rintro _ _ e0 hn1 hn2;refine Abn (E:=An) (xs:=ps) ?_;rintro _ _ e3 hp1 hp2;refine Alp (E:=An) (fun p:As=>p.data.size<=maxLen) (fun w cs x F h=>by obtain ⟨_,h,_⟩:=h;exact h) ?_;intro hz;cases e0;cases e3;refine go ?_;refine Bx [0,2,10,11] (fun z:KF=>[(12,aa (z.k:Nat))]) (fun z=>[.ow (Ki An 141) 125 (ab a n c) (Dr d (nodes.take z.k) ps) z.F]) (fun z=>z.k<=nodes.length) (fun z=>nodes.length - z.k) ⟨0,_⟩ (aG _) fun z hz0=>?_;have hsl:=Aac ps (nodes.take z.k) d;refine go ?_
 refine A4 rfl (fun h1=>?_) (fun h1=>?_)
 ·have hk:z.k < nodes.length:=EZ
  obtain ⟨x0,x1⟩:=hx _ (aB hk);obtain ⟨i,hi⟩:∃i:Nat,nodes[z.k]=((i:Nat):Int):=⟨nodes[z.k].toNat,EZ⟩;have hil:i < (Dr d (nodes.take z.k) ps).length:=EZ
  have hst:=Ad8 (d:=d) (ps:=ps) hk;rw [show nodes[z.k].toNat=i by omega] at hst;refine Hy (xs:=nodes) z.k ?_;rintro hi2 b o e1;rw [e1,hi];refine go ?_;rw [show Dr d (nodes.take z.k) ps=Q7 (Dr d (nodes.take z.k) ps) i (ps.take 0) by rw [ff,Ajs]];refine Bx [0,2,7,10,11,12,13,14,15,16,17] (fun y:KF=>[(18,aa (y.k:Nat))]) (fun y=>[.ow (Ki An 141) 125 (ab a n c) (Q7 (Dr d (nodes.take z.k) ps) i (ps.take y.k)) y.F]) (fun y=>y.k<=ps.length) (fun y=>ps.length - y.k) ⟨0,z.F⟩ (aG _) fun y hy0=>?_;have hpl:=Ajr (Dr d (nodes.take z.k) ps) i (ps.take y.k);refine go ?_
  refine A4 rfl (fun h2=>?_) (fun h2=>?_)
  ·have hj:y.k < ps.length:=EZ
   refine Qw (xs:=ps) y.k ?_;rintro hi3 b3 o3 e3 s3;rw [e3];refine go ?_;intros;refine Ar [0,4] [] ?_;refine Df 0 1 2 3 ?_;refine Dh 4 5 ?_;refine dN 6 ?_;refine oC ?_;refine Bf (Acw (Q7 (Dr d (nodes.take z.k) ps) i (ps.take y.k)) i ps[y.k] a n c y.F EZ EZ s3) fun f1 _=>?_;rw [Agv hil hj];refine dk ?_;refine dd ?_;refine go ?_;refine Ca ⟨y.k+1,f1⟩ hj (by show ps.length - (y.k+1) < ps.length - y.k;omega)
  ·rw [show ps.take y.k=ps from aV EZ,<-hst];refine go ?_;refine Ca ⟨z.k+1,y.F⟩ hk (by show nodes.length - (z.k+1) < nodes.length - z.k;omega)
 ·rw [show nodes.take z.k=nodes from aV EZ];refine go ?_;refine Vz ?_;refine ret z.F trivial rfl
section
variable {c:Cx} {fr:Fr} {H:List Pc} {Φ:Gl}
theorem I9 {a:aj} {n cp:Nat} {xs:List Az} {F:aq} (i:Nat) (h:∀(hi:i < xs.length) (b o:Nat),a=some ⟨b,o,none⟩->T c fr (.cel b (o+i * 4) [aa xs[i].Ae,aa xs[i].state,aa xs[i].Co,aa xs[i].Ee]::H) Φ) (hm:.sl Ay (ab a n cp) xs F∈H:=by exact Bl) (hi:i < xs.length:=by omega):T c fr H Φ:=.mk fun ac w s g=>by
 exact CR
theorem Afz {t:TypeId} {a:aj} {n cp:Nat} {xs:List Az} {F:aq} {S:List Pc} (i:Nat) (h:∀(_:i < xs.length) g A B,a=some ⟨g,0,none⟩->F=[g]->Avz Ay t g (ab (some ⟨g,0,none⟩) n cp) xs i A B->T c fr (.row g t (0+i * 4) A [aa xs[i].Ae,aa xs[i].state,aa xs[i].Co,aa xs[i].Ee] B::S) Φ) (hp:C2 H (.ow Ay t (ab a n cp) xs F) S:=by exact Dt) (hi:i < xs.length:=by omega):T c fr H Φ :=
 Rf Dy i (fun hi g A cs B ha hF hr hh=>by obtain ⟨rfl, -⟩:=hr default;exact h hi g A B ha hF  hh) hp rfl hi
theorem Nn (x:Az)  (w:World):Cz Ay w [aa x.Ae,aa x.state,aa x.Co,aa x.Ee] [x] []:=⟨_,[],[],[],FB,FB,⟨rfl,rfl⟩,rfl,rfl⟩
end
theorem Aly {P:Program} {n:Nat} {fr:Fr} {H:List Pc} {ty t':TypeId} {x:Operand} {t e m:Nat} [hS:SlC P t e m] {a:aj} {l c:Nat} (hx:ev fr x=some (ab a l c)):Yd P n fr H (.binOp .eql t x (.const (ab none 0 0)) t') ty (.bool a.isNone):=.mk fun ac w d pos Cc gd hA _=>by
 have he:ac.eval (.const (ab none 0 0))=ab none 0 0:=rfl;have eg:eqGuard .eql t x (.const (ab none 0 0)) (ab a l c) (ab none 0 0)=pure ():=by unfold eqGuard;simp
 simp only [execOp,hA.ev hx,he,eg,Sem.run_bind,Sem.run_pure,Result.andThen_ok,Lib.run_eql_slice_nil w t e a l c 0 0 hS.u]
theorem Azu {c:Cx} {fr:Fr} {H:List Pc} {Φ:Gl} {α:Type} {E:Bt α} {n cp:Nat} {xs:List α} {F:aq} (h:xs=[]->T c fr H Φ) (hm:.sl E (ab none n cp) xs F∈H:=by exact Bl):T c fr H Φ:=.mk fun ac w s g=>by
 obtain ⟨-,a,cap,hv, -,⟨rfl, -, -⟩|⟨b,off,F',rfl, -⟩⟩:=s.get hm
 ·exact (h rfl).h ac w s g
 ·cases hv
theorem To (xs:List Az) (a:aj) (c:Nat) (F:aq) (hl:xs.length<=1000000000) :
  Fn prog 185 [ab a xs.length c] [.sl Ay (ab a xs.length c) xs F] [] (fun (_:aj × Nat × aq)=>True) (fun z=>ab z.1 xs.length z.2.1) (fun z=>[.ow Ay 231 (ab z.1 xs.length z.2.1) xs z.2.2]):=by
 refine enter func185 rfl ntmps185 fun w0=>?_;refine go ?_;cases a with
 | none =>
  refine Azu (xs:=xs) fun h0=>?_;subst h0;apply wO;apply oc;rfl;exact Aly rfl;refine Cf Ay 231 ?_;refine go ?_;refine ret (none,0,[]) trivial rfl
 | some ad =>
  apply wO;apply oc;rfl;exact Aly rfl;refine go ?_;intros;refine Cy Ay ?_;apply wO;refine Ni Db Dy fun a2 c2 F2=>?_;rw [aZ];exact DJ
section
variable {P:Program} {n:Nat} {fr:Fr} {H:List Pc} {ty:TypeId} {x y z u:Operand}
theorem Bal {t e m i g o len cp:Nat} {kd:IntKind} {q:Int} [hS:SlC P t e m] (hx:ev fr x=some (ab (some ⟨g,o,none⟩) len cp)) (hy:ev fr y=some (.int kd q)) (hq:q=(i:Int)) (hi:i<=len) (hlc:len<=cp):Yd P n fr H (.slice t x (some y) none none) ty (ab (some ⟨g,if cp=i then o else o+i * m,none⟩) (len - i) (cp - i)):=.mk fun ac w d pos Cc gd hA _=>by
 subst hq;have he2:P.elem t=e:=JS
 have h3:(Instr.sliceAt t (ab (some ⟨g,o,none⟩) len cp) (some (.int kd (i:Int))) none none).run P w=.ok (ab (some ⟨g,if cp=i then o else o+i * m,none⟩) (len - i) (cp - i)) w:=by
  rw [run_sliceAt_slice (h:=GF),run_slice_l (ht:=GF) (h0:=EZ) (h1:=EZ),he2,Ms hS.s];simp only [Result.andThen,sliced,bY,Addr.add_lit,ba]
  split <;> rfl
 exact BJ
theorem Aso {t e m i j g o len cp:Nat} {kd kd2:IntKind} {q r:Int} [hS:SlC P t e m] (hx:ev fr x=some (ab (some ⟨g,o,none⟩) len cp)) (hy:ev fr y=some (.int kd q)) (hz:ev fr z=some (.int kd2 r)) (hq:q=(i:Int)) (hr:r=(j:Int)) (hi:i < cp) (hij:i<=j) (hj:j<=cp):Yd P n fr H (.slice t x (some y) (some z) none) ty (ab (some ⟨g,o+i * m,none⟩) (j - i) (cp - i)):=.mk fun ac w d pos Cc gd hA _=>by
 subst hq hr;have he2:P.elem t=e:=JS
 have h3:(Instr.sliceAt t (ab (some ⟨g,o,none⟩) len cp) (some (.int kd (i:Int))) (some (.int kd2 (j:Int))) none).run P w=.ok (ab (some ⟨g,o+i * m,none⟩) (j - i) (cp - i)) w:=by
  rw [run_sliceAt_slice (h:=GF),run_slice_lh (ht:=GF) (h0:=EZ) (h1:=EZ) (h2:=EZ),he2,Ms hS.s];simp only [Result.andThen,sliced,bY,Addr.add_lit,ba];rw [aC EZ]
 simp only [execOp,cN,bY,hA.ev hx,hA.ev hy,hA.ev hz,Sem.run_bind,h3,Result.andThen_ok,Sem.run_pure]
end
section
variable {c:Cx} {fr:Fr} {H:List Pc} {k:List It} {Φ:Gl} {d:Nat} {ty:TypeId} {x y z u:Operand}
theorem An0 {t e m n cp i j l:Nat} {a:aj} {q r s:Int} [hS:SlC c.P t e m] (hd:Nat.blt d c.n=true) (hx:ev fr x=some (ab a n cp)) (hy:ev fr y=some (aa q)) (hz:ev fr z=some (aa r)) (hu:ev fr u=some (aa s)) (hq:q=(i:Int)) (hr:r=(j:Int)) (hs:s=(l:Int)) (hij:i<=j) (hjl:j<=l) (hl:l<=cp) (h:∀v,T c ((d,v)::fr) H Φ):On c fr H (some d) (.slice t x (some y) (some z) (some u)) ty Φ:=⟨fun _ _ _=>O3 fun Q ac w st g=>by
 subst hq hr hs;have he2:=Aev hS;obtain ⟨v,h3⟩:∃v,(Instr.sliceAt t (ab a n cp) (some (aa (i:Int))) (some (aa (j:Int))) (some (aa (l:Int)))).run c.P w=.ok v w:=by
  rw [run_sliceAt_slice (h:=GF),run_slice_lhm (ht:=GF) (h0:=EZ) (h1:=EZ) (h2:=EZ) (h3:=EZ),he2,Ms hS.s];exact ⟨_,rfl⟩
 have e1:∀pos Cc gd,(execOp ac.eval ⟨some d,.slice t x (some y) (some z) (some u),ty,pos,Cc,gd⟩).run c.P w=.ok (.value v) w:=by
  intro pos Cc gd;simp only [execOp,cN,bY,g.ev hx,g.ev hy,g.ev hz,g.ev hu,Sem.run_bind,h3,Result.andThen_ok,Sem.run_pure]
 rw [e1];exact (h v).h _ w st (g.put hd)⟩
theorem Ax8 {α:Type} {E:Bt α} (sc:Aao E) (one:One E) {t e m b g n cp i j q c2:Nat} {zv:Value} [hS:SlC c.P t e m] [hE:ElT c.P e zv m b] (hm:E.sz=m) {xs:List α} {F:aq} {S:List Pc}
  (hd:Nat.blt d c.n=true) (hx:ev fr x=some (ab (some ⟨g,0,none⟩) i cp)) (hy:ev fr y=some (ab (some ⟨g,q,none⟩) (n - j) c2)) (hq:j < n->q=j * m) (hij:i<=j) (hj:j<=n) (hn:n=xs.length)
  (hp:C2 H (.ow E e (ab (some ⟨g,0,none⟩) n cp) xs F) S) (h:T c ((d,ab (some ⟨g,0,none⟩) (i+(n - j)) cp)::fr) (.ow E e (ab (some ⟨g,0,none⟩) n cp) (xs.take i++xs.drop j++xs.drop (i+(n - j))) F::S) Φ) :
  On c fr H (some d) (.call { callee:=.builtin .append,args:=#[x,y],argTypes:=#[t,t] }) ty Φ:=⟨fun _ _ _=>O3 fun Q a w s ag=>by
 subst hm hn;have s1:=s.pick hp;obtain ⟨hnd,ho⟩:=s1.on (.ow E e (ab (some ⟨g,0,none⟩) xs.length cp) xs F) FB;have hF:=ho.scal sc;rcases ho with ⟨h1, -, -⟩|⟨g2,cap,cs,rest,G,h1,h2,h3,h4,h5,h6,h7⟩
 ·cases h1
 cases h1;have hG:G=[]:=IL
 subst hG h7;obtain ⟨ti,hi,hiz⟩:=cw.1 hE.i;simp only [Prod.mk.injEq] at hiz;obtain ⟨-,i2, -⟩:=hiz;have hl:=h6.len;have hle:i+(xs.length - j)<=xs.length:=EZ
 have fi:=(h6.cutL i EZ).1;have fj:=(h6.cutL j hj).2;have fk:=(h6.cutL (i+(xs.length - j)) hle).2;have hd1:(cs.take (i * E.sz)).length=i * E.sz:=by have:=fi.len;rw [aP (l:=xs),cZ EZ] at this;exact this
 have hd2:(cs.drop (j * E.sz)).length=(xs.length - j) * E.sz:=by have:=fj.len;rwa [aX (l:=xs)] at this
 have h1c:=h6.one' one;have hsm:(i+(xs.length - j)) * E.sz<=xs.length * E.sz:=cI _ hle;have hadd:(i+(xs.length - j)) * E.sz=i * E.sz+(xs.length - j) * E.sz:=cH _ _ _;have hsrc:∀r u,(cs.drop (j * E.sz))[r]?=some u->w.cell? ((⟨g,q,none⟩:Addr).add r)=some u:=fun r u hu=>by
  have hr:r < (cs.drop (j * E.sz)).length:=(co.1 hu).1;have hlt:j < xs.length:=by
   rcases d9 j xs.length with h|h
   ·exact h
   ·rw [hd2,show xs.length - j=0 by omega] at hr;simp at hr
  rw [hq hlt,Addr.add_lit,h2.cell,bB (by rw [aX] at hr;omega)];rw [dD] at hu;exact hu
 have hr:=fun ty=>run_append_room_cells (P:=c.P) w t ty e ti hS.u hi g 0 i cp ⟨g,q,none⟩ (xs.length - j) c2 (cs.drop (j * E.sz)) (by rw [hd2,i2]) hsrc (fun u hu=>h1c u (bu hu)) EZ
  (fun r hr=>by rw [i2,h2.cell,aD IN];rfl) (fun r _=>h2.frozen _)
 have e1:∀pos Cc gd,(execOp a.eval ⟨some d,.call { callee:=.builtin .append,args:=#[x,y],argTypes:=#[t,t] },ty,pos,Cc,gd⟩).run c.P w=.ok (.value (ab (some ⟨g,0,none⟩) (i+(xs.length - j)) cp)) (w.setCells g (0+i * E.sz) (cs.drop (j * E.sz))):=by
  intro pos Cc gd;simp only [execOp,resolve,invoke,builtin,Sem.run_bind,Sem.run_pure,Result.andThen_ok,cW,cB,da,ag.ev hx,ag.ev hy,hr,i2]
 rw [e1];have R0:Ib w g e (cs.take (i * E.sz)++(cs.drop (i * E.sz)).take ((xs.length - j) * E.sz)++(cs.drop ((i+(xs.length - j)) * E.sz)++rest)):=by
  rw [hadd,<-cA,aN,<-aN _ _ rest,bo,<-aN,bo];exact h2
 have R1:=Ib.put (cs.drop (j * E.sz)) _ R0 (p:=0+i * E.sz) EZ (by rw [hd2,aP,aX];omega);have hk:=Lt (g:=g) (cs.drop (j * E.sz)) w (0+i * E.sz);rw [Ml w g] at R1 hk;have hW:(Pc.ow E e (ab (some ⟨g,0,none⟩) xs.length cp) (xs.take i++xs.drop j++xs.drop (i+(xs.length - j))) [g]).P (w.setCells g (0+i * E.sz) (cs.drop (j * E.sz))):=by
  have hll:(xs.take i++xs.drop j++xs.drop (i+(xs.length - j))).length=xs.length:=by simp only [aA,aP,aX];omega
  refine ⟨FB,.inr ⟨g,cp,cs.take (i * E.sz)++cs.drop (j * E.sz)++cs.drop ((i+(xs.length - j)) * E.sz),rest,[],by rw [hll],by simpa [aN] using R1,by rw [hll];exact h3,h4,?_,?_,rfl⟩⟩
  ·rw [aA,aA,hd1,hd2,aX,hl,<-h5];omega
  ·have:=((fi.all (w.setCells g (0+i * E.sz) (cs.drop (j * E.sz)))).append (fj.all _)).append (fk.all _);exact EX
 exact h.h _ _ (St.turn (M:=[.ow E e (ab (some ⟨g,0,none⟩) xs.length cp) xs [g]]) (N:=[.ow E e (ab (some ⟨g,0,none⟩) xs.length cp) (xs.take i++xs.drop j++xs.drop (i+(xs.length - j))) [g]]) s1 HD (by intro q hq;rw [aM] at hq;subst hq;exact hW) ⟨FB,trivial⟩ (by
   intro q hq b hb;rw [aM] at hq;subst hq;exact .inr (.inl ⟨_,aM.2 rfl,rfl,hb⟩))) (ag.put hd)⟩
end
theorem Bds (xs:List (am)) (n i:Nat) (j:Int) (a:aj) (c:Nat) (F:aq) (hn:n=xs.length) (hi:i < xs.length) (hj:j=(i:Int)+1) (hl:xs.length<=1000000) :
  Fn prog 352 [ab a n c,aa i,aa j] [] [.ow (EC 3) 193 (ab a n c) xs F] (fun (_:aj × Nat × aq)=>True)
   (fun z=>.slice z.1 (xs.take i++xs.drop (i+1)).length z.2.1) (fun z=>[.ow (EC 3) 193 (.slice z.1 (xs.take i++xs.drop (i+1)).length z.2.1) (xs.take i++xs.drop (i+1)) z.2.2]):=by
 subst hn;refine enter func352 rfl ntmps352 fun w0=>?_;refine Alq (xs:=xs) (H5 3) (by rintro rfl;simp at hi) ?_;rintro g rfl rfl - hc1 hc2;refine go ?_;apply wO;refine An0 (i:=i) (j:=i+1) (l:=xs.length) rfl rfl rfl rfl rfl rfl EZ rfl EZ EZ hc1 (fun _=>?_);refine go ?_;refine A4 rfl (fun h=>absurd h EZ) (fun _=>?_);refine go ?_;refine Ar [] [] ?_;refine Dh 0 1 ?_;refine dt 2 ?_ (hy:=O0 (i:=i) rfl rfl rfl EZ EZ);refine Dh 3 4 ?_;refine dt 5 ?_ (hy:=Bal (i:=i+1) rfl rfl EZ EZ hc1);refine dN 6 ?_
 refine Ax8 (m:=3) (i:=i) (j:=i+1) (q:=if c=i+1 then 0 else 0+(i+1) * 3) (g:=g) (cp:=c) (n:=xs.length) (H5 3) (Pp 3) rfl rfl rfl rfl (fun h=>by rw [aC EZ];omega) EZ EZ rfl FE ?_;refine dk ?_;refine dt 7 ?_;refine dd ?_;refine go ?_;apply wO;apply oc;rfl;exact Aso (i:=i+(xs.length - (i+1))) (j:=xs.length) rfl rfl rfl rfl rfl EZ EZ hc1;refine go ?_;apply wO
 refine Ar0 (xs:=xs.take i++xs.drop (i+1)++xs.drop (i+(xs.length - (i+1)))) (z0:=[aa 0,ab none 0 0,aa 0]) (n:=xs.length) (cp:=c) (i:=i+(xs.length - (i+1))) (g:=g) (H5 3) (fun w=>⟨rfl,⟨rfl,FO⟩,rfl⟩) FA rfl rfl EZ GW FE ?_;have hk:(xs.take i++xs.drop (i+1)).length=i+(xs.length - (i+1)):=GW
 refine Alt (xs:=(xs.take i++xs.drop (i+1)++xs.drop (i+(xs.length - (i+1)))).take (i+(xs.length - (i+1)))++List.replicate (xs.length - (i+(xs.length - (i+1)))) [aa 0,ab none 0 0,aa 0]) (i+(xs.length - (i+1))) (fun F2=>?_) GW;rw [bT (by rw [bT hk,hk]),bT hk,<-hk];refine go ?_;refine ret (_,c,F2) trivial rfl
section
variable {c:Cx} {fr:Fr} {H:List Pc} {k:List It} {Φ:Gl} {ops:Array Oper} {o:Op} {ty:TypeId} {pos:String} {Cc:Array Edge} {H0:List Pc} {X:aq} {f:Nat} {listed:Array Bool}
theorem Ez.many {P:Program} {md:Region.Mode} {Q:Exit->Act->World->Prop} {S:World->Prop} {Y:Nat->Bool} {a:Act} {w:World} (hne:(Region.ready md ops listed).isEmpty=false)
  (h:∀i∈Region.ready md ops listed,∃oi,ops[i]?=some oi/\∀K':Act->World->Prop,Shut (∀a w,(Y i=false->S w)->Ez P md ops Q S Y f (listed.setIfInBounds i true) a w->K' a w)->if Region.wanted oi (yielded ops a.tmps)=true then Oper.wp P oi a w K' Q else K' (a.put oi.dst undef) w) :
  Ez P md ops Q S Y (f+1) listed a w:=by
 refine ⟨fun h0=>(by rw [h0] at hne;cases hne),fun j hj=>?_⟩;obtain ⟨oi,ho,hh⟩:=h j hj;exact wpOp_step ho (fun K' hK=>hh K' (fun a w hS hW=>hK a w ⟨hS,hW⟩))
theorem dP (L:aq) (hr:(Region.ready .any ops listed).all (fun i=>L.contains i)=true) (hne:(Region.ready .any ops listed).isEmpty=false)
  (h:∀i∈L,listed.getD i true=false->∃o,ops[i]?=some o/\o.guard=none/\Ef c fr H o (.dk i k H0 X ops f (listed.setIfInBounds i true))):T c fr H (.dx k H0 X ops (f+1) listed):=.mk fun a w s g =>
 Ez.many hne fun i hi=>by
  obtain ⟨o,ho,hg,he⟩:=h i (by simpa using aW.1 hr i hi) (by have:=(bP.1 hi).2;simp only [aw,bA] at this;exact this.1);refine ⟨o,ho,fun K hK=>?_⟩;rw [aJ (by simp [Region.wanted,hg])];exact Oper.wp_mono (fun a' w' h'=>hK a' w' h'.1 h'.2) (he.h _ a w s g)
theorem dE (i:Nat) {od:Option Tmp} (ho:ops[i]?=some ⟨od,o,ty,pos,Cc,none⟩) (h:On c fr H od o ty Φ):∃o,ops[i]?=some o/\o.guard=none/\Ef c fr H o Φ:=⟨_,ho,rfl,h.h _ _ _⟩
theorem Agj (z:am) (n:Nat):madeCells z.toArray (n * z.length)=((List.replicate n z).flatten).toArray:=by
 have:=Nu z.toArray n;rw [fz] at this;rw [<-Array.toArray_toList (xs:=madeCells z.toArray (n * z.length)),this]
theorem Bgh {b:Bool} (h:b=false) (h2:b=true):False:=by rw [h2] at h;cases h
end
def zP:As:=⟨0,0,0,0,⟨#[]⟩⟩
def M8 (q:List As):As:=q.headD zP
theorem Xl {q:List As} (h:0 < q.length):M8 q=q[0]:=by
 cases q with
 | nil=>cases h
 | cons p r=>rfl
theorem Bdt (xs:List As) (n i:Nat) (j:Int) (a:aj) (c:Nat) (F:aq) (hn:n=xs.length) (hi:i < xs.length) (hj:j=(i:Int)+1) (hl:xs.length<=1048576) :
  Fn prog 315 [ab a n c,aa i,aa j] [] [.ow An 141 (ab a n c) xs F] (fun (_:aj × Nat × aq)=>True)
   (fun z=>.slice z.1 (xs.take i++xs.drop (i+1)).length z.2.1) (fun z=>[.ow An 141 (.slice z.1 (xs.take i++xs.drop (i+1)).length z.2.1) (xs.take i++xs.drop (i+1)) z.2.2]):=by
 subst hn;refine enter func315 rfl ntmps315 fun w0=>?_;refine Alq (xs:=xs) Jm (by rintro rfl;simp at hi) ?_;rintro g rfl rfl - hc1 hc2;refine go ?_;apply wO;refine An0 (i:=i) (j:=i+1) (l:=xs.length) rfl rfl rfl rfl rfl rfl EZ rfl EZ EZ hc1 (fun _=>?_);refine go ?_;refine A4 rfl (fun h=>absurd h EZ) (fun _=>?_);refine go ?_;refine Ar [] [] ?_;refine Dh 0 1 ?_;refine dt 2 ?_ (hy:=O0 (i:=i) rfl rfl rfl EZ EZ);refine Dh 3 4 ?_;refine dt 5 ?_ (hy:=Bal (i:=i+1) rfl rfl EZ EZ hc1);refine dN 6 ?_
 refine Ax8 (m:=5) (i:=i) (j:=i+1) (q:=if c=i+1 then 0 else 0+(i+1) * 5) (g:=g) (cp:=c) (n:=xs.length) Jm Ho rfl rfl rfl rfl (fun h=>by rw [aC EZ];omega) EZ EZ rfl FE ?_;refine dk ?_;refine dt 7 ?_;refine dd ?_;refine go ?_;apply wO;apply oc;rfl;exact Aso (i:=i+(xs.length - (i+1))) (j:=xs.length) rfl rfl rfl rfl rfl EZ EZ hc1;refine go ?_;apply wO
 refine Ar0 (xs:=xs.take i++xs.drop (i+1)++xs.drop (i+(xs.length - (i+1)))) (z0:=zP) (n:=xs.length) (cp:=c) (i:=i+(xs.length - (i+1))) (g:=g) Jm (fun w=>⟨rfl,aG _,rfl⟩) FA rfl rfl EZ GW FE ?_;have hk:(xs.take i++xs.drop (i+1)).length=i+(xs.length - (i+1)):=GW
 refine Alt (xs:=(xs.take i++xs.drop (i+1)++xs.drop (i+(xs.length - (i+1)))).take (i+(xs.length - (i+1)))++List.replicate (xs.length - (i+(xs.length - (i+1)))) zP) (i+(xs.length - (i+1))) (fun F2=>?_) GW;rw [bT (by rw [bT hk,hk]),bT hk,<-hk];refine go ?_;refine ret (_,c,F2) trivial rfl
theorem Bfv (xs:List As) (a:aj) (c:Nat) (F:aq) (hl:xs.length<=1000000000) :
  Fn prog 182 [ab a xs.length c] [.sl An (ab a xs.length c) xs F] [] (fun (_:aj × Nat × aq)=>True) (fun z=>ab z.1 xs.length z.2.1) (fun z=>[.ow An 141 (ab z.1 xs.length z.2.1) xs z.2.2]):=by
 refine enter func182 rfl ntmps182 fun w0=>?_;refine go ?_;cases a with
 | none =>
  refine Azu (xs:=xs) fun h0=>?_;subst h0;apply wO;apply oc;rfl;exact Aly rfl;refine Cf An 141 ?_;refine go ?_;refine ret (none,0,[]) trivial rfl
 | some ad =>
  apply wO;apply oc;rfl;exact Aly rfl;refine go ?_;intros;refine Cy An ?_;apply wO;refine Ni Ho Jm fun a2 c2 F2=>?_;rw [aZ];exact DJ
theorem Agm (d:List (List As)) (i:Nat) (a:aj) (n c:Nat) (F:aq) (hn:n=d.length) (hi:i < d.length) (h6:d[i].length<=6):Fn prog 264 [ab a n c,aa (i:Nat)] [] [.ow (Ki An 141) 125 (ab a n c) d F] (fun (_:aq)=>True) (fun _=>.tuple #[.agg #[aa (M8 d[i]).Cq,aa (M8 d[i]).Ae,aa (M8 d[i]).Am,aa (M8 d[i]).E7,af (M8 d[i]).data],.bool (decide (0 < d[i].length))]) (fun G=>[.ow (Ki An 141) 125 (ab a n c) (d.set i (d[i].drop 1)) G]):=by
 refine enter func264 rfl ntmps264 fun w0=>?_;refine Aca (m:=1) i ?_ rfl hi;rintro _ g A cs B k1 k2 G1 Gi G2 rfl - hc hH;refine Yh ?_;rintro a5 c5 ev l5;obtain rfl:=Pw ev;refine go ?_;intros;refine A4 rfl (fun h1=>?_) (fun h1=>?_)
 ·have h0:d[i]=[]:=bv.1 EZ;rw [h0];refine go ?_;refine Kl [] ?_;refine V0 _ hH rfl fun F6=>?_;refine ret F6 trivial rfl
 ·have h0:0 < d[i].length:=EZ
  rw [av h0,Xl h0];refine Atg (xs:=d[i]) 0 ?_;rintro _ g2 A2 B2 rfl rfl sz hH2;refine Io ?_;intros;refine Pz d[i][0] hH2 (fun w=>⟨rfl,sz,rfl⟩) ?_;rw [bx];refine go ?_;refine Bf (Bdt d[i] d[i].length 0 1 _ c5 _ rfl h0 rfl EZ) fun z _=>?_;rw [show d[i].take 0++d[i].drop (0+1)=d[i].drop 1 by simp];refine go ?_;refine Kl (d[i].drop 1) ?_;refine V0 _ hH rfl fun F6=>?_;refine ret F6 trivial rfl
def W4 (l:List (List As)) (k:Nat):List (List As):=l.take k++List.replicate (l.length - k) []
theorem Ate {l:List (List As)} {k:Nat} (h:k<=l.length):(W4 l k).length=l.length:=by unfold W4;simp;omega
theorem Atf {l:List (List As)} {k:Nat} (h:k < l.length):(W4 l k).set k l[k]=W4 l (k+1):=by
 unfold W4;have e:List.replicate (l.length - k) ([]:List As)=[]::List.replicate (l.length - (k+1)) []:=by rw [show l.length - k=(l.length - (k+1))+1 by omega,cU]
 have hl:(l.take k).length=k:=GE
 rw [e,eH _ _ EZ,hl,Nat.sub_self,bj,aO h,aN];rfl
theorem Jj (l:List (List As)) (a:aj) (c:Nat) (F:aq) (hl:l.length<=1048576) (hq:∀q∈l,q.length<=1000000000):Fn prog 103 [ab a l.length c] [.sl (Oa An FA) (ab a l.length c) l F] [] (fun (_:Nat × aq)=>True) (fun z=>ab (some ⟨z.1,0,none⟩) l.length l.length) (fun z=>[.ow (Ki An 141) 125 (ab (some ⟨z.1,0,none⟩) l.length l.length) l z.2]):=by
 refine enter func103 rfl ntmps103 fun w0=>?_;refine go ?_;apply wO;refine Aqa l.length (cs:=(List.replicate l.length ([ab none 0 0]:am)).flatten) rfl rfl rfl (Agj _ _) EZ EZ fun g=>?_;refine Eh (E:=Ki An 141) (xs:=List.replicate l.length []) (fun w=>Cz.rep0 (E:=Ki An 141) (w:=w) (zs:=[ab none 0 0]) (z:=([]:List As)) ⟨_,rfl,.inl ⟨rfl,rfl,rfl⟩⟩ _) ?_ JJ;rw [bw,show List.replicate l.length ([]:List As)=W4 l 0 by unfold W4;simp];refine go ?_
 refine Bx [2,3,9,10] (fun z:KF=>[(11,aa (z.k:Nat))]) (fun z=>[.ow (Ki An 141) 125 (ab (some ⟨g,0,none⟩) l.length l.length) (W4 l z.k) z.F]) (fun z=>z.k<=l.length) (fun z=>l.length - z.k) ⟨0,_⟩ (aG _) fun z hz0=>?_;have hfl:=Ate hz0;refine go ?_;refine A4 rfl (fun h1=>?_) (fun h1=>?_)
 ·have hk:z.k < l.length:=EZ
  refine Oc (E:=An) (hz:=FA) (xs:=l) z.k ?_;rintro hi6 b6 o6 a11 c11 F11 rfl l11;refine Aca (xs:=W4 l z.k) (m:=1) z.k ?_ rfl EZ;rintro _ g2 A cs B k1 k2 G1 Gi G2 e2 - hc hH;cases e2;refine Yh ?_;rintro a5 c5 ev l5;obtain rfl:=Pw ev;refine go ?_;refine Bf (Bfv l[z.k] a11 c11 F11 (hq _ (aB hk))) fun y _=>?_;refine go ?_;refine Kl l[z.k] ?_;refine V0 _ hH rfl fun F6=>?_;rw [Atf hk];refine go ?_;refine Ca ⟨z.k+1,F6⟩ hk (by show l.length - (z.k+1) < l.length - z.k;omega)
 ·rw [show W4 l z.k=l by unfold W4;rw [show z.k=l.length by omega];simp];refine go ?_;refine ret (g,z.F) trivial rfl
theorem Afc (fid:FuncId) (hbd:Yo prog fid) (caps:Array Value) (v:Value) (xs:List Iz) (F:aq) (p:Iz->Bool) (w:World) (h:Sl Bw w v xs F)
  (hp:∀(k:Nat) (hk:k < xs.length) (wr:World) (u:Value) (G:aq),Below w.heap.size w wr->Ro Bw wr u xs[k] G->Calls prog fid (#[u]++caps) wr fun e w'=>e=.returned (.bool (p xs[k]))/\Below wr.heap.size wr w') :
  Calls prog 342 #[v,.func (.func fid) #[] caps] w (RB (aa (Re p xs)) w):=by
 obtain ⟨a,cap,rfl⟩:=h.slice;have hl:=h.len;unfold maxLen at hl
 go_enter func342,ntmps342
 go_wp2
 go_loopw [5,8] (fun _ i wr=>∃k:Nat,k<=xs.length/\i=aa k/\Hid (∀j,j < k->∀hj:j < xs.length,p xs[j]=false)/\Below w.heap.size w wr) (fun _ i _=>xs.length - (intOf i).toNat)
 case atStart=>exact ⟨0,aG _,rfl,fun j hj=>by omega,Below.refl _ _⟩
 case round =>
  obtain ⟨k,hk,rfl,hz,hB⟩:=hrel;by_cases hlt:k < xs.length
  ·have hz0:=hz;clear hz;obtain ⟨b,off,_,F1,rfl,hx, -,ja⟩:=(h.below FA hB).at k hlt;obtain ⟨rfl,rfl⟩:=id hx;have a0:=ja 0 FA;have a1:=ja 1 FA;simp only [show Bw.sz=2 from rfl,cV,bR,bM,bH] at a0 a1;clear ja;have hr:=hp k hlt wr _ _ hB ⟨_,rfl,hx⟩;have hp:=Lib.hid hp;cases hpk:p xs[k]
   all_goals
    rw [hpk] at hr;have hpk:=Lib.hid hpk;have hr:=Lib.hid hr;go_wp2_with fail;refine hbd.upon hr.out ?_;rintro e w1 ⟨rfl,hb1⟩;refine ⟨_,rfl,?_⟩;have hB:=tr hB hb1 (aL _);clear hb1;go_wp2_with fail
   ·exact AV
   ·go_ret
    exact EN
  ·go_wp2
   go_ret
   exact DG
theorem Ao6 (v:Value) (xs:List Iz) (F:aq) (w:World) (h:Sl Bw w v xs F) (hm:xs.length<=4294967296) :
  Calls prog 181 #[v] w (Wr Bw 191 xs w):=by
 obtain ⟨ao,c,news,Fy,rfl,hl,hfy,hFy,hsrc⟩:=h.src;have hFl:=hfy.lt;have he:=fun w (a:aj) (n c:Nat)=>Lib.run_eql_slice_nil (P:=prog) w 30 _ a n c 0 0 underlying30
 go_enter func181,ntmps181
 rcases hsrc with ⟨rfl,rfl,rfl⟩|⟨ad,rfl,hn⟩
 ·go_wp2
  go_ret
  exact CE
 ·go_wp2_with (at_builtin;refine Oz Is FA FL _ _ _ FL 191 (.agg #[aa 0,aa 0]) 16 underlying30 Ai3 rfl (ab (some ⟨w.heap.size,0,none⟩) 0 0) [] [w.heap.size] FL (Ow.empty (Ib.made _ _ _)) (Hd.one _) (some ad) xs c FL news Fy (hfy.frame fun b hb=>Below.heap_alloc _ _ _ (hFl b hb)) (.inr ⟨ad,rfl,fun j u hu=>kc ((Below.refl _ _).alloc (aL _) _) (hn j u hu)⟩) (fun b hb e=>by have:=hFl b hb;simp [Value.ownBlock] at e;omega) GY GV ?_);intro v2 w2 F2 hA;go_wp2_with fail
  go_ret
  have hB:Below w.heap.size w w2:=((Below.refl _ _).alloc (aL _) _).trans (hA.I0.below FB FB);have hs:∀b,v2.ownBlock=some b->w.heap.size<=b:=fun b hb=>by rcases hA.Aqo with e|e <;> rw [e] at hb <;> simp [Value.ownBlock] at hb <;> omega
  refine ⟨v2,F2,rfl,IM,hA.ow.scal Ks▸?_,fun b hb=>?_,hB⟩
  ·cases v2.ownBlock <;> simp
  ·rw [hA.ow.scal Ks] at hb;exact hs b IY
theorem Wb (fid:FuncId) (hbd:Yo prog fid) (caps:Array Value) (v:Value) (xs:List Iz) (F:aq) (p:Iz->Bool) (w:World) (h:Ow Bw 191 w v xs F) (hn:F.Nodup)
  (hp:∀(k:Nat) (hk:k < xs.length) (wr:World) (u:Value) (G:aq),Ei F w wr->Ro Bw wr u xs[k] G->Calls prog fid (#[u]++caps) wr fun e w'=>e=.returned (.bool (p xs[k]))/\Below wr.heap.size wr w') :
  Calls prog 306 #[v,.func (.func fid) #[] caps] w fun e w'=>∃v' F',e=.returned v'/\Ow Bw 191 w' v' (xs.filter fun x=>!p x) F'/\F'.Nodup/\(∀b∈F',b∈F)/\Ei F w w':=by
 obtain ⟨F1,hF1,hs⟩:=h.sl (Mq.refl _);obtain ⟨a,cap,rfl⟩:=h.slice;have hl:=h.len;unfold maxLen at hl;have hp:=Lib.hid hp
 go_enter func306,ntmps306
 go_wp2_with fail;refine (Afc fid hbd caps _ xs F1 p _ hs (fun k hk wr u G hb hu=>hp.out k hk wr u G (Ei.ofBelow hb) hu)).mono ?_;rintro e w1 ⟨rfl,hb1⟩;have hK1:=Ei.ofBelow (F:=F) hb1;by_cases hany:xs.any p=true
 ·obtain ⟨k0,hk0,hfx,hpk,hfl⟩:=X7 hany;rw [hfx];obtain ⟨g,rfl, -,hg0⟩:=Gap.start (h.below hb1) hn (ys:=xs.take k0) (zs:=xs[k0]::xs.drop (k0+1)) FB EZ;obtain ⟨F0,hg0,hF0⟩:=hg0.skip;have hG0:=Lib.hid hg0;clear hg0;have hk1:((k0:Int) == -1)=false:=FB
  go_wp2_with fail
  go_loopw [5,6,7] (fun i j _ wr=>∃(q m:Nat) (F1:aq),q<=xs.length/\0 < m/\((xs.take q).filter fun x=>!p x).length+m=q/\i=aa ((xs.take q).filter fun x=>!p x).length/\j=aa q/\Hid (Gap Bw 191 wr g xs.length cap ((xs.take q).filter fun x=>!p x) m (xs.drop q) F1)/\(∀b∈F1,b∈F)/\Ei F w wr) (fun _ j _ _=>xs.length - (intOf j).toNat)
  case atStart=>exact ⟨k0+1,1,F0,hk0,EZ,HG,HG,HQ,by rw [Da hk0 KK,hfl];exact hG0,hF0,hK1⟩
  case round =>
   obtain ⟨q,m,F1,hq,hm,hlen,rfl,rfl,hG,hF1,hK⟩:=hrel;obtain ⟨-,hcap, -⟩:=hG.out.caps;generalize hys:((xs.take q).filter fun x=>!p x)=ys at *;by_cases hlt:q < xs.length
   ·rw [bS hlt] at hG;obtain ⟨c,Fx,hx,hFx,hcell⟩:=hG.out.first
    obtain ⟨Fx2, -,hxe⟩:=(Mq.refl _).L8 hx;obtain ⟨rfl,rfl⟩:=id hx;have a0:=hcell 0 FA;have a1:=hcell 1 FA;simp only [hlen,show Bw.sz=2 from rfl,cV,bR,bM,bH] at a0 a1;have hr:=fun A=>hp.out q hlt (wr.alloc A) _ Fx2 (hK.alloc A) ⟨_,rfl,Bw.below hxe ((Below.refl wr.heap.size wr).alloc (aL _) A)⟩;cases hpq:p xs[q]
    ·obtain ⟨st,c2,Fx3,hx3, -,hcell2,back⟩:=hG.out.move hm;simp only [hpq] at hr;obtain rfl:=Ag6 (Bw.len hx) (Bw.len hx3) hcell hcell2;have st:=st;obtain ⟨⟨x0,z0⟩,g0⟩:=st 0 FA;obtain ⟨⟨x1,z1⟩,g1⟩:=st 1 FA;simp only [show Bw.sz=2 from rfl,cV,bR] at z0 g0 z1 g1;have hr:=Lib.hid hr;have hbk:=Lib.hid back;have hpq:=Lib.hid hpq;have hys:=Lib.hid hys;have hlen:=Lib.hid hlen;have hyl:ys.length < xs.length:=by have:=hlen.out;omega
     clear hx hxe hcell hcell2 hx3 back st hfx hpk hfl;go_wp2_with fail;refine hbd.upon (hr.out _) ?_;rintro e w2 ⟨rfl,hb2⟩;refine ⟨_,rfl,?_⟩;have b2:=(Ib.below (g:=wr.heap.size) (t:=191) (cs:=[aa xs[q].Ae,aa xs[q].Co]) (by simp [Je]) hb2).cells;have hbb:=tr ((Below.refl wr.heap.size wr).alloc (aL _) _) hb2 (aL _);clear hb2;have g0:=(kf hbb z0).trans g0;have z0:=kc hbb z0;have g1:=(kf hbb z1).trans g1;have z1:=kc hbb z1;obtain ⟨F2,hg2,hF2⟩:=hbk.out w2 hbb;simp only [Nw,show Bw.sz=2 from rfl,cV] at hg2;have hg2:=Lib.hid hg2
     have hgF:g∈F:=hF1 g hG.out.caps.2.2.2.2.1;go_wp2_with fail;exact ⟨⟨q+1,m,F2,EZ,hm,KL,by rw [Gz hlt IU,hys.out,aA];go_num,HQ,by rw [Gz hlt IU,hys.out];exact hg2.out,fun b hb=>hF1 b (hF2 b hb),KH⟩,GJ⟩
    ·obtain ⟨F2,hg2,hF2⟩:=hG.out.skip;simp only [hpq] at hr;have hr:=Lib.hid hr;have hg2:=Lib.hid hg2;have hpq:=Lib.hid hpq;have hys:=Lib.hid hys;have hlen:=Lib.hid hlen;clear hx hxe hcell hfx hpk hfl;go_wp2_with fail;refine hbd.upon (hr.out _) ?_;rintro e w2 ⟨rfl,hb2⟩;refine ⟨_,rfl,?_⟩;have hbb:=tr ((Below.refl wr.heap.size wr).alloc (aL _) _) hb2 (aL _);clear hb2;go_wp2_with fail
     exact BO
   ·have hqe:q=xs.length:=EZ
    subst hqe;simp only [List.drop_length,bl] at hG hys;obtain ⟨hc,F2,ho2,hn2,hF2⟩:=hG.out.done (z:=#[aa 0,aa 0]) rfl;have hmm:xs.length - ys.length=m:=EZ
    have hcl:=fun ty=>Th (P:=prog) wr 30 191 ty (.agg #[aa 0,aa 0]) underlying30 (V9 Ai3) (by simp [Value.cells,Value.oneCell']) g (ys.length * 2) m (cap - ys.length) hm (fun j hj=>(hc j hj).1) (fun j hj=>(hc j hj).2);have hyl:ys.length < xs.length:=EZ
    have hgF:g∈F:=hF1 g hG.out.caps.2.2.2.2.1;have hO:=Lib.hid ho2;have hlen:=Lib.hid hlen;have hys:=Lib.hid hys;clear ho2 hc hfx hpk hfl;go_wp2_with fail
    go_ret
    exact DC
 ·obtain ⟨hfx,hfl⟩:=Aaw hany;rw [hfx];go_wp2_with fail
  go_ret
  exact ⟨_,F,rfl,by rw [hfl];exact h.below hb1,hn,fun b hb=>hb,hK1⟩
theorem Aff (x:Cr) (v:Value) (F:aq) (hl:x.Aa.Ak.length<=4294967296) (hl2:x.holds.length<=4294967296):Fn prog 102 [v] [.isv Ex v x F] [] (fun (_:Value × aq)=>True)
  (fun s=>s.1) (fun s=>[.own X0 s.1 x s.2]):=by
 refine enter func102 rfl ntmps102 fun w0=>?_;refine H9 ?_;rintro a1 c1 F1 a2 c2 F2 rfl l1 l2;refine Ct x.Aa ?_;generalize F1=F3;refine go ?_;intros;refine cv (fun w s=>Zg _ x.Aa _ w (s.get (p:=.isv Cj (.agg #[aa x.Aa.Am,aa x.Aa.size,ab a1 x.Aa.Ak.length c1]) x.Aa F3) FB) hl) fun v F'=>?_;refine Jw ?_;rintro a5 c5 F5 rfl l5;refine go ?_;refine cn (fun w s=>Ao6 _ _ _ _ (s.get (p:=.sl Bw (ab a2 x.holds.length c2) x.holds F2) FB).2 hl2) fun a6 c6 F6=>?_;refine go ?_;refine Akq x ?_;exact CF
theorem Bbn (W:Aw) (h:Iz) (gb g o:Nat) (u:Value) (a:aj) (c:Nat) (cl q:Value) (Hs:Value) (G Fw:aq) (t0:0<=W.Am) (t1:W.Am<=65535) (n0:0<=h.Ae) (n1:h.Ae<=65535) :
  FV 307 [u,Ga gb 0 0] [.isv Bw u h G,.cel gb 0 [Ga g o 0],.cel g o [aa W.Am,aa W.size,ab a W.Ak.length c,cl,q,Hs],.isv Cj (.agg #[aa W.Am,aa W.size,ab a W.Ak.length c]) W Fw] (.bool (!I5 W h.Ae)):=by
 refine enter func307 rfl ntmps307 fun w0=>?_;refine An2 ?_;rintro _ rfl;refine go ?_;intros;refine Ar [0,2,3] [] ?_;refine Df 0 1 2 3 ?_;refine Dh 4 5 ?_;refine dN 6 ?_;refine oC ?_;refine cb (fun w st=>(W8 W h.Ae _ _ t0 t1 n0 n1).val w (Iw (st.get (p:=.isv Cj (.agg #[aa W.Am,aa W.size,ab a W.Ak.length c]) W Fw) FB))) ?_;refine dk ?_;refine Dh 7 8 ?_;refine dd ?_;refine go ?_;refine ret () trivial ?_;simp only [I5,Tn,decide_not]
theorem Apq {P:Program} {f:FuncId} {args:am} {p:Pc} {R:List Pc} {σ:Type} {C:σ->Prop} {v:σ->Value} {N:σ->Pc} (hm:p.mu=true)
  (h:∀w,p.P w->Ob R w->(∀wr,Ei p.F w wr->Ob R wr)->Calls P f args.toArray w fun e w'=>∃s,C s/\e=.returned (v s)/\(N s).P w'/\(∀b∈(N s).F,b∈p.F\/w.heap.size<=b)/\Ei p.F w w'):Fn P f args [] (p::R) C v (fun s=>N s::R):=fun w hH hS=>by
 rw [bg] at hH hS;have hR:Ob R w:=fun q hq=>hH q GB;have ap:∀q∈R,∀b∈q.F,b ∉ p.F:=fun q hq b hb hp=>hS.1 q hq (by simp [hm]) b hp hb;have hk:∀wr,Ei p.F w wr->Ob R wr:=fun wr k q hq=>q.st (hR q hq) fun b hb=>k.block b (q.lt (hR q hq) b hb) (ap q hq b hb);refine (h w (hH p FB) hR hk).mono ?_;rintro e w' ⟨s,hC,he,hN,hF,k⟩;refine ⟨s,hC,he,?_,⟨fun q hq _ b hb hbq=>?_,hS.2⟩,k.mono (fun b hb _=>by simp [fp,hb]),?_⟩
 ·intro q hq;rcases aH.1 hq with rfl|hq
  ·exact hN
  ·exact hk w' k q hq
 ·rcases hF b hb with h|h
  ·exact ap q hq b hbq h
  ·have:=q.lt (hR q hq) b hbq;omega
 ·intro q hq b hb;rcases aH.1 hq with rfl|hq
  ·rcases hF b hb with h|h
   ·exact .inr (.inl ⟨p,FB,h⟩)
   ·exact .inl h
  ·exact .inr (.inl ⟨q,GB,hb⟩)
theorem Bge {P:Program} {fn:Func} {R:Ending->World->Prop} {G D:aq} {w0:World} {n:Nat} {fr:Fr} {H:List Pc} (h:T ⟨P,G,D,w0,n,bodyPost P fn R⟩ fr H (.fin .ret)):T ⟨P,G,D,w0,n,bodyPost P fn R⟩ fr H (.norm []):=.mk fun a w s g=>h.h a w s g
def Nq (W:Aw) (hs:List Iz):List Iz:=hs.filter fun h=>I5 W h.Ae
theorem Bbo (W:Aw) (hs:List Iz) (gb tb g t o:Nat) (A B:am) (a a2:aj) (c c2:Nat) (cl q:Int) (F F2:aq) (t0:0<=W.Am) (t1:W.Am<=65535) (hn:∀h∈hs,Bz h.Ae=true) :
  Fn prog 306 [ab a2 hs.length c2,.func (.func 307) #[] #[Ga gb 0 0]] [] [.ow Bw 191 (ab a2 hs.length c2) hs F2,.row gb tb 0 [] [Ga g o 0] [],.row g t o A [aa W.Am,aa W.size,ab a W.Ak.length c,aa cl,aa q,ab a2 hs.length c2] B,.ow A8 9 (ab a W.Ak.length c) W.Ak F] (fun (_:aj × Nat × aq)=>True)
   (fun z=>.slice z.1 (Nq W hs).length z.2.1) (fun z=>[.ow Bw 191 (.slice z.1 (Nq W hs).length z.2.1) (Nq W hs) z.2.2,.row gb tb 0 [] [Ga g o 0] [],.row g t o A [aa W.Am,aa W.size,ab a W.Ak.length c,aa cl,aa q,ab a2 hs.length c2] B,.ow A8 9 (ab a W.Ak.length c) W.Ak F]):=by
 refine Apq rfl fun w ⟨hnd,ho⟩ _ hk=>?_;refine (Wb _ (Vc FC) #[Ga gb 0 0] _ hs F2 (fun h=>!I5 W h.Ae) w ho hnd fun k hk2 wr u G hK hu=>?_).mono ?_
 ·have hr:=hk wr hK;have r1:=hr (.row gb tb 0 [] [Ga g o 0] []) FB;have r2:=hr (.row g t o A [aa W.Am,aa W.size,ab a W.Ak.length c,aa cl,aa q,ab a2 hs.length c2] B) FB;obtain ⟨Fw, -,hw⟩:=(hr (.ow A8 9 (ab a W.Ak.length c) W.Ak F) FB).2.read;obtain ⟨n0,n1⟩:=A9.1 (hn hs[k] (aB hk2));refine (Bbn W hs[k] gb g o u a c (aa cl) (aa q) (ab a2 hs.length c2) G Fw t0 t1 n0 n1).val wr ?_;intro p hp;simp only [aH,aT,bm] at hp;rcases hp with rfl|rfl|rfl|rfl
  ·exact hu
  ·exact ⟨FB,If r1⟩
  ·exact ⟨FB,If r2⟩
  ·exact ⟨_,rfl,_,rfl,hw⟩
 ·rintro e w' ⟨v',F',rfl,h1,h2,h3,h4⟩;have e:(hs.filter fun x=>!(fun h:Iz=>!I5 W h.Ae) x)=Nq W hs:=by simp [Nq]
  rw [e] at h1;exact CQ
theorem Anb (W:Aw) (hs:List Iz) (g t o:Nat) (A B:am) (a a2:aj) (c c2:Nat) (cl q:Int) (F F2:aq) (t0:0<=W.Am) (t1:W.Am<=65535) (hn:∀h∈hs,Bz h.Ae=true) :
  Fn prog 258 [Ga g o 0] [] [.row g t o A [aa W.Am,aa W.size,ab a W.Ak.length c,aa cl,aa q,ab a2 hs.length c2] B,.ow Bw 191 (ab a2 hs.length c2) hs F2,.ow A8 9 (ab a W.Ak.length c) W.Ak F] (fun (_:aj × Nat × aq)=>True)
   (fun _=>.tuple #[]) (fun z=>[.row g t o A [aa W.Am,aa W.size,ab a W.Ak.length c,aa cl,aa q,.slice z.1 (Nq W hs).length z.2.1] B,.ow Bw 191 (.slice z.1 (Nq W hs).length z.2.1) (Nq W hs) z.2.2,.ow A8 9 (ab a W.Ak.length c) W.Ak F]):=by
 refine enter func258 rfl ntmps258 fun w0=>?_;refine go ?_;intros;refine Ar [0,1] [9] ?_;refine Df 0 1 2 3 ?_;refine Dh 4 5 ?_;refine dN 6 ?_;refine oC ?_;refine Bf (Bbo W hs _ _ g t o A B a a2 c c2 cl q F F2 t0 t1 hn) fun z _=>?_;refine dk ?_;refine Dh 7 8 ?_;refine dN 9 ?_;refine oS ?_;refine Nm ?_;refine dd ?_;refine Bge ?_;exact BL
theorem Ym {a t:Int}:Ev a t<=(gp a t).toNat:=by unfold Ev;split <;> omega
theorem Uu {w:Aj} {t:Int} (hg:Cv w=true):(Jd w t).next=Cc w.next ((Jc w t).length:Nat)/\(Jd w t).Ap=w.Ap.drop (Jc w t).length/\(Jc w t).length<=Ev w.next t+8/\Ev w.next t<=(Jc w t).length:=by
 obtain ⟨h0,h1⟩:0<=w.next/\w.next<=65535:=by
  unfold Cv at hg;simp only [aw] at hg;exact A9.1 hg.1.1.1
 have hl:w.Ap.length<=8:=by
  unfold Cv at hg;simp only [aw,aF] at hg;have:=hg.1.1.2;omega
 have e1:∀k (x:Aj),(N5 k x).length=k:=by
  intro k
  induction k with
  | zero=>intro x;rfl
  | succ k ih=>intro x;simp [N5,ih]
 have h2:=Adm (Ev w.next t) w h0 h1;have h3:=Xo (Iy (Ev w.next t) w).Ap (Iy (Ev w.next t) w).next
 have h4:=Sx (Ev w.next t) w;have h5:=Ar9 (Iy (Ev w.next t) w);rw [h4,aX] at h5;refine ⟨h2,?_,?_,?_⟩
 ·have e:(Jd w t).Ap=(Iy (Ev w.next t) w).Ap.drop (Q8 (Iy (Ev w.next t) w)).length:=h3.1;rw [e,h4,cA];unfold Jc;rw [aA,e1]
 ·unfold Jc;rw [aA,e1];omega
 ·unfold Jc;rw [aA,e1];omega
theorem Arp (w:Aj) (n:Int):Iv w n=Jr w.Ap (gp w.next n).toNat:=rfl
theorem Bb1 {w:Aj} {t n:Int} (hg:Cv w=true) (ht:gp w.next t<=8) (hn:Bz n=true) (h8:gp w.next n < 8) (hh:Iv w n=false) :
  (Tl n (Jd w t).next=true/\gp w.next n < ((Jc w t).length:Nat))\/(Tl n (Jd w t).next=false/\Iv (Jd w t) n=false/\gp w.next n=((Jc w t).length:Nat)+gp (Jd w t).next n):=by
 obtain ⟨e1,e2,e3, -⟩:=Uu (t:=t) hg;have hs:=@Ym w.next t
 obtain ⟨n0,n1⟩:=A9.1 hn;obtain ⟨w0,w1⟩:0<=w.next/\w.next<=65535:=by
  unfold Cv at hg;simp only [aw] at hg;exact A9.1 hg.1.1.1
 have hm:(Jc w t).length<=16:=EZ
 have hb:=Le w.next n
 rw [Arp,e1,e2,Vh];rw [Arp] at hh;generalize hM:(Jc w t).length=m at *;clear e1 e2 e3 hs hM hg ht;by_cases hc:gp w.next n < (m:Nat)
 ·left;refine ⟨?_,hc⟩;unfold Tl E8 gp Cc at *;simp only [aw,aF];omega
 ·right;have e:gp w.next n=m+gp (Cc w.next m) n:=by unfold gp Cc at *;omega
  refine ⟨?_,?_,e⟩
  ·have:¬(1<=gp n (Cc w.next m)/\gp n (Cc w.next m)<=32767):=by unfold gp Cc at *;omega
   unfold Tl E8;exact EX
  ·have hb2:=Le (Cc w.next m) n;rw [show m+(gp (Cc w.next m) n).toNat=(gp w.next n).toNat by omega];exact hh
theorem Ak7 {w:Aj} {t:Int} (hg:Cv w=true) (ht:gp w.next t<=8) {l:List Az} (hl:∀q∈l,Bz q.Ae=true/\gp w.next q.Ae < 8/\Iv w q.Ae=false):Eg l (Jd w t)=Y5 l (Jd w t).next:=by
 unfold Eg Y5;refine ew fun q hq=>?_;obtain ⟨a,b,c⟩:=hl q hq;rcases Bb1 hg ht a b c with ⟨h, -⟩|⟨h,h2,h3⟩
 ·simp [h]
 ·have:=Le (Jd w t).next q.Ae
  simp [h,h2,show gp (Jd w t).next q.Ae < 8 by omega]
theorem Alu {c d:Int} {r q:Az} (h:Ty c d r=some q):q.Ae=r.Ae:=by
 unfold Ty at h
 split at h
 ·cases h;rfl
 ·split at h
  ·cases h
  ·split at h <;> cases h <;> rfl
theorem Bcu {c:Int} {r:Az} {n:Int} (h:T7 c r=some n):n=r.Ae:=by
 unfold T7 at h
 split at h
 ·cases h
 ·split at h <;> cases h <;> rfl
theorem Xp {r:A1} (hg:Lu r) {q:Az} (hq:q∈r.Ao):Bz q.Ae=true/\gp r.Aa.next q.Ae < 8/\Iv r.Aa q.Ae=false:=by
 obtain ⟨-, -,h3, -⟩:=Dj.1 hg.q;have:=Er.1 (h3 q hq);exact ⟨this.n,this.g,hg.f q hq⟩
theorem Abo {r:A1} {d:Int} (hg:Lu r) {q:Az} (hq:q∈Nh r d):Bz q.Ae=true/\gp r.Aa.next q.Ae < 8/\Iv r.Aa q.Ae=false:=by
 obtain ⟨q',hq',h⟩:=ed.1 hq;rw [Alu h];exact Xp hg hq'
theorem Adb {r:A1} (hg:Lu r) {n:Int} (hn:n∈C9 r):Bz n=true/\gp r.Aa.next n < 8:=by
 obtain ⟨q',hq',h⟩:=ed.1 hn;rw [Bcu h];exact ⟨(Xp hg hq').1,(Xp hg hq').2.1⟩
theorem Ie {w:Aj} (hg:Cv w=true):0<=w.next/\w.next<=65535:=by
 unfold Cv at hg;simp only [aw] at hg;exact A9.1 hg.1.1.1
theorem Aey {r:A1} (hg:Lu r) (h:C9 r≠[]):gp r.Aa.next (Dk (C9 r))<=8/\Bz (Dk (C9 r))=true:=by
 unfold Dk;have hm:(C9 r).getLastD 0∈C9 r:=by
  rw [fD,List.getLast?_eq_some_getLast h];exact List.getLast_mem h
 obtain ⟨a,b⟩:=Adb hg hm;refine ⟨?_,Pf _ _⟩;obtain ⟨n0,n1⟩:=A9.1 a;obtain ⟨w0,w1⟩:=Ie hg.w;unfold gp Cc at *;omega
theorem Aec {r:A1} {d:Int} (hg:Lu r) (h:C9 r≠[]):Eg (Nh r d) (Jd r.Aa (Dk (C9 r)))=Y5 (Nh r d) (Jd r.Aa (Dk (C9 r))).next :=
 Ak7 hg.w (Aey hg h).1 fun _ hq=>Abo hg hq
theorem Azt {P:Program} {f:FuncId} {α:Type} {E:Bt α} {v:Value} {xs:List α} {F:aq} {rest:am} {A M:List Pc} {σ:Type} {C:σ->Prop} {w:σ->Value} {N:σ->List Pc} (h:∀a c,Fn P f (ab a xs.length c::rest) (.sl E (ab a xs.length c) xs F::A) M C w N):Fn P f (v::rest) (.sl E v xs F::A) M C w N:=fun w0 hH hS=>by
 obtain ⟨-,hs⟩:=hH (.sl E v xs F) FB;obtain ⟨a,c,rfl⟩:=hs.slice;exact h a c w0 hH hS
theorem Atu (d:Int):FV 388 [aa d] [] (.bool (Axd d)):=by
 refine enter func388 rfl ntmps388 fun w0=>?_;refine go ?_;refine ce (fun w s=>H1 _ _ _ _) ?_;exact AA
theorem Xa (r:Az) (base:Int) (b0:0<=base) (b1:base<=65535):FV 285 [.agg #[aa r.Ae,aa r.state,aa r.Co,aa r.Ee],aa base] [] (.bool (Mw base r)):=by
 refine enter func285 rfl ntmps285 fun w0=>?_;refine go ?_;intros;refine ce (fun w s=>I6 _ _) ?_;cases g1:Bz r.Ae
 ·refine go ?_;refine ret () trivial ?_;simp [Mw,g1,Tn]
 obtain ⟨n0,n1⟩:=A9.1 g1;refine go ?_;refine ce (fun w s=>O6 _ _ _ EZ EZ EZ EZ) ?_;refine go ?_;refine D6 rfl rfl (fun g2=>?_) (fun g2=>?_)
 rotate_left
 ·refine go ?_;refine ret () trivial ?_;simp [Mw,g2,Tn]
 refine go ?_;refine ce (fun w s=>H1 _ _ _ _) ?_;cases g3:E8 1 r.state 3
 ·refine go ?_;refine ret () trivial ?_;simp [Mw,g3,Tn]
 refine go ?_;refine ce (fun w s=>H1 _ _ _ _) ?_;cases g4:E8 0 r.Co 10007
 ·refine go ?_;refine ret () trivial ?_;simp [Mw,g4,Tn]
 refine go ?_;refine ce (fun w s=>H1 _ _ _ _) ?_;refine go ?_;refine ret () trivial ?_;simp [Mw,g1,g2,g3,g4,Tn]
theorem Qp (l:List Az) (base:Int) (v:Value) (F:aq):FV 226 [v,aa base] [.sl Ay v l F] (.bool (Lz l base)):=by
 refine Azt (fun a c=>?_);refine enter func226 rfl ntmps226 fun w0=>?_;refine go ?_;refine ce (fun w s=>I6 _ _) ?_;cases g1:Bz base
 ·refine go ?_;refine ret () trivial ?_;simp [Lz,g1,Tn]
 obtain ⟨b0,b1⟩:=A9.1 g1;refine go ?_;refine A4 rfl (fun g2=>?_) (fun g2=>?_)
 ·refine go ?_;refine ret () trivial ?_;rw [show Lz l base=false by unfold Lz;rw [ay EZ];simp];rfl
 refine go ?_;refine Em [0,1,4,15,16] (fun k:Nat=>[(17,aa (k:Nat))]) (fun k=>k<=l.length/\∀j,j < k->Ahy l base j=true) (fun k=>l.length - k) 0 ⟨aG _,fun j h=>by omega⟩ fun k hk=>?_;obtain ⟨hk1,hk2⟩:=hk;refine go ?_;refine A4 rfl (fun h3=>?_) (fun h3=>?_)
 ·have hk3:k < l.length:=EZ
  have bad:Ahy l base k=false->Lz l base=false:=fun h=>Arh hk3 h;have hck:=Vd (base:=base) hk3;refine I9 (xs:=l) k ?_;rintro hi b o e;rw [e];have p4:0 < k->∃h:k - 1 < l.length,Av5 base l[k - 1]:=fun h0=>by
   have hk4:k - 1 < l.length:=EZ
   have hp:=hk2 (k - 1) EZ;rw [Vd hk4] at hp;simp only [aw] at hp;exact ⟨hk4,Er.1 hp.1⟩
  refine go ?_;intros;cases g4:Mw base l[k]
  ·skip
   refine Ar [0] [] ?_;refine Dh 0 1 ?_;refine dN 2 ?_;refine oC ?_;refine Bf (Xa l[k] base b0 b1) fun _ _=>?_;rw [g4];refine dk ?_;refine Dh 3 4 ?_;refine ds 5 ?_;refine ds 6 ?_;refine ds 7 ?_;refine dsu 8 ?_;refine dsu 9 ?_;refine dsu 10 ?_;refine dsu 11 ?_;refine dsu 12 ?_;refine dsu 13 ?_;refine dsu 14 ?_;refine dsu 15 ?_;refine dsu 16 ?_;refine dsu 17 ?_;refine dsu 18 ?_;refine dsu 19 ?_;refine dsu 20 ?_;refine ds 21 ?_;refine dt 22 ?_;refine dd ?_;exact DY
  obtain ⟨q0,q1⟩:=A9.1 (Er.1 g4).n;by_cases hk0:0 < k
  ·obtain ⟨hk4,p5⟩:=p4 hk0;obtain ⟨p0,p1⟩:=A9.1 p5.n;rw [<-e];refine I9 (xs:=l) (k - 1) ?_;rintro hi5 b5 o5 e5;rw [e5];refine Ar [0,1] [] ?_;refine Dh 0 1 ?_;refine dN 2 ?_;refine oC ?_;refine Bf (Xa l[k] base b0 b1) fun _ _=>?_;rw [g4];refine dk ?_;refine Dh 3 4 ?_;refine C5 5 ?_;refine C5 6 ?_;rw [av (show (0:Int) < k by omega)];refine C5 7 ?_;refine C5 8 ?_;refine C5 9 ?_;refine C5 10 ?_;refine C5 11 ?_;rw [show (k:Int) - 1=((k - 1:Nat):Int) by omega];refine C5 12 ?_;refine C5 13 ?_;refine C5 14 ?_;refine C5 16 ?_;refine C5 17 ?_;refine C5 18 ?_;refine d1g 15 ?_;apply On.h
   refine oC ?_;refine ce (fun w s=>O6 _ _ _ EZ EZ EZ EZ) ?_;refine dk ?_;refine d1g 19 ?_;apply On.h;refine oC ?_;refine ce (fun w s=>O6 _ _ _ EZ EZ EZ EZ) ?_;refine dk ?_;refine C5 20 ?_;refine C5 21 ?_;refine dt 22 ?_;refine dd ?_;refine go ?_;refine A4 rfl (fun h6=>?_) (fun h6=>?_)
   ·exact BS
   ·refine go ?_;refine Ca (k+1) ⟨EZ,fun j hj=>?_⟩ EZ;rcases bc (bC.1 hj) with h|rfl
    ·exact hk2 j h
    ·rw [hck,g4,ay h6];simp
  ·have hz:k=0:=EZ
   refine Ar [0] [] ?_;refine Dh 0 1 ?_;refine dN 2 ?_;refine oC ?_;refine Bf (Xa l[k] base b0 b1) fun _ _=>?_;rw [g4];refine dk ?_;refine Dh 3 4 ?_;refine C5 5 ?_;refine C5 6 ?_;rw [ay (show ¬(0:Int) < k by omega)];refine C5 7 ?_;refine ds 8 ?_;refine ds 9 ?_;refine ds 10 ?_;refine ds 11 ?_;refine ds 12 ?_;refine ds 13 ?_;refine ds 14 ?_;refine ds 15 ?_;refine ds 16 ?_;refine ds 17 ?_;refine ds 18 ?_;refine ds 19 ?_;refine ds 20 ?_;refine C5 21 ?_;refine dt 22 ?_;refine dd ?_;refine go ?_;refine Ca (k+1) ⟨EZ,fun j hj=>?_⟩ EZ
   rcases bc (bC.1 hj) with h|rfl
   ·exact hk2 j h
   ·rw [hck,g4,av hz];simp
 have hkl:k=l.length:=EZ
 refine go ?_;refine ret () trivial ?_;rw [Amh g1 EZ (hkl▸hk2)];rfl
theorem At4 (l:List Az) (base:Int) (v:Value) (F:aq):FV 271 [v,aa base] [.sl Ay v l F] (.bool (Lz l base)):=by
 refine Azt (fun a c=>?_);refine enter func271 rfl ntmps271 fun w0=>?_;refine go ?_;refine ce (fun w s=>Nt _ _) ?_;cases g1:Bz base
 ·refine go ?_;refine ret () trivial ?_;simp [Lz,g1,Tn]
 obtain ⟨b0,b1⟩:=A9.1 g1;refine go ?_;refine A4 rfl (fun g2=>?_) (fun g2=>?_)
 ·refine go ?_;refine ret () trivial ?_;rw [show Lz l base=false by unfold Lz;rw [ay EZ];simp];rfl
 refine go ?_;refine Em [0,1,4] (fun k:Nat=>[(5,aa (k:Nat))]) (fun k=>k<=l.length/\∀j,j < k->Ahy l base j=true) (fun k=>l.length - k) 0 ⟨aG _,fun j h=>by omega⟩ fun k hk=>?_;obtain ⟨hk1,hk2⟩:=hk;refine go ?_;refine A4 rfl (fun h3=>?_) (fun h3=>?_)
 ·have hk3:k < l.length:=EZ
  have bad:Ahy l base k=false->Lz l base=false:=fun h=>Arh hk3 h;have hck:=Vd (base:=base) hk3;refine I9 (xs:=l) k ?_;rintro hi b o e;rw [e];have p4:0 < k->∃h:k - 1 < l.length,Av5 base l[k - 1]:=fun h0=>by
   have hk4:k - 1 < l.length:=EZ
   have hp:=hk2 (k - 1) EZ;rw [Vd hk4] at hp;simp only [aw] at hp;exact ⟨hk4,Er.1 hp.1⟩
  refine go ?_;intros;refine ce (fun w s=>Nt _ _) ?_;cases g5:Bz l[k].Ae
  ·refine go ?_;refine ret () trivial ?_;rw [bad (by rw [hck,show Mw base l[k]=false by unfold Mw;simp [g5]];rfl)];rfl
  obtain ⟨q0,q1⟩:=A9.1 g5;refine go ?_;refine ce (fun w s=>Jk _ _ _ EZ EZ) ?_;refine go ?_;refine D6 rfl rfl (fun g6=>?_) (fun g6=>?_)
  ·refine go ?_;refine ret () trivial ?_;rw [bad (by rw [hck,show Mw base l[k]=false by unfold Mw;rw [ay EZ];simp];rfl)];rfl
  refine go ?_;refine ce (fun w s=>Ka _ _ _ _) ?_;cases g7:E8 1 l[k].state 3
  ·refine go ?_;refine ret () trivial ?_;rw [bad (by rw [hck,show Mw base l[k]=false by unfold Mw;simp [g7]];rfl)];rfl
  refine go ?_;refine ce (fun w s=>Ka _ _ _ _) ?_;cases g8:E8 0 l[k].Co 10007
  ·refine go ?_;refine ret () trivial ?_;rw [bad (by rw [hck,show Mw base l[k]=false by unfold Mw;simp [g8]];rfl)];rfl
  refine go ?_;refine ce (fun w s=>Ka _ _ _ _) ?_;cases g9:E8 0 l[k].Ee 3
  ·refine go ?_;refine ret () trivial ?_;rw [bad (by rw [hck,show Mw base l[k]=false by unfold Mw;simp [g9]];rfl)];rfl
  refine go ?_;have g4:Mw base l[k]=true:=by unfold Mw;rw [g5,g7,g8,g9,av EZ];rfl
  by_cases hk0:0 < k
  ·obtain ⟨hk4,p5⟩:=p4 hk0;obtain ⟨p0,p1⟩:=A9.1 p5.n;rw [<-e];refine I9 (xs:=l) (k - 1) ?_;rintro hi5 b5 o5 e5;rw [e5];refine Ar [1,0] [] ?_;refine Dh 0 1 ?_;rw [av (show (0:Int) < k by omega)];refine dt 2 ?_;refine C5 3 ?_;refine C5 4 ?_;refine C5 5 ?_;refine C5 6 ?_;rw [show (k:Int) - 1=((k - 1:Nat):Int) by omega];refine C5 7 ?_;refine C5 8 ?_;refine C5 9 ?_;refine C5 11 ?_;refine C5 12 ?_;refine C5 13 ?_;refine d1g 10 ?_;apply On.h;refine oC ?_;refine ce (fun w s=>Jk _ _ _ EZ EZ) ?_;refine dk ?_;refine d1g 14 ?_;apply On.h;refine oC ?_
   refine ce (fun w s=>Jk _ _ _ EZ EZ) ?_;refine dk ?_;refine C5 15 ?_;refine dt 16 ?_;refine dd ?_;refine go ?_;refine A4 rfl (fun h6=>?_) (fun h6=>?_)
   ·exact BS
   ·refine go ?_;refine Ca (k+1) ⟨EZ,fun j hj=>?_⟩ EZ;rcases bc (bC.1 hj) with h|rfl
    ·exact hk2 j h
    ·rw [hck,g4,ay h6];simp
  ·have hz:k=0:=EZ
   refine Ar [0] [] ?_;refine Dh 0 1 ?_;rw [ay (show ¬(0:Int) < k by omega)];refine dt 2 ?_;refine ds 3 ?_;refine ds 4 ?_;refine ds 5 ?_;refine ds 6 ?_;refine ds 7 ?_;refine ds 8 ?_;refine ds 9 ?_;refine ds 10 ?_;refine ds 11 ?_;refine ds 12 ?_;refine ds 13 ?_;refine ds 14 ?_;refine ds 15 ?_;refine dt 16 ?_;refine dd ?_;refine go ?_;refine Ca (k+1) ⟨EZ,fun j hj=>?_⟩ EZ;rcases bc (bC.1 hj) with h|rfl
   ·exact hk2 j h
   ·rw [hck,g4,av hz];simp
 have hkl:k=l.length:=EZ
 refine go ?_;refine ret () trivial ?_;rw [Amh g1 EZ (hkl▸hk2)];rfl
section
variable {c:Cx} {fr:Fr} {H:List Pc} {Φ:Gl}
theorem Hf {v:Value} {x:A1} {F:aq} (h:∀(a1:aj) (c1:Nat) (F1:aq) (a2:aj) (c2:Nat) (F2:aq),v=.agg #[.bool x.Be,aa x.Ai,aa x.Aa.next,ab a1 x.Aa.Ap.length c1,ab a2 x.Ao.length c2]->x.Aa.Ap.length<=maxLen->x.Ao.length<=maxLen->T c fr (.sl Cw (ab a1 x.Aa.Ap.length c1) x.Aa.Ap F1::.sl Ay (ab a2 x.Ao.length c2) x.Ao F2::H) Φ) (hm:.isv B8 v x F∈H:=by exact Bl):T c fr H Φ:=.mk fun a w s g=>by
 exact AT
theorem Ep (x:A1) {a1:aj} {c1:Nat} {F1:aq} {a2:aj} {c2:Nat} {F2:aq}  (h:T c fr (.isv B8 (.agg #[.bool x.Be,aa x.Ai,aa x.Aa.next,ab a1 x.Aa.Ap.length c1,ab a2 x.Ao.length c2]) x (F1++F2)::H) Φ) (m1:.sl Cw (ab a1 x.Aa.Ap.length c1) x.Aa.Ap F1∈H:=by exact Bl) (m2:.sl Ay (ab a2 x.Ao.length c2) x.Ao F2∈H:=by exact Bl):T c fr H Φ:=.mk fun a w s g=>by
 refine h.h a w (s.add (N:=[_]) (Below.refl _ _) IV ⟨FB,trivial⟩ fun q hq b hb=>?_) g;obtain rfl:=aM.1 hq;simp only [Pc.F,aK] at hb;rcases hb with hb|hb
 ·exact .inr ⟨rfl,_,m1,rfl,hb⟩
 ·exact .inr ⟨rfl,_,m2,rfl,hb⟩
theorem Im {v:Value} {x:A1} {F:aq} {S:List Pc} (h:∀(a1:aj) (c1:Nat) (F1:aq) (a2:aj) (c2:Nat) (F2:aq),v=.agg #[.bool x.Be,aa x.Ai,aa x.Aa.next,ab a1 x.Aa.Ap.length c1,ab a2 x.Ao.length c2]->x.Aa.Ap.length<=maxLen->x.Ao.length<=maxLen->T c fr (.ow Cw 107 (ab a1 x.Aa.Ap.length c1) x.Aa.Ap F1::.ow Ay 231 (ab a2 x.Ao.length c2) x.Ao F2::S) Φ) (hp:C2 H (.own B9 v x F) S:=by exact Dt):T c fr H Φ:=.mk fun a w s g=>by
 obtain ⟨hn,cs,rfl,v1,v2,G1,G2,rfl,h1,h2,rfl⟩:=(s.pick hp).on (.own B9 v x F) FB;obtain ⟨a1,c1,rfl⟩:=h1.slice;have l1:=h1.len;obtain ⟨a2,c2,rfl⟩:=h2.slice;have l2:=h2.len;exact (h a1 c1 G1 a2 c2 G2 rfl  l1 l2).h a w (s.mer (M:=[.own B9 _ x _]) (N:=[.ow Cw _ _ _ G1,.ow Ay _ _ _ G2]) (.cons hp .nil) (fun _ _=>⟨W7 ⟨(Td hn),h1⟩ (W7 ⟨Anw hn,h2⟩ (Axa)),GD⟩) GP) g
theorem Kk (x:A1) {a1:aj} {c1:Nat} {F1:aq} {a2:aj} {c2:Nat} {F2:aq} {S1 S2:List Pc}  (h:T c fr (.own B9 (.agg #[.bool x.Be,aa x.Ai,aa x.Aa.next,ab a1 x.Aa.Ap.length c1,ab a2 x.Ao.length c2]) x (F1++F2)::S2) Φ) (m1:C2 H (.ow Cw 107 (ab a1 x.Aa.Ap.length c1) x.Aa.Ap F1) S1:=by exact Dt) (m2:C2 S1 (.ow Ay 231 (ab a2 x.Ao.length c2) x.Ao F2) S2:=by exact Dt)  : T c fr H Φ:=.mk fun a w s g =>
 h.h a w (s.mer (M:=[.ow Cw _ _ _ F1,.ow Ay _ _ _ F2]) (N:=[.own B9 _ x (F1++F2)]) (.cons m1 (.cons m2 (.nil))) (fun hk hn=>⟨Iw ⟨GD,_,rfl,_,_,_,_,rfl,(P0 hk).2,(P0 (Hn hk)).2,rfl⟩,GD⟩) GP) g
theorem I8 {a:aj} {n cp:Nat} {xs:List A1} {F:aq} (i:Nat) (h:∀(hi:i < xs.length) (b o:Nat) (a1:aj) (c1:Nat) (F1:aq) (a2:aj) (c2:Nat) (F2:aq),a=some ⟨b,o,none⟩->xs[i].Aa.Ap.length<=maxLen->xs[i].Ao.length<=maxLen->T c fr (.cel b (o+i * 5) [.bool xs[i].Be,aa xs[i].Ai,aa xs[i].Aa.next,.slice a1 xs[i].Aa.Ap.length c1,.slice a2 xs[i].Ao.length c2]::.sl Cw (.slice a1 xs[i].Aa.Ap.length c1) xs[i].Aa.Ap F1::.sl Ay (.slice a2 xs[i].Ao.length c2) xs[i].Ao F2::H) Φ) (hm:.sl B8 (ab a n cp) xs F∈H:=by exact Bl) (hi:i < xs.length:=by omega):T c fr H Φ:=.mk fun ac w s g=>by
 obtain ⟨b,o,cs,G,ha,hrep,hG,hb,hne,hr⟩:=Xq (s.get hm) i hi;obtain ⟨v1,v2,G1,G2,rfl,h1,h2,rfl⟩:=hrep;obtain ⟨a1,c1,rfl⟩:=h1.slice;have l1:=h1.len;obtain ⟨a2,c2,rfl⟩:=h2.slice;have l2:=h2.len;have t2:=s.ro (p:=.sl _ _ _ _) hm rfl rfl ⟨FA,h2⟩ HI;have t1:=t2.ro (p:=.sl _ _ _ _) (aQ _ hm) rfl rfl ⟨FA,h1⟩ HI
 exact (h hi b o a1 c1 G1 a2 c2 G2 ha  l1 l2).h ac w (t1.ro (aQ _ (aQ _ hm)) rfl rfl ⟨hne,hr⟩ GL) g
end
theorem Alr {c:Cx} {fr:Fr} {H S:List Pc} {Φ:Gl} {g t:Nat} {cs:am} (h:T c fr (.cel g 0 cs::S) Φ) (h0:cs≠[]) (hp:C2 H (.row g t 0 [] cs []) S:=by exact Dt):T c fr H Φ:=.mk fun ac w s ag=>by
 have s1:=s.pick hp;exact h.h ac w (s1.conv rfl ⟨h0,If (s1.on (.row g t 0 [] cs []) FB)⟩ (fun b hb=>hb)) ag
theorem Ash {c:Cx} {fr:Fr} {H S:List Pc} {Φ:Gl} {g t o k:Nat} {A B L:am} (X cs Y:am) (h:T c fr (.row g t (o+k) (A++X) cs (Y++B)::S) Φ) (hL:L=X++cs++Y:=by rfl) (hk:X.length=k:=by rfl) (hp:C2 H (.row g t o A L B) S:=by exact Dt):T c fr H Φ:=.mk fun ac w s ag=>by
 subst hL hk;have s1:=s.pick hp;obtain ⟨hA,hr⟩:=s1.on (.row g t o A (X++cs++Y) B) FB;exact h.h ac w (s1.conv rfl ⟨by simp [hA],by simpa [aN] using hr⟩ (fun b hb=>hb)) ag
theorem Ahi {c:Cx} {fr:Fr} {H S:List Pc} {Φ:Gl} {g t o k:Nat} {A B L:am} (X cs Y:am) (h:T c fr (.row g t o A L B::S) Φ) (hL:L=X++cs++Y:=by rfl) (hk:X.length=k:=by rfl) (hp:C2 H (.row g t (o+k) (A++X) cs (Y++B)) S:=by exact Dt):T c fr H Φ:=.mk fun ac w s ag=>by
 subst hL hk;have s1:=s.pick hp;obtain ⟨hA,hr⟩:=s1.on (.row g t (o+X.length) (A++X) cs (Y++B)) FB;exact h.h ac w (s1.conv rfl ⟨IZ,by simpa [aN] using hr⟩ (fun b hb=>hb)) ag
theorem Ace {p:Pc}:∀(A:List Pc),Lc (p::A) A
 | []=>.nil
 | _::r=>.cons (.there .here) (Ace r)
theorem Al4 (fid:FuncId) (bd caps:am) (A:List Pc) (hA:A.all (fun p=>!p.mu)=true) (xs:List Az) (a:aj) (c:Nat) (F:aq) (p:Az->Bool) (hb:Qx prog fid=true) (hl:xs.length<=1000000000)
  (hp:∀x∈xs,∀w,Ob A w->Calls prog fid (bd++[(.agg #[aa (x).Ae,aa (x).state,aa (x).Co,aa (x).Ee]:Value)]++caps).toArray w (RB (.bool (p x)) w)) :
  Fn prog 286 [ab a xs.length c,.func (.func fid) bd.toArray caps.toArray] (.sl Ay (ab a xs.length c) xs F::A) [] (fun (_:Unit)=>True) (fun _=>aa (Re p xs)) (fun _=>[]):=by
 refine enter func286 rfl ntmps286 (fun w0=>?_) rfl GA .nil;refine go ?_;refine Em [0,1,4,7] (fun k:Nat=>[(8,aa (k:Nat))]) (fun k=>k<=xs.length/\∀j (_:j < k) (hj:j < xs.length),p xs[j]=false) (fun k=>xs.length - k) 0 ⟨aG _,fun j h=>by omega⟩ fun k hk=>?_;obtain ⟨hk1,hk2⟩:=hk;refine go ?_;refine A4 rfl (fun h5=>?_) (fun h5=>?_)
 ·have hh:k < xs.length:=EZ
  refine go ?_;refine I9 (xs:=xs) k ?_;rintro hi b o e;rw [e];refine go ?_;apply wO;refine Aa8 rfl rfl hb Wk ?_;refine cb (fun w st=>hp xs[k] (aB hh) w (fun q hq=>st.on q GB)) ?_;cases hpk:p xs[k]
  ·refine go ?_;refine Vy ?_;refine Ca (hH:=Lb _) (k+1) ⟨hh,fun j hj h=>?_⟩ EZ;rcases bc (bC.1 hj) with h2|rfl
   ·exact hk2 j h2 h
   ·exact hpk
  ·refine go ?_;refine ret () trivial ?_;rw [Oh hh hk2 hpk];rfl
 ·obtain rfl:k=xs.length:=EZ
  exact BT
structure Avw where
 i:Nat
 j:Nat
 zs:List Az
theorem Al3 (fid:FuncId) (bd caps:am) (A:List Pc) (hA:A.all (fun p=>!p.mu)=true) (xs:List Az) (a:aj) (c:Nat) (F:aq) (p:Az->Bool) (hb:Qx prog fid=true) (hl:xs.length<=1000000000)
  (hp:∀x∈xs,∀w,Ob A w->Calls prog fid (bd++[(.agg #[aa (x).Ae,aa (x).state,aa (x).Co,aa (x).Ee]:Value)]++caps).toArray w (RB (.bool (p x)) w)) :
  Fn prog 346 [ab a xs.length c,.func (.func fid) bd.toArray caps.toArray] A [.ow Ay 231 (ab a xs.length c) xs F] (fun (_:aj × Nat × aq)=>True)
   (fun z=>.slice z.1 (xs.filter fun x=>!p x).length z.2.1) (fun z=>[.ow Ay 231 (.slice z.1 (xs.filter fun x=>!p x).length z.2.1) (xs.filter fun x=>!p x) z.2.2]):=by
 refine enter func346 rfl ntmps346 (fun w0=>?_) rfl GA (.cons .nil);refine go ?_;refine cb (fun w st=>by
  obtain ⟨Fw, -,hw⟩:=(st.get (p:=.ow Ay 231 (ab a xs.length c) xs F) FB).2.read;refine (Al4 fid bd caps A hA xs a c Fw p hb hl hp).val w ?_ GA;intro q hq;rcases aH.1 hq with rfl|hq
  ·exact ⟨FA,hw⟩
  ·exact st.on q GB) ?_
 by_cases hany:xs.any p=true
 ·obtain ⟨i0,hi0,hfx,hpi,hfl⟩:=X7 hany;rw [hfx];refine Alq (xs:=xs) Dy (by rintro rfl;simp at hi0) ?_;rintro g rfl rfl - hc1 hc2;refine go ?_;refine Bx [0,1,4] (fun s:Avw=>[(5,aa (s.i:Nat)),(6,aa (s.j:Nat))]) (fun s=>[.ow Ay 231 (ab (some ⟨g,0,none⟩) xs.length c) s.zs [g]]) (fun s=>s.zs.length=xs.length/\s.j<=xs.length/\s.i < s.j/\s.zs.take s.i=(xs.take s.j).filter (fun x=>!p x)/\s.zs.drop s.j=xs.drop s.j) (fun s=>xs.length - s.j) ⟨i0,i0+1,xs⟩ ⟨rfl,hi0,Nat.lt_succ_self _,by rw [Da hi0 (by simp [hpi]),hfl],rfl⟩ fun s hs=>?_;obtain ⟨i,j,zs⟩:=s;obtain ⟨h1,h2,h3,h4,h5⟩:=hs
  dsimp only at h1 h2 h3 h4 h5 ⊢;refine go ?_;refine A4 rfl (fun h6=>?_) (fun h6=>?_)
  ·have hj:j < xs.length:=EZ
   have hjz:j < zs.length:=EZ
   have hx:zs[j]=xs[j]:=by
    have a1:=bS hjz;have a2:=bS hj;rw [h5,a2] at a1;exact (List.cons.inj a1).1.symm
   have hdz:zs.drop (j+1)=xs.drop (j+1):=by
    rw [<-cA,h5,cA]
   refine go ?_;refine Rf (m:=4) Dy j ?_ FE rfl hjz;rintro _ g2 A2 cs2 B2 e1 e2 hc3 hh;cases e1;obtain ⟨rfl, -⟩:=hc3 w0;refine go ?_;intros;refine Pz zs[j] hh hc3 ?_;rw [bx,hx];apply wO;refine Aa8 rfl rfl hb Wk ?_;refine cb (fun w st=>hp xs[j] (aB hj) w (fun q hq=>st.on q GB)) ?_;cases hpj:p xs[j]
   ·refine go ?_;refine Rf (m:=4) Dy i ?_ FE rfl EZ;rintro _ g3 A3 cs3 B3 e1 e2 hc4 hh3;cases e1;obtain ⟨rfl, -⟩:=hc4 w0;refine go ?_;refine Pz xs[j] hh3 (fun w=>⟨rfl,rfl⟩) ?_;refine Ca (hH:=.cons .here (Ace _)) (⟨i+1,j+1,zs.set i xs[j]⟩:Avw) ⟨by simp [h1],hj,Nat.succ_lt_succ h3,?_,?_⟩ HU
    ·dsimp only;rw [Gz hj (by simp [hpj]),<-h4,cC,eC EZ,gm (aL _)];rfl
    ·dsimp only;rw [gj EZ,hdz]
   ·refine go ?_;refine Ca (hH:=.cons .here (Ace _)) (⟨i,j+1,zs⟩:Avw) ⟨h1,hj,Nat.lt_succ_of_lt h3,?_,hdz⟩ HU;dsimp only;rw [Da hj (by simp [hpj]),h4]
  ·obtain rfl:j=xs.length:=EZ
   have h4':zs.take i=xs.filter fun x=>!p x:=by rw [h4,bl]
   have hil:(xs.filter fun x=>!p x).length=i:=by rw [<-h4',aP];omega
   refine go ?_;apply wO;apply oc;rfl;exact Ku (i:=i) rfl rfl rfl EZ EZ EZ;refine go ?_;apply wO;refine Ar0 (z0:=⟨0,0,0,0⟩) (n:=xs.length) (cp:=c) (i:=i) (g:=g) Dy (fun w=>⟨rfl,rfl⟩) FA rfl rfl h3 h1.symm FE ?_;refine go ?_;refine Alt (xs:=zs.take i++List.replicate (xs.length - i) ⟨0,0,0,0⟩) i (fun F2=>?_) (by rw [aA,aP,bw];omega);rw [bT GE,h4'];apply wO;apply oc;rfl;exact O0 (i:=i) rfl rfl rfl EZ EZ
   refine go ?_;subst hil;refine ret (_,c,F2) trivial rfl
 ·obtain ⟨hfx,hfl⟩:=Aaw hany;rw [hfx,hfl];refine go ?_;refine ret (a,c,F) trivial rfl
theorem Avt (fid:FuncId) (bd caps:am) (A:List Pc) (hA:A.all (fun p=>!p.mu)=true) (xs:List Az) (a:aj) (c:Nat) (F:aq) (p:Az->Bool) (hb:Qx prog fid=true) (hl:xs.length<=1000000000)
  (hp:∀x∈xs,∀w,Ob A w->Calls prog fid (bd++[(.agg #[aa (x).Ae,aa (x).state,aa (x).Co,aa (x).Ee]:Value)]++caps).toArray w (RB (.bool (p x)) w)) :
  Fn prog 227 [ab a xs.length c,.func (.func fid) bd.toArray caps.toArray] (.sl Ay (ab a xs.length c) xs F::A) [] (fun (_:Unit)=>True) (fun _=>.bool (xs.any p)) (fun _=>[]):=by
 refine enter func227 rfl ntmps227 (fun w0=>?_) rfl GA .nil;refine go ?_;refine cb (fun w st=>(Al4 fid bd caps A hA xs a c F p hb hl hp).val w (fun q hq=>st.on q (by simpa using hq)) GA) ?_;refine go ?_;refine ret () trivial ?_;rw [Sw];rfl
theorem Bci (x:Aj) (r:Az) (g:Nat) (b:Bool) (ck:Int) (q:Value) (a1:aj) (c1:Nat) (F:aq) (h0:0<=x.next) (h1:x.next<=65535) (n0:0<=r.Ae) (n1:r.Ae<=65535):FV 228 [.agg #[aa r.Ae,aa r.state,aa r.Co,aa r.Ee],Ga g 0 0] [.cel g 0 [.bool b,aa ck,aa x.next,ab a1 x.Ap.length c1,q],.isv Br (.agg #[aa x.next,ab a1 x.Ap.length c1]) x F] (.bool (Iv x r.Ae)):=by
 refine enter func228 rfl ntmps228 fun w0=>?_;refine go ?_;intros;refine Bf (Aan x r.Ae _ F h0 h1 n0 n1) fun _ _=>?_;exact AA
theorem Tp (x:A1) (v:Value) (F:aq):FV 155 [v] [.isv B8 v x F] (.bool (Bp x)):=by
 refine enter func155 rfl ntmps155 fun w0=>?_;refine Hf ?_;rintro a1 c1 F1 a2 c2 F2 rfl l1 l2;unfold maxLen at l1 l2;refine Cb x.Aa ?_;generalize F1=F3;refine go ?_;intros;refine ce (fun w s=>Sh _ _) ?_;cases g1:Kq x.Ai
 ·refine go ?_;refine ret () trivial ?_;simp [Bp,g1,Tn]
 refine go ?_;cases hs:x.Be
 ·have nog:Ox x=false->Bp x=false:=fun h=>by unfold Bp;rw [g1,hs];simpa using h
  refine go ?_;refine D6 rfl rfl (fun h1=>?_) (fun h1=>?_)
  rotate_left
  ·refine go ?_;refine ret () trivial ?_;rw [nog (by unfold Ox;rw [ay h1];rfl)];rfl
  refine go ?_;refine D6 rfl rfl (fun h2=>?_) (fun h2=>?_)
  rotate_left
  ·refine go ?_;refine ret () trivial ?_;rw [nog (by unfold Ox;rw [ay (show ¬x.Aa.Ap.length=0 by omega)];simp)];rfl
  exact DF
 rename_i g;refine Alr (cs:=[.bool true,aa x.Ai,aa x.Aa.next,ab a1 x.Aa.Ap.length c1,ab a2 x.Ao.length c2]) ?_ FB;refine go ?_;refine Bf (Av6 x.Aa _ F3) fun _ _=>?_;cases g2:Cv x.Aa
 ·refine go ?_;refine ret () trivial ?_;simp [Bp,g1,g2,hs,Tn]
 obtain ⟨w0_,w1_⟩:=Ie g2;refine go ?_;refine Bf (Qp x.Ao x.Aa.next _ F2) fun _ _=>?_;cases g3:Lz x.Ao x.Aa.next
 ·refine go ?_;refine ret () trivial ?_;simp [Bp,g1,g2,g3,hs,Tn]
 obtain ⟨-,q1,q2, -⟩:=Dj.1 g3;refine go ?_;refine cb (fun w st=>(Avt 228 [] [Ga g 0 0] [.cel g 0 [.bool true,aa x.Ai,aa x.Aa.next,ab a1 x.Aa.Ap.length c1,ab a2 x.Ao.length c2],.isv Br (.agg #[aa x.Aa.next,ab a1 x.Aa.Ap.length c1]) x.Aa F3] rfl x.Ao a2 c2 F2 (fun z=>Iv x.Aa z.Ae) FC EZ (fun z hz w hA=>by
  obtain ⟨n0,n1⟩:=A9.1 (Er.1 (q2 z hz)).n;exact (Bci x.Aa z g true x.Ai _ a1 c1 F3 w0_ w1_ n0 n1).val w hA)).val w (fun q hq=>by
   simp only [aH,aT,bm] at hq;rcases hq with rfl|rfl|rfl <;> exact st.get FD)) ?_
 refine go ?_;refine ret () trivial ?_;rw [show Bp x = !(x.Ao.any fun z=>Iv x.Aa z.Ae) by unfold Bp Aix;rw [g1,g2,g3,hs,ej];simp];rfl
theorem Aw4 {x:A1} {k:Nat} (h:k < x.Ao.length) (hh:Iv x.Aa x.Ao[k].Ae=true):Aix x=false:=cS.2 ⟨_,aB h,by simp [hh]⟩
theorem Aw8 {w:Aj} {n:Int} (hw:Cv w=true) (hn:Bz n=true) (h8:gp w.next n < 8):(Tl n w.next || Iv w n)=Iv w n:=by
 obtain ⟨w0,w1⟩:=Ie hw;obtain ⟨n0,n1⟩:=A9.1 hn;have:Tl n w.next=false:=by
  have:¬(1<=gp n w.next/\gp n w.next<=32767):=by unfold gp at *;omega
  unfold Tl E8;exact EX
 rw [this];rfl
theorem Ajb (x:A1) (v:Value) (F:aq):FV 206 [v] [.isv B8 v x F] (.bool (Bp x)):=by
 refine enter func206 rfl ntmps206 fun w0=>?_;refine Hf ?_;rintro a1 c1 F1 a2 c2 F2 rfl l1 l2;unfold maxLen at l1 l2;refine Cb x.Aa ?_;generalize F1=F3;refine go ?_;intros;refine ce (fun w s=>Zx _ _) ?_;cases g1:Kq x.Ai
 ·refine go ?_;refine ret () trivial ?_;simp [Bp,g1,Tn]
 refine go ?_;refine Bf (Aty x.Aa _ F3) fun _ _=>?_;cases g2:Cv x.Aa
 ·refine go ?_;refine ret () trivial ?_;cases hg:Bp x
  ·rfl
  ·rw [(Ej.1 hg).w] at g2;cases g2
 obtain ⟨w0_,w1_⟩:=Ie g2;refine go ?_;refine Bf (At4 x.Ao x.Aa.next _ F2) fun _ _=>?_;cases g3:Lz x.Ao x.Aa.next
 ·refine go ?_;refine ret () trivial ?_;cases hg:Bp x
  ·rfl
  ·rw [(Ej.1 hg).q] at g3;cases g3
 obtain ⟨-,q1,q2, -⟩:=Dj.1 g3;refine go ?_;cases hs:x.Be
 ·have nog:Ox x=false->Bp x=false:=fun h=>by unfold Bp;rw [g1,hs];simpa using h
  refine go ?_;refine D6 rfl rfl (fun h1=>?_) (fun h1=>?_)
  rotate_left
  ·refine go ?_;refine ret () trivial ?_;rw [nog (by unfold Ox;rw [ay h1];rfl)];rfl
  refine go ?_;refine D6 rfl rfl (fun h2=>?_) (fun h2=>?_)
  rotate_left
  ·refine go ?_;refine ret () trivial ?_;rw [nog (by unfold Ox;rw [ay (show ¬x.Aa.Ap.length=0 by omega)];simp)];rfl
  exact DF
 refine go ?_;refine Em [1,2] (fun k:Nat=>[(3,aa (k:Nat))]) (fun k=>k<=x.Ao.length/\∀j (_:j < k) (h:j < x.Ao.length),Iv x.Aa x.Ao[j].Ae=false) (fun k=>x.Ao.length - k) 0 ⟨aG _,fun j h=>by omega⟩ fun k hk=>?_;obtain ⟨hk1,hk2⟩:=hk;refine go ?_;refine A4 rfl (fun h3=>?_) (fun h3=>?_)
 ·have hk3:k < x.Ao.length:=EZ
  have hq:=Er.1 (q2 _ (aB hk3));obtain ⟨n0,n1⟩:=A9.1 hq.n;refine I9 (xs:=x.Ao) k ?_;rintro hi b o e;rw [e];refine go ?_;refine Ar [0,1] [] ?_;refine Df 0 1 2 3 ?_;refine Df 4 5 6 7 ?_;refine dN 8 ?_;refine oC ?_;refine Bf (Aci x.Aa x.Ao[k].Ae _ F3 w0_ w1_ n0 n1) fun _ _=>?_;refine dk ?_;refine dd ?_;rw [show Gs x.Aa x.Ao[k].Ae=Iv x.Aa x.Ao[k].Ae from Aw8 g2 hq.n hq.g];cases g5:Iv x.Aa x.Ao[k].Ae
  ·refine go ?_;refine Ca (k+1) ⟨EZ,fun j hj h=>?_⟩ EZ;rcases bc (bC.1 hj) with h'|rfl
   ·exact hk2 j h' h
   ·exact g5
  ·refine go ?_;refine ret () trivial ?_;rw [show Bp x=false by unfold Bp;rw [g1,g2,g3,hs,Aw4 hk3 g5];rfl];rfl
 have hkl:k=x.Ao.length:=EZ
 refine go ?_;refine ret () trivial ?_;rw [show Bp x=true by
  unfold Bp Aix;rw [g1,g2,g3,hs,aW.2 fun z hz=>?_];rfl;obtain ⟨i,hi,rfl⟩:=bi hz;rw [hk2 i EZ hi];rfl];rfl
theorem Ig {α β:Type} {f:α->Option β} {l:List α} {k:Nat} (h:k < l.length):(l.take (k+1)).filterMap f=(l.take k).filterMap f++(f l[k]).toList:=by
 rw [cC,aD h,List.filterMap_append];cases hf:f l[k] <;> simp [hf]
theorem Ab9 {α β:Type} (f:α->Option β) (l:List α) (k:Nat):((l.take k).filterMap f).length<=k:=by
 have:=cY f (l.take k);rw [aP] at this;omega
structure TkS where
 k:Nat
 a:aj
 c:Nat
 F:aq
 a2:aj
 c2:Nat
 F2:aq
 a3:aj
 c3:Nat
 F3:aq
theorem Ahm (l:List Az) (c d:Int) (a0:aj) (c0:Nat) (F:aq) (hl:l.length<=1000000) (ht:∀r∈l,0<=r.Ee/\r.Ee<=3) (c0_:0<=c) (c1_:c<=1000000) (d0_:-1000000<=d) (d1_:d<=1000000) :
  Fn prog 312 [ab a0 l.length c0,aa c,aa d] [.sl Ay (ab a0 l.length c0) l F] [] (fun (_:TkS)=>True) (fun s=>.tuple #[.slice s.a (l.filterMap (Ty c d)).length s.c,.slice s.a2 (l.filterMap (P3 c)).length s.c2,.slice s.a3 (l.filterMap (T7 c)).length s.c3]) (fun s=>[.ow Ay 231 (.slice s.a (l.filterMap (Ty c d)).length s.c) (l.filterMap (Ty c d)) s.F,.ow Bc 3 (.slice s.a2 (l.filterMap (P3 c)).length s.c2) (l.filterMap (P3 c)) s.F2,.ow Bc 3 (.slice s.a3 (l.filterMap (T7 c)).length s.c3) (l.filterMap (T7 c)) s.F3]):=by
 refine enter func312 rfl ntmps312 fun w0=>?_;refine go ?_;refine Cf Ay 231 ?_;refine Cf Bc 3 ?_;refine Cf Bc 3 ?_
 refine Bx [1,2,6,7,8,14,15] (fun s:TkS=>[(16,aa (s.k:Nat)),(9,.slice s.a ((l.take s.k).filterMap (Ty c d)).length s.c),(10,.slice s.a2 ((l.take s.k).filterMap (P3 c)).length s.c2),(11,.slice s.a3 ((l.take s.k).filterMap (T7 c)).length s.c3)]) (fun s=>[.ow Ay 231 (.slice s.a ((l.take s.k).filterMap (Ty c d)).length s.c) ((l.take s.k).filterMap (Ty c d)) s.F,.ow Bc 3 (.slice s.a2 ((l.take s.k).filterMap (P3 c)).length s.c2) ((l.take s.k).filterMap (P3 c)) s.F2,.ow Bc 3 (.slice s.a3 ((l.take s.k).filterMap (T7 c)).length s.c3) ((l.take s.k).filterMap (T7 c)) s.F3]) (fun s=>s.k<=l.length) (fun s=>l.length - s.k) ⟨0,_,_,_,_,_,_,_,_,_⟩ (aG _) fun s hs=>?_
 obtain ⟨k,a4,c4,F4,a5,c5,F5,a6,c6,F6⟩:=s;dsimp only at hs ⊢;have h1:=Ab9 (Ty c d) l k;have h2:=Ab9 (P3 c) l k;have h3:=Ab9 (T7 c) l k;refine go ?_;refine A4 rfl (fun h4=>?_) (fun h4=>?_)
 ·have hk:k < l.length:=EZ
  obtain ⟨t0,t1⟩:=ht _ (aB hk);refine I9 (xs:=l) k ?_;rintro hi b o e;rw [e];refine go ?_;intros;refine A4 rfl (fun h5=>?_) (fun h5=>?_)
  ·have h5':c < l[k].Co:=EZ
   refine go ?_;intros;have eo:((l.take (k+1)).filterMap (Ty c d))=((l.take k).filterMap (Ty c d))++[l[k]]:=by rw [Ig hk];simp [Ty,h5']
   have es:((l.take (k+1)).filterMap (P3 c))=((l.take k).filterMap (P3 c)):=by rw [Ig hk];simp [P3,h5']
   have el:((l.take (k+1)).filterMap (T7 c))=((l.take k).filterMap (T7 c)):=by rw [Ig hk];simp [T7,h5']
   apply wO;refine Nb (ys:=[l[k]]) (Nn l[k]) Db fun a7 c7 F7=>?_;exact AD
  refine go ?_;refine A4 rfl (fun h6=>?_) (fun h6=>?_)
  ·refine go ?_;intros;have eo:((l.take (k+1)).filterMap (Ty c d))=((l.take k).filterMap (Ty c d)):=by rw [Ig hk];simp [Ty,h5,h6]
   have es:((l.take (k+1)).filterMap (P3 c))=((l.take k).filterMap (P3 c)):=by rw [Ig hk];simp [P3,h5,h6]
   have el:((l.take (k+1)).filterMap (T7 c))=((l.take k).filterMap (T7 c))++[l[k].Ae]:=by rw [Ig hk];simp [T7,h5,h6]
   apply wO;refine Nb (ys:=[l[k].Ae]) (Rz _) C6 fun a8 c8 F8=>?_;exact AD
  refine go ?_;refine A4 rfl (fun h7=>?_) (fun h7=>?_)
  ·refine go ?_;intros;have eo:((l.take (k+1)).filterMap (Ty c d))=((l.take k).filterMap (Ty c d))++[(⟨l[k].Ae,2,c+3,l[k].Ee+1⟩:Az)]:=IP
   have es:((l.take (k+1)).filterMap (P3 c))=((l.take k).filterMap (P3 c))++[l[k].Ae]:=IR
   have el:((l.take (k+1)).filterMap (T7 c))=((l.take k).filterMap (T7 c)):=IQ
   exact CK
  ·refine go ?_;intros;have eo:((l.take (k+1)).filterMap (Ty c d))=((l.take k).filterMap (Ty c d))++[(⟨l[k].Ae,1,c+d,l[k].Ee⟩:Az)]:=IP
   have es:((l.take (k+1)).filterMap (P3 c))=((l.take k).filterMap (P3 c)):=IR
   have el:((l.take (k+1)).filterMap (T7 c))=((l.take k).filterMap (T7 c)):=IQ
   exact EK
 ·obtain rfl:k=l.length:=EZ
  rw [bl];refine go ?_;refine ret ⟨0,_,_,_,_,_,_,_,_,_⟩ trivial rfl
theorem At5 (l:List Az) (c d:Int) (a0:aj) (c0:Nat) (F:aq) (hl:l.length<=1000000) (ht:∀r∈l,0<=r.Ee/\r.Ee<=3) (c0_:0<=c) (c1_:c<=1000000) (d0_:-1000000<=d) (d1_:d<=1000000) :
  Fn prog 289 [ab a0 l.length c0,aa c,aa d] [.sl Ay (ab a0 l.length c0) l F] [] (fun (_:TkS)=>True) (fun s=>.tuple #[.slice s.a (l.filterMap (Ty c d)).length s.c,.slice s.a2 (l.filterMap (P3 c)).length s.c2,.slice s.a3 (l.filterMap (T7 c)).length s.c3]) (fun s=>[.ow Ay 231 (.slice s.a (l.filterMap (Ty c d)).length s.c) (l.filterMap (Ty c d)) s.F,.ow Bc 3 (.slice s.a2 (l.filterMap (P3 c)).length s.c2) (l.filterMap (P3 c)) s.F2,.ow Bc 3 (.slice s.a3 (l.filterMap (T7 c)).length s.c3) (l.filterMap (T7 c)) s.F3]):=by
 refine enter func289 rfl ntmps289 fun w0=>?_;refine go ?_;intros;refine Cy Bc ?_;refine Cy Bc ?_;refine Cy Ay ?_
 refine Bx [0,1,2,6,7,8] (fun s:TkS=>[(12,aa (s.k:Nat)),(9,.slice s.a ((l.take s.k).filterMap (Ty c d)).length s.c),(10,.slice s.a2 ((l.take s.k).filterMap (P3 c)).length s.c2),(11,.slice s.a3 ((l.take s.k).filterMap (T7 c)).length s.c3)]) (fun s=>[.ow Ay 231 (.slice s.a ((l.take s.k).filterMap (Ty c d)).length s.c) ((l.take s.k).filterMap (Ty c d)) s.F,.ow Bc 3 (.slice s.a2 ((l.take s.k).filterMap (P3 c)).length s.c2) ((l.take s.k).filterMap (P3 c)) s.F2,.ow Bc 3 (.slice s.a3 ((l.take s.k).filterMap (T7 c)).length s.c3) ((l.take s.k).filterMap (T7 c)) s.F3]) (fun s=>s.k<=l.length) (fun s=>l.length - s.k) ⟨0,_,_,_,_,_,_,_,_,_⟩ (aG _) fun s hs=>?_
 obtain ⟨k,a4,c4,F4,a5,c5,F5,a6,c6,F6⟩:=s;dsimp only at hs ⊢;have h1:=Ab9 (Ty c d) l k;have h2:=Ab9 (P3 c) l k;have h3:=Ab9 (T7 c) l k;refine go ?_;refine A4 rfl (fun h4=>?_) (fun h4=>?_)
 ·have hk:k < l.length:=EZ
  obtain ⟨t0,t1⟩:=ht _ (aB hk);refine I9 (xs:=l) k ?_;rintro hi b o e;rw [e];refine go ?_;intros;refine A4 rfl (fun h5=>?_) (fun h5=>?_)
  ·have h5':c < l[k].Co:=EZ
   refine go ?_;intros;have eo:((l.take (k+1)).filterMap (Ty c d))=((l.take k).filterMap (Ty c d))++[l[k]]:=by rw [Ig hk];simp [Ty,h5']
   have es:((l.take (k+1)).filterMap (P3 c))=((l.take k).filterMap (P3 c)):=by rw [Ig hk];simp [P3,h5']
   have el:((l.take (k+1)).filterMap (T7 c))=((l.take k).filterMap (T7 c)):=by rw [Ig hk];simp [T7,h5']
   apply wO;refine Nb (ys:=[l[k]]) (Nn l[k]) Db fun a7 c7 F7=>?_;exact AD
  refine go ?_;refine A4 rfl (fun h6=>?_) (fun h6=>?_)
  ·refine go ?_;intros;have eo:((l.take (k+1)).filterMap (Ty c d))=((l.take k).filterMap (Ty c d)):=by rw [Ig hk];simp [Ty,h5,h6]
   have es:((l.take (k+1)).filterMap (P3 c))=((l.take k).filterMap (P3 c)):=by rw [Ig hk];simp [P3,h5,h6]
   have el:((l.take (k+1)).filterMap (T7 c))=((l.take k).filterMap (T7 c))++[l[k].Ae]:=by rw [Ig hk];simp [T7,h5,h6]
   apply wO;refine Nb (ys:=[l[k].Ae]) (Rz _) C6 fun a8 c8 F8=>?_;exact AD
  refine go ?_;refine A4 rfl (fun h7=>?_) (fun h7=>?_)
  ·refine go ?_;intros;have eo:((l.take (k+1)).filterMap (Ty c d))=((l.take k).filterMap (Ty c d))++[(⟨l[k].Ae,2,c+3,l[k].Ee+1⟩:Az)]:=IP
   have es:((l.take (k+1)).filterMap (P3 c))=((l.take k).filterMap (P3 c))++[l[k].Ae]:=IR
   have el:((l.take (k+1)).filterMap (T7 c))=((l.take k).filterMap (T7 c)):=IQ
   exact CK
  ·refine go ?_;intros;have eo:((l.take (k+1)).filterMap (Ty c d))=((l.take k).filterMap (Ty c d))++[(⟨l[k].Ae,1,c+d,l[k].Ee⟩:Az)]:=IP
   have es:((l.take (k+1)).filterMap (P3 c))=((l.take k).filterMap (P3 c)):=IR
   have el:((l.take (k+1)).filterMap (T7 c))=((l.take k).filterMap (T7 c)):=IQ
   exact EK
 ·obtain rfl:k=l.length:=EZ
  rw [bl];refine go ?_;refine ret ⟨0,_,_,_,_,_,_,_,_,_⟩ trivial rfl
theorem Av9 (x:A1) (v:Value) (F:aq) (hl:x.Aa.Ap.length<=1000000000) (hl2:x.Ao.length<=1000000000):Fn prog 105 [v] [.isv B8 v x F] [] (fun (_:Value × aq)=>True) (fun s=>s.1) (fun s=>[.own B9 s.1 x s.2]):=by
 refine enter func105 rfl ntmps105 fun w0=>?_;refine Hf ?_;rintro a1 c1 F1 a2 c2 F2 rfl l1 l2;refine Cb x.Aa ?_;generalize F1=F3;refine go ?_;intros;refine Bf (Asu x.Aa _ F3 EZ) fun z _=>?_;refine go ?_;refine Bf (To x.Ao a2 c2 F2 hl2) fun q _=>?_;refine go ?_;refine Kk x ?_;exact CF
theorem Bgr (r:Az) (n:Int) (gb:Nat) (h0:Bz r.Ae=true) (h1:0<=n) (h2:n<=65535):FV 347 [.agg #[aa r.Ae,aa r.state,aa r.Co,aa r.Ee],Ga gb 0 0] [.cel gb 0 [aa n]] (.bool (Tl r.Ae n)):=by
 obtain ⟨n0,n1⟩:=A9.1 h0;refine enter func347 rfl ntmps347 fun w0=>?_;refine go ?_;intros;refine ce (fun w s=>Np _ _ _ EZ EZ EZ EZ) ?_;exact AA
theorem Aer (l:List Az) (n:Int) (a:aj) (c:Nat) (F:aq) (hl:l.length<=1000000000) (hs:∀q∈l,Bz q.Ae=true) (h1:0<=n) (h2:n<=65535):Fn prog 314 [ab a l.length c,aa n] [.sl Ay (ab a l.length c) l F] [] (fun (_:aj × Nat × aq)=>True) (fun z=>.slice z.1 (Y5 l n).length z.2.1) (fun z=>[.ow Ay 231 (.slice z.1 (Y5 l n).length z.2.1) (Y5 l n) z.2.2]):=by
 refine enter func314 rfl ntmps314 fun w0=>?_;refine go ?_;intros;rename_i gb;refine Bf (To l a c F hl) fun q _=>?_;refine Alr (cs:=[aa n]) ?_ FB;refine go ?_;refine Bf (Al3 347 [] [Ga gb 0 0] [.cel gb 0 [aa n]] rfl l q.1 q.2.1 q.2.2 (fun z=>Tl z.Ae n) FC hl (fun z hz w hA=>(Bgr z n gb (hs z hz) h1 h2).val w hA)) fun z _=>?_;refine go ?_;refine ret (z.1,z.2.1,z.2.2) trivial rfl
theorem Adc (r:A1) (d:Int):(Nh r d).length<=r.Ao.length:=cY _ _
theorem Ahn (r:A1):(C9 r).length<=r.Ao.length:=cY _ _
theorem Ahl {r:A1} {d:Int} (h:C9 r=[]):C1 r d=⟨r.Be,r.Ai+1,r.Aa,Nh r d⟩:=aJ h
theorem Ada {r:A1} {d:Int} (h:C9 r≠[]):C1 r d=⟨r.Be,r.Ai+1,Jd r.Aa (Dk (C9 r)),Y5 (Nh r d) (Jd r.Aa (Dk (C9 r))).next⟩:=aC h
theorem Aov {r:A1} (h:C9 r=[]):Hh r=[]:=aJ h
theorem Aka {r:A1} (h:C9 r≠[]):Hh r=Jc r.Aa (Dk (C9 r)):=aC h
theorem Ajl {l:ar} (h:l≠[]):Dk l=Cc (l[l.length - 1]'(by have:=cT.2 h;omega)) 1:=by
 unfold Dk;rw [fD,dU,aD (by have:=cT.2 h;omega)];rfl
theorem Ko {x:Aj} (hg:Cv x=true):x.Ap.length<=8/\∀s∈x.Ap,s.Dn.size<=8:=by
 have hg0:=hg;unfold Cv at hg;simp only [aw,aF] at hg;refine ⟨by have:=hg.1.1.2;omega,fun s hs=>?_⟩;have:=aW.1 hg.1.2 s hs;unfold Hc at this;simp only [aw] at this;exact Up this.1
structure PkS where
 k:Nat
 a:aj
 c:Nat
 F:aq
structure TkR where
 a1:aj
 c1:Nat
 F1:aq
 a2:aj
 c2:Nat
 F2:aq
 a3:aj
 c3:Nat
 F3:aq
 a4:aj
 c4:Nat
 F4:aq
theorem Baw (r:A1) (d:Int) (g t o:Nat) (A B:am) (a1:aj) (c1:Nat) (F1:aq) (a2:aj) (c2:Nat) (F2:aq) (hg:Lu r) (d0:0<=d) (d1:d<=100) :
  Fn prog 261 [Ga g o 0,aa d] [] [.row g t o A [.bool r.Be,aa r.Ai,aa r.Aa.next,ab a1 r.Aa.Ap.length c1,ab a2 r.Ao.length c2] B,.ow Cw 107 (ab a1 r.Aa.Ap.length c1) r.Aa.Ap F1,.ow Ay 231 (ab a2 r.Ao.length c2) r.Ao F2] (fun (_:TkR)=>True)
   (fun s=>.tuple #[.slice s.a3 (E9 r).length s.c3,.slice s.a4 (Hh r).length s.c4]) (fun s=>[.row g t o A [.bool (C1 r d).Be,aa (C1 r d).Ai,aa (C1 r d).Aa.next,.slice s.a1 (C1 r d).Aa.Ap.length s.c1,.slice s.a2 (C1 r d).Ao.length s.c2] B,.ow Cw 107 (.slice s.a1 (C1 r d).Aa.Ap.length s.c1) (C1 r d).Aa.Ap s.F1,.ow Ay 231 (.slice s.a2 (C1 r d).Ao.length s.c2) (C1 r d).Ao s.F2,.ow An 141 (.slice s.a3 (E9 r).length s.c3) (E9 r) s.F3,.ow A8 9 (.slice s.a4 (Hh r).length s.c4) (Hh r) s.F4]):=by
 have k0:=hg.k0;have k1:=hg.k1;obtain ⟨-,q1,q2, -⟩:=Dj.1 hg.q;obtain ⟨w0_,w1_⟩:=Ie hg.w;obtain ⟨hw8,hit⟩:=Ko hg.w;have hpl:(r.Ao.filterMap (P3 (r.Ai+1))).length<=8:=bG (cY _ _) q1;refine enter func261 rfl ntmps261 fun w0=>?_;refine go ?_;refine Av (E:=Ay) fun F9=>?_;refine Ar [1] [] ?_;refine Df 0 1 2 3 ?_;refine Df 4 5 6 7 ?_;refine dt 8 ?_;refine dN 9 ?_;refine oC ?_;refine Bf (Ahm r.Ao (r.Ai+1) d a2 c2 F9 EZ (fun q hq=>⟨(Er.1 (q2 q hq)).t0,(Er.1 (q2 q hq)).t1⟩) EZ EZ EZ EZ) fun z _=>?_
 rw [show r.Ao.filterMap (T7 (r.Ai+1))=C9 r from rfl,show r.Ao.filterMap (Ty (r.Ai+1) d)=Nh r d from rfl];refine dk ?_;refine Df 10 11 12 13 ?_;refine Dh 14 15 ?_;refine dt 16 ?_;refine dd ?_;refine Av (E:=Bc) (xs:=r.Ao.filterMap (P3 (r.Ai+1))) fun G2=>?_;refine Av (E:=Bc) (xs:=C9 r) fun G3=>?_;refine Cf An 141 ?_;refine go ?_
 refine Bx [0,4,5,6,9,44,45] (fun s:PkS=>[(46,aa (s.k:Nat)),(10,.slice s.a (((r.Ao.filterMap (P3 (r.Ai+1))).take s.k).map (pkR r.Aa.next)).length s.c)]) (fun s=>[.ow An 141 (.slice s.a (((r.Ao.filterMap (P3 (r.Ai+1))).take s.k).map (pkR r.Aa.next)).length s.c) (((r.Ao.filterMap (P3 (r.Ai+1))).take s.k).map (pkR r.Aa.next)) s.F]) (fun s=>s.k<=(r.Ao.filterMap (P3 (r.Ai+1))).length) (fun s=>(r.Ao.filterMap (P3 (r.Ai+1))).length - s.k) ⟨0,_,_,_⟩ (aG _) fun s hs=>?_;obtain ⟨k,a4,c4,F4⟩:=s;dsimp only at hs ⊢;generalize hsn:r.Ao.filterMap (P3 (r.Ai+1))=sn at *;refine go ?_
 refine A4 rfl (fun h4=>?_) (fun h4=>?_)
 ·have hk:k < sn.length:=EZ
  have hkl:((sn.take k).map (pkR r.Aa.next)).length<=k:=FF
  refine Hy (xs:=sn) k ?_;rintro hi b o2 e;rw [e];refine go ?_;intros;have eo:(sn.take (k+1)).map (pkR r.Aa.next)=(sn.take k).map (pkR r.Aa.next)++[pkR r.Aa.next sn[k]]:=by rw [cC,aD hk,bD];rfl
  apply wO;refine Nb (ys:=[pkR r.Aa.next sn[k]]) (Dd (pkR r.Aa.next sn[k]) HE) Ho fun a7 c7 F7=>?_;exact DW
 have hk:k=sn.length:=EZ
 subst hk;rw [bl];have ep:E9 r=sn.map (pkR r.Aa.next):=by unfold E9;rw [hsn]
 rw [ep];refine go ?_;by_cases hL:C9 r=[]
 ·refine A4 rfl (fun _=>?_) (fun h=>absurd (show ((C9 r).length:Int)=0 by rw [hL];rfl) h);rw [Ahl hL,Aov hL];refine Cf A8 9 ?_;refine go ?_;refine ret ⟨_,_,_,_,_,_,_,_,_,_,_,_⟩ trivial rfl
 ·have hl0:=cT.2 hL;refine A4 rfl (fun h=>absurd h EZ) (fun _=>?_);rw [Ada hL,Aka hL];obtain ⟨hs8,hsr⟩:=Aey hg hL;have hll8:=Ahn r;obtain ⟨hs0,hs1⟩:=A9.1 hsr;have hll:=Ajl hL;obtain ⟨l0,l1⟩:=A9.1 (Adb hg (aB (show (C9 r).length - 1 < (C9 r).length by omega))).1;have hi1:((C9 r).length:Int) - 1=(((C9 r).length - 1:Nat):Int):=EZ
  refine Hy (xs:=C9 r) ((C9 r).length - 1) ?_;rintro hi b o2 e;rw [e];refine Ash [.bool r.Be,aa (r.Ai+1)] [aa r.Aa.next,ab a1 r.Aa.Ap.length c1] [.slice z.a (Nh r d).length z.c] ?_;refine go ?_;refine Ar [1] [] ?_;refine Df 0 1 2 3 ?_;refine Dh 4 5 ?_;refine dt 6 ?_;rw [hi1];refine Dh 7 8 ?_;refine dN 9 ?_;refine oC ?_;refine ce (fun w s=>Rp _ _ _ EZ EZ) ?_;rw [<-hll];refine dk ?_;refine dN 10 ?_;refine oC ?_;refine Bf (Al7 r.Aa (Dk (C9 r)) g t (o+2) (A++[.bool r.Be,aa (r.Ai+1)]) _ a1 c1 F1 w0_ w1_ hs0 hs1 hw8 hit) fun y hy=>?_;refine dk ?_
  refine dt 11 ?_;refine dd ?_;obtain ⟨hy1,hy2⟩:=hy;have hmv:=Uu (t:=Dk (C9 r)) hg.w;have hm0:0<=y.y.next:=by rw [hy1];show 0<=(Jd r.Aa (Dk (C9 r))).next;rw [hmv.1];exact (I7 _ _).1
  have hm1:y.y.next<=65535:=by rw [hy1];show (Jd r.Aa (Dk (C9 r))).next<=65535;rw [hmv.1];exact (I7 _ _).2
  refine Ahi [.bool r.Be,aa (r.Ai+1)] [aa y.y.next,ab y.a y.y.Ap.length y.c] [.slice z.a (Nh r d).length z.c] ?_;refine Av (E:=Ay) (xs:=Nh r d) fun F8=>?_;refine go ?_;refine Ar [1] [13] ?_;refine Df 0 1 2 3 ?_;refine Df 4 5 6 7 ?_;refine Dh 8 9 ?_;refine dN 10 ?_;refine oC ?_;refine Bf (Aer (Nh r d) y.y.next z.a z.c F8 (by have:=Adc r d;omega) (fun q hq=>(Abo hg hq).1) hm0 hm1) fun u _=>?_;refine dk ?_;refine Dh 11 12 ?_;refine dN 13 ?_;refine oS ?_;refine Nm ?_;refine dd ?_;refine go ?_
  rw [show Jd r.Aa (Dk (C9 r))=y.y from hy1.symm,show Jc r.Aa (Dk (C9 r))=y.es from hy2.symm];refine ret ⟨_,_,_,_,_,_,_,_,_,_,_,_⟩ trivial rfl
theorem T9 (v:Value) (xs:ar) (F:aq) (w:World) (h:Sl Bc w v xs F) (hm:xs.length<=4294967296) :
  Calls prog 101 #[v] w (Wr Bc 3 xs w):=by
 obtain ⟨ao,c,news,Fy,rfl,hl,hfy,hFy,hsrc⟩:=h.src;have hFl:=hfy.lt;have he:=fun w (a:aj) (n c:Nat)=>Lib.run_eql_slice_nil (P:=prog) w 24 _ a n c 0 0 underlying24
 go_enter func101,ntmps101
 rcases hsrc with ⟨rfl,rfl,rfl⟩|⟨ad,rfl,hn⟩
 ·go_wp2
  go_ret
  exact CE
 ·go_wp2_with (at_builtin;refine Oz C6 FA FL _ _ _ FL 3 (aa 0) 8 underlying24 Af8 rfl (ab (some ⟨w.heap.size,0,none⟩) 0 0) [] [w.heap.size] FL (Ow.empty (Ib.made _ _ _)) (Hd.one _) (some ad) xs c FL news Fy (hfy.frame fun b hb=>Below.heap_alloc _ _ _ (hFl b hb)) (.inr ⟨ad,rfl,fun j u hu=>kc ((Below.refl _ _).alloc (aL _) _) (hn j u hu)⟩) (fun b hb e=>by have:=hFl b hb;simp [Value.ownBlock] at e;omega) GY GV ?_);intro v2 w2 F2 hA;go_wp2_with fail
  go_ret
  have hB:Below w.heap.size w w2:=((Below.refl _ _).alloc (aL _) _).trans (hA.I0.below FB FB);have hs:∀b,v2.ownBlock=some b->w.heap.size<=b:=fun b hb=>by rcases hA.Aqo with e|e <;> rw [e] at hb <;> simp [Value.ownBlock] at hb <;> omega
  refine ⟨v2,F2,rfl,IM,hA.ow.scal Ek▸?_,fun b hb=>?_,hB⟩
  ·cases v2.ownBlock <;> simp
  ·rw [hA.ow.scal Ek] at hb;exact hs b IY
theorem X9 (v:Value) (xs:ar) (F:aq) (w:World) (h:Sl Bc w v xs F) (hm:xs.length<=4294967296) :
  Calls prog 127 #[v] w (Wr Bc 3 xs w):=by
 obtain ⟨ao,c,news,Fy,rfl,hl,hfy,hFy,hsrc⟩:=h.src;have hFl:=hfy.lt;have hsrc2:(ao=none/\c=0/\xs=[])\/∃ad,ao=some ad/\∀j u,news[j]?=some u->(w.alloc (.cells #[] 3)).cell? (ad.add j)=some u:=by
  rcases hsrc with h|⟨ad,h1,h2⟩
  ·exact .inl h
  ·exact .inr ⟨ad,h1,fun j u hu=>kc ((Below.refl _ _).alloc (aL _) _) (h2 j u hu)⟩
 go_enter func127,ntmps127
 go_wp2_with (at_builtin;refine Oz C6 FA FL _ _ _ FL 3 (aa 0) 8 underlying24 Af8 rfl (ab (some ⟨w.heap.size,0,none⟩) 0 0) [] [w.heap.size] FL (Ow.empty (Ib.made _ _ _)) (Hd.one _) ao xs c FL news Fy (hfy.frame fun b hb=>Below.heap_alloc _ _ _ (hFl b hb)) hsrc2 (fun b hb e=>by have:=hFl b hb;simp [Value.ownBlock] at e;omega) GY GV ?_);intro v2 w2 F2 hA;go_wp2_with fail
 go_ret
 have hB:Below w.heap.size w w2:=((Below.refl _ _).alloc (aL _) _).trans (hA.I0.below FB FB);have hs:∀b,v2.ownBlock=some b->w.heap.size<=b:=fun b hb=>by rcases hA.Aqo with e|e <;> rw [e] at hb <;> simp [Value.ownBlock] at hb <;> omega
 refine ⟨v2,F2,rfl,IM,hA.ow.scal Ek▸?_,fun b hb=>?_,hB⟩
 ·cases v2.ownBlock <;> simp
 ·rw [hA.ow.scal Ek] at hb;exact hs b IY
theorem Aed (v:Value) (e:Bh) (F:aq) (w:World) (h:Ro Bv w v e F) (hm:e.Ah.length<=4294967296) (hm2:∀x∈e.Ah,x.Bj.length<=4294967296) :
  Calls prog 104 #[v] w (Awa Ce e w):=by
 obtain ⟨_,rfl,v1,rfl,h1⟩:=h;obtain ⟨a,cap,rfl⟩:=h1.slice;have hl:=h1.len;unfold maxLen at hl;have hB0:∀A B:Obj,Below w.heap.size w ((w.alloc A).alloc B):=fun A B=>((Below.refl _ _).alloc (aL _) _).alloc FB _;have hFl:=h1.lt FA
 go_enter func104,ntmps104
 go_wp2_with fail;refine (Al1 _ e.Ah F _ (h1.below FA (hB0 _ _)) hm).mono ?_;rintro e' w1 ⟨v2,F2,rfl,ho,hd,hs,hF2,hb1⟩;obtain ⟨a2,cap2,rfl⟩:=ho.slice;have r0:=Ib.below (g:=w.heap.size) (t:=122) (cs:=[aa e.Ai,ab a e.Ah.length cap]) GM hb1;have r1:=Ib.below (g:=w.heap.size+1) (t:=122) (cs:=[aa 0,ab none 0 0]) GM hb1;have hB:=tr (hB0 _ _) hb1 (aL _);have hm1:=Lib.hid (Mix.start (O:=Et) (R:=Dz) (B1:=w.heap.size) (B0:=w.heap.size+2) rfl ho (by simpa using hs) (fun b hb=>(hF2 b hb).imp id fun hb=>hFl b hb) hd)
 have c0:=r0.cells;have f0:=r0.frozens;have f1:=r1.frozens;have c1:=r1.cells;clear hb1 ho hs hd hF2;go_wp2_with fail;have R0:=r0.set 1 (ab a2 e.Ah.length cap2);have R1:=r1.setOther (p:=⟨w.heap.size,1,none⟩) FB (ab a2 e.Ah.length cap2);have M1:=Lib.hid (hm1.out.setFar (p:=⟨w.heap.size,1,none⟩) (aL _) FB (ab a2 e.Ah.length cap2));clear hm1
 go_loopw [3,11] (fun _ i wr=>∃k:Nat,k<=e.Ah.length/\i=aa k/\Hid (Mix Et Dz 193 w.heap.size (w.heap.size+2) wr (ab a2 e.Ah.length cap2) e.Ah k)/\Ib wr w.heap.size 122 [aa e.Ai,ab a2 e.Ah.length cap2]/\Ib wr (w.heap.size+1) 122 [aa 0,ab none 0 0]/\Below w.heap.size w wr) (fun _ i _=>e.Ah.length - (intOf i).toNat)
 case atStart=>exact ⟨0,aG _,rfl,M1,by simpa using R0,R1,hB.setCell (aL _) _⟩
 case round =>
  obtain ⟨k,hk,rfl,hM,hr,hr1,hB⟩:=hrel;have c0:=hr.cells;have f0:=hr.frozens;have hsz:=hr1.lt;by_cases hlt:k < e.Ah.length
  ·obtain ⟨g,cap3,A,c,B,Fk,hv,hg,hrow,hA,hcl,hx, -,back⟩:=hM.out.at rfl hlt EZ EZ;cases hv;obtain ⟨u1,rfl,hf⟩:=id hx;obtain ⟨fa,fc,rfl⟩:=hf.slice;have a1:=hrow.cellMid (p:=k * 3+1) (j:=1) (by rw [hA];rfl) FB;simp only [bM,bH] at a1;have hne:¬g=w.heap.size:=EZ
   have hne2:¬w.heap.size=g:=EZ
   have hbk:=Lib.hid back;clear back;have hfl:=hm2 e.Ah[k] (aB _);go_wp2_with fail
   go_region_law (first|(go_simp;go_at_call 101;refine (T9 _ e.Ah[k].Bj Fk wr.drew (hf.frame fun _ _=>rfl) hfl).mono ?_;rintro e' w2 ⟨v3,F3,rfl,o3,n3,g3,hb2⟩;obtain ⟨d3,p3,rfl⟩:=o3.slice;have z3:=kc hb2 (show wr.drew.cell? ⟨w.heap.size,1,none⟩=some (ab (some ⟨g,0,none⟩) e.Ah.length cap2) by simpa using c0 1);have z1:=kc hb2 (by simpa using a1);have zf:=((show Ib wr.drew g 193 _ from hrow).below hb2).frozens (k * 3+1)))
   all_goals
    have hr2:=((show Ib wr.drew w.heap.size 122 _ from hr).below hb2).setOther (p:=⟨g,k * 3+1,none⟩) hne (.slice d3 e.Ah[k].Bj.length p3);have hr3:=((show Ib wr.drew (w.heap.size+1) 122 _ from hr1).below hb2).setOther (p:=⟨g,k * 3+1,none⟩) FF (.slice d3 e.Ah[k].Bj.length p3);have hro:=((show Ib wr.drew g 193 _ from hrow).below hb2).setMid (p:=k * 3+1) (j:=1) (by rw [hA];rfl) FB (.slice d3 e.Ah[k].Bj.length p3);have hg3:∀b∈F3,wr.heap.size<=b:=g3;have hgs:=hrow.lt
    have hMk:=Lib.hid (hbk.out _ _ F3 hro ⟨_,rfl,o3.setFar (fun hm=>by have:=hg3 _ hm;simp at this;omega) _⟩ n3 hg3 (fun b hb hbg=>(Below.heap_setCell _ _ _ _ hbg).trans (hb2.block b hb)));have hB3:Below w.heap.size w (w2.setCell ⟨g,k * 3+1,none⟩ (.slice d3 e.Ah[k].Bj.length p3)):=(tr (E5 hB 1) hb2 (aL _)).setCell FF _;go_wp2_with fail;exact ⟨⟨k+1,EZ,HQ,hMk,hr2,hr3,hB3⟩,GJ⟩
  ·have hk:k=e.Ah.length:=EZ
   subst hk;obtain ⟨F4,o4,n4,g4⟩:=hM.out.done;have O4:=Lib.hid o4;clear hM o4;have d1:=hr1.cells;have fd:=hr1.frozens;go_wp2_with fail;refine bodyPost_ret (v:=.agg #[aa e.Ai,ab a2 e.Ah.length cap2]) ?_ rfl ?_
   ·simp [results,results104,go_sem,c0,d1,fd]
   ·refine ⟨_,F4,rfl,⟨_,rfl,_,rfl,?_⟩,n4,fun b hb=>by have:=g4 b hb;omega,?_⟩
    ·repeat refine Ow.setFar ?_ (fun hm=>by have:=g4 _ hm;simp at this <;> omega) _
     exact O4.out
    ·repeat refine Below.setCell ?_ GQ _
     exact hB
section
variable {c:Cx} {fr:Fr} {H:List Pc} {Φ:Gl}
theorem Fm {v:Value} {x:Du} {F:aq} (h:∀(a1:aj) (c1:Nat) (F1:aq) (a2:aj) (c2:Nat) (F2:aq) (a3:aj) (c3:Nat) (F3:aq) (a4:aj) (c4:Nat) (F4:aq) (a5:aj) (c5:Nat) (F5:aq) (a6:aj) (c6:Nat) (F6:aq) (a7:aj) (c7:Nat) (F7:aq),v=.agg #[ab a1 x.Al.Ac.length c1,aa x.Ab.Aa.Am,aa x.Ab.Aa.size,ab a2 x.Ab.Aa.Ak.length c2,aa x.Ab.Ai,aa x.Ab.quiet,ab a3 x.Ab.holds.length c3,ab a4 x.Af.length c4,ab a5 x.Ad.length c5,ab a6 x.down.length c6,ab a7 x.up.length c7]->x.Al.Ac.length<=maxLen->x.Ab.Aa.Ak.length<=maxLen->x.Ab.holds.length<=maxLen->x.Af.length<=maxLen->x.Ad.length<=maxLen->x.down.length<=maxLen->x.up.length<=maxLen->T c fr (.sl Bc (ab a1 x.Al.Ac.length c1) x.Al.Ac F1::.sl A8 (ab a2 x.Ab.Aa.Ak.length c2) x.Ab.Aa.Ak F2::.sl Bw (ab a3 x.Ab.holds.length c3) x.Ab.holds F3::.sl Bv (ab a4 x.Af.length c4) x.Af F4::.sl B8 (ab a5 x.Ad.length c5) x.Ad F5::.sl (Oa An FA) (ab a6 x.down.length c6) x.down F6::.sl (Oa An FA) (ab a7 x.up.length c7) x.up F7::H) Φ) (hm:.isv Pb v x F∈H:=by exact Bl):T c fr H Φ:=.mk fun a w s g=>by
 obtain ⟨cs,rfl,v1,v2,v3,v4,v5,v6,v7,G1,G2,G3,G4,G5,G6,G7,rfl,h1,h2,h3,h4,h5,h6,h7,rfl⟩:=s.get hm;obtain ⟨a1,c1,rfl⟩:=h1.slice;have l1:=h1.len;obtain ⟨a2,c2,rfl⟩:=h2.slice;have l2:=h2.len;obtain ⟨a3,c3,rfl⟩:=h3.slice;have l3:=h3.len;obtain ⟨a4,c4,rfl⟩:=h4.slice;have l4:=h4.len;obtain ⟨a5,c5,rfl⟩:=h5.slice;have l5:=h5.len;obtain ⟨a6,c6,rfl⟩:=h6.slice;have l6:=h6.len;obtain ⟨a7,c7,rfl⟩:=h7.slice;have l7:=h7.len;have t7:=s.ro (p:=.sl _ _ _ _) hm rfl rfl ⟨FA,h7⟩ FI
 have t6:=t7.ro (p:=.sl _ _ _ _) (aQ _ hm) rfl rfl ⟨FA,h6⟩ FI;have t5:=t6.ro (p:=.sl _ _ _ _) (aQ _ (aQ _ hm)) rfl rfl ⟨FA,h5⟩ FI;have t4:=t5.ro (p:=.sl _ _ _ _) (aQ _ (aQ _ (aQ _ hm))) rfl rfl ⟨FA,h4⟩ FI
 have t3:=t4.ro (p:=.sl _ _ _ _) (aQ _ (aQ _ (aQ _ (aQ _ hm)))) rfl rfl ⟨FA,h3⟩ FI;have t2:=t3.ro (p:=.sl _ _ _ _) (aQ _ (aQ _ (aQ _ (aQ _ (aQ _ hm))))) rfl rfl ⟨FA,h2⟩ FI
 have t1:=t2.ro (p:=.sl _ _ _ _) (aQ _ (aQ _ (aQ _ (aQ _ (aQ _ (aQ _ hm)))))) rfl rfl ⟨FA,h1⟩ FI;exact (h a1 c1 G1 a2 c2 G2 a3 c3 G3 a4 c4 G4 a5 c5 G5 a6 c6 G6 a7 c7 G7 rfl  l1 l2 l3 l4 l5 l6 l7).h a w t1 g
theorem Es (x:Du) {a1:aj} {c1:Nat} {F1:aq} {a2:aj} {c2:Nat} {F2:aq} {a3:aj} {c3:Nat} {F3:aq} {a4:aj} {c4:Nat} {F4:aq} {a5:aj} {c5:Nat} {F5:aq} {a6:aj} {c6:Nat} {F6:aq} {a7:aj} {c7:Nat} {F7:aq}  (h:T c fr (.isv Pb (.agg #[ab a1 x.Al.Ac.length c1,aa x.Ab.Aa.Am,aa x.Ab.Aa.size,ab a2 x.Ab.Aa.Ak.length c2,aa x.Ab.Ai,aa x.Ab.quiet,ab a3 x.Ab.holds.length c3,ab a4 x.Af.length c4,ab a5 x.Ad.length c5,ab a6 x.down.length c6,ab a7 x.up.length c7]) x (F1++F2++F3++F4++F5++F6++F7)::H) Φ) (m1:.sl Bc (ab a1 x.Al.Ac.length c1) x.Al.Ac F1∈H:=by exact Bl) (m2:.sl A8 (ab a2 x.Ab.Aa.Ak.length c2) x.Ab.Aa.Ak F2∈H:=by exact Bl) (m3:.sl Bw (ab a3 x.Ab.holds.length c3) x.Ab.holds F3∈H:=by exact Bl) (m4:.sl Bv (ab a4 x.Af.length c4) x.Af F4∈H:=by exact Bl) (m5:.sl B8 (ab a5 x.Ad.length c5) x.Ad F5∈H:=by exact Bl) (m6:.sl (Oa An FA) (ab a6 x.down.length c6) x.down F6∈H:=by exact Bl) (m7:.sl (Oa An FA) (ab a7 x.up.length c7) x.up F7∈H:=by exact Bl):T c fr H Φ:=.mk fun a w s g=>by
 refine h.h a w (s.add (N:=[_]) (Below.refl _ _) (by intro q hq;obtain rfl:=aM.1 hq;exact ⟨_,rfl,_,_,_,_,_,_,_,_,_,_,_,_,_,_,rfl,(s.get m1).2,(s.get m2).2,(s.get m3).2,(s.get m4).2,(s.get m5).2,(s.get m6).2,(s.get m7).2,rfl⟩) ⟨FB,trivial⟩ fun q hq b hb=>?_) g;obtain rfl:=aM.1 hq;simp only [Pc.F,aK] at hb;rcases hb with (((((hb|hb)|hb)|hb)|hb)|hb)|hb
 ·exact .inr ⟨rfl,_,m1,rfl,hb⟩
 ·exact .inr ⟨rfl,_,m2,rfl,hb⟩
 ·exact .inr ⟨rfl,_,m3,rfl,hb⟩
 ·exact .inr ⟨rfl,_,m4,rfl,hb⟩
 ·exact .inr ⟨rfl,_,m5,rfl,hb⟩
 ·exact .inr ⟨rfl,_,m6,rfl,hb⟩
 ·exact .inr ⟨rfl,_,m7,rfl,hb⟩
theorem Ago {v:Value} {x:Du} {F:aq} {S:List Pc} (h:∀(a1:aj) (c1:Nat) (F1:aq) (a2:aj) (c2:Nat) (F2:aq) (a3:aj) (c3:Nat) (F3:aq) (a4:aj) (c4:Nat) (F4:aq) (a5:aj) (c5:Nat) (F5:aq) (a6:aj) (c6:Nat) (F6:aq) (a7:aj) (c7:Nat) (F7:aq),v=.agg #[ab a1 x.Al.Ac.length c1,aa x.Ab.Aa.Am,aa x.Ab.Aa.size,ab a2 x.Ab.Aa.Ak.length c2,aa x.Ab.Ai,aa x.Ab.quiet,ab a3 x.Ab.holds.length c3,ab a4 x.Af.length c4,ab a5 x.Ad.length c5,ab a6 x.down.length c6,ab a7 x.up.length c7]->x.Al.Ac.length<=maxLen->x.Ab.Aa.Ak.length<=maxLen->x.Ab.holds.length<=maxLen->x.Af.length<=maxLen->x.Ad.length<=maxLen->x.down.length<=maxLen->x.up.length<=maxLen->T c fr (.ow Bc 3 (ab a1 x.Al.Ac.length c1) x.Al.Ac F1::.ow A8 9 (ab a2 x.Ab.Aa.Ak.length c2) x.Ab.Aa.Ak F2::.ow Bw 191 (ab a3 x.Ab.holds.length c3) x.Ab.holds F3::.ow Ce 122 (ab a4 x.Af.length c4) x.Af F4::.ow B9 76 (ab a5 x.Ad.length c5) x.Ad F5::.ow (Ki An 141) 125 (ab a6 x.down.length c6) x.down F6::.ow (Ki An 141) 125 (ab a7 x.up.length c7) x.up F7::S) Φ) (hp:C2 H (.own Aam v x F) S:=by exact Dt):T c fr H Φ:=.mk fun a w s g=>by
 obtain ⟨hn,cs,rfl,v1,v2,v3,v4,v5,v6,v7,G1,G2,G3,G4,G5,G6,G7,rfl,h1,h2,h3,h4,h5,h6,h7,rfl⟩:=(s.pick hp).on (.own Aam v x F) FB;obtain ⟨a1,c1,rfl⟩:=h1.slice;have l1:=h1.len;obtain ⟨a2,c2,rfl⟩:=h2.slice;have l2:=h2.len;obtain ⟨a3,c3,rfl⟩:=h3.slice;have l3:=h3.len;obtain ⟨a4,c4,rfl⟩:=h4.slice;have l4:=h4.len;obtain ⟨a5,c5,rfl⟩:=h5.slice;have l5:=h5.len;obtain ⟨a6,c6,rfl⟩:=h6.slice;have l6:=h6.len;obtain ⟨a7,c7,rfl⟩:=h7.slice;have l7:=h7.len
 exact (h a1 c1 G1 a2 c2 G2 a3 c3 G3 a4 c4 G4 a5 c5 G5 a6 c6 G6 a7 c7 G7 rfl  l1 l2 l3 l4 l5 l6 l7).h a w (s.mer (M:=[.own Aam _ x _]) (N:=[.ow Bc _ _ _ G1,.ow A8 _ _ _ G2,.ow Bw _ _ _ G3,.ow Ce _ _ _ G4,.ow B9 _ _ _ G5,.ow (Ki An 141) _ _ _ G6,.ow (Ki An 141) _ _ _ G7]) (.cons hp .nil) (fun _ _=>⟨W7 ⟨(Td (Td (Td (Td (Td (Td hn)))))),h1⟩ (W7 ⟨Anw (Td (Td (Td (Td (Td hn))))),h2⟩ (W7 ⟨Anw (Td (Td (Td (Td hn)))),h3⟩ (W7 ⟨Anw (Td (Td (Td hn))),h4⟩ (W7 ⟨Anw (Td (Td hn)),h5⟩ (W7 ⟨Anw (Td hn),h6⟩ (W7 ⟨Anw hn,h7⟩ (Axa))))))),GD⟩) GP) g
theorem P7 (x:Du) {a1:aj} {c1:Nat} {F1:aq} {a2:aj} {c2:Nat} {F2:aq} {a3:aj} {c3:Nat} {F3:aq} {a4:aj} {c4:Nat} {F4:aq} {a5:aj} {c5:Nat} {F5:aq} {a6:aj} {c6:Nat} {F6:aq} {a7:aj} {c7:Nat} {F7:aq} {S1 S2 S3 S4 S5 S6 S7:List Pc}  (h:T c fr (.own Aam (.agg #[ab a1 x.Al.Ac.length c1,aa x.Ab.Aa.Am,aa x.Ab.Aa.size,ab a2 x.Ab.Aa.Ak.length c2,aa x.Ab.Ai,aa x.Ab.quiet,ab a3 x.Ab.holds.length c3,ab a4 x.Af.length c4,ab a5 x.Ad.length c5,ab a6 x.down.length c6,ab a7 x.up.length c7]) x (F1++F2++F3++F4++F5++F6++F7)::S7) Φ) (m1:C2 H (.ow Bc 3 (ab a1 x.Al.Ac.length c1) x.Al.Ac F1) S1:=by exact Dt) (m2:C2 S1 (.ow A8 9 (ab a2 x.Ab.Aa.Ak.length c2) x.Ab.Aa.Ak F2) S2:=by exact Dt) (m3:C2 S2 (.ow Bw 191 (ab a3 x.Ab.holds.length c3) x.Ab.holds F3) S3:=by exact Dt) (m4:C2 S3 (.ow Ce 122 (ab a4 x.Af.length c4) x.Af F4) S4:=by exact Dt) (m5:C2 S4 (.ow B9 76 (ab a5 x.Ad.length c5) x.Ad F5) S5:=by exact Dt) (m6:C2 S5 (.ow (Ki An 141) 125 (ab a6 x.down.length c6) x.down F6) S6:=by exact Dt) (m7:C2 S6 (.ow (Ki An 141) 125 (ab a7 x.up.length c7) x.up F7) S7:=by exact Dt)  : T c fr H Φ:=.mk fun a w s g =>
 h.h a w (s.mer (M:=[.ow Bc _ _ _ F1,.ow A8 _ _ _ F2,.ow Bw _ _ _ F3,.ow Ce _ _ _ F4,.ow B9 _ _ _ F5,.ow (Ki An 141) _ _ _ F6,.ow (Ki An 141) _ _ _ F7]) (N:=[.own Aam _ x (F1++F2++F3++F4++F5++F6++F7)]) (.cons m1 (.cons m2 (.cons m3 (.cons m4 (.cons m5 (.cons m6 (.cons m7 (.nil)))))))) (fun hk hn=>⟨Iw ⟨GD,_,rfl,_,_,_,_,_,_,_,_,_,_,_,_,_,_,rfl,(P0 hk).2,(P0 (Hn hk)).2,(P0 (Hn (Hn hk))).2,(P0 (Hn (Hn (Hn hk)))).2,(P0 (Hn (Hn (Hn (Hn hk))))).2,(P0 (Hn (Hn (Hn (Hn (Hn hk)))))).2,(P0 (Hn (Hn (Hn (Hn (Hn (Hn hk))))))).2,rfl⟩,GD⟩) GP) g
end
section
variable {c:Cx} {fr:Fr} {H:List Pc} {Φ:Gl}
theorem Nv {v:Value} {x:Pv} {F:aq} (h:∀(a1:aj) (c1:Nat) (F1:aq),v=.agg #[ab a1 x.Ac.length c1]->x.Ac.length<=maxLen->T c fr (.sl Bc (ab a1 x.Ac.length c1) x.Ac F1::H) Φ) (hm:.isv Sq v x F∈H:=by exact Bl):T c fr H Φ:=.mk fun a w s g=>by
 exact AI
theorem Ir (x:Pv) {a1:aj} {c1:Nat} {F1:aq}  (h:T c fr (.isv Sq (.agg #[ab a1 x.Ac.length c1]) x (F1)::H) Φ) (m1:.sl Bc (ab a1 x.Ac.length c1) x.Ac F1∈H:=by exact Bl):T c fr H Φ:=.mk fun a w s g=>by
 exact AE
end
structure P5 (n:Du):Prop where
 t:n.Al.Ac.length<=1048576
 i:n.Ab.Aa.Ak.length<=1048576
 h:n.Ab.holds.length<=1048576
 e:n.Af.length<=1048576
 e1:∀x∈n.Af,x.Ah.length<=1048576
 e2:∀x∈n.Af,∀y∈x.Ah,y.Bj.length<=1048576
 rl:n.Ad.length<=1048576
 r:∀x∈n.Ad,x.Aa.Ap.length<=1048576/\x.Ao.length<=1048576
 d:n.down.length<=1048576
 dq:∀q∈n.down,q.length<=1048576
 u:n.up.length<=1048576
 uq:∀q∈n.up,q.length<=1048576
structure ClN where
 g:Nat
 a1:aj
 c1:Nat
 F1:aq
 a2:aj
 c2:Nat
 F2:aq
 a3:aj
 c3:Nat
 F3:aq
 g6:Nat
 F6:aq
 g7:Nat
 F7:aq
structure NV where
 a1:aj
 c1:Nat
 F1:aq
 a2:aj
 c2:Nat
 F2:aq
 a3:aj
 c3:Nat
 F3:aq
 a4:aj
 c4:Nat
 F4:aq
 a5:aj
 c5:Nat
 F5:aq
 a6:aj
 c6:Nat
 F6:aq
 a7:aj
 c7:Nat
 F7:aq
structure KA where
 k:Nat
 a:aj
 c:Nat
 F:aq
theorem Al6 (n:Du) (v:Value) (F:aq) (hs:P5 n):Fn prog 55 [v] [.isv Pb v n F] [] (fun (_:NV)=>True) (fun z=>.agg #[ab z.a1 n.Al.Ac.length z.c1,aa n.Ab.Aa.Am,aa n.Ab.Aa.size,ab z.a2 n.Ab.Aa.Ak.length z.c2,aa n.Ab.Ai,aa n.Ab.quiet,ab z.a3 n.Ab.holds.length z.c3,ab z.a4 n.Af.length z.c4,ab z.a5 n.Ad.length z.c5,ab z.a6 n.down.length z.c6,ab z.a7 n.up.length z.c7]) (fun z=>[.ow Bc 3 (ab z.a1 n.Al.Ac.length z.c1) n.Al.Ac z.F1,.ow A8 9 (ab z.a2 n.Ab.Aa.Ak.length z.c2) n.Ab.Aa.Ak z.F2,.ow Bw 191 (ab z.a3 n.Ab.holds.length z.c3) n.Ab.holds z.F3,.ow Ce 122 (ab z.a4 n.Af.length z.c4) n.Af z.F4,.ow B9 76 (ab z.a5 n.Ad.length z.c5) n.Ad z.F5,.ow (Ki An 141) 125 (ab z.a6 n.down.length z.c6) n.down z.F6,.ow (Ki An 141) 125 (ab z.a7 n.up.length z.c7) n.up z.F7]):=by
 refine enter func55 rfl ntmps55 fun w0=>?_;refine Fm ?_;rintro a1 c1 F1 a2 c2 F2 a3 c3 F3 a4 c4 F4 a5 c5 F5 a6 c6 F6 a7 c7 F7 rfl l1 l2 l3 l4 l5 l6 l7;refine Fb n.Ab ?_;refine go ?_;intros
 refine D0 [1,2] [0,1,6,7] (fun z:ClN=>[(3,Ga z.g 0 0)]) (fun z=>[.row z.g 37 0 [] [ab z.a1 n.Al.Ac.length z.c1,aa n.Ab.Aa.Am,aa n.Ab.Aa.size,ab z.a2 n.Ab.Aa.Ak.length z.c2,aa n.Ab.Ai,aa n.Ab.quiet,ab z.a3 n.Ab.holds.length z.c3,ab none 0 0,ab none 0 0,ab (some ⟨z.g6,0,none⟩) n.down.length n.down.length,ab (some ⟨z.g7,0,none⟩) n.up.length n.up.length] [],.ow Bc 3 (ab z.a1 n.Al.Ac.length z.c1) n.Al.Ac z.F1,.ow A8 9 (ab z.a2 n.Ab.Aa.Ak.length z.c2) n.Ab.Aa.Ak z.F2,.ow Bw 191 (ab z.a3 n.Ab.holds.length z.c3) n.Ab.holds z.F3,.ow (Ki An 141) 125 (ab (some ⟨z.g6,0,none⟩) n.down.length n.down.length) n.down z.F6,.ow (Ki An 141) 125 (ab (some ⟨z.g7,0,none⟩) n.up.length n.up.length) n.up z.F7]) (fun _=>True) ?_ fun z _=>?_
 ·refine Ar [1] [] ?_;refine Df 0 1 2 5 ?_;refine Df 6 8 9 11 ?_;refine dt 12 ?_;refine dM 3 15 ?_ ?_
  ·refine oC ?_;refine cn (fun w st=>T9 _ n.Al.Ac F1 w (st.get (p:=.sl _ _ _ _) FD).2 (by have:=hs.t;omega)) fun b1 d1 G1=>?_;refine dk ?_;refine dt 4 ?_;refine dM 7 15 ?_ ?_
   ·refine oC ?_;refine Bf (Aff n.Ab _ _ (by have:=hs.i;omega) (by have:=hs.h;omega)) fun s2 _=>?_;refine Xj (x:=n.Ab) ?_;rintro b2 d2 G2 b3 d3 G3 e2 - -;rw [e2];refine dk ?_;refine dM 10 15 ?_ ?_
    ·refine oC ?_;refine Bf (Jj n.down _ _ F6 (by have:=hs.d;omega) (fun q hq=>by have:=hs.dq q hq;omega)) fun s6 _=>?_;refine dk ?_;refine dM 13 15 ?_ ?_
     ·refine oC ?_;refine Bf (Jj n.up _ _ F7 (by have:=hs.u;omega) (fun q hq=>by have:=hs.uq q hq;omega)) fun s7 _=>?_;refine dk ?_;refine dt 14 ?_;refine dN 15 ?_;apply Cm;rfl;intro _;refine dk ?_;refine dN 16 ?_;refine oS ?_;refine dk ?_;refine dd ?_;refine Bk (⟨_,b1,d1,G1,b2,d2,G2,b3,d3,G3,_,_,_,_⟩:ClN) trivial
     ·apply Cm;rfl;intro _;refine dk ?_;refine dN 13 ?_;refine oC ?_;exact AP
    ·apply Cm;rfl;intro _;refine dk ?_;refine dN 10 ?_;refine oC ?_;refine Bf (Jj n.down _ _ F6 (by have:=hs.d;omega) (fun q hq=>by have:=hs.dq q hq;omega)) fun s6 _=>?_;refine dk ?_;refine dN 13 ?_;refine oC ?_;exact AP
   ·apply Cm;rfl;intro _;refine dk ?_;refine dN 7 ?_;refine oC ?_;refine Bf (Aff n.Ab _ _ (by have:=hs.i;omega) (by have:=hs.h;omega)) fun s2 _=>?_;refine Xj (x:=n.Ab) ?_;rintro b2 d2 G2 b3 d3 G3 e2 - -;rw [e2];refine dk ?_;refine dN 10 ?_;refine oC ?_;refine Bf (Jj n.down _ _ F6 (by have:=hs.d;omega) (fun q hq=>by have:=hs.dq q hq;omega)) fun s6 _=>?_;refine dk ?_;refine dN 13 ?_;refine oC ?_;refine Bf (Jj n.up _ _ F7 (by have:=hs.u;omega) (fun q hq=>by have:=hs.uq q hq;omega)) fun s7 _=>?_;refine dk ?_;refine dt 14 ?_;refine dN 16 ?_;refine oS ?_;refine dk ?_;refine dd ?_
    refine Bk (⟨_,b1,d1,G1,b2,d2,G2,b3,d3,G3,_,_,_,_⟩:ClN) trivial
  ·apply Cm;rfl;intro _;refine dk ?_;refine dN 3 ?_;refine oC ?_;refine cn (fun w st=>T9 _ n.Al.Ac F1 w (st.get (p:=.sl _ _ _ _) FD).2 (by have:=hs.t;omega)) fun b1 d1 G1=>?_;refine dk ?_;refine dt 4 ?_;refine dN 7 ?_;refine oC ?_;refine Bf (Aff n.Ab _ _ (by have:=hs.i;omega) (by have:=hs.h;omega)) fun s2 _=>?_;refine Xj (x:=n.Ab) ?_;rintro b2 d2 G2 b3 d3 G3 e2 - -;rw [e2];refine dk ?_;refine dN 10 ?_;refine oC ?_;refine Bf (Jj n.down _ _ F6 (by have:=hs.d;omega) (fun q hq=>by have:=hs.dq q hq;omega)) fun s6 _=>?_;refine dk ?_;refine dN 13 ?_;refine oC ?_
   exact AP
 have he:=hs.e;have hr:=hs.rl;refine Cf Ce 122 ?_;refine go ?_
 refine Bx [1,2,3,24,25] (fun y:KA=>[(26,aa (y.k:Nat))]) (fun y=>[.row z.g 37 0 [] [ab z.a1 n.Al.Ac.length z.c1,aa n.Ab.Aa.Am,aa n.Ab.Aa.size,ab z.a2 n.Ab.Aa.Ak.length z.c2,aa n.Ab.Ai,aa n.Ab.quiet,ab z.a3 n.Ab.holds.length z.c3,.slice y.a (n.Af.take y.k).length y.c,ab none 0 0,ab (some ⟨z.g6,0,none⟩) n.down.length n.down.length,ab (some ⟨z.g7,0,none⟩) n.up.length n.up.length] [],.ow Ce 122 (.slice y.a (n.Af.take y.k).length y.c) (n.Af.take y.k) y.F]) (fun y=>y.k<=n.Af.length) (fun y=>n.Af.length - y.k) ⟨0,none,0,[]⟩ (aG _) fun y hy=>?_
 refine go ?_;refine A4 rfl (fun h1=>?_) (fun h1=>?_)
 ·have hk:y.k < n.Af.length:=EZ
  have htl:(n.Af.take y.k).length<=1048576:=GE
  refine P6 (xs:=n.Af) y.k ?_;rintro hi4 b4 o4 a8 c8 F8 e4 l8;rw [e4];refine Gc n.Af[y.k] ?_;refine go ?_;intros;refine Ar [0,4] [7] ?_;refine Dh 0 1 ?_;refine dt 2 ?_;refine dN 3 ?_;refine oC ?_;refine cv (fun w st=>Aed _ n.Af[y.k] F8 w (st.get (p:=.isv _ _ _ _) FD) (by have:=hs.e1 _ (aB hk);omega) (fun x hx=>by have:=hs.e2 _ (aB hk) x hx;omega)) fun v9 F9=>?_;refine H2 (x:=n.Af[y.k]) ?_;rintro a9 c9 F10 rfl l9;refine Gw n.Af[y.k] ?_;refine dk ?_;refine dN 4 ?_;apply Iq;rfl;rfl;rfl;rfl;exact Ik;exact Ih;intro _;refine dk ?_;refine dN 5 ?_
  refine Ab0 Rw n.Af[y.k] rfl fun a7 c7 F7=>?_;refine dk ?_;refine dt 6 ?_;refine dN 7 ?_;refine oS ?_;refine Nm ?_;refine dd ?_;rw [<-aO hk];refine go ?_;refine Ca ⟨y.k+1,a7,c7,F7⟩ hk (by show n.Af.length - (y.k+1) < n.Af.length - y.k;omega)
 rw [show n.Af.take y.k=n.Af from aV EZ];obtain ⟨_,ea,ec,eF⟩:=y;dsimp only;refine Cf B9 76 ?_;refine go ?_
 refine Bx [2,3,39,40] (fun y:KA=>[(41,aa (y.k:Nat))]) (fun y=>[.row z.g 37 0 [] [ab z.a1 n.Al.Ac.length z.c1,aa n.Ab.Aa.Am,aa n.Ab.Aa.size,ab z.a2 n.Ab.Aa.Ak.length z.c2,aa n.Ab.Ai,aa n.Ab.quiet,ab z.a3 n.Ab.holds.length z.c3,ab ea n.Af.length ec,.slice y.a (n.Ad.take y.k).length y.c,ab (some ⟨z.g6,0,none⟩) n.down.length n.down.length,ab (some ⟨z.g7,0,none⟩) n.up.length n.up.length] [],.ow B9 76 (.slice y.a (n.Ad.take y.k).length y.c) (n.Ad.take y.k) y.F]) (fun y=>y.k<=n.Ad.length) (fun y=>n.Ad.length - y.k) ⟨0,none,0,[]⟩ (aG _) fun y hy=>?_
 refine go ?_;refine A4 rfl (fun h2=>?_) (fun h2=>?_)
 ·have hk:y.k < n.Ad.length:=EZ
  have htl:(n.Ad.take y.k).length<=1048576:=GE
  refine I8 (xs:=n.Ad) y.k ?_;rintro hi5 b5 o5 a8 c8 F8 a9 c9 F9 e5 l8 l9;rw [e5];refine Ep n.Ad[y.k] ?_;refine go ?_;intros;refine Ar [0,5] [7] ?_;refine Dh 0 1 ?_;refine dt 2 ?_;refine dN 3 ?_;refine oC ?_;refine Bf (Av9 n.Ad[y.k] _ _ (by have:=(hs.r _ (aB hk)).1;omega) (by have:=(hs.r _ (aB hk)).2;omega)) fun s9 _=>?_;refine Im (x:=n.Ad[y.k]) ?_;rintro a9 c9 G9 a10 c10 G10 e9 l9 l10;rw [e9];refine Kk n.Ad[y.k] ?_;refine dk ?_;refine dN 4 ?_;apply Iq;rfl;rfl;rfl;rfl;exact Ik;exact Ih;intro _;refine dk ?_;refine dN 5 ?_;refine Ab0 Qr n.Ad[y.k] rfl fun a7 c7 F7=>?_
  refine dk ?_;refine dt 6 ?_;refine dN 7 ?_;refine oS ?_;refine Nm ?_;refine dd ?_;rw [<-aO hk];refine go ?_;refine Ca ⟨y.k+1,a7,c7,F7⟩ hk (by show n.Ad.length - (y.k+1) < n.Ad.length - y.k;omega)
 rw [show n.Ad.take y.k=n.Ad from aV EZ];refine go ?_;refine ret ⟨z.a1,z.c1,z.F1,z.a2,z.c2,z.F2,z.a3,z.c3,z.F3,ea,ec,eF,y.a,y.c,y.F,_,_,z.F6,_,_,z.F7⟩ trivial rfl
theorem Nc {v:Int} (h:0<=v):Lib.itoa v=Lib.decDigits v.natAbs:=by unfold Lib.itoa;rw [aC EZ,show v.toNat=v.natAbs by omega]
theorem Bem (n:Int) (h0:0<=n) (h1:n<=999999) (w:World):Calls prog 33 #[aa n] w (RB (af (bz (Lib.itoa n))) w):=by
 exact EE
theorem Ail (i:Nat) (hi:i<=100):FV 262 [aa (i:Nat)] [] (aa (M0 i)):=by
 refine enter func262 rfl ntmps262 fun w0=>?_;exact AA
theorem Vk (i:Nat) (hi:i<=100):FV 239 [aa (i:Nat)] [] (aa (M0 i)):=by
 refine enter func239 rfl ntmps239 fun w0=>?_;exact AA
theorem Az1 (i:Nat) (es:ai) (a:aj) (c:Nat) (F FT:aq) (hi:i<=100) (hl:es.length<=1000000) (hz:∀e∈es,e.size<=1000000):Fn prog 263 [aa (i:Nat),ab a es.length c] [.sl A8 (ab a es.length c) es F,E4 FT] [] (fun (_:KA)=>True) (fun z=>.slice z.a (T6 i es).length z.c) (fun z=>[.ow A8 9 (.slice z.a (T6 i es).length z.c) (T6 i es) z.F]):=by
 have hs0:(bz (Lib.itoa ((i:Nat):Int))).size<=6:=JK
 refine enter func263 rfl ntmps263 fun w0=>?_;refine Cf A8 9 ?_;refine go ?_;refine Bx [0,4,8,9] (fun z:KA=>[(5,.slice z.a ((es.take z.k).map (Mx i)).length z.c),(10,aa (z.k:Nat))]) (fun z=>[.ow A8 9 (.slice z.a ((es.take z.k).map (Mx i)).length z.c) ((es.take z.k).map (Mx i)) z.F]) (fun z=>z.k<=es.length) (fun z=>es.length - z.k) ⟨0,none,0,[]⟩ (aG _) fun z hz0=>?_;have hml:((es.take z.k).map (Mx i)).length=z.k:=KD
 refine go ?_;refine A4 rfl (fun h1=>?_) (fun h1=>?_)
 ·have hk:z.k < es.length:=EZ
  have hse:=hz _ (aB hk);have z1:(⟨#[32]⟩:au).size=1:=rfl;have zs:(bz (Lib.itoa ((i:Nat):Int))++⟨#[32]⟩).size=_:=aE;have zt:(bz (Lib.itoa ((i:Nat):Int))++⟨#[32]⟩++es[z.k]).size=_:=aE;have hst:((es.take z.k).map (Mx i))++[Mx i es[z.k]]=(es.take (z.k+1)).map (Mx i):=by rw [aO hk,bD];rfl
  have hte:(Mx i es[z.k]).size<=1000010:=by unfold Mx;omega
  refine Jv (xs:=es) z.k ?_;rintro hi b o e1 s1;rw [e1];refine go ?_;refine cb (fun w st=>S0 ((i:Nat):Int) EZ EZ FT w (st.get (p:=E4 FT) FD)) ?_;refine Io ?_;intros;apply wO;refine Nb (ys:=[Mx i es[z.k]]) (Abc FH) Do fun a9 c9 F9=>?_;rw [hst];refine go ?_;refine Ca ⟨z.k+1,a9,c9,F9⟩ hk (by show es.length - (z.k+1) < es.length - z.k;omega)
 ·rw [show es.take z.k=es from aV EZ];exact CB
theorem Aje (i:Nat) (es:ai) (a:aj) (c:Nat) (F FT:aq) (hi:i<=100) (hl:es.length<=1000000) (hz:∀e∈es,e.size<=1000000):Fn prog 240 [aa (i:Nat),ab a es.length c] [.sl A8 (ab a es.length c) es F,E4 FT] [] (fun (_:KA)=>True) (fun z=>.slice z.a (T6 i es).length z.c) (fun z=>[.ow A8 9 (.slice z.a (T6 i es).length z.c) (T6 i es) z.F]):=by
 have hs0:(bz (Lib.itoa ((i:Nat):Int))).size<=6:=JK
 refine enter func240 rfl ntmps240 fun w0=>?_;refine go ?_;intros;refine Cy A8 ?_;refine Bx [0,1,4] (fun z:KA=>[(5,.slice z.a ((es.take z.k).map (Mx i)).length z.c),(6,aa (z.k:Nat))]) (fun z=>[.ow A8 9 (.slice z.a ((es.take z.k).map (Mx i)).length z.c) ((es.take z.k).map (Mx i)) z.F]) (fun z=>z.k<=es.length) (fun z=>es.length - z.k) ⟨0,_,0,_⟩ (aG _) fun z hz0=>?_;have hml:((es.take z.k).map (Mx i)).length=z.k:=KD
 refine go ?_;refine A4 rfl (fun h1=>?_) (fun h1=>?_)
 ·have hk:z.k < es.length:=EZ
  have hse:=hz _ (aB hk);have z1:(⟨#[32]⟩:au).size=1:=rfl;have zs:(bz (Lib.itoa ((i:Nat):Int))++⟨#[32]⟩).size=_:=aE;have zt:(bz (Lib.itoa ((i:Nat):Int))++⟨#[32]⟩++es[z.k]).size=_:=aE;have hst:((es.take z.k).map (Mx i))++[Mx i es[z.k]]=(es.take (z.k+1)).map (Mx i):=by rw [aO hk,bD];rfl
  have hte:(Mx i es[z.k]).size<=1000010:=by unfold Mx;omega
  refine Jv (xs:=es) z.k ?_;rintro hi b o e1 s1;rw [e1];refine go ?_;refine Ar [0] [] ?_;refine Df 0 1 4 5 ?_;refine Dh 6 7 ?_;refine dN 2 ?_;refine oC ?_;refine cb (fun w st=>Bem ((i:Nat):Int) EZ EZ w) ?_;refine dk ?_;refine Dh 3 8 ?_;refine dN 9 ?_;apply Iq;rfl;rfl;rfl;rfl;exact Ik;exact Ih;intro _;refine dk ?_;refine dN 10 ?_;refine Nb (ys:=[Mx i es[z.k]]) (Abc FH) Do fun a9 c9 F9=>?_;refine dk ?_;refine dt 11 ?_;refine dd ?_;rw [hst];refine go ?_;refine Ca ⟨z.k+1,a9,c9,F9⟩ hk (by show es.length - (z.k+1) < es.length - z.k;omega)
 ·rw [show es.take z.k=es from aV EZ];exact CB
end Go.Proofs.YtkoldibamfjghaaGreatDoor
namespace Go.Proofs.YtkoldibamfjghaaGreatDoor

theorem Xu {α:Type} {p:α->Bool}:∀{xs:List α} {k:Nat},k<=xs.length->(∀j (_:j < k) (h:j < xs.length),p xs[j]=true)->(∀h:k < xs.length,p xs[k]=false)->(xs.takeWhile p).length=k
 | [],k,hk,_,_=>by simp at hk;simp [hk]
 | x::r,0,_,_,h2=>by have:=h2 FB;simp at this;simp [this]
 | x::r,k+1,hk,h1,h2=>by
  have hx:p x=true:=h1 0 EZ FB;rw [fv hx,aU,Xu (xs:=r) (k:=k) (by simpa using hk) (fun j hj h=>by have:=h1 (j+1) EZ FJ;simpa using this) (fun h=>by have:=h2 FJ;simpa using this)]
theorem Qs {α:Type} {p:α->Bool}:∀{xs:List α},(xs.takeWhile p).length<=xs.length/\(∀j (_:j < (xs.takeWhile p).length) (h:j < xs.length),p xs[j]=true)/\∀h:(xs.takeWhile p).length < xs.length,p xs[(xs.takeWhile p).length]=false
 | []=>by simp
 | x::r=>by
  cases hx:p x
  ·rw [List.takeWhile_cons_of_neg IE];simp [hx]
  ·rw [fv hx];obtain ⟨h1,h2,h3⟩:=Qs (p:=p) (xs:=r);refine ⟨HV,fun j hj h=>?_,fun h=>?_⟩
   ·cases j with
    | zero=>simpa using hx
    | succ j=>simpa using h2 j ID FJ
   ·simpa using h3 FJ
def Bbj {α:Type} (f:α->Int):Option α->Bool
 | some x=>decide (f x=0)
 | none=>false
end Go.Proofs.YtkoldibamfjghaaGreatDoor
