/- Part 3 of the proof: 51 texts, one behind the other. -/
import Derived.Laws.IdiomStrings
import Derived.Laws.StructEq
import Derived.Deep.RegionLaw
import Derived.BigQuiet
import Derived.ArgAppend
import Derived.Test.YtmppejmafbfhlaaGreatDoorM2
open _root_.Go.Proofs.Tryz
set_option maxRecDepth 100000
set_option maxHeartbeats 8000000
set_option linter.all false
set_option linter.unusedVariables false
set_option linter.unusedSimpArgs false
namespace Go.Proofs.YtmppejmafbfhlaaGreatDoor
theorem AC{p:Prop}(h:p:=by refine dk ?_;refine dN 7 ?_;refine N9 (O3 n) C7 (fun a3 c3 F3=>?_) (h63:=by exact Jy) (hby:=by exact Jy);refine dk ?_;refine dN 11 ?_;refine N5 C7 Eb (fun a4 c4 F4=>?_) (h63:=by exact Jy) (hby:=by exact Jy);refine dk ?_;refine dt 12 ?_;refine dd ?_;rw [e];refine go ?_;refine ret ⟨_,_,_⟩ trivial rfl):p:=h
theorem AJ{p:Prop}(h:p:=by refine dk ?_;refine dN 8 ?_;refine N9 (V1 ⟨p.Ae,x.Ai+3⟩) I9 fun a8 c8 F8=>?_;refine dk ?_;refine dN 13 ?_;refine N5 (ys:=x.holds.drop (Gk x.Aa.Am x.holds p.Ae)) I9 Lf (h63:=by simp;omega) (hby:=by simp;omega) fun a9 c9 F9=>?_;refine dk ?_;refine dt 14 ?_;refine dN 15 ?_;refine oS ?_;refine dk ?_;refine dd ?_;refine go ?_;rw [hAdd];refine Bk (⟨a9,c9,F9⟩:Bby) trivial):p:=h
theorem AX{p:Prop}(h:p:=by obtain ⟨b,o,cs,G,ha,hrep,hG,hb,hne,hr⟩:=Xu (s.get hm) i hi;obtain ⟨v1,rfl,h1⟩:=hrep;obtain ⟨a1,c1,rfl⟩:=h1.slice;have l1:=h1.len;have t1:=s.ro (p:=.sl _ _ _ _) hm rfl rfl ⟨by decide,h1⟩ (by intro b hb;simp only [Pc.F] at hb ⊢;exact hG b (by simp [hb]));exact (h hi b o a1 c1 G ha  l1).h ac w (t1.ro (aQ _ hm) rfl rfl ⟨hne,hr⟩ (by intro x hx;simp [Pc.F] at hx;subst hx;exact hb)) g):p:=h
theorem BA{p:Prop}(h:p:=by refine ret () trivial rfl):p:=h
theorem BC{p:Prop}(h:p:=by refine go ?_;refine ret ⟨_,_,_⟩ trivial rfl):p:=h
theorem BD{p:Prop}(h:p:=by refine dk ?_;refine dN 4 ?_;refine N5 C7 Eb (fun a2 c2 F2=>?_) (hn:=by rw [aP];omega) (h63:=by exact Jy) (hby:=by exact Jy);exact AC):p:=h
theorem BE{p:Prop}(h:p:=by refine Ce (k+1) hk3 (by omega)):p:=h
theorem BU{p:Prop}(h:p:=by refine go ?_;refine ret () trivial ?_;rw [No (fun j hj=>hk2 j hj hj)];rfl):p:=h
theorem BZ{p:Prop}(h:p:=by refine dk ?_;refine dN 6 ?_;refine oS ?_;refine dk ?_;refine dd ?_;refine go ?_;refine Bk (⟨_,z.a,z.c,z.a2,z.c2,z.F⟩:RjS) trivial):p:=h
theorem CH{p:Prop}(h:p:=by refine dN 10 ?_;refine oS ?_;refine dk ?_;refine dt 11 ?_;refine dd ?_;refine go ?_;intros;apply wO;refine N9 (De (Dp W p).1 (Agh hW)) H9 fun a9 c9 F9=>?_;refine go ?_;refine ret ⟨a,c,z.1,z.2.1,_,a9,c9,F9⟩ trivial rfl):p:=h
theorem CS{p:Prop}(h:p:=by refine dk ?_;refine dt 6 ?_;refine dd ?_;refine go ?_;refine Dy (xs:=[Sr x.Aa]) (De _ (by show (⟨#[]⟩:au).size<=maxLen;decide)) ?_ (by simp);refine ret ⟨s.a,s.c,s.a2,s.c2,s.F,_,_,_⟩ trivial rfl):p:=h
theorem CV{p:Prop}(h:p:=by refine dd ?_;refine go ?_;exact BE):p:=h
theorem CX{p:Prop}(h:p:=by refine N5 C7 Eb (fun a2 c2 F2=>?_) (hn:=by rw [aP];omega) (h63:=by exact Jy) (hby:=by exact Jy);refine dk ?_;refine dN 6 ?_;apply I1;rfl;rfl;rfl;rfl;exact Iy;exact Ir;intro _;exact AC):p:=h
theorem DF{p:Prop}(h:p:=by refine go ?_;refine Xd ?_;refine Ce (hH:=Lq _) (q+1,j) ⟨by show q+1<=j;omega,h2,fun k hk h=>hm k q (by have:k < q+1:=hk;omega) hh h6,h4⟩ (by show j - (q+1) < j - i;omega)):p:=h
theorem DG{p:Prop}(h:p:=by refine go ?_;refine Xd ?_;refine Ce (hH:=Lq _) (i,q) ⟨by show i<=q;omega,by show q<=xs.length;omega,h3,fun k hk h hn=>h6 (hm q k hk h hn)⟩ (by show q - i < j - i;omega)):p:=h
theorem DK{p:Prop}(h:p:=by rintro hi b o e;rw [e];refine go ?_;apply wO;refine Afy rfl rfl hb Wj ?_;refine cb (fun w st=>hp xs[i] (aB hh) w (fun p hp=>st.on p (by simp [hp]))) ?_;exact AA):p:=h
theorem DL{p:Prop}(h:p:=by refine go ?_;refine ret (a2,c2,F2) trivial rfl):p:=h
theorem DP{p:Prop}(h:p:=by refine go ?_;refine ret ⟨_,_,_,_,_,_⟩ trivial rfl):p:=h
theorem EN{p:Prop}(h:p:=by apply I1;rfl;rfl;rfl;rfl;exact Iy;exact Ir;intro _;refine dk ?_;refine dN 0 ?_;apply Kt;rfl;intro _;refine C3 Bc ?_;exact BD):p:=h
theorem EX{p:Prop}(h:p:=by rw [show Gf f z=(⟨⟨f,z,[]⟩,0,0,[]⟩,true) by unfold Gf;rw [g1];rfl];refine go ?_;refine ret ([]++[]) trivial rfl):p:=h
theorem FO{p:Prop}(h:p:=by simp [Value.oneCell']):p:=h
theorem GA{p:Prop}(h:p:=by simpa [Pc.mu] using hA):p:=h
theorem GD{p:Prop}(h:p:=by rw [aP];omega):p:=h
theorem GV{p:Prop}(h:p:=by exact Jy):p:=h
theorem GX{p:Prop}(h:p:=by rw [hBl];congr 1;show _=min (xs.length+1 - i) (xs.length+1 - (i+1));omega):p:=h
theorem HA{p:Prop}(h:p:=by rw [hBl];congr 1;show _=min (xs.length - i) (xs.length+1 - (i+1));omega):p:=h
theorem HC{p:Prop}(h:p:=by simp [aM]):p:=h
theorem HD{p:Prop}(h:p:=by intro e;have:=congrArg List.length e;simp only [aA,aY] at this;omega):p:=h
theorem HL{p:Prop}(h:p:=by intro b hb;simp only [Pc.F] at hb ⊢;exact hG b (by simp [hb])):p:=h
theorem HQ{p:Prop}(h:p:=by intro u hu;simp at hu;rcases hu with rfl|rfl|rfl|rfl <;> rfl):p:=h
theorem HS{p:Prop}(h:p:=by simp [hyl]):p:=h
theorem HU{p:Prop}(h:p:=by simp only [aA];omega):p:=h
theorem HX{p:Prop}(h:p:=by dsimp only;omega):p:=h
theorem IC{p:Prop}(h:p:=by rw [hcs];simp [hu]):p:=h
theorem KJ{p:Prop}(h:p:=by rw [aM A B rest,hXY];simp [aM]):p:=h
end Go.Proofs.YtmppejmafbfhlaaGreatDoor
namespace Go.Proofs.YtmppejmafbfhlaaGreatDoor
open Go.RowKit
def L0 {x:Aw} {p:As} (h:Kn x p=false):Dp x p=(zPk,false):=by unfold Dp;rw [h];rfl
def Aae {x:Aw} {p:As} (h:Kn x p=true):Dp x p=(Anf x p.Ae,true):=by unfold Dp;rw [h];rfl
def Abz {x:Aw} {n:Int} (h:Jh x n=true):(gp x.Am n).toNat < x.Al.length:=by
 have b:=Lt x.Am n;unfold Jh at h;simp only [aF] at h;omega
def Vm {x:Aw} {n:Int} (h:(gp x.Am n).toNat < x.Al.length):Aay x n=x.Al[(gp x.Am n).toNat]:=by
 unfold Aay;rw [bt,aE h];rfl
def Af8 (x:Aw) (p:As) (v:Value) (F:aq) (hs:p.data.size<=maxLen):FV 338 [v,.agg #[aa p.Ct,aa p.Ae,aa p.Am,aa p.Es,af p.data]] [.isv Ck v x F] (.tuple #[.agg #[aa (Dp x p).1.Ct,aa (Dp x p).1.Ae,aa (Dp x p).1.Am,aa (Dp x p).1.Es,af (Dp x p).1.data],.bool (Dp x p).2]):=by
 refine enter func338 rfl ntmps338 fun w0=>?_;refine E9 ?_;rintro a1 c1 F1 rfl l1;refine go ?_;intros;refine cb (fun w st=>So _ x _ w (st.get (p:=.isv Ck (.agg #[aa x.Am,aa x.size,ab a1 x.Al.length c1]) x F) FA)) ?_;cases g1:Ed x
 ·refine go ?_;rw [L0 (by unfold Kn;rw [g1];rfl)];exact BA
 obtain ⟨⟨t0,t1⟩,⟨z0,z1⟩,hl,hi⟩:=Du.1 g1;have hl6:x.Al.length<=6:=EY
 refine go ?_;refine Be (Xn p hs) fun _ _=>?_;cases g2:Br p
 ·refine go ?_;rw [L0 (by unfold Kn;rw [g1,g2];rfl)];exact BA
 obtain ⟨n0,n1⟩:=Kz g2;refine go ?_;refine Dd rfl rfl (fun h3=>?_) (fun h3=>?_)
 ·refine go ?_;rw [L0 (by unfold Kn;rw [g1,g2,ay h3];rfl)];exact BA
 have h3:=cL.1 h3;refine go ?_;refine cb (fun w st=>(Yb x p.Ae _ F t0 t1 n0 n1).val w (I6 (st.get (p:=.isv Ck (.agg #[aa x.Am,aa x.size,ab a1 x.Al.length c1]) x F) FA))) ?_;cases g3:Jh x p.Ae
 ·refine go ?_;rw [L0 (by unfold Kn;rw [g1,g2,g3];simp)];exact BA
 rw [Aae (by unfold Kn;rw [g1,g2,g3,av h3];rfl)];have b:=Lt x.Am p.Ae;have hk3:=Abz g3;rw [show Anf x p.Ae=⟨2,p.Ae,x.Am,Lw x,x.Al[(gp x.Am p.Ae).toNat]⟩ by unfold Anf;rw [Vm hk3]];refine Me (xs:=x.Al) (gp x.Am p.Ae).toNat ?_;rintro hi b2 o2 e s1;rw [e];refine Hy ?_;intros;refine Ar [0,2,3] [] ?_;refine C4 0 1 2 3 ?_;refine C4 4 6 7 8 ?_;refine Dh 9 10 ?_;refine dt 11 ?_;refine dN 5 ?_;refine oC ?_;refine cb (fun w _=>I4 _ _ _ _ _ w t0 t1 EY) ?_;refine dk ?_;refine dN 12 ?_;refine oC ?_;refine ce (fun w s=>P3 _ _ _ EY EY EY EY) ?_;refine dk ?_
 refine Dh 13 14 ?_;refine dt 15 ?_;refine dN 16 ?_;refine oS ?_;refine dk ?_;refine dt 17 ?_;exact CR
def Aid (x:Aw) (p:As) (v:Value) (F:aq) (hs:p.data.size<=maxLen):FV 242 [v,.agg #[aa p.Ct,aa p.Ae,aa p.Am,aa p.Es,af p.data]] [.isv Ck v x F] (.tuple #[.agg #[aa (Dp x p).1.Ct,aa (Dp x p).1.Ae,aa (Dp x p).1.Am,aa (Dp x p).1.Es,af (Dp x p).1.data],.bool (Dp x p).2]):=by
 refine enter func242 rfl ntmps242 fun w0=>?_;refine E9 ?_;rintro a1 c1 F1 rfl l1;refine go ?_;intros;refine cb (fun w st=>Aoi _ x _ w (st.get (p:=.isv Ck (.agg #[aa x.Am,aa x.size,ab a1 x.Al.length c1]) x F) FA)) ?_;cases g1:Ed x
 ·refine go ?_;rw [L0 (by unfold Kn;rw [g1];rfl)];exact BA
 obtain ⟨⟨t0,t1⟩,⟨z0,z1⟩,hl,hi⟩:=Du.1 g1;have hl6:x.Al.length<=6:=EY
 refine go ?_;refine Be (Aoh p hs) fun _ _=>?_;cases g2:Br p
 ·refine go ?_;rw [L0 (by unfold Kn;rw [g1,g2];rfl)];exact BA
 obtain ⟨n0,n1⟩:=Kz g2;refine go ?_;refine Dd rfl rfl (fun h3=>?_) (fun h3=>?_)
 ·refine go ?_;rw [L0 (by unfold Kn;rw [g1,g2,ay h3];rfl)];exact BA
 have h3:=cL.1 h3;refine go ?_;refine cb (fun w st=>(Aoj x p.Ae _ F t0 t1 n0 n1).val w (I6 (st.get (p:=.isv Ck (.agg #[aa x.Am,aa x.size,ab a1 x.Al.length c1]) x F) FA))) ?_;cases g3:Jh x p.Ae
 ·refine go ?_;rw [L0 (by unfold Kn;rw [g1,g2,g3];simp)];exact BA
 rw [Aae (by unfold Kn;rw [g1,g2,g3,av h3];rfl)];have b:=Lt x.Am p.Ae;have hk3:=Abz g3;rw [show Anf x p.Ae=⟨2,p.Ae,x.Am,Lw x,x.Al[(gp x.Am p.Ae).toNat]⟩ by unfold Anf;rw [Vm hk3]];refine Me (xs:=x.Al) (gp x.Am p.Ae).toNat ?_;rintro hi b2 o2 e s1;rw [e];refine Hy ?_;intros;refine Ar [0,2,3] [] ?_;refine C4 0 1 2 3 ?_;refine C4 4 6 7 8 ?_;refine Dh 9 10 ?_;refine dt 11 ?_;refine dN 5 ?_;refine oC ?_;refine cb (fun w _=>T6 _ _ _ _ _ w t0 t1 EY) ?_;refine dk ?_;refine dN 12 ?_;refine oC ?_;refine ce (fun w s=>Jw _ _ _ EY EY) ?_;refine dk ?_;refine Dh 13 14 ?_
 refine dt 15 ?_;refine dN 16 ?_;refine oS ?_;refine dk ?_;refine dt 17 ?_;exact CR
end Go.Proofs.YtmppejmafbfhlaaGreatDoor
namespace Go.Proofs.YtmppejmafbfhlaaGreatDoor

def Y1 {α:Type} {p:α->Bool}:∀{xs:List α} {k:Nat},k<=xs.length->(∀j (_:j < k) (h:j < xs.length),p xs[j]=true)->(∀h:k < xs.length,p xs[k]=false)->(xs.takeWhile p).length=k
 | [],k,hk,_,_=>by simp at hk;simp [hk]
 | x::r,0,_,_,h2=>by have:=h2 FA;simp at this;simp [this]
 | x::r,k+1,hk,h1,h2=>by
  have hx:p x=true:=h1 0 EY FA;rw [fA hx,aU,Y1 (xs:=r) (k:=k) (by simpa using hk) (fun j hj h=>by have:=h1 (j+1) EY FI;simpa using this) (fun h=>by have:=h2 FI;simpa using this)]
def Rm {α:Type} {p:α->Bool}:∀{xs:List α},(xs.takeWhile p).length<=xs.length/\(∀j (_:j < (xs.takeWhile p).length) (h:j < xs.length),p xs[j]=true)/\∀h:(xs.takeWhile p).length < xs.length,p xs[(xs.takeWhile p).length]=false
 | []=>by simp
 | x::r=>by
  cases hx:p x
  ·rw [List.takeWhile_cons_of_neg IJ];simp [hx]
  ·rw [fA hx];obtain ⟨h1,h2,h3⟩:=Rm (p:=p) (xs:=r);refine ⟨HY,fun j hj h=>?_,fun h=>?_⟩
   ·cases j with
    | zero=>simpa using hx
    | succ j=>simpa using h2 j HE FI
   ·simpa using h3 FI
def Bcv {α:Type} (f:α->Int):Option α->Bool
 | some x=>decide (f x=0)
 | none=>false
end Go.Proofs.YtmppejmafbfhlaaGreatDoor
namespace Go.Proofs.YtmppejmafbfhlaaGreatDoor
open Go.RowKit
def Ayg {t a b:Int} (ha:0<=a/\a<=65535) (hb:0<=b/\b<=65535) (h:gp t a=gp t b):a=b:=by unfold gp at h;omega
def srt (t:Int) (hs:List I3):Prop:=hs.Pairwise fun a b=>gp t a.Ae < gp t b.Ae
def Ep {x:Cu}:Cp x=true↔Ed x.Aa=true/\Ld x.Ai=true/\Ff 0 x.quiet 3=true/\(∀h∈x.holds,Cd h.Ae=true/\Jh x.Aa h.Ae=true/\Ff (x.Ai+1) h.Cm (x.Ai+3)=true)/\srt x.Aa.Am x.holds:=by
 unfold Cp;simp only [aw,aW,cR];constructor
 ·rintro ⟨⟨⟨h1,h2⟩,h3⟩,h4⟩;refine ⟨h1,h2,h3,fun h hh=>?_,?_⟩
  ·obtain ⟨i,hi,rfl⟩:=bl hh;have:=h4 i hi;rw [Qe hi] at this;simp only [aw] at this;exact ⟨this.1.1.1,this.1.1.2,this.1.2⟩
  ·have step:∀i (hi:i+1 < x.holds.length),gp x.Aa.Am x.holds[i].Ae < gp x.Aa.Am x.holds[i+1].Ae:=fun i hi=>by
    have:=h4 (i+1) hi;rw [Qe hi] at this;simp only [aw,bX,aF,bw,bS] at this;have h:=this.2;rcases h with h|h
    ·omega
    ·simpa using h
   refine bh.2 fun i j hi hj hij=>?_;obtain ⟨d,rfl⟩:∃d,j=i+1+d:=⟨j - i - 1,EY⟩;clear hij
   induction d with
   | zero=>exact step i hj
   | succ d ih=>exact gI (ih EY) (step (i+1+d) hj)
 ·rintro ⟨h1,h2,h3,h4,h5⟩;refine ⟨⟨⟨h1,h2⟩,h3⟩,fun i hi=>?_⟩;rw [Qe hi];obtain ⟨a,b,c⟩:=h4 x.holds[i] (aB hi);rw [a,b,c];simp only [bQ,bX,aF,bw,bS];rcases co i with h0|h0
  ·exact .inl h0
  ·have:=bh.1 h5 (i - 1) i EY hi EY;right;omega
def Gk (t:Int) (hs:List I3) (n:Int):Nat:=(hs.takeWhile fun h=>decide (gp t h.Ae < gp t n)).length
def Pb (t:Int) (hs:List I3) (n:Int):Bool:=match hs[Gk t hs n]? with|some h=>decide (h.Ae=n)|none=>false
def onB (hs:List I3) (n:Int):Bool:=hs.any fun h=>decide (h.Ae=n)
def Ls (hs:List I3) (k:Nat) (h:I3):List I3:=hs.take k++h::hs.drop k
def Abq (W:Aw) (n:Int):As:=⟨4,n,W.Am,Lw W,⟨#[]⟩⟩
def N0 (x:Cu) (n:Int):Cu:=if Jh x.Aa n && !Pb x.Aa.Am x.holds n then ⟨x.Aa,x.Ai,x.quiet,Ls x.holds (Gk x.Aa.Am x.holds n) ⟨n,x.Ai+3⟩⟩ else Y7 x x.Aa
def N8 (x:Cu) (p:As):List As:=if Jh x.Aa p.Ae then (if Pb x.Aa.Am x.holds p.Ae then [Abq x.Aa p.Ae] else [Abq x.Aa p.Ae,(Dp x.Aa p).1]) else [Sr x.Aa]
def My (x:Cu) (n:Int):Cu:=if Jh x.Aa n && !Pb x.Aa.Am x.holds n then ⟨x.Aa,x.Ai,x.quiet,Ls x.holds (Gk x.Aa.Am x.holds n) ⟨n,x.Ai+3⟩⟩ else x
def Aa0 {x:Cu} (hg:Cp x=true):Iz x.Aa x.Ai x.holds=x.holds:=by
 obtain ⟨-, -, -,h4, -⟩:=Ep.1 hg;unfold Iz;refine dA.2 fun h hh=>?_;obtain ⟨a,b,c⟩:=h4 h hh;unfold Ff at c;simp only [aw,aF] at c;rw [b,av EY];rfl
def Az7 {x:Cu} (hg:Cp x=true) (n:Int):N0 x n=My x n:=by
 unfold N0 My Y7;rw [Aa0 hg]
def Zj (t:Int) (hs:List I3) (n:Int):Gk t hs n<=hs.length:=Rm.1
def Ba6 {t n:Int} {hs:List I3} (hn:0<=n/\n<=65535) (hser:∀h∈hs,Cd h.Ae=true) (hs':srt t hs):Pb t hs n=onB hs n:=by
 obtain ⟨h1,h2,h3⟩:=Rm (p:=fun h:I3=>decide (gp t h.Ae < gp t n)) (xs:=hs);unfold Pb onB;have hle:=Zj t hs n;rw [cD,cG];constructor
 ·intro h
  split at h
  ·rename_i z hz;exact ⟨z,ci hz,h⟩
  ·cases h
 ·rintro ⟨z,hz,he⟩;simp only [aF] at he;obtain ⟨i,hi,rfl⟩:=bl hz;have hk:Gk t hs n=i:=by
   refine Y1 EY (fun j hj h=>?_) (fun h=>?_)
   ·have:=bh.1 hs' j i h hi hj;simp only [aF];rw [<-he];exact this
   ·simp only [bS];rw [he];omega
  rw [hk,aE hi];simpa using he
def Bd9 {t n:Int} {hs:List I3} (u:Int) (hn:0<=n/\n<=65535) (hser:∀h∈hs,Cd h.Ae=true) (hs':srt t hs) (ht:Pb t hs n=false):srt t (Ls hs (Gk t hs n) ⟨n,u⟩):=by
 obtain ⟨h1,h2,h3⟩:=Rm (p:=fun h:I3=>decide (gp t h.Ae < gp t n)) (xs:=hs);have hle:=Zj t hs n;have hon:onB hs n=false:=by rw [<-Ba6 hn hser hs'];exact ht
 have hne:∀h∈hs,gp t h.Ae≠gp t n:=fun h hh e=>by
  have:=Ayg (Ba.1 (hser h hh)) hn e;have h0:onB hs n=true:=cG.2 ⟨h,hh,by simp [this]⟩;rw [hon] at h0;cases h0
 unfold Ls srt;rw [dS];refine ⟨hs'.sublist (fH _ _),?_,?_⟩
 ·rw [dl];refine ⟨fun b hb=>?_,hs'.sublist (fL _ _)⟩;obtain ⟨j,hj,rfl⟩:=bl hb;rw [dK];rw [aX] at hj;have hk:Gk t hs n < hs.length:=EY
  have h0:=h3 hk;simp only [bS,Int.not_lt] at h0;have h00:gp t n<=gp t (hs[Gk t hs n]'hk).Ae:=h0;have hd:=hne _ (aB hk);rcases co j with e|e
  ·subst e;show gp t n < gp t (hs[Gk t hs n+0]).Ae;simp only [bT];omega
  ·have h5:=bh.1 hs' (Gk t hs n) (Gk t hs n+j) hk EY EY;show gp t n < _;omega
 ·intro a ha b hb;obtain ⟨i,hi,rfl⟩:=bl ha;rw [aP] at hi;rw [List.getElem_take];have ha2:=h2 i (by show i < Gk t hs n;omega) EY;simp only [aF] at ha2;rcases aG.1 hb with rfl|hb
  ·exact ha2
  ·obtain ⟨j,hj,rfl⟩:=bl hb;rw [dK];rw [aX] at hj;exact bh.1 hs' i _ EY EY EY
def Ayf {x:Cu} {n:Int} (hg:Cp x=true) (hn:0<=n/\n<=65535):Cp (My x n)=true:=by
 unfold My
 split
 ·rename_i h;simp only [aw,bw] at h;obtain ⟨hh,ht⟩:=h;obtain ⟨h1,h2,h3,h4,h5⟩:=Ep.1 hg;refine Ep.2 ⟨h1,h2,h3,fun z hz=>?_,Bd9 _ hn (fun z hz=>(h4 z hz).1) h5 ht⟩;have:z∈x.holds\/z=⟨n,x.Ai+3⟩:=by
   unfold Ls at hz;simp only [aJ,aG] at hz;rcases hz with h|h|h
   ·exact .inl (bK h)
   ·exact .inr h
   ·exact .inl (br h)
  rcases this with h|rfl
  ·exact h4 z h
  ·exact ⟨Ba.2 hn,hh,by unfold Ff;simp⟩
 ·exact hg
def Auj {x:Cu} (hg:Cp x=true) (hc:x.Ai < 9999):Cp (Nj x)=true:=by
 obtain ⟨h1,h2,h3,h4,h5⟩:=Ep.1 hg;have hk:=Alq h2;refine Ep.2 ⟨h1,?_,?_,fun z hz=>?_,h5.sublist (fg)⟩
 ·unfold Nj Ld Ff;simp;omega
 ·unfold Ff at h3;simp only [aw,aF] at h3;unfold Nj Ss Ff;dsimp only
  split <;> simp <;> omega
 ·unfold Nj Vo at hz;simp only [bR] at hz;obtain ⟨z1,z2⟩:=hz;obtain ⟨a,b,c⟩:=h4 z z1;refine ⟨a,b,?_⟩;unfold Ff at c ⊢;simp only [aw,aF,bw,bS] at c z2 ⊢;show x.Ai+1+1<=z.Cm/\z.Cm<=x.Ai+1+3;omega
def Ag3 {x:Cu} {W:Aw} (k:Nat) (q:Int) (hg:Cp x=true) (hw:Ed W=true) (hq:Ff 0 q 3=true) (hk:k<=6) (ht:W.Am=Cf x.Aa.Am k):Cp ⟨W,x.Ai,q,Oe W x.holds⟩=true:=by
 obtain ⟨h1,h2,h3,h4,h5⟩:=Ep.1 hg;obtain ⟨-,⟨z0,z1⟩,hl, -⟩:=Du.1 hw;have key:∀n,Jh W n=true->gp x.Aa.Am n=gp W.Am n+k:=fun n hn=>by
  unfold Jh at hn;simp only [aF] at hn;rw [ht] at hn ⊢;have:=Lt (Cf x.Aa.Am k) n;unfold gp Cf at *;omega
 refine Ep.2 ⟨hw,h2,hq,fun z hz=>?_,?_⟩
 ·unfold Oe at hz;simp only [bR] at hz;obtain ⟨a,b,c⟩:=h4 z hz.1;exact ⟨a,hz.2,c⟩
 ·unfold Oe srt;show List.Pairwise (fun a b=>gp W.Am a.Ae < gp W.Am b.Ae) (x.holds.filter fun h=>Jh W h.Ae);have hp:List.Pairwise (fun a b=>gp x.Aa.Am a.Ae < gp x.Aa.Am b.Ae) (x.holds.filter fun h=>Jh W h.Ae):=h5.sublist (fg);refine List.Pairwise.imp_of_mem (fun {a b} ha hb h=>?_) hp;simp only [bR] at ha hb;have e1:=key _ ha.2;have e2:=key _ hb.2;omega
def Aui {x:Cu} {s:au} (hg:Cp x=true) (hs:P9 s=true):Cp (Sc x s)=true:=by
 have hw:=(Ep.1 hg).1;obtain ⟨-,hw2, -⟩:=Ara (x:=x.Aa) (s:=s) (by unfold Aa7;rw [hw,hs];rfl);obtain ⟨⟨t0,t1⟩, -⟩:=Du.1 hw;by_cases h:(x.Aa.Al.length:Int)=x.Aa.size
 ·refine Ag3 1 0 hg hw2 EZ EY ?_;show (Df x.Aa).Am=_;unfold Df;rw [aH h];rfl
 ·refine Ag3 0 0 hg hw2 EZ EY ?_;show (Df x.Aa).Am=_;unfold Df Cf;rw [aC h];omega
def V1 (y:I3) (w:World):Cw Bv w [aa y.Ae,aa y.Cm] [y] []:=⟨_,[],[],[],FA,FA,⟨rfl,rfl⟩,rfl,rfl⟩
def Atn (xs:List I3) (y:I3) (i:Nat) (a:aj) (c vb:Nat) (F:aq) (hi:i<=xs.length) (hl:xs.length<=1000000) :
  Fn prog 337 [ab a xs.length c,aa i,ab (some ⟨vb,0,none⟩) 1 1] [] [.ow Bv 165 (ab a xs.length c) xs F,.row vb 165 0 [] [aa y.Ae,aa y.Cm] []] (fun (_:aj × Nat × aq)=>True)
   (fun z=>.slice z.1 (xs.take i++y::xs.drop i).length z.2.1) (fun z=>[.ow Bv 165 (.slice z.1 (xs.take i++y::xs.drop i).length z.2.1) (xs.take i++y::xs.drop i) z.2.2]):=by
 have hone:∀w':World,∀cs:am,Cw Bv w' cs xs []->∀u∈cs,u.oneCell'=true:=fun w' cs h=>h.one' I9;have hy:=V1 y;have h1y:∀u∈([aa y.Ae,aa y.Cm]:am),u.oneCell'=true:=HQ
 refine enter func337 rfl ntmps337 fun w0=>?_;refine As7 (E:=Bv) fun hc1 hc2=>?_;refine go ?_;apply wO;refine Al8 rfl rfl rfl rfl hi (fun _=>?_) hc1;refine go ?_;refine Ay rfl (fun h1=>?_) (fun h1=>?_)
 ·have hin:i=xs.length:=EY
  subst hin;have e:xs.take xs.length++y::xs.drop xs.length=xs++[y]:=FA
  refine go ?_;apply wO;refine N9 hy I9 fun a2 c2 F2=>?_;rw [e];exact DL
 ·have hlt:i < xs.length:=EY
  refine Amp (xs:=xs) Lf (by rintro rfl;simp at hlt) ?_;rintro g cs rest rfl - - - hcl hcr hfl;rw [show Bv.sz=2 from rfl] at hcl hcr;have h1c:=hone w0 cs (hfl w0);obtain ⟨A,B,hcs,hA,hB⟩:∃A B,cs=A++B/\A=cs.take (i * 2)/\B=cs.drop (i * 2):=⟨_,_,(bo _ _).symm,rfl,rfl⟩;have hAl:A.length=i * 2:=by rw [hA,aP];omega
  have hBl:B.length=(xs.length - i) * 2:=by rw [hB,aX];omega
  have hins:∀w,Cw Bv w (A++[aa y.Ae,aa y.Cm]++B) (xs.take i++y::xs.drop i) []:=fun w=>by rw [hA,hB];exact (hfl w).insL (hy w) i hi
  have h1A:∀u∈A,u.oneCell'=true:=fun u hu=>h1c u IC;have h1B:∀u∈B,u.oneCell'=true:=fun u hu=>h1c u IC;have hlen:(xs.take i++y::xs.drop i).length=xs.length+1:=FF
  clear hA hB hfl hone;subst hcs;have eA:A=((A++B++rest).drop 0).take (i * 2):=by rw [dh,aM,bU hAl]
  have eB:B=((A++B++rest).drop (0+i * 2)).take ((xs.length - i) * 2):=by rw [cH,aM,dF hAl,bU hBl]
  rw [hlen];refine go ?_;apply wO;apply oc;rfl;exact Ar7 rfl;refine go ?_;refine Ay rfl (fun h2=>?_) (fun h2=>?_)
  ·refine go ?_;apply wO;apply oc;rfl;exact Pd (i:=i) rfl rfl rfl EY EY;refine go ?_;apply wO;refine Aq6 (k:=xs.length+1 - i) (olds:=A) rfl rfl rfl EY (Nc (m:=i * 2) (.head _) eA) EY EZ EY EY EY EY fun g' cp' Z rest' h3 h4 h5 h6=>?_;rw [show i+(xs.length+1 - i)=xs.length+1 by omega] at h3 ⊢;obtain ⟨Z1,Z2,rfl,hZ1,hZ2⟩:∃Z1 Z2,Z=Z1++Z2/\Z1.length=2/\Z2.length=B.length:=⟨Z.take 2,Z.drop 2,(bo _ _).symm,GD,JX⟩;refine go ?_
   apply wO;apply oc;rfl;exact Li (i:=i) rfl rfl rfl EY EY EY;refine go ?_;apply wO;refine Xt (cs:=[aa y.Ae,aa y.Cm]) (L':=A++[aa y.Ae,aa y.Cm]++(Z2++rest')) rfl rfl rfl (Nc (L:=[aa y.Ae,aa y.Cm]) (o:=0) (m:=2) FD rfl) .here (Afh (M:=Z1) HC EY (by simpa using hZ1)) (by show 2=min 1 (xs.length+1 - i) * 2;omega) FY h1y ?_;refine go ?_;refine Ar [] [] ?_;refine C4 0 1 2 3 ?_
   refine dt 4 ?_ (hy:=Li (i:=i+1) rfl rfl EY EY EY EY);refine Dh 5 6 ?_;refine dt 7 ?_ (hy:=Li (i:=i) rfl rfl EY EY EY EY);refine dN 8 ?_
   refine Xt (cs:=B) (L':=A++[aa y.Ae,aa y.Cm]++B++rest') rfl rfl rfl (Nc FD eB) .here (Afh (P:=A++[aa y.Ae,aa y.Cm]) (M:=Z2) HC FY hZ2) HA FY h1B ?_;refine dk ?_;refine dd ?_
   refine Ad9 (cs:=A++[aa y.Ae,aa y.Cm]++B) (rest:=rest') (xs:=xs.take i++y::xs.drop i) cp' rfl hins EY h4 (by rw [show Bv.sz=2 from rfl];simp only [aA,aU,aY] at h6 ⊢;omega) ?_;rw [hlen];refine go ?_;refine ret (_,cp',[g']) trivial rfl
  ·have hcx:xs.length+1<=c:=EY
   obtain ⟨X,Y,hXY,hX,hY⟩:=Aro (B:=B) (R:=rest) 2 EY;refine go ?_;apply wO;apply oc;rfl;exact Pd (i:=xs.length+1) rfl rfl EY EY EY;refine go ?_;apply wO;apply oc;rfl;exact Li (i:=i+1) rfl rfl EY EY EY EY;refine Hy ?_;intros;apply wO
   refine Azg rfl Wj (ovl (tS:=36) (tR:=4) (run_callFunc_extern func370 FB FB FB (e:=Extern.SlicesOverlaps.overlaps #[36,36] #[4]) FB) (.there .here) (.head _) HD) ?_;refine go ?_;refine Ar [] [] ?_;refine C4 0 1 2 3 ?_;refine dt 4 ?_ (hy:=Li (i:=i+1) rfl rfl EY EY EY EY);refine Dh 5 6 ?_;refine dt 7 ?_ (hy:=Li (i:=i) rfl rfl EY EY EY EY);refine dN 8 ?_
   refine Xt (cs:=B) (L':=A++X++B++rest.drop 2) rfl rfl rfl (Nc FD eB) .here (Afh (P:=A++X) (M:=Y) KJ HU hY) GX HU h1B ?_;refine dk ?_;refine dd ?_;refine go ?_;apply wO;apply oc;rfl;exact Li (i:=i) rfl rfl rfl EY EY EY;refine go ?_;apply wO
   refine Xt (cs:=[aa y.Ae,aa y.Cm]) (L':=A++[aa y.Ae,aa y.Cm]++(B++rest.drop 2)) rfl rfl rfl (Nc (L:=[aa y.Ae,aa y.Cm]) (o:=0) (m:=2) FD rfl) .here (Afh (M:=X) HC EY (by simpa using hX)) (by show 2=min 1 (xs.length+1 - i) * 2;omega) FY h1y ?_;refine go ?_
   refine Ad9 (L:=A++[aa y.Ae,aa y.Cm]++(B++rest.drop 2)) (cs:=A++[aa y.Ae,aa y.Cm]++B) (rest:=rest.drop 2) (xs:=xs.take i++y::xs.drop i) c HC hins EY EY (by rw [show Bv.sz=2 from rfl];simp only [aA,aU,aY,aX];omega) ?_;rw [hlen];refine ret (_,c,[g]) trivial rfl
instance:IntC prog 130 .u64:=⟨underlying130⟩
def Aqa (fid:FuncId) (caps:am) (A:List Pc) (hA:A.all (fun p=>!p.mu)=true) (xs:List I3) (a:aj) (c:Nat) (F:aq) (tv:Value) (f:I3->Int) (hm:∀i j (_:i<=j) (hj:j < xs.length),f xs[j] < 0->f (xs[i]'EY) < 0) (hb:Rr prog fid=true) (hl:xs.length<=1000000)
  (hp:∀x∈xs,∀w,O8 A w->Calls prog fid ([.agg #[aa x.Ae,aa x.Cm],tv]++caps).toArray w (RB (aa (f x)) w)) :
  Fn prog 368 [ab a xs.length c,tv,.func (.func fid) #[] caps.toArray] (.sl Bv (ab a xs.length c) xs F::A) [] (fun (_:Unit)=>True) (fun _=>.tuple #[aa ((xs.takeWhile fun x=>decide (f x < 0)).length:Nat),.bool (Bcv f xs[(xs.takeWhile fun x=>decide (f x < 0)).length]?)]) (fun _=>[]):=by
 refine enter func368 rfl ntmps368 (fun w0=>?_) rfl GA .nil;refine go ?_;refine Dl [0,1,2,6,7,8] (fun s:Nat × Nat=>[(9,aa (s.1:Nat)),(10,aa (s.2:Nat))]) (fun s=>s.1<=s.2/\s.2<=xs.length/\(∀j (_:j < s.1) (h:j < xs.length),f xs[j] < 0)/\(∀j (_:s.2<=j) (h:j < xs.length),¬f xs[j] < 0)) (fun s=>s.2 - s.1) (0,xs.length) ⟨aD _,aK _,fun j h=>by omega,fun j h1 h2=>by omega⟩ fun s hs=>?_;obtain ⟨i,j⟩:=s;obtain ⟨h1,h2,h3,h4⟩:=hs;dsimp only at h1 h2 h3 h4 ⊢;refine go ?_;refine Ay rfl (fun h5=>?_) (fun h5=>?_)
 ·have hh:(i+j) / 2 < xs.length:=EY
  have e2:((i:Int)+(j:Int)) / 2=(((i+j) / 2:Nat):Int):=EY
  refine go ?_;apply wO;apply oc;rfl;exact Aiw rfl EY EY;refine go ?_;apply wO;apply oc;rfl;exact Amx rfl;rw [e2];apply wO;apply oc;rfl;exact Ap1 rfl EY EY;generalize hq:(i+j) / 2=q at hh;refine go ?_;refine Uy (xs:=xs) q ?_;rintro hi b o e;rw [e];refine go ?_;apply wO;refine Afy rfl rfl hb Wj ?_;refine cb (fun w st=>hp xs[q] (aB hh) w (fun p hp=>st.on p HK)) ?_;refine go ?_;refine Ay rfl (fun h6=>?_) (fun h6=>?_)
  ·exact DF
  ·exact DG
 ·have hij:i=j:=EY
  subst hij;have hk:(xs.takeWhile fun x=>decide (f x < 0)).length=i:=Y1 h2 (fun j hj h=>av (h3 j hj h)) (fun h=>ay (h4 i (aK _) h));rw [hk];refine go ?_;refine Dd rfl rfl (fun h6=>?_) (fun h6=>?_)
  ·have hh:i < xs.length:=EY
   rw [aE hh];refine go ?_;refine Uy (xs:=xs) i ?_;exact DK
  ·rw [bp EY];exact AA
def Agh {W:Aw} {p:As} (hg:Ed W=true):(Dp W p).1.data.size<=maxLen:=by
 unfold Dp
 split
 ·rename_i h;unfold Kn at h;simp only [aw] at h;have hk:=Abz h.2;show (Aay W p.Ae).size<=maxLen;rw [Vm hk];have:=aW.1 (Du.1 hg).2.2.2 _ (aB hk);unfold P9 at this;simp only [aw,aF] at this;unfold maxLen;omega
 ·decide
def Awa {t n:Int} {hs:List I3} (hser:∀h∈hs,Cd h.Ae=true) (hn:0<=n/\n<=65535):(hs.takeWhile fun x=>decide (gp t x.Ae - gp t n < 0)).length=Gk t hs n /\
  Bcv (fun x:I3=>gp t x.Ae - gp t n) hs[(hs.takeWhile fun x=>decide (gp t x.Ae - gp t n < 0)).length]?=Pb t hs n:=by
 have e:(fun x:I3=>decide (gp t x.Ae - gp t n < 0))=fun h=>decide (gp t h.Ae < gp t n):=by
  funext x;rw [dU];omega
 have e1:(hs.takeWhile fun x=>decide (gp t x.Ae - gp t n < 0)).length=Gk t hs n:=by unfold Gk;rw [e]
 refine ⟨e1,?_⟩;rw [e1];unfold Pb;cases hq:hs[Gk t hs n]? with
 | none=>rfl
 | some z =>
  show decide (gp t z.Ae - gp t n=0)=decide (z.Ae=n);rw [dU];have hz:=Ba.1 (hser z (ci hq));exact ⟨fun h=>Ayg (t:=t) hz hn EY,fun h=>by rw [h];omega⟩
def Bhz (h:I3) (n t:Int) (gb g o:Nat) (v1 v2 v3 v4 v5:Value) (t0:0<=t) (t1:t<=65535) (n0:0<=n) (n1:n<=65535) (m0:0<=h.Ae) (m1:h.Ae<=65535) :
  FV 369 [.agg #[aa h.Ae,aa h.Cm],aa n,Gj gb 0 0] [.cel gb 0 [Gj g o 0],.cel g o [aa t,v1,v2,v3,v4,v5]] (aa (gp t h.Ae - gp t n)):=by
 have b1:=Lt t h.Ae;have b2:=Lt t n;refine enter func369 rfl ntmps369 fun w0=>?_;refine go ?_;intros;refine Ar [0,1,2] [] ?_;refine C4 0 1 2 3 ?_;refine C4 4 5 6 8 ?_;refine C4 9 10 11 12 ?_;refine dt 13 ?_;refine dN 7 ?_;refine oC ?_;refine ce (fun w s=>P3 _ _ _ EY EY EY EY) ?_;refine dk ?_;refine dN 14 ?_;refine oC ?_;refine ce (fun w s=>P3 _ _ _ EY EY EY EY) ?_;refine dk ?_;refine Dh 15 16 ?_;exact CR
def Aqn (W:Aw) (hs:List I3) (n:Int) (g t o:Nat) (A B:am) (a a2:aj) (c c2:Nat) (cl q:Int) (F2:aq) (t0:0<=W.Am) (t1:W.Am<=65535) (n0:0<=n) (n1:n<=65535) (hser:∀h∈hs,Cd h.Ae=true) (hsr:srt W.Am hs) (hl:hs.length<=1000000) :
  Fn prog 336 [Gj g o 0,aa n] [] [.row g t o A [aa W.Am,aa W.size,ab a W.Al.length c,aa cl,aa q,ab a2 hs.length c2] B,.ow Bv 165 (ab a2 hs.length c2) hs F2] (fun (_:Unit)=>True) (fun _=>.tuple #[aa (Gk W.Am hs n:Nat),.bool (Pb W.Am hs n)]) (fun _=>[.row g t o A [aa W.Am,aa W.size,ab a W.Al.length c,aa cl,aa q,ab a2 hs.length c2] B,.ow Bv 165 (ab a2 hs.length c2) hs F2]):=by
 have hs1:=Awa (t:=W.Am) hser ⟨n0,n1⟩;refine enter func336 rfl ntmps336 fun w0=>?_;refine go ?_;intros;rename_i gb;refine cb (fun w st=>by
  have r1:=st.get (p:=.row gb 239 0 [] [Gj g o 0] []) FA;have r2:=st.get (p:=.row g t o A [aa W.Am,aa W.size,ab a W.Al.length c,aa cl,aa q,ab a2 hs.length c2] B) FA;obtain ⟨Fw, -,hw⟩:=(st.get (p:=.ow Bv 165 (ab a2 hs.length c2) hs F2) FA).2.read
  refine (Aqa 369 [Gj gb 0 0] [.cel gb 0 [Gj g o 0],.cel g o [aa W.Am,aa W.size,ab a W.Al.length c,aa cl,aa q,ab a2 hs.length c2]] rfl hs a2 c2 Fw (aa n) (fun h=>gp W.Am h.Ae - gp W.Am n) (fun i j hij hj h=>?_) FB hl fun x hx w' hA=>?_).val w ?_
  ·rcases be hij with h2|rfl
   ·have:=bh.1 hsr i j EY hj h2;omega
   ·exact h
  ·obtain ⟨m0,m1⟩:=Ba.1 (hser x hx);exact (Bhz x n W.Am gb g o _ _ _ _ _ t0 t1 n0 n1 m0 m1).val w' hA
  ·intro p hp;simp only [aG,aT,bn] at hp;rcases hp with rfl|rfl|rfl
   ·exact ⟨EZ,hw⟩
   ·exact ⟨FA,Iv r1⟩
   ·exact ⟨FA,Iv r2⟩) ?_
 rw [hs1.2];rw [hs1.1];exact AA
structure ReS where
 a:aj
 c:Nat
 a2:aj
 c2:Nat
 F:aq
 ae:aj
 ce:Nat
 Fe:aq
def Agf (W:Aw) (hs:List I3) (p:As) (g t o:Nat) (A B:am) (a a2:aj) (c c2:Nat) (cl q:Int) (F F2:aq) (hg:Cp ⟨W,cl,q,hs⟩=true) (n0:0<=p.Ae) (n1:p.Ae<=65535) (hps:p.data.size<=maxLen) :
  Fn prog 291 [Gj g o 0,.agg #[aa p.Ct,aa p.Ae,aa p.Am,aa p.Es,af p.data]] [] [.row g t o A [aa W.Am,aa W.size,ab a W.Al.length c,aa cl,aa q,ab a2 hs.length c2] B,.ow Bv 165 (ab a2 hs.length c2) hs F2,.ow A9 9 (ab a W.Al.length c) W.Al F] (fun (_:ReS)=>True)
   (fun z=>.slice z.ae (N8 ⟨W,cl,q,hs⟩ p).length z.ce) (fun z=>[.row g t o A [aa W.Am,aa W.size,ab a W.Al.length c,aa cl,aa q,.slice z.a2 (My ⟨W,cl,q,hs⟩ p.Ae).holds.length z.c2] B,.ow Bv 165 (.slice z.a2 (My ⟨W,cl,q,hs⟩ p.Ae).holds.length z.c2) (My ⟨W,cl,q,hs⟩ p.Ae).holds z.F,.ow A9 9 (ab a W.Al.length c) W.Al F,.ow Ak 159 (.slice z.ae (N8 ⟨W,cl,q,hs⟩ p).length z.ce) (N8 ⟨W,cl,q,hs⟩ p) z.Fe]):=by
 obtain ⟨gw,hl,t0,t1,k0,k1,hm,hn,hu,hbb⟩:=Kk hg;have hsr:=(Ep.1 hg).2.2.2.2;dsimp only at gw hl t0 t1 k0 k1 hm hn hu hbb hsr;have hl2:hs.length<=1000000:=EY
 have hW:Ed W=true:=gw;refine enter func291 rfl ntmps291 fun w0=>?_;cases hb:Jh W p.Ae
 ·have e1:My ⟨W,cl,q,hs⟩ p.Ae=⟨W,cl,q,hs⟩:=by unfold My;dsimp only;rw [hb];rfl
  have e2:N8 ⟨W,cl,q,hs⟩ p=[Sr W]:=by unfold N8;dsimp only;rw [hb];rfl
  rw [e1,e2];refine go ?_;intros;refine Ar [0,1] [] ?_;refine C4 0 1 2 3 ?_;refine Dh 4 5 ?_;refine dN 6 ?_;refine oC ?_;refine cb (fun w st=>by obtain ⟨Fw, -,hw⟩:=(st.get (p:=.ow A9 9 (ab a W.Al.length c) W.Al F) FA).2.read;exact (Yb W p.Ae (.agg #[aa W.Am,aa W.size,ab a W.Al.length c]) Fw t0 t1 n0 n1).val w (I6 ⟨_,rfl,_,rfl,hw⟩)) ?_;rw [hb];refine dk ?_;refine dt 7 ?_;refine dd ?_;refine go ?_;refine Be (Api W.Am W.size a W.Al.length c t0 t1 EY) fun _ _=>?_;refine go ?_;intros
  refine Dy (xs:=[Sr W]) (De _ GZ) ?_ FA;refine ret ⟨a,c,a2,c2,F2,_,_,_⟩ trivial rfl
 refine go ?_;intros;refine Ar [0,1] [] ?_;refine C4 0 1 2 3 ?_;refine Dh 4 5 ?_;refine dN 6 ?_;refine oC ?_;refine cb (fun w st=>by obtain ⟨Fw, -,hw⟩:=(st.get (p:=.ow A9 9 (ab a W.Al.length c) W.Al F) FA).2.read;exact (Yb W p.Ae (.agg #[aa W.Am,aa W.size,ab a W.Al.length c]) Fw t0 t1 n0 n1).val w (I6 ⟨_,rfl,_,rfl,hw⟩)) ?_;rw [hb];refine dk ?_;refine dt 7 ?_;refine dd ?_;refine go ?_;refine Ar [0,1] [] ?_;refine C4 0 1 2 3 ?_;refine C4 4 5 6 7 ?_;refine Dh 8 9 ?_;refine dt 10 ?_;refine dN 11 ?_;refine oC ?_;refine cb (fun w _=>I4 _ _ _ _ _ w t0 t1 EY) ?_
 refine dk ?_;refine dt 12 ?_;refine dN 13 ?_;apply I1;rfl;rfl;rfl;rfl;exact Iy;exact Ir;intro _;refine dk ?_;refine dt 14 ?_;refine dd ?_;refine Hy ?_;intros;refine Dy (xs:=[Abq W p.Ae]) (De _ GZ) ?_ FA;refine go ?_;refine Be (Aqn W hs p.Ae g t o A B a a2 c c2 cl q F2 t0 t1 n0 n1 hn hsr hl2) fun _ _=>?_;cases ht:Pb W.Am hs p.Ae
 ·have e1:My ⟨W,cl,q,hs⟩ p.Ae=⟨W,cl,q,Ls hs (Gk W.Am hs p.Ae) ⟨p.Ae,cl+3⟩⟩:=by unfold My;dsimp only;rw [hb,ht];rfl
  have e2:N8 ⟨W,cl,q,hs⟩ p=[Abq W p.Ae]++[(Dp W p).1]:=by unfold N8;dsimp only;rw [hb,ht];rfl
  rw [e1,e2];refine go ?_;refine Ar [0,3] [18] ?_;refine C4 0 1 2 3 ?_;refine C4 4 5 6 7 ?_;refine C4 8 9 10 11 ?_;refine Dh 12 13 ?_;refine dN 14 ?_;apply I1;rfl;rfl;rfl;rfl;exact Iy;exact Ir;intro _;refine dk ?_;refine dN 15 ?_;refine oC ?_;refine Be (Atn hs ⟨p.Ae,cl+3⟩ (Gk W.Am hs p.Ae) a2 c2 _ F2 (Zj _ _ _) hl2) fun z _=>?_;refine dk ?_;refine Dh 16 17 ?_;refine dN 18 ?_;refine oS ?_;refine Nm ?_;refine dd ?_;refine go ?_;refine Ar [1,3] [] ?_;refine C4 0 1 2 3 ?_;refine dt 4 ?_;refine dM 5 9 ?_ ?_
  ·refine oC ?_;refine cb (fun w st=>by obtain ⟨Fw, -,hw⟩:=(st.get (p:=.ow A9 9 (ab a W.Al.length c) W.Al F) FA).2.read;exact (Af8 W p (.agg #[aa W.Am,aa W.size,ab a W.Al.length c]) Fw hps).val w (I6 ⟨_,rfl,_,rfl,hw⟩)) ?_;refine dk ?_;refine Dh 6 7 ?_;refine dt 8 ?_;refine dN 9 ?_;apply Cn;rfl;intro _;refine dk ?_;exact CH
  ·apply Cn;rfl;intro _;refine dk ?_;refine dN 5 ?_;refine oC ?_;refine cb (fun w st=>by obtain ⟨Fw, -,hw⟩:=(st.get (p:=.ow A9 9 (ab a W.Al.length c) W.Al F) FA).2.read;exact (Af8 W p (.agg #[aa W.Am,aa W.size,ab a W.Al.length c]) Fw hps).val w (I6 ⟨_,rfl,_,rfl,hw⟩)) ?_;refine dk ?_;refine Dh 6 7 ?_;refine dt 8 ?_;exact CH
 ·have e1:My ⟨W,cl,q,hs⟩ p.Ae=⟨W,cl,q,hs⟩:=by unfold My;dsimp only;rw [hb,ht];rfl
  have e2:N8 ⟨W,cl,q,hs⟩ p=[Abq W p.Ae]:=by unfold N8;dsimp only;rw [hb,ht];rfl
  rw [e1,e2];refine go ?_;refine ret ⟨a,c,a2,c2,F2,_,_,_⟩ trivial rfl
structure RjS where
 g:Nat
 a:aj
 c:Nat
 a2:aj
 c2:Nat
 F:aq
structure Bby where
 a:aj
 c:Nat
 F:aq
def Auw (x:Cu) (n:Int) (v:Value) (F:aq) (t0:0<=x.Aa.Am) (t1:x.Aa.Am<=65535) (hm:x.holds.length<=1000) (hn:Aah x.holds) (n0:-1<=n) (n1:n<=65536) :
  FV 241 [v,aa n] [.isv Ei v x F] (.tuple #[aa (Gk x.Aa.Am x.holds n:Nat),.bool (Pb x.Aa.Am x.holds n)]):=by
 refine enter func241 rfl ntmps241 fun w0=>?_;refine Hc ?_;rintro a1 c1 F1 a2 c2 F2 rfl l1 l2;refine go ?_;intros;refine Dl [1,2,4,5] (fun k:Nat=>[(6,aa (k:Nat))]) (fun k=>k<=x.holds.length/\∀j (_:j < k) (h:j < x.holds.length),gp x.Aa.Am x.holds[j].Ae < gp x.Aa.Am n) (fun k=>x.holds.length - k) 0 ⟨aD _,fun j h=>by omega⟩ fun k hk=>?_;obtain ⟨hk1,hk2⟩:=hk;by_cases hlt:k < x.holds.length
 ·obtain ⟨m0,m1⟩:=hn x.holds[k] (aB hlt);refine Uy (xs:=x.holds) k ?_;rintro hi b o e;rw [e];refine go ?_;refine Ar [0,1] [] ?_;refine C4 0 1 2 3 ?_;refine dt 4 ?_;rw [av (show (k:Int) < x.holds.length by omega)];refine dt 5 ?_;refine Dg 6 ?_;refine Dg 7 ?_;refine Dg 8 ?_;refine Dg 9 ?_;refine Dg 10 ?_;refine Dg 11 ?_;refine Dg 12 ?_;refine Dg 13 ?_;refine Dg 14 ?_;refine Dg 16 ?_;refine Dg 17 ?_;refine Dg 18 ?_;refine Dg 19 ?_;refine d1g 15 ?_;apply On.h;refine oC ?_;refine ce (fun w s=>Jw _ _ _ EY EY) ?_;refine dk ?_;refine d1g 20 ?_;apply On.h
  refine oC ?_;refine ce (fun w s=>Jw _ _ _ EY EY) ?_;refine dk ?_;refine Dg 21 ?_;refine dt 22 ?_;refine dd ?_;refine go ?_;refine Ay rfl (fun h=>?_) (fun h=>?_)
  ·refine go ?_;refine Ce (k+1) ⟨hlt,fun j hj hh=>?_⟩ EY;rcases be (bA.1 hj) with h2|rfl
   ·exact hk2 j h2 hh
   ·exact h
  ·have hh:Gk x.Aa.Am x.holds n=k:=Y1 hk1 (fun j hj h=>av (hk2 j hj h)) (fun _=>ay h);have ht:Pb x.Aa.Am x.holds n=decide (x.holds[k].Ae=n):=by unfold Pb;rw [hh,aE hlt]
   rw [ht,hh];refine go ?_;refine Ar [0,1] [] ?_;refine C4 0 1 2 3 ?_;refine Dh 4 5 ?_;rw [av (show (k:Int) < x.holds.length by omega)];refine dt 6 ?_;refine Dg 7 ?_;refine Dg 8 ?_;refine Dg 9 ?_;refine Dg 10 ?_;refine Dg 11 ?_;refine Dg 12 ?_;refine Dg 13 ?_;refine Dg 14 ?_;refine Dh 15 16 ?_;refine dt 17 ?_;exact CR
 ·have hh:Gk x.Aa.Am x.holds n=k:=Y1 hk1 (fun j hj h=>av (hk2 j hj h)) (fun h=>absurd h hlt);have ht:Pb x.Aa.Am x.holds n=false:=by unfold Pb;rw [hh,bp EY]
  rw [ht,hh];refine go ?_;refine Ar [0] [] ?_;refine C4 0 1 2 3 ?_;refine dt 4 ?_;rw [ay (show ¬(k:Int) < x.holds.length by omega)];refine dt 5 ?_;refine ds 6 ?_;refine ds 7 ?_;refine ds 8 ?_;refine ds 9 ?_;refine ds 10 ?_;refine ds 11 ?_;refine ds 12 ?_;refine ds 13 ?_;refine ds 14 ?_;refine ds 15 ?_;refine ds 16 ?_;refine ds 17 ?_;refine ds 18 ?_;refine ds 19 ?_;refine ds 20 ?_;refine ds 21 ?_;refine dt 22 ?_;refine dd ?_;refine go ?_;refine Ar [0] [] ?_;refine C4 0 1 2 3 ?_;refine Dh 4 5 ?_;rw [ay (show ¬(k:Int) < x.holds.length by omega)];refine dt 6 ?_
  refine ds 7 ?_;refine ds 8 ?_;refine ds 9 ?_;refine ds 10 ?_;refine ds 11 ?_;refine ds 12 ?_;refine ds 13 ?_;refine ds 14 ?_;refine Dh 15 16 ?_;refine dt 17 ?_;exact CR
def Aaa (x:Cu) (p:As) (v:Value) (F:aq) (t0:0<=x.Aa.Am) (t1:x.Aa.Am<=65535) (hl:x.Aa.Al.length<=6) (k0:0<=x.Ai) (k1:x.Ai<=99999) (hm:x.holds.length<=900) (hn:Aah x.holds) (n0:-1<=p.Ae) (n1:p.Ae<=65536) (hps:p.data.size<=maxLen) (hans:(Dp x.Aa p).1.data.size<=maxLen) :
  Fn prog 172 [v,.agg #[aa p.Ct,aa p.Ae,aa p.Am,aa p.Es,af p.data]] [.isv Ei v x F] [] (fun (_:TiS)=>True) (fun s=>.tuple #[.agg #[aa (N0 x p.Ae).Aa.Am,aa (N0 x p.Ae).Aa.size,.slice s.a (N0 x p.Ae).Aa.Al.length s.c,aa (N0 x p.Ae).Ai,aa (N0 x p.Ae).quiet,.slice s.a2 (N0 x p.Ae).holds.length s.c2],.slice s.ae (N8 x p).length s.ce])
   (fun s=>[.isv Ei (.agg #[aa (N0 x p.Ae).Aa.Am,aa (N0 x p.Ae).Aa.size,.slice s.a (N0 x p.Ae).Aa.Al.length s.c,aa (N0 x p.Ae).Ai,aa (N0 x p.Ae).quiet,.slice s.a2 (N0 x p.Ae).holds.length s.c2]) (N0 x p.Ae) s.F,.ow Ak 159 (.slice s.ae (N8 x p).length s.ce) (N8 x p) s.Fe]):=by
 refine enter func172 rfl ntmps172 fun w0=>?_;refine Hc ?_;rintro a1 c1 F1 a2 c2 F2 rfl l1 l2;refine Cr x.Aa (a1:=a1) ?_;generalize F1=F3;refine go ?_;intros
 refine Dv [2,3,4,5] [0,1,2,3,4,5,6] (fun s:RjS=>[(6,Gj s.g 0 0)]) (fun s=>[.row s.g 38 0 [] [aa x.Aa.Am,aa x.Aa.size,ab s.a x.Aa.Al.length s.c,aa x.Ai,aa x.quiet,.slice s.a2 (Iz x.Aa x.Ai x.holds).length s.c2] [],.isv Ei (.agg #[aa x.Aa.Am,aa x.Aa.size,ab s.a x.Aa.Al.length s.c,aa x.Ai,aa x.quiet,.slice s.a2 (Iz x.Aa x.Ai x.holds).length s.c2]) (Y7 x x.Aa) s.F]) (fun _=>True) ?_ fun s _=>?_
 ·refine Hy ?_;intros;refine Ar [1,2] [] ?_;refine Dh 0 1 ?_;refine dt 2 ?_;refine dM 3 5 ?_ ?_
  ·refine oC ?_;refine Be (Tp x.Aa _ F3 t0 t1 EY) fun y _=>?_;refine Kg ?_;rintro a5 c5 F5 e5 l5;rw [e5];refine Av (xs:=x.Aa.Al) fun F8=>?_;refine Cr x.Aa (a1:=a5) ?_;refine dk ?_;refine dM 4 5 ?_ ?_
   ·refine oC ?_;refine Be (T3 x x.Aa _ _ F _ t0 t1 EY hn) fun z _=>?_;refine dk ?_;refine dN 5 ?_;apply Cn;rfl;intro _;exact BZ
   ·apply Cn;rfl;intro _;refine dk ?_;refine dN 4 ?_;refine oC ?_;refine Be (T3 x x.Aa _ _ F _ t0 t1 EY hn) fun z _=>?_;exact BZ
  ·apply Cn;rfl;intro _;refine dk ?_;refine dN 3 ?_;refine oC ?_;refine Be (Tp x.Aa _ F3 t0 t1 EY) fun y _=>?_;refine Kg ?_;rintro a5 c5 F5 e5 l5;rw [e5];refine Av (xs:=x.Aa.Al) fun F8=>?_;refine Cr x.Aa (a1:=a5) ?_;refine dk ?_;refine dN 4 ?_;refine oC ?_;refine Be (T3 x x.Aa _ _ F _ t0 t1 EY hn) fun z _=>?_;exact BZ
 refine go ?_;refine cb (fun w st=>(Zl x.Aa p.Ae _ F3 t0 t1 n0 n1).val w (I6 (st.get (p:=.isv _ _ _ _) FA))) ?_;cases hb:Jh x.Aa p.Ae
 ·have e1:N0 x p.Ae=Y7 x x.Aa:=by unfold N0;rw [hb];rfl
  have e2:N8 x p=[Sr x.Aa]:=by unfold N8;rw [hb];rfl
  rw [e1,e2];refine go ?_;refine Ar [0,4] [] ?_;refine Dh 0 1 ?_;refine dt 2 ?_;refine dN 3 ?_;refine oC ?_;refine Be (Aa4 x.Aa.Am x.Aa.size _ x.Aa.Al.length _ t0 t1 EY) fun _ _=>?_;refine dk ?_;refine dM 4 5 ?_ ?_
  ·apply I1;rfl;rfl;rfl;rfl;exact Iy;exact Ir;intro _;refine dk ?_;refine dN 5 ?_;refine oS ?_;exact CS
  ·refine oS ?_;refine dk ?_;refine dN 4 ?_;apply I1;rfl;rfl;rfl;rfl;exact Iy;exact Ir;intro _;exact CS
 refine go ?_;refine Ar [3,4] [] ?_;refine C4 0 1 2 3 ?_;refine Dh 4 5 ?_;refine dt 6 ?_;refine dN 7 ?_;refine oC ?_;refine cb (fun w _=>T6 _ _ _ _ _ w t0 t1 EY) ?_;refine dk ?_;refine dt 8 ?_;refine dN 9 ?_;apply I1;rfl;rfl;rfl;rfl;exact Iy;exact Ir;intro _;refine dk ?_;refine dt 10 ?_;refine dd ?_;refine Hy ?_;intros;refine Dy (xs:=[Abq x.Aa p.Ae]) (De _ GZ) ?_ FA;refine go ?_;refine Be (Auw x p.Ae _ F t0 t1 EY hn n0 n1) fun _ _=>?_;cases ht:Pb x.Aa.Am x.holds p.Ae
 ·have e1:N0 x p.Ae=⟨x.Aa,x.Ai,x.quiet,(Ls x.holds (Gk x.Aa.Am x.holds p.Ae) ⟨p.Ae,x.Ai+3⟩)⟩:=by unfold N0;rw [hb,ht];rfl
  have e2:N8 x p=[Abq x.Aa p.Ae]++[(Dp x.Aa p).1]:=by unfold N8;rw [hb,ht];rfl
  rw [e1,e2];have hkk:=Zj x.Aa.Am x.holds p.Ae;refine Xf (E:=Bv) (xs:=x.holds) ?_;rintro _ _ e8 q1 q2;cases e8;refine go ?_;refine cb (fun w st=>(Aid x.Aa p _ F3 hps).val w (I6 (st.get (p:=.isv _ _ _ _) FA))) ?_;refine go ?_;intros;refine Ata (E:=Bv) (xs:=x.holds) (Gk x.Aa.Am x.holds p.Ae) (fun FT=>?_) hkk;obtain ⟨T1,hT1⟩:∃T1,T1=x.holds.take (Gk x.Aa.Am x.holds p.Ae):=⟨_,rfl⟩;have hT1l:T1.length=Gk x.Aa.Am x.holds p.Ae:=by rw [hT1,aP];omega
  rw [<-hT1];have hAdd:T1++[⟨p.Ae,x.Ai+3⟩]++x.holds.drop (Gk x.Aa.Am x.holds p.Ae)=(Ls x.holds (Gk x.Aa.Am x.holds p.Ae) ⟨p.Ae,x.Ai+3⟩):=by rw [hT1];unfold Ls;simp
  refine Dv [4,5,6,7,10] [0,1,2,3,5,6,7,8,9,10,11,12] (fun _:Bby=>[]) (fun z=>[.row s.g 38 0 [] [aa x.Aa.Am,aa x.Aa.size,ab s.a x.Aa.Al.length s.c,aa x.Ai,aa x.quiet,.slice z.a (Ls x.holds (Gk x.Aa.Am x.holds p.Ae) ⟨p.Ae,x.Ai+3⟩).length z.c] [],.ow Bv 165 (.slice z.a (Ls x.holds (Gk x.Aa.Am x.holds p.Ae) ⟨p.Ae,x.Ai+3⟩).length z.c) (Ls x.holds (Gk x.Aa.Am x.holds p.Ae) ⟨p.Ae,x.Ai+3⟩) z.F]) (fun _=>True) ?_ fun z _=>?_
  ·refine Hy ?_;intros;refine Ar [1,8] [] ?_;refine Dh 1 2 ?_;refine dt 3 ?_;refine dt 4 ?_ (hy:=Pd (i:=T1.length) rfl rfl (by rw [hT1l]) EY EY);refine C4 6 9 10 11 ?_;refine Aqk 12 (Gk x.Aa.Am x.holds p.Ae) (fun a6 c6 F6=>?_);refine dM 0 7 ?_ ?_
   ·apply Kt;rfl;intro _;refine C3 Bv ?_;refine dk ?_;refine dM 5 7 ?_ ?_
    ·refine N5 (ys:=T1) I9 Lf fun a7 c7 F7=>?_;rw [aZ];refine dk ?_;refine dN 7 ?_;apply I1;rfl;rfl;rfl;rfl;exact Iy;exact Ir;intro _;exact AJ
    ·apply I1;rfl;rfl;rfl;rfl;exact Iy;exact Ir;intro _;refine dk ?_;refine dN 5 ?_;refine N5 (ys:=T1) I9 Lf fun a7 c7 F7=>?_;rw [aZ];exact AJ
   ·apply I1;rfl;rfl;rfl;rfl;exact Iy;exact Ir;intro _;refine dk ?_;refine dN 0 ?_;apply Kt;rfl;intro _;refine C3 Bv ?_;refine dk ?_;refine dN 5 ?_;refine N5 (ys:=T1) I9 Lf fun a7 c7 F7=>?_;rw [aZ];exact AJ
  refine Hc (x:=Y7 x x.Aa) ?_;rintro b1 d1 G1 b2 d2 G2 e5 m1 m2;simp only [Value.agg.injEq,Array.mk.injEq,List.cons.injEq,Value.slice.injEq,Value.int.injEq,cM,cO] at e5;obtain ⟨-, -,⟨rfl, -,rfl⟩, -⟩:=e5;refine Av (E:=Bv) fun F9=>?_;refine D6 ⟨x.Aa,x.Ai,x.quiet,(Ls x.holds (Gk x.Aa.Am x.holds p.Ae) ⟨p.Ae,x.Ai+3⟩)⟩ (a1:=s.a) ?_;refine go ?_;refine Ar [4,7] [] ?_;refine Dh 0 1 ?_;refine dt 2 ?_;refine dN 3 ?_;apply I1;rfl;rfl;rfl;rfl;exact Iy;exact Ir;intro _;refine dk ?_;refine dN 4 ?_;refine N9 (De (Dp x.Aa p).1 hans) H9 fun a9 c9 F9=>?_;refine dk ?_;refine dN 5 ?_;refine oS ?_
  refine dk ?_;refine dt 6 ?_;refine dd ?_;refine go ?_;refine ret ⟨s.a,s.c,z.a,z.c,_,a9,c9,F9⟩ trivial rfl
 ·have e1:N0 x p.Ae=Y7 x x.Aa:=by unfold N0;rw [hb,ht];rfl
  have e2:N8 x p=[Abq x.Aa p.Ae]:=by unfold N8;rw [hb,ht];rfl
  rw [e1,e2];refine go ?_;refine ret ⟨s.a,s.c,s.a2,s.c2,s.F,_,_,_⟩ trivial rfl
def Al1 (x:Cu) (p:As) (v:Value) (F:aq) (hg:Cp x=true) (n0:0<=p.Ae) (n1:p.Ae<=65535) (hps:p.data.size<=maxLen) :
  Fn prog 172 [v,.agg #[aa p.Ct,aa p.Ae,aa p.Am,aa p.Es,af p.data]] [.isv Ei v x F] [] (fun (_:TiS)=>True) (fun s=>.tuple #[.agg #[aa (My x p.Ae).Aa.Am,aa (My x p.Ae).Aa.size,.slice s.a (My x p.Ae).Aa.Al.length s.c,aa (My x p.Ae).Ai,aa (My x p.Ae).quiet,.slice s.a2 (My x p.Ae).holds.length s.c2],.slice s.ae (N8 x p).length s.ce])
   (fun s=>[.isv Ei (.agg #[aa (My x p.Ae).Aa.Am,aa (My x p.Ae).Aa.size,.slice s.a (My x p.Ae).Aa.Al.length s.c,aa (My x p.Ae).Ai,aa (My x p.Ae).quiet,.slice s.a2 (My x p.Ae).holds.length s.c2]) (My x p.Ae) s.F,.ow Ak 159 (.slice s.ae (N8 x p).length s.ce) (N8 x p) s.Fe]):=by
 obtain ⟨gw,hl,t0,t1,k0,k1,hm,hn,hu,hb⟩:=Kk hg;have h:=Aaa x p v F t0 t1 hl k0 EY EY (Af6 hn) EY EY hps (Agh gw);rw [Az7 hg] at h;exact h
def Gf (f z:Int):Cu × Bool:=if Cp ⟨⟨f,z,[]⟩,0,0,[]⟩ then (⟨⟨f,z,[]⟩,0,0,[]⟩,true) else (Ap4,false)
def Am5 (f z:Int):Fn prog 58 [aa f,aa z] [] [] (fun (_:aq)=>True) (fun _=>.tuple #[.agg #[aa (Gf f z).1.Aa.Am,aa (Gf f z).1.Aa.size,ab none 0 0,aa (Gf f z).1.Ai,aa (Gf f z).1.quiet,ab none 0 0],.bool (Gf f z).2]) (fun s=>[.isv Ei (.agg #[aa (Gf f z).1.Aa.Am,aa (Gf f z).1.Aa.size,ab none 0 0,aa (Gf f z).1.Ai,aa (Gf f z).1.quiet,ab none 0 0]) (Gf f z).1 s]):=by
 refine enter func58 rfl ntmps58 fun w0=>?_;refine Ci A9 EZ ?_;refine Ci Bv EZ ?_;refine D6 Ap4 ?_;refine Ci A9 EZ ?_;refine Ci Bv EZ ?_;refine D6 ⟨⟨f,z,[]⟩,0,0,[]⟩ ?_;refine go ?_;intros;refine cb (fun w st=>(Xp ⟨⟨f,z,[]⟩,0,0,[]⟩ _ ([]++[])).val w (I6 (st.get (p:=.isv _ _ _ _) FD))) ?_;cases g1:Cp ⟨⟨f,z,[]⟩,0,0,[]⟩
 ·rw [show Gf f z=(Ap4,false) by unfold Gf;rw [g1];rfl];refine go ?_;refine ret ([]++[]) trivial rfl
 exact EX
def Xv (f z:Int):Fn prog 61 [aa f,aa z] [] [] (fun (_:aq)=>True) (fun _=>.tuple #[.agg #[aa (Gf f z).1.Aa.Am,aa (Gf f z).1.Aa.size,ab none 0 0,aa (Gf f z).1.Ai,aa (Gf f z).1.quiet,ab none 0 0],.bool (Gf f z).2]) (fun s=>[.isv Ei (.agg #[aa (Gf f z).1.Aa.Am,aa (Gf f z).1.Aa.size,ab none 0 0,aa (Gf f z).1.Ai,aa (Gf f z).1.quiet,ab none 0 0]) (Gf f z).1 s]):=by
 refine enter func61 rfl ntmps61 fun w0=>?_;refine Ci A9 EZ ?_;refine Ci Bv EZ ?_;refine D6 Ap4 ?_;refine Ci A9 EZ ?_;refine Ci Bv EZ ?_;refine D6 ⟨⟨f,z,[]⟩,0,0,[]⟩ ?_;refine go ?_;intros;refine cb (fun w st=>(Aka ⟨⟨f,z,[]⟩,0,0,[]⟩ _ ([]++[])).val w (I6 (st.get (p:=.isv _ _ _ _) FD))) ?_;cases g1:Cp ⟨⟨f,z,[]⟩,0,0,[]⟩
 ·rw [show Gf f z=(Ap4,false) by unfold Gf;rw [g1];rfl];refine go ?_;refine ret ([]++[]) trivial rfl
 exact EX
def Jc:B8 Int where
 sz:=1
 Mj _ cs z F:=cs=[.int .u8 z]/\0<=z/\z<=255/\F=[]
 len h:=IX
 lt h:=by simp [h.2.2.2]
 frame h _:=h
def Rj (w:World) (g:Nat) (l:List UInt8):Prop :=
 g < w.heap.size/\∀j (hj:j < l.length),w.cell? ⟨g,j,none⟩=some (.int .u8 (l[j].toNat:Int))/\w.frozen? ⟨g,j,none⟩=false
def Rj.below {w w' g l} (h:Rj w g l) (hb:Below w.heap.size w w'):Rj w' g l :=
 ⟨dI h.1 hb.size,fun j hj=>⟨(hb.cell (p:=⟨g,j,none⟩) h.1).trans (h.2 j hj).1,(hb.frozen (p:=⟨g,j,none⟩) h.1).trans (h.2 j hj).2⟩⟩
def Rj.set {w g l} (h:Rj w g l) (k:Nat) (b:UInt8) (hk:k < l.length):Rj (w.setCell ⟨g,k,none⟩ (.int .u8 (b.toNat:Int))) g (l.set k b):=by
 refine ⟨IX,fun j hj=>?_⟩;rw [bG] at hj;refine ⟨?_,?_⟩
 ·by_cases e:k=j
  ·subst e;rw [World.cell?_setCell_same _ _ _ (h.2 k hk).1];simp
  ·rw [World.cell?_setCell_other _ _ _ _ (by intro q;cases q;exact e rfl),(h.2 j hj).1];simp [fU,e]
 ·rw [World.frozen?_setCell];exact (h.2 j hj).2
def Ba9 (s:au) (w:World):∃cap C,(convert 9 22 (af s)).run prog w=.ok (ab (some ⟨w.heap.size,0,none⟩) s.size cap) (w.alloc C).drew/\Rj (w.alloc C).drew w.heap.size s.data.toList/\s.size<=cap:=by
 refine ⟨_,_,run_bytes_of_string w _ _ _ s underlying9 underlying22 underlying5,⟨FA,fun j hj=>?_⟩,grownCap_ge _ _ _ _⟩;have hj':j < s.data.size:=HE
 have hz:(bytesRow s (grownCap w s.size 0 5)).size=s.data.size+(grownCap w s.size 0 5 - s.size):=by simp [bytesRow]
 refine ⟨?_,?_⟩
 ·show (w.alloc _).cell? _=_;rw [World.cell?_alloc_mark,bytesRow_at s _ j hj'];simp
 ·show (w.alloc _).frozen? _=_;rw [World.frozen?_alloc_mark,ay (by rw [hz];omega)];rfl
def Agl {w:World} {g:Nat} {l:List UInt8} (cap:Nat) (h:Rj w g l):(convert 22 9 (ab (some ⟨g,0,none⟩) l.length cap)).run prog w=.ok (af ⟨l.toArray⟩) w :=
 run_convert_bytes_back w _ _ _ ⟨g,0,none⟩ cap l underlying22 underlying5 underlying9 fun j hj=>by cases j <;> simpa [Addr.add] using (h.2 _ hj).1
def Bbj (v v2:Value) (xs:ai) (F F2:aq):FV 188 [v,v2] [.sl A9 v xs F,.sl A9 v2 xs F2] (.bool true):=by
 refine enter func188 rfl ntmps188 fun w0=>?_;refine Xf (v:=v) (xs:=xs) (F:=F) ?_;rintro a c rfl l1 l2;refine Xf (v:=v2) (xs:=xs) (F:=F2) ?_;rintro a2 c2 rfl l3 l4;refine go ?_;refine Ay rfl (fun h=>?_) (fun h=>?_)
 ·exact absurd rfl h
 refine go ?_;refine Dl [0,1,4] (fun k:Nat=>[(5,aa k)]) (fun k=>k<=xs.length) (fun k=>xs.length - k) 0 (aD _) fun k hk=>?_;refine go ?_;refine Ay rfl (fun h3=>?_) (fun h3=>?_)
 ·have hk3:k < xs.length:=EY
  refine Me (a:=a) (xs:=xs) k ?_;rintro hi b o e s1;rw [e];refine Me (a:=a2) (xs:=xs) k ?_;rintro hi2 b2 o2 e2 s2;rw [e2];refine Hy ?_;intros;refine Ar [0,1] [] ?_;refine C4 0 1 2 3 ?_;refine C4 4 5 6 7 ?_;refine dt 8 ?_;refine dd ?_;refine go ?_;refine Ay rfl (fun h4=>?_) (fun h4=>?_)
  ·exact absurd rfl h4
  refine go ?_;exact BE
 ·exact AA
def Bgx (v:Value) (By:ar) (F:aq):FV 4 [v] [.sl Jc v By F] (.bool (decide (65536 < (By.length:Int)))):=by
 refine enter func4 rfl ntmps4 fun w0=>?_;refine Xf (E:=Jc) ?_;rintro a c rfl l1 l2;exact AA
def Qp (x:Cu) (s:au):Cu:=⟨Di x.Aa s,x.Ai,0,Iz (Di x.Aa s) x.Ai x.holds⟩
def Baj {x:Cu} {s:au} (h:∀z∈x.holds,x.Ai+1<=z.Cm):Qp x s=Sc x s:=by unfold Qp Sc;rw [Yg h]
def Aa3 (x:Cu) (s:au) (v:Value) (F:aq) (t0:0<=x.Aa.Am) (t1:x.Aa.Am<=65535) (hl:x.Aa.Al.length<=6) (z1:1<=x.Aa.size) (hm:x.holds.length<=1000) (hn:Aah x.holds) (hs:s.size<=maxLen) :
  Fn prog 166 [v,af s] [.isv Ei v x F] [] (fun (_:Alk)=>True) (fun z=>.tuple #[.agg #[aa (Qp x s).Aa.Am,aa (Qp x s).Aa.size,.slice z.a (Qp x s).Aa.Al.length z.c,aa (Qp x s).Ai,aa (Qp x s).quiet,.slice z.a2 (Qp x s).holds.length z.c2],.agg #[aa 1,aa (Dz x.Aa s).Ae,aa (Dz x.Aa s).Am,aa (Dz x.Aa s).Es,af s]]) (fun z=>[.isv Ei (.agg #[aa (Qp x s).Aa.Am,aa (Qp x s).Aa.size,.slice z.a (Qp x s).Aa.Al.length z.c,aa (Qp x s).Ai,aa (Qp x s).quiet,.slice z.a2 (Qp x s).holds.length z.c2]) (Qp x s) z.F]):=by
 have hb:=Rd t0 t1;refine enter func166 rfl ntmps166 fun w0=>?_;refine Hc ?_;rintro a1 c1 F1 a2 c2 F2 rfl l1 l2;refine Cr x.Aa ?_;generalize F1=F3;refine go ?_;intros;refine Be (Ayy x.Aa s _ F3 hl t0 t1 hs z1) fun y _=>?_;refine E9 (x:=Di x.Aa s) ?_;rintro a5 c5 F5 e5 l5;rw [e5];refine go ?_;intros;refine Be (T3 x (Di x.Aa s) _ _ F y.2 hb.1 hb.2 EY hn) fun q _=>?_;refine Hc (x:=Y7 x (Di x.Aa s)) ?_;rintro a6 c6 F6 a7 c7 F7 e6 l6 l7;rw [e6];refine go ?_;intros;refine Ar [0,4] [] ?_;refine Dh 0 1 ?_;refine dN 2 ?_;refine oS ?_;refine dk ?_;refine dN 3 ?_;refine oS ?_;refine dk ?_
 refine dd ?_;refine D6 (Qp x s) ?_;refine go ?_;exact EE
def Aux (x:Cu) (s:au) (v:Value) (F:aq) (hg:Cp x=true) (hs:s.size<=maxLen) :
  Fn prog 166 [v,af s] [.isv Ei v x F] [] (fun (_:Alk)=>True) (fun z=>.tuple #[.agg #[aa (Sc x s).Aa.Am,aa (Sc x s).Aa.size,.slice z.a (Sc x s).Aa.Al.length z.c,aa (Sc x s).Ai,aa (Sc x s).quiet,.slice z.a2 (Sc x s).holds.length z.c2],.agg #[aa 1,aa (Dz x.Aa s).Ae,aa (Dz x.Aa s).Am,aa (Dz x.Aa s).Es,af s]]) (fun z=>[.isv Ei (.agg #[aa (Sc x s).Aa.Am,aa (Sc x s).Aa.size,.slice z.a (Sc x s).Aa.Al.length z.c,aa (Sc x s).Ai,aa (Sc x s).quiet,.slice z.a2 (Sc x s).holds.length z.c2]) (Sc x s) z.F]):=by
 obtain ⟨gw,hl,t0,t1,k0,k1,hm,hn,hu,hb⟩:=Kk hg;obtain ⟨-,⟨z1, -⟩, -⟩:=Du.1 gw;have h:=Aa3 x s v F t0 t1 hl z1 EY (Af6 hn) hs;rw [Baj hu] at h;exact h
def Ams (v v2:Value) (xs:ar) (F F2:aq):FV 64 [v,v2] [.sl Bc v xs F,.sl Bc v2 xs F2] (.bool true):=by
 refine enter func64 rfl ntmps64 fun w0=>?_;refine Xf (v:=v) (xs:=xs) (F:=F) ?_;rintro a c rfl l1 l2;refine Xf (v:=v2) (xs:=xs) (F:=F2) ?_;rintro a2 c2 rfl l3 l4;refine go ?_;refine Ay rfl (fun h=>?_) (fun h=>?_)
 ·exact absurd rfl h
 refine go ?_;refine Dl [0,1,4] (fun k:Nat=>[(5,aa k)]) (fun k=>k<=xs.length) (fun k=>xs.length - k) 0 (aD _) fun k hk=>?_;refine go ?_;refine Ay rfl (fun h3=>?_) (fun h3=>?_)
 ·have hk3:k < xs.length:=EY
  refine Im (a:=a) (xs:=xs) k ?_;rintro hi b o e;rw [e];refine Im (a:=a2) (xs:=xs) k ?_;rintro hi2 b2 o2 e2;rw [e2];refine Hy ?_;intros;refine Ar [0,1] [] ?_;refine C4 0 1 2 3 ?_;refine C4 4 5 6 7 ?_;refine dt 8 ?_;refine dd ?_;refine go ?_;refine Ay rfl (fun h4=>?_) (fun h4=>?_)
  ·exact absurd rfl h4
  refine go ?_;exact BE
 ·exact AA
def Awl (v v2:Value) (x:Aw) (F F2:aq):FV 115 [v,v2] [.isv Ck v x F,.isv Ck v2 x F2] (.bool true):=by
 refine enter func115 rfl ntmps115 fun w0=>?_;refine E9 (v:=v) (F:=F) ?_;rintro a1 c1 F1 rfl l1;refine E9 (v:=v2) (F:=F2) ?_;rintro a2 c2 F3 rfl l2;refine go ?_;intros;refine Dd rfl rfl (fun h1=>?_) (fun h1=>?_)
 ·refine go ?_;refine Dd rfl rfl (fun h2=>?_) (fun h2=>?_)
  ·refine go ?_;refine Be (Bbj _ _ x.Al F1 F3) fun _ _=>?_;exact AA
  ·exact absurd rfl h2
 ·exact absurd rfl h1
def Avq (p:As) (w:World):(Op.equalIn 10000 159 (.agg #[aa p.Ct,aa p.Ae,aa p.Am,aa p.Es,af p.data]) (.agg #[aa p.Ct,aa p.Ae,aa p.Am,aa p.Es,af p.data])).run prog w=.ok true w:=by
 have u1:=underlying3;have u2:=underlying9;have hS:prog.underlying 159=some (.struct (prog.fieldsOf 159)):=FB
 rw [show (10000:Nat)=9999+1 from rfl,run_equalIn_agg w 9999 159 _ _ hS FB];have a1:=Tryz.isAgg3;have a2:=Tryz.isAgg9;simp only [Program.fieldsOf,underlying159]
 go_simp
def Ap2 {n:Nat} {fr:Fr} {H:List Pc} {x y:Operand} {ty t':TypeId} {p:As} (hx:ev fr x=some (.agg #[aa p.Ct,aa p.Ae,aa p.Am,aa p.Es,af p.data])) (hy:ev fr y=some (.agg #[aa p.Ct,aa p.Ae,aa p.Am,aa p.Es,af p.data])):Yd prog n fr H (.binOp .neq 159 x y t') ty (.bool false):=.mk fun c w d pos Cf gd hA _=>by
 have h2:(eqGuard .neq 159 x y (.agg #[aa p.Ct,aa p.Ae,aa p.Am,aa p.Es,af p.data]) (.agg #[aa p.Ct,aa p.Ae,aa p.Am,aa p.Es,af p.data])).run prog w=.ok () w:=run_eqGuard_agg w _ _ _ _ _ _ FB;simp only [execOp,hA.ev hx,hA.ev hy,Sem.run_bind,h2,Result.andThen_ok,run_neq_struct,Avq,Sem.run_pure];rfl
def Bcw (s:I3) (w:World):(Op.equalIn 10000 165 (.agg #[aa s.Ae,aa s.Cm]) (.agg #[aa s.Ae,aa s.Cm])).run prog w=.ok true w:=by
 have u0:=underlying3;have a0:=Tryz.isAgg3;have hS:prog.underlying 165=some (.struct (prog.fieldsOf 165)):=FB
 rw [show (10000:Nat)=9999+1 from rfl,run_equalIn_agg w 9999 165 _ _ hS FB];simp only [Program.fieldsOf,underlying165]
 go_simp
def Awr {n:Nat} {fr:Fr} {H:List Pc} {x y:Operand} {ty t':TypeId} {s:I3} (hx:ev fr x=some (.agg #[aa s.Ae,aa s.Cm])) (hy:ev fr y=some (.agg #[aa s.Ae,aa s.Cm])):Yd prog n fr H (.binOp .neq 165 x y t') ty (.bool false):=.mk fun c w d pos Cf gd hA _=>by
 have h2:(eqGuard .neq 165 x y (.agg #[aa s.Ae,aa s.Cm]) (.agg #[aa s.Ae,aa s.Cm])).run prog w=.ok () w:=run_eqGuard_agg w _ _ _ _ _ _ FB;simp only [execOp,hA.ev hx,hA.ev hy,Sem.run_bind,h2,Result.andThen_ok,run_neq_struct,Bcw,Sem.run_pure];rfl
def Awk (v v2:Value) (x:Cu) (F F2:aq):FV 65 [v,v2] [.isv Ei v x F,.isv Ei v2 x F2] (.bool true):=by
 refine enter func65 rfl ntmps65 fun w0=>?_;refine Hc (v:=v) (x:=x) (F:=F) ?_;rintro a1 c1 F3 a2 c2 F4 rfl l1 l2;unfold maxLen at l1 l2;refine Cr x.Aa (a1:=a1) ?_;generalize F3=F5;refine Hc (v:=v2) (x:=x) (F:=F2) ?_;rintro a3 c3 F6 a4 c4 F7 rfl l3 l4;refine Cr x.Aa (a1:=a3) ?_;generalize F6=F8;refine go ?_;intros;refine Be (Awl _ _ x.Aa F5 F8) fun _ _=>?_;refine go ?_;refine Dd rfl rfl (fun h=>?_) (fun h=>?_)
 ·exact absurd rfl h
 refine go ?_;refine Dd rfl rfl (fun h2=>?_) (fun h2=>?_)
 ·exact absurd rfl h2
 refine go ?_;refine Ay rfl (fun h3=>?_) (fun h3=>?_)
 ·exact absurd rfl h3
 refine go ?_;refine Dl [2,3,4] (fun k:Nat=>[(5,aa k)]) (fun k=>k<=x.holds.length) (fun k=>x.holds.length - k) 0 (aD _) fun k hk=>?_;refine go ?_;refine Ay rfl (fun h4=>?_) (fun h4=>?_)
 ·have hk3:k < x.holds.length:=EY
  refine Uy (a:=a2) (xs:=x.holds) k ?_;rintro hi b o e;rw [e];refine Uy (a:=a4) (xs:=x.holds) k ?_;rintro hi2 b2 o2 e2;rw [e2];refine Hy ?_;intros;refine Ar [0,1,2,3] [] ?_;refine C4 0 1 2 3 ?_;refine C4 4 5 6 7 ?_;refine Dh 8 9 ?_;refine dt 10 ?_ (hy:=Awr rfl rfl);exact CV
 ·exact AA
def Air (a a2:aj) (c c2:Nat) (xs:List As) (F F2:aq) (hl:xs.length<=1000000000):FV 68 [ab a xs.length c,ab a2 xs.length c2] [.sl Ak (ab a xs.length c) xs F,.sl Ak (ab a2 xs.length c2) xs F2] (.bool true):=by
 refine enter func68 rfl ntmps68 fun w0=>?_;refine go ?_;refine Ay rfl (fun h2=>?_) (fun h2=>?_)
 ·exact absurd rfl h2
 refine go ?_;refine Dl [0,1,4] (fun k:Nat=>[(5,aa k)]) (fun k=>k<=xs.length) (fun k=>xs.length - k) 0 (aD _) fun k hk=>?_;refine go ?_;refine Ay rfl (fun h3=>?_) (fun h3=>?_)
 ·have hk3:k < xs.length:=EY
  refine Pf (a:=a) (xs:=xs) k ?_;rintro hi b o e s1;rw [e];refine Pf (a:=a2) (xs:=xs) k ?_;rintro hi2 b2 o2 e2 s2;rw [e2];refine Hy ?_;intros;refine Ar [0,1] [] ?_;refine C4 0 1 2 3 ?_;refine C4 4 5 6 7 ?_;refine dt 8 ?_ (hy:=Ap2 rfl rfl);exact CV
 ·exact AA
def Bd7 (s:Ig) (w:World):(Op.equalIn 10000 223 (.agg #[.bool s.Uz,af s.Dk]) (.agg #[.bool s.Uz,af s.Dk])).run prog w=.ok true w:=by
 have u1:=underlying4;have u2:=underlying9;have hS:prog.underlying 223=some (.struct (prog.fieldsOf 223)):=FB
 rw [show (10000:Nat)=9999+1 from rfl,run_equalIn_agg w 9999 223 _ _ hS FB];have a1:=Tryz.isAgg4;have a2:=Tryz.isAgg9;simp only [Program.fieldsOf,underlying223]
 go_simp
def Aws {n:Nat} {fr:Fr} {H:List Pc} {x y:Operand} {ty t':TypeId} {s:Ig} (hx:ev fr x=some (.agg #[.bool s.Uz,af s.Dk])) (hy:ev fr y=some (.agg #[.bool s.Uz,af s.Dk])):Yd prog n fr H (.binOp .neq 223 x y t') ty (.bool false):=.mk fun c w d pos Cf gd hA _=>by
 have h2:(eqGuard .neq 223 x y (.agg #[.bool s.Uz,af s.Dk]) (.agg #[.bool s.Uz,af s.Dk])).run prog w=.ok () w:=run_eqGuard_agg w _ _ _ _ _ _ FB;simp only [execOp,hA.ev hx,hA.ev hy,Sem.run_bind,h2,Result.andThen_ok,run_neq_struct,Bd7,Sem.run_pure];rfl
def Bbi (v v2:Value) (x:Aj) (F F2:aq):FV 116 [v,v2] [.isv Bx v x F,.isv Bx v2 x F2] (.bool true):=by
 refine enter func116 rfl ntmps116 fun w0=>?_;refine Cq (v:=v) (x:=x) (F:=F) ?_;rintro a c F3 rfl l1;unfold maxLen at l1;refine Cq (v:=v2) (x:=x) (F:=F2) ?_;rintro a2 c2 F4 rfl l3;refine go ?_;intros;refine Dd rfl rfl (fun h=>?_) (fun h=>?_)
 ·exact absurd rfl h
 refine go ?_;refine Ay rfl (fun h2=>?_) (fun h2=>?_)
 ·exact absurd rfl h2
 refine go ?_;refine Dl [2,3,4] (fun k:Nat=>[(5,aa k)]) (fun k=>k<=x.Ao.length) (fun k=>x.Ao.length - k) 0 (aD _) fun k hk=>?_;refine go ?_;refine Ay rfl (fun h3=>?_) (fun h3=>?_)
 ·have hk3:k < x.Ao.length:=EY
  refine O9 (a:=a) (xs:=x.Ao) k ?_;rintro hi b o e s1;rw [e];refine O9 (a:=a2) (xs:=x.Ao) k ?_;rintro hi2 b2 o2 e2 s2;rw [e2];refine Hy ?_;intros;refine Ar [0,1,2,3] [] ?_;refine C4 0 1 2 3 ?_;refine C4 4 5 6 7 ?_;refine Dh 8 9 ?_;refine dt 10 ?_ (hy:=Aws rfl rfl);exact CV
 ·exact AA
structure A4 where
 Ae:Int
 state:Int
 Cm:Int
 Dw:Int
def Az:B8 A4 where
 sz:=4
 Mj _ cs x F:=cs=[aa x.Ae,aa x.state,aa x.Cm,aa x.Dw]/\F=[]
 len h:=by obtain ⟨rfl,rfl⟩:=h;rfl
 lt h:=by obtain ⟨rfl,rfl⟩:=h;simp
 frame h _:=h
def Dc:One Az:=fun h u hu=>by
 obtain ⟨rfl,rfl⟩:=h;simp only [aG,aT,bn] at hu;rcases hu with rfl|rfl|rfl|rfl
 ·rfl
 ·rfl
 ·rfl
 ·rfl
def D8:Abn Az:=fun h=>by obtain ⟨rfl,rfl⟩:=h;rfl
structure A8 where
 Bg:Bool
 Ai:Int
 Aa:Aj
 An:List A4
def Cb:B8 A8 where
 sz:=5
 Mj w cs x F:=∃v1 v2 F1 F2,cs=[.bool x.Bg,aa x.Ai,aa x.Aa.next,v1,v2]/\Sl C0 w v1 x.Aa.Ao F1/\Sl Az w v2 x.An F2/\F=F1++F2
 len h:=HP
 lt h:=by
  obtain ⟨v1,v2,F1,F2,rfl,h1,h2,rfl⟩:=h;intro b hb;simp only [aJ] at hb;rcases hb with hb|hb
  ·exact h1.lt EZ b hb
  ·exact h2.lt EZ b hb
 frame h hF:=FK
def B4:B8 A8 where
 sz:=5
 Mj w cs x F:=∃v1 v2 F1 F2,cs=[.bool x.Bg,aa x.Ai,aa x.Aa.next,v1,v2]/\Ow C0 223 w v1 x.Aa.Ao F1/\Ow Az 195 w v2 x.An F2/\F=F1++F2
 len h:=HP
 lt h:=by
  obtain ⟨v1,v2,F1,F2,rfl,h1,h2,rfl⟩:=h;intro b hb;simp only [aJ] at hb;rcases hb with hb|hb
  ·exact h1.lt b hb
  ·exact h2.lt b hb
 frame h hF:=FK
def Rl:One B4:=fun h u hu=>by
 obtain ⟨v1,v2,F1,F2,rfl,h1,h2,rfl⟩:=h;simp only [aG,aT,bn] at hu;rcases hu with rfl|rfl|rfl|rfl|rfl
 ·rfl
 ·rfl
 ·rfl
 ·exact h1.one
 ·exact h2.one
def Rn:M9 B4 Cb:=⟨rfl,fun h=>by
 obtain ⟨v1,v2,F1,F2,rfl,h1,h2,rfl⟩:=h;obtain ⟨G1,g1,k1⟩:=h1.sl (M9.refl _);obtain ⟨G2,g2,k2⟩:=h2.sl (M9.refl _);refine ⟨G1++G2,?_,v1,v2,G1,G2,rfl,k1,k2,rfl⟩;intro b hb;simp only [aJ] at hb ⊢;rcases hb with hb|hb
 ·simp [g1 b hb]
 ·simp [g2 b hb]⟩
section
variable {c:Cx} {fr:Fr} {H:List Pc} {Φ:Gl}
def Fm {v:Value} {x:A8} {F:aq} (h:∀(a1:aj) (c1:Nat) (F1:aq) (a2:aj) (c2:Nat) (F2:aq),v=.agg #[.bool x.Bg,aa x.Ai,aa x.Aa.next,ab a1 x.Aa.Ao.length c1,ab a2 x.An.length c2]->x.Aa.Ao.length<=maxLen->x.An.length<=maxLen->T c fr (.sl C0 (ab a1 x.Aa.Ao.length c1) x.Aa.Ao F1::.sl Az (ab a2 x.An.length c2) x.An F2::H) Φ) (hm:.isv Cb v x F∈H:=by exact Bp):T c fr H Φ:=.mk fun a w s g=>by
 exact AT
def D5 (x:A8) {a1:aj} {c1:Nat} {F1:aq} {a2:aj} {c2:Nat} {F2:aq}  (h:T c fr (.isv Cb (.agg #[.bool x.Bg,aa x.Ai,aa x.Aa.next,ab a1 x.Aa.Ao.length c1,ab a2 x.An.length c2]) x (F1++F2)::H) Φ) (m1:.sl C0 (ab a1 x.Aa.Ao.length c1) x.Aa.Ao F1∈H:=by exact Bp) (m2:.sl Az (ab a2 x.An.length c2) x.An F2∈H:=by exact Bp):T c fr H Φ:=.mk fun a w s g=>by
 refine h.h a w (s.add (N:=[_]) (Below.refl _ _) JA ⟨FA,trivial⟩ fun q hq b hb=>?_) g;obtain rfl:=aL.1 hq;simp only [Pc.F,aJ] at hb;rcases hb with hb|hb
 ·exact .inr ⟨rfl,_,m1,rfl,hb⟩
 ·exact .inr ⟨rfl,_,m2,rfl,hb⟩
def I2 {v:Value} {x:A8} {F:aq} {S:List Pc} (h:∀(a1:aj) (c1:Nat) (F1:aq) (a2:aj) (c2:Nat) (F2:aq),v=.agg #[.bool x.Bg,aa x.Ai,aa x.Aa.next,ab a1 x.Aa.Ao.length c1,ab a2 x.An.length c2]->x.Aa.Ao.length<=maxLen->x.An.length<=maxLen->T c fr (.ow C0 223 (ab a1 x.Aa.Ao.length c1) x.Aa.Ao F1::.ow Az 195 (ab a2 x.An.length c2) x.An F2::S) Φ) (hp:C1 H (.own B4 v x F) S:=by exact Do):T c fr H Φ:=.mk fun a w s g=>by
 obtain ⟨hn,cs,rfl,v1,v2,G1,G2,rfl,h1,h2,rfl⟩:=(s.pick hp).on (.own B4 v x F) FA;obtain ⟨a1,c1,rfl⟩:=h1.slice;have l1:=h1.len;obtain ⟨a2,c2,rfl⟩:=h2.slice;have l2:=h2.len;exact (h a1 c1 G1 a2 c2 G2 rfl  l1 l2).h a w (s.mer (M:=[.own B4 _ x _]) (N:=[.ow C0 _ _ _ G1,.ow Az _ _ _ G2]) (.cons hp .nil) (fun _ _=>⟨Qu ⟨(Ly hn),h1⟩ (Qu ⟨Ab5 hn,h2⟩ (Asl)),FZ⟩) GK) g
def Kw (x:A8) {a1:aj} {c1:Nat} {F1:aq} {a2:aj} {c2:Nat} {F2:aq} {S1 S2:List Pc}  (h:T c fr (.own B4 (.agg #[.bool x.Bg,aa x.Ai,aa x.Aa.next,ab a1 x.Aa.Ao.length c1,ab a2 x.An.length c2]) x (F1++F2)::S2) Φ) (m1:C1 H (.ow C0 223 (ab a1 x.Aa.Ao.length c1) x.Aa.Ao F1) S1:=by exact Do) (m2:C1 S1 (.ow Az 195 (ab a2 x.An.length c2) x.An F2) S2:=by exact Do)  : T c fr H Φ:=.mk fun a w s g =>
 h.h a w (s.mer (M:=[.ow C0 _ _ _ F1,.ow Az _ _ _ F2]) (N:=[.own B4 _ x (F1++F2)]) (.cons m1 (.cons m2 (.nil))) (fun hk hn=>⟨I6 ⟨FZ,_,rfl,_,_,_,_,rfl,(Qv hk).2,(Qv (H8 hk)).2,rfl⟩,FZ⟩) GK) g
def Jl {a:aj} {n cp:Nat} {xs:List A8} {F:aq} (i:Nat) (h:∀(hi:i < xs.length) (b o:Nat) (a1:aj) (c1:Nat) (F1:aq) (a2:aj) (c2:Nat) (F2:aq),a=some ⟨b,o,none⟩->xs[i].Aa.Ao.length<=maxLen->xs[i].An.length<=maxLen->T c fr (.cel b (o+i * 5) [.bool xs[i].Bg,aa xs[i].Ai,aa xs[i].Aa.next,.slice a1 xs[i].Aa.Ao.length c1,.slice a2 xs[i].An.length c2]::.sl C0 (.slice a1 xs[i].Aa.Ao.length c1) xs[i].Aa.Ao F1::.sl Az (.slice a2 xs[i].An.length c2) xs[i].An F2::H) Φ) (hm:.sl Cb (ab a n cp) xs F∈H:=by exact Bp) (hi:i < xs.length:=by omega):T c fr H Φ:=.mk fun ac w s g=>by
 obtain ⟨b,o,cs,G,ha,hrep,hG,hb,hne,hr⟩:=Xu (s.get hm) i hi;obtain ⟨v1,v2,G1,G2,rfl,h1,h2,rfl⟩:=hrep;obtain ⟨a1,c1,rfl⟩:=h1.slice;have l1:=h1.len;obtain ⟨a2,c2,rfl⟩:=h2.slice;have l2:=h2.len;have t2:=s.ro (p:=.sl _ _ _ _) hm rfl rfl ⟨EZ,h2⟩ HL;have t1:=t2.ro (p:=.sl _ _ _ _) (aQ _ hm) rfl rfl ⟨EZ,h1⟩ HL
 exact (h hi b o a1 c1 G1 a2 c2 G2 ha  l1 l2).h ac w (t1.ro (aQ _ (aQ _ hm)) rfl rfl ⟨hne,hr⟩ GF) g
end
section
variable {c:Cx} {fr:Fr} {H:List Pc} {Φ:Gl}
def Iq {a:aj} {n cp:Nat} {xs:List A4} {F:aq} (i:Nat) (h:∀(hi:i < xs.length) (b o:Nat),a=some ⟨b,o,none⟩->T c fr (.cel b (o+i * 4) [aa xs[i].Ae,aa xs[i].state,aa xs[i].Cm,aa xs[i].Dw]::H) Φ) (hm:.sl Az (ab a n cp) xs F∈H:=by exact Bp) (hi:i < xs.length:=by omega):T c fr H Φ:=.mk fun ac w s g=>by
 exact CQ
def Agz {t:TypeId} {a:aj} {n cp:Nat} {xs:List A4} {F:aq} {S:List Pc} (i:Nat) (h:∀(_:i < xs.length) g A B,a=some ⟨g,0,none⟩->F=[g]->Aw3 Az t g (ab (some ⟨g,0,none⟩) n cp) xs i A B->T c fr (.row g t (0+i * 4) A [aa xs[i].Ae,aa xs[i].state,aa xs[i].Cm,aa xs[i].Dw] B::S) Φ) (hp:C1 H (.ow Az t (ab a n cp) xs F) S:=by exact Do) (hi:i < xs.length:=by omega):T c fr H Φ :=
 Q4 D8 i (fun hi g A cs B ha hF hr hh=>by obtain ⟨rfl, -⟩:=hr default;exact h hi g A B ha hF  hh) hp rfl hi
def Ob (x:A4)  (w:World):Cw Az w [aa x.Ae,aa x.state,aa x.Cm,aa x.Dw] [x] []:=⟨_,[],[],[],FA,FA,⟨rfl,rfl⟩,rfl,rfl⟩
end
def Arf (s:A4) (w:World):(Op.equalIn 10000 195 (.agg #[aa s.Ae,aa s.state,aa s.Cm,aa s.Dw]) (.agg #[aa s.Ae,aa s.state,aa s.Cm,aa s.Dw])).run prog w=.ok true w:=by
 have u0:=underlying3;have a0:=Tryz.isAgg3;have hS:prog.underlying 195=some (.struct (prog.fieldsOf 195)):=FB
 rw [show (10000:Nat)=9999+1 from rfl,run_equalIn_agg w 9999 195 _ _ hS FB];simp only [Program.fieldsOf,underlying195]
 go_simp
def Amw {n:Nat} {fr:Fr} {H:List Pc} {x y:Operand} {ty t':TypeId} {s:A4} (hx:ev fr x=some (.agg #[aa s.Ae,aa s.state,aa s.Cm,aa s.Dw])) (hy:ev fr y=some (.agg #[aa s.Ae,aa s.state,aa s.Cm,aa s.Dw])):Yd prog n fr H (.binOp .neq 195 x y t') ty (.bool false):=.mk fun c w d pos Cf gd hA _=>by
 have h2:(eqGuard .neq 195 x y (.agg #[aa s.Ae,aa s.state,aa s.Cm,aa s.Dw]) (.agg #[aa s.Ae,aa s.state,aa s.Cm,aa s.Dw])).run prog w=.ok () w:=run_eqGuard_agg w _ _ _ _ _ _ FB;simp only [execOp,hA.ev hx,hA.ev hy,Sem.run_bind,h2,Result.andThen_ok,run_neq_struct,Arf,Sem.run_pure];rfl
def Apv (a a2:aj) (c c2:Nat) (xs:List A4) (F F2:aq) (hl:xs.length<=9223372036854775807):FV 117 [ab a xs.length c,ab a2 xs.length c2] [.sl Az (ab a xs.length c) xs F,.sl Az (ab a2 xs.length c2) xs F2] (.bool true):=by
 refine enter func117 rfl ntmps117 fun w0=>?_;refine go ?_;refine Ay rfl (fun h2=>?_) (fun h2=>?_)
 ·exact absurd rfl h2
 refine go ?_;refine Dl [0,1,4] (fun k:Nat=>[(5,aa k)]) (fun k=>k<=xs.length) (fun k=>xs.length - k) 0 (aD _) fun k hk=>?_;refine go ?_;refine Ay rfl (fun h3=>?_) (fun h3=>?_)
 ·have hk3:k < xs.length:=EY
  refine Iq (a:=a) (xs:=xs) k ?_;rintro hi b o e;rw [e];refine Iq (a:=a2) (xs:=xs) k ?_;rintro hi2 b2 o2 e2;rw [e2];refine Hy ?_;intros;refine Ar [0,1] [] ?_;refine C4 0 1 2 3 ?_;refine C4 4 5 6 7 ?_;refine dt 8 ?_ (hy:=Amw rfl rfl);exact CV
 ·exact AA
def Apu (v v2:Value) (x:A8) (F F2:aq):FV 67 [v,v2] [.isv Cb v x F,.isv Cb v2 x F2] (.bool true):=by
 refine enter func67 rfl ntmps67 fun w0=>?_;refine Fm (v:=v) (x:=x) (F:=F) ?_;rintro a1 c1 F3 a2 c2 F4 rfl l1 l2;unfold maxLen at l1 l2;refine Ch x.Aa (a1:=a1) ?_;generalize F3=F5;refine Fm (v:=v2) (x:=x) (F:=F2) ?_;rintro a3 c3 F6 a4 c4 F7 rfl l3 l4;refine Ch x.Aa (a1:=a3) ?_;generalize F6=F8;cases hs:x.Bg
 all_goals
  refine go ?_;intros;refine Dd rfl rfl (fun h=>?_) (fun h=>?_)
  rotate_left
  ·exact absurd rfl h
  refine go ?_;refine Be (Bbi _ _ x.Aa F5 F8) fun _ _=>?_;refine go ?_;refine Be (Apv a2 a4 c2 c4 x.An F4 F7 EY) fun _ _=>?_;exact AA
structure Hk where
 Ae:Int
 Bl:ar
 Cm:Int
def D9:B8 Hk where
 sz:=3
 Mj w cs x F:=∃v1,cs=[aa x.Ae,v1,aa x.Cm]/\Sl Bc w v1 x.Bl F
 len h:=GT
 lt h:=GS
 frame h hF:=FX
def Wy:One D9:=fun h u hu=>by
 obtain ⟨v1,rfl,h1⟩:=h;simp only [aG,aT,bn] at hu;rcases hu with rfl|rfl|rfl
 ·rfl
 ·exact h1.one
 ·rfl
def Aax:(prog.info? 167).map (fun i=>(i.zero,i.size,i.bytes))=some (some (.agg #[aa 0,ab none 0 0,aa 0]),3,40):=FB
def Ex:B8 Hk where
 sz:=3
 Mj w cs x F:=∃v1,cs=[aa x.Ae,v1,aa x.Cm]/\Ow Bc 3 w v1 x.Bl F
 len h:=GT
 lt h:=KQ
 frame h hF:=FX
def T9:One Ex:=fun h u hu=>by
 obtain ⟨v1,rfl,h1⟩:=h;simp only [aG,aT,bn] at hu;rcases hu with rfl|rfl|rfl
 ·rfl
 ·exact h1.one
 ·rfl
def Rg:M9 Ex D9:=⟨rfl,fun h=>by
 obtain ⟨v1,rfl,h1⟩:=h;obtain ⟨G1,g1,k1⟩:=h1.sl (M9.refl _);exact ⟨G1,g1,v1,rfl,k1⟩⟩
structure Bj where
 Ai:Int
 Ah:List Hk
def Bz:B8 Bj where
 sz:=2
 Mj w cs x F:=∃v1,cs=[aa x.Ai,v1]/\Sl D9 w v1 x.Ah F
 len h:=GT
 lt h:=GS
 frame h hF:=FX
def Al9:One Bz:=fun h u hu=>by
 obtain ⟨v1,rfl,h1⟩:=h;simp only [aG,aT,bn] at hu;rcases hu with rfl|rfl
 ·rfl
 ·exact h1.one
def Cc:B8 Bj where
 sz:=2
 Mj w cs x F:=∃v1,cs=[aa x.Ai,v1]/\Ow Ex 167 w v1 x.Ah F
 len h:=GT
 lt h:=KQ
 frame h hF:=FX
def S9:One Cc:=fun h u hu=>by
 obtain ⟨v1,rfl,h1⟩:=h;simp only [aG,aT,bn] at hu;rcases hu with rfl|rfl
 ·rfl
 ·exact h1.one
def Kr:M9 Cc Bz:=⟨rfl,fun h=>by
 obtain ⟨v1,rfl,h1⟩:=h;obtain ⟨G1,g1,k1⟩:=h1.sl Rg;exact ⟨G1,g1,v1,rfl,k1⟩⟩
section
variable {c:Cx} {fr:Fr} {H:List Pc} {Φ:Gl}
def Ee {v:Value} {x:Bj} {F:aq} (h:∀(a1:aj) (c1:Nat) (F1:aq),v=.agg #[aa x.Ai,ab a1 x.Ah.length c1]->x.Ah.length<=maxLen->T c fr (.sl D9 (ab a1 x.Ah.length c1) x.Ah F1::H) Φ) (hm:.isv Bz v x F∈H:=by exact Bp):T c fr H Φ:=.mk fun a w s g=>by
 exact AI
def E5 (x:Bj) {a1:aj} {c1:Nat} {F1:aq}  (h:T c fr (.isv Bz (.agg #[aa x.Ai,ab a1 x.Ah.length c1]) x (F1)::H) Φ) (m1:.sl D9 (ab a1 x.Ah.length c1) x.Ah F1∈H:=by exact Bp):T c fr H Φ:=.mk fun a w s g=>by
 exact AE
def Ih {v:Value} {x:Bj} {F:aq} {S:List Pc} (h:∀(a1:aj) (c1:Nat) (F1:aq),v=.agg #[aa x.Ai,ab a1 x.Ah.length c1]->x.Ah.length<=maxLen->T c fr (.ow Ex 167 (ab a1 x.Ah.length c1) x.Ah F1::S) Φ) (hp:C1 H (.own Cc v x F) S:=by exact Do):T c fr H Φ:=.mk fun a w s g=>by
 have z1:=s.pick hp;obtain ⟨hn,cs,rfl,v1,rfl,h1⟩:=z1.on (.own Cc v x F) FA;obtain ⟨a1,c1,rfl⟩:=h1.slice;have l1:=h1.len;refine (h a1 c1 F rfl  l1).h a w (St.turn (M:=[.own Cc (.agg #[aa x.Ai,ab a1 x.Ah.length c1]) x _]) (N:=[.ow Ex 167 (ab a1 x.Ah.length c1) x.Ah F]) z1 (Ek.refl _ w) ?_ ?_ ?_) g
 ·intro q hq;simp at hq;subst hq;exact ⟨hn,h1⟩
 ·exact ⟨FA,trivial⟩
 ·exact DN
def Hi (x:Bj) {a1:aj} {c1:Nat} {F1:aq} {S1:List Pc}  (h:T c fr (.own Cc (.agg #[aa x.Ai,ab a1 x.Ah.length c1]) x (F1)::S1) Φ) (m1:C1 H (.ow Ex 167 (ab a1 x.Ah.length c1) x.Ah F1) S1:=by exact Do)  : T c fr H Φ:=.mk fun a w s g=>by
 have z1:St c.G c.D c.w0 ([.ow Ex 167 (ab a1 x.Ah.length c1) x.Ah F1]++S1) w:=by simpa using (show Kv H [.ow Ex 167 (ab a1 x.Ah.length c1) x.Ah F1] S1 from Kv.cons m1 (Kv.nil)).st (X:=[]) HW
 obtain ⟨n1,k1⟩:=z1.on (.ow Ex 167 (ab a1 x.Ah.length c1) x.Ah F1) FA;have hN:=n1;refine h.h a w (St.turn (M:=[.ow Ex 167 (ab a1 x.Ah.length c1) x.Ah F1]) (N:=[.own Cc (.agg #[aa x.Ai,ab a1 x.Ah.length c1]) x (F1)]) z1 (Ek.refl _ w) (by intro q hq;simp at hq;subst hq;exact ⟨hN,_,rfl,_,rfl,k1⟩) ⟨FA,trivial⟩ fun q hq b hb=>?_) g;simp at hq;subst hq;simp only [Pc.F,aJ] at hb;exact .inr (.inl ⟨_,aL.2 rfl,rfl,hb⟩)
def Oo {a:aj} {n cp:Nat} {xs:List Bj} {F:aq} (i:Nat) (h:∀(hi:i < xs.length) (b o:Nat) (a1:aj) (c1:Nat) (F1:aq),a=some ⟨b,o,none⟩->xs[i].Ah.length<=maxLen->T c fr (.cel b (o+i * 2) [aa xs[i].Ai,.slice a1 xs[i].Ah.length c1]::.sl D9 (.slice a1 xs[i].Ah.length c1) xs[i].Ah F1::H) Φ) (hm:.sl Bz (ab a n cp) xs F∈H:=by exact Bp) (hi:i < xs.length:=by omega):T c fr H Φ:=.mk fun ac w s g=>by
 exact AX
end
section
variable {c:Cx} {fr:Fr} {H:List Pc} {Φ:Gl}
def Ako {v:Value} {x:Hk} {F:aq} (h:∀(a1:aj) (c1:Nat) (F1:aq),v=.agg #[aa x.Ae,ab a1 x.Bl.length c1,aa x.Cm]->x.Bl.length<=maxLen->T c fr (.sl Bc (ab a1 x.Bl.length c1) x.Bl F1::H) Φ) (hm:.isv D9 v x F∈H:=by exact Bp):T c fr H Φ:=.mk fun a w s g=>by
 exact AI
def Tw (x:Hk) {a1:aj} {c1:Nat} {F1:aq}  (h:T c fr (.isv D9 (.agg #[aa x.Ae,ab a1 x.Bl.length c1,aa x.Cm]) x (F1)::H) Φ) (m1:.sl Bc (ab a1 x.Bl.length c1) x.Bl F1∈H:=by exact Bp):T c fr H Φ:=.mk fun a w s g=>by
 exact AE
def Aa8 {v:Value} {x:Hk} {F:aq} {S:List Pc} (h:∀(a1:aj) (c1:Nat) (F1:aq),v=.agg #[aa x.Ae,ab a1 x.Bl.length c1,aa x.Cm]->x.Bl.length<=maxLen->T c fr (.ow Bc 3 (ab a1 x.Bl.length c1) x.Bl F1::S) Φ) (hp:C1 H (.own Ex v x F) S:=by exact Do):T c fr H Φ:=.mk fun a w s g=>by
 have z1:=s.pick hp;obtain ⟨hn,cs,rfl,v1,rfl,h1⟩:=z1.on (.own Ex v x F) FA;obtain ⟨a1,c1,rfl⟩:=h1.slice;have l1:=h1.len;refine (h a1 c1 F rfl  l1).h a w (St.turn (M:=[.own Ex (.agg #[aa x.Ae,ab a1 x.Bl.length c1,aa x.Cm]) x _]) (N:=[.ow Bc 3 (ab a1 x.Bl.length c1) x.Bl F]) z1 (Ek.refl _ w) ?_ ?_ ?_) g
 ·intro q hq;simp at hq;subst hq;exact ⟨hn,h1⟩
 ·exact ⟨FA,trivial⟩
 ·exact DN
def Py (x:Hk) {a1:aj} {c1:Nat} {F1:aq} {S1:List Pc}  (h:T c fr (.own Ex (.agg #[aa x.Ae,ab a1 x.Bl.length c1,aa x.Cm]) x (F1)::S1) Φ) (m1:C1 H (.ow Bc 3 (ab a1 x.Bl.length c1) x.Bl F1) S1:=by exact Do)  : T c fr H Φ:=.mk fun a w s g=>by
 have z1:St c.G c.D c.w0 ([.ow Bc 3 (ab a1 x.Bl.length c1) x.Bl F1]++S1) w:=by simpa using (show Kv H [.ow Bc 3 (ab a1 x.Bl.length c1) x.Bl F1] S1 from Kv.cons m1 (Kv.nil)).st (X:=[]) HW
 obtain ⟨n1,k1⟩:=z1.on (.ow Bc 3 (ab a1 x.Bl.length c1) x.Bl F1) FA;have hN:=n1;refine h.h a w (St.turn (M:=[.ow Bc 3 (ab a1 x.Bl.length c1) x.Bl F1]) (N:=[.own Ex (.agg #[aa x.Ae,ab a1 x.Bl.length c1,aa x.Cm]) x (F1)]) z1 (Ek.refl _ w) (by intro q hq;simp at hq;subst hq;exact ⟨hN,_,rfl,_,rfl,k1⟩) ⟨FA,trivial⟩ fun q hq b hb=>?_) g;simp at hq;subst hq;simp only [Pc.F,aJ] at hb;exact .inr (.inl ⟨_,aL.2 rfl,rfl,hb⟩)
def Sw {a:aj} {n cp:Nat} {xs:List Hk} {F:aq} (i:Nat) (h:∀(hi:i < xs.length) (b o:Nat) (a1:aj) (c1:Nat) (F1:aq),a=some ⟨b,o,none⟩->xs[i].Bl.length<=maxLen->T c fr (.cel b (o+i * 3) [aa xs[i].Ae,.slice a1 xs[i].Bl.length c1,aa xs[i].Cm]::.sl Bc (.slice a1 xs[i].Bl.length c1) xs[i].Bl F1::H) Φ) (hm:.sl D9 (ab a n cp) xs F∈H:=by exact Bp) (hi:i < xs.length:=by omega):T c fr H Φ:=.mk fun ac w s g=>by
 exact AX
end
def Sf (fid:FuncId) (hbd:Zw prog fid) (caps:Array Value) (v:Value) (xs:List Hk) (F:aq) (p:Hk->Bool) (w:World) (h:Sl D9 w v xs F)
  (hp:∀(k:Nat) (hk:k < xs.length) (wr:World) (u:Value) (G:aq),Below w.heap.size w wr->Su D9 wr u xs[k] G->Calls prog fid (#[u]++caps) wr fun e w'=>e=.returned (.bool (p xs[k]))/\Below wr.heap.size wr w') :
  Calls prog 295 #[v,.func (.func fid) #[] caps] w (RB (aa (Si p xs)) w):=by
 obtain ⟨a,cap,rfl⟩:=h.slice;have hl:=h.len;unfold maxLen at hl
 go_enter func295,ntmps295
 go_wp2
 go_loopw [5,8] (fun _ i wr=>∃k:Nat,k<=xs.length/\i=aa k/\Hid (∀j,j < k->∀hj:j < xs.length,p xs[j]=false)/\Below w.heap.size w wr) (fun _ i _=>xs.length - (intOf i).toNat)
 case atStart=>exact ⟨0,aD _,rfl,fun j hj=>by omega,Below.refl _ _⟩
 case round =>
  obtain ⟨k,hk,rfl,hz,hB⟩:=hrel;by_cases hlt:k < xs.length
  ·have hz0:=hz;clear hz;obtain ⟨b,off,_,F1,rfl,hx, -,ja⟩:=(h.below EZ hB).at k hlt;obtain ⟨v1,rfl,h1⟩:=id hx;have a0:=ja 0 EZ;have a1:=ja 1 EZ;have a2:=ja 2 EZ;simp only [show D9.sz=3 from rfl,cV,bT,bM,bH] at a0 a1 a2;clear ja;have hr:=hp k hlt wr _ F1 hB ⟨_,rfl,hx⟩;have hp:=Lib.hid hp;cases hpk:p xs[k]
   all_goals
    rw [hpk] at hr;have hpk:=Lib.hid hpk;have hr:=Lib.hid hr;go_wp2_with fail;refine hbd.upon hr.out ?_;rintro e w1 ⟨rfl,hb1⟩;refine ⟨_,rfl,?_⟩;have hB:=tr hB hb1 (aK _);clear hb1;go_wp2_with fail
   ·exact AV
   ·go_ret
    exact EL
  ·go_wp2
   go_ret
   exact DI
def Aak (fid:FuncId) (hbd:Zw prog fid) (caps:Array Value) (v:Value) (xs:List Hk) (F:aq) (p:Hk->Bool) (w:World) (h:Sl D9 w v xs F)
  (hp:∀(k:Nat) (hk:k < xs.length) (wr:World) (u:Value) (G:aq),Below w.heap.size w wr->Su D9 wr u xs[k] G->Calls prog fid (#[u]++caps) wr fun e w'=>e=.returned (.bool (p xs[k]))/\Below wr.heap.size wr w') :
  Calls prog 255 #[v,.func (.func fid) #[] caps] w (RB (.bool (xs.any p)) w):=by
 have hp:=Lib.hid hp
 go_enter func255,ntmps255
 go_wp2_with fail;refine (Sf fid hbd caps v xs F p _ h hp.out).mono ?_;rintro e w1 ⟨rfl,hb1⟩;go_wp2_with fail
 go_ret
 exact ⟨Cs (Ty p xs),hb1⟩
def Amz (v:Value) (xs:List Hk) (F:aq) (w:World) (h:Sl D9 w v xs F) (hm:xs.length<=4294967296) :
  Calls prog 142 #[v] w fun e w'=>∃v' F',e=.returned v'/\Ow D9 167 w' v' xs F'/\Hd F'/\(∀b,v'.ownBlock=some b->w.heap.size<=b)/\(∀b∈F',v'.ownBlock=some b\/b∈F)/\Below w.heap.size w w':=by
 obtain ⟨ao,c,news,Fy,rfl,hl,hfy,hFy,hsrc⟩:=h.src;have hFl:=hfy.lt;have he:=fun w (a:aj) (n c:Nat)=>Lib.run_eql_slice_nil (P:=prog) w 109 _ a n c 0 0 underlying109
 go_enter func142,ntmps142
 rcases hsrc with ⟨rfl,rfl,rfl⟩|⟨ad,rfl,hn⟩
 ·go_wp2
  go_ret
  exact ⟨ab none 0 0,[],rfl,.inl ⟨rfl,rfl,rfl⟩,Hd.nil,(fun b e=>by simp [Value.ownBlock] at e),FA,Below.refl _ _⟩
 ·go_wp2_with (at_builtin;refine Pw Wy EZ FL _ _ _ FL 167 (.agg #[aa 0,ab none 0 0,aa 0]) 40 underlying109 Aax rfl (ab (some ⟨w.heap.size,0,none⟩) 0 0) [] [w.heap.size] FL (Ow.empty (Ip.made _ _ _)) (Hd.one _) (some ad) xs c FL news Fy (hfy.frame fun b hb=>Below.heap_alloc _ _ _ (hFl b hb)) (.inr ⟨ad,rfl,fun j u hu=>kc ((Below.refl _ _).alloc (aK _) _) (hn j u hu)⟩) (fun b hb e=>by have:=hFl b hb;simp [Value.ownBlock] at e;omega) GY GU ?_);intro v2 w2 F2 hA;go_wp2_with fail
  go_ret
  have hB:Below w.heap.size w w2:=((Below.refl _ _).alloc (aK _) _).trans (hA.Je.below FA FA);have hs:∀b,v2.ownBlock=some b->w.heap.size<=b:=fun b hb=>by rcases hA.Arl with e|e <;> rw [e] at hb <;> simp [Value.ownBlock] at hb <;> omega
  refine ⟨v2,F2,rfl,IR,hA.hd,hs,fun b hb=>?_,hB⟩;rw [hA.Bje [] (by simp [Value.ownBlock])] at hb;simp at hb;rcases hb with hb|hb
  ·exact .inl hb
  ·exact .inr (hFy b hb)
def Acy (fid:FuncId) (hbd:Zw prog fid) (caps:Array Value) (v:Value) (xs:List Hk) (F:aq) (p:Hk->Bool) (w:World) (h:Ow Ex 167 w v xs F) (hn:F.Nodup)
  (hp:∀(k:Nat) (hk:k < xs.length) (wr:World) (u:Value) (G:aq),Ek F w wr->Su D9 wr u xs[k] G->Calls prog fid (#[u]++caps) wr fun e w'=>e=.returned (.bool (p xs[k]))/\Below wr.heap.size wr w') :
  Calls prog 283 #[v,.func (.func fid) #[] caps] w fun e w'=>∃v' F',e=.returned v'/\Ow Ex 167 w' v' (xs.filter fun x=>!p x) F'/\F'.Nodup/\(∀b∈F',b∈F)/\Ek F w w':=by
 obtain ⟨F1,hF1,hs⟩:=h.sl Rg;obtain ⟨a,cap,rfl⟩:=h.slice;have hl:=h.len;unfold maxLen at hl;have hp:=Lib.hid hp
 go_enter func283,ntmps283
 go_wp2_with fail;refine (Sf fid hbd caps _ xs F1 p _ hs (fun k hk wr u G hb hu=>hp.out k hk wr u G (Ek.ofBelow hb) hu)).mono ?_;rintro e w1 ⟨rfl,hb1⟩;have hK1:=Ek.ofBelow (F:=F) hb1;by_cases hany:xs.any p=true
 ·obtain ⟨k0,hk0,hfx,hpk,hfl⟩:=Zi hany;rw [hfx];obtain ⟨g,rfl, -,hg0⟩:=Gap.start (h.below hb1) hn (ys:=xs.take k0) (zs:=xs[k0]::xs.drop (k0+1)) FA EY;obtain ⟨F0,hg0,hF0⟩:=hg0.skip;have hG0:=Lib.hid hg0;clear hg0;have hk1:((k0:Int) == -1)=false:=FA
  go_wp2_with fail
  go_loopw [5,6,7] (fun i j _ wr=>∃(q m:Nat) (F1:aq),q<=xs.length/\0 < m/\((xs.take q).filter fun x=>!p x).length+m=q/\i=aa ((xs.take q).filter fun x=>!p x).length/\j=aa q/\Hid (Gap Ex 167 wr g xs.length cap ((xs.take q).filter fun x=>!p x) m (xs.drop q) F1)/\(∀b∈F1,b∈F)/\Ek F w wr) (fun _ j _ _=>xs.length - (intOf j).toNat)
  case atStart=>exact ⟨k0+1,1,F0,hk0,EY,HJ,HJ,HT,by rw [Db hk0 KK,hfl];exact hG0,hF0,hK1⟩
  case round =>
   obtain ⟨q,m,F1,hq,hm,hlen,rfl,rfl,hG,hF1,hK⟩:=hrel;obtain ⟨-,hcap, -⟩:=hG.out.caps;generalize hys:((xs.take q).filter fun x=>!p x)=ys at *;by_cases hlt:q < xs.length
   ·rw [bF hlt] at hG;obtain ⟨c,Fx,hx,hFx,hcell⟩:=hG.out.first
    obtain ⟨Fx2, -,hxe⟩:=Rg.Mj hx;obtain ⟨v1,rfl,h1⟩:=id hx;obtain ⟨d1,p1,rfl⟩:=h1.slice;have a0:=hcell 0 EZ;have a1:=hcell 1 EZ;have a2:=hcell 2 EZ;simp only [hlen,show Ex.sz=3 from rfl,cV,bT,bM,bH] at a0 a1 a2;have hr:=fun A=>hp.out q hlt (wr.alloc A) _ Fx2 (hK.alloc A) ⟨_,rfl,D9.below hxe ((Below.refl wr.heap.size wr).alloc (aK _) A)⟩;cases hpq:p xs[q]
    ·obtain ⟨st,c2,Fx3,hx3, -,hcell2,back⟩:=hG.out.move hm;simp only [hpq] at hr;obtain rfl:=Ah8 (Ex.len hx) (Ex.len hx3) hcell hcell2;have st:=st;obtain ⟨⟨x0,z0⟩,g0⟩:=st 0 EZ;obtain ⟨⟨x1,z1⟩,g1⟩:=st 1 EZ;obtain ⟨⟨x2,z2⟩,g2⟩:=st 2 EZ;simp only [show Ex.sz=3 from rfl,cV,bT] at z0 g0 z1 g1 z2 g2;have hr:=Lib.hid hr;have hbk:=Lib.hid back;have hpq:=Lib.hid hpq;have hys:=Lib.hid hys;have hlen:=Lib.hid hlen;have hyl:ys.length < xs.length:=by have:=hlen.out;omega
     clear hx hxe hcell hcell2 hx3 back st hfx hpk hfl;go_wp2_with fail;refine hbd.upon (hr.out _) ?_;rintro e w2 ⟨rfl,hb2⟩;refine ⟨_,rfl,?_⟩;have b2:=(Ip.below (g:=wr.heap.size) (t:=167) (cs:=[aa xs[q].Ae,.slice d1 xs[q].Bl.length p1,aa xs[q].Cm]) (by simp [Jr]) hb2).cells;have hbb:=tr ((Below.refl wr.heap.size wr).alloc (aK _) _) hb2 (aK _);clear hb2;have g0:=(kf hbb z0).trans g0;have z0:=kc hbb z0;have g1:=(kf hbb z1).trans g1;have z1:=kc hbb z1;have g2:=(kf hbb z2).trans g2;have z2:=kc hbb z2;obtain ⟨F2,hg2,hF2⟩:=hbk.out w2 hbb
     simp only [Oj,show Ex.sz=3 from rfl,cV] at hg2;have hg2:=Lib.hid hg2;have hgF:g∈F:=hF1 g hG.out.caps.2.2.2.2.1;go_wp2_with fail;exact ⟨⟨q+1,m,F2,EY,hm,KM,by rw [Hj hlt IZ,hys.out,aA];go_num,HT,by rw [Hj hlt IZ,hys.out];exact hg2.out,fun b hb=>hF1 b (hF2 b hb),KH⟩,GJ⟩
    ·obtain ⟨F2,hg2,hF2⟩:=hG.out.skip;simp only [hpq] at hr;have hr:=Lib.hid hr;have hg2:=Lib.hid hg2;have hpq:=Lib.hid hpq;have hys:=Lib.hid hys;have hlen:=Lib.hid hlen;clear hx hxe hcell hfx hpk hfl;go_wp2_with fail;refine hbd.upon (hr.out _) ?_;rintro e w2 ⟨rfl,hb2⟩;refine ⟨_,rfl,?_⟩;have hbb:=tr ((Below.refl wr.heap.size wr).alloc (aK _) _) hb2 (aK _);clear hb2;go_wp2_with fail
     exact BQ
   ·have hqe:q=xs.length:=EY
    subst hqe;simp only [List.drop_length,bj] at hG hys;obtain ⟨hc,F2,ho2,hn2,hF2⟩:=hG.out.done (z:=#[aa 0,ab none 0 0,aa 0]) rfl;have hmm:xs.length - ys.length=m:=EY
    have hcl:=fun ty=>Uc (P:=prog) wr 109 167 ty (.agg #[aa 0,ab none 0 0,aa 0]) underlying109 (Xl Aax) (by simp [Value.cells,Value.oneCell']) g (ys.length * 3) m (cap - ys.length) hm (fun j hj=>(hc j hj).1) (fun j hj=>(hc j hj).2);have hyl:ys.length < xs.length:=EY
    have hgF:g∈F:=hF1 g hG.out.caps.2.2.2.2.1;have hO:=Lib.hid ho2;have hlen:=Lib.hid hlen;have hys:=Lib.hid hys;clear ho2 hc hfx hpk hfl;go_wp2_with fail
    go_ret
    exact DE
 ·obtain ⟨hfx,hfl⟩:=Abv hany;rw [hfx];go_wp2_with fail
  go_ret
  exact ⟨_,F,rfl,by rw [hfl];exact h.below hb1,hn,fun b hb=>hb,hK1⟩
section
variable {c:Cx} {fr:Fr} {H:List Pc} {k:List It} {Φ:Gl} {ops:Array Oper} {o:Op} {d:Nat} {v:Value} {ty:TypeId} {pos:String} {Cf:Array Edge} {H0:List Pc} {X:aq} {f:Nat} {listed:Array Bool}
def dsI {id:Nat} {l:List Oper} (H0:List Pc) (X:aq) (h:T c fr H (.dx k H0 X l.toArray l.length (Array.replicate l.length false))) (hm:c.P.follows .mixedOrders=true:=by kernel_rfl):T c fr H (.By k (Code.region id l.toArray true)):=.mk fun a w s g=>by
 exact DV
def dtI (i:Nat) (hI:∀w,O8 H w->O8 H0 w) (h:T c ((d,v)::fr) H (.dx k H0 X ops f (listed.setIfInBounds i true))) (ho:ops[i]?=some ⟨some d,o,ty,pos,Cf,none⟩:=by rw [aO];rfl) (hy:Yd c.P c.n fr H0 o ty v:=by exact ydE)
  (h1:Region.noSelect ops=true:=by kernel_rfl) (h2:Region.free .any ops listed i=true:=by kernel_rfl) (h3:(Region.ready .any ops listed).contains i=true:=by kernel_rfl) (h4:Mc .any ops (fun i=>X.contains i) i=true:=by kernel_rfl) (h5:Na .any ops listed=true:=by kernel_rfl) (hR:X2 c:=by exact Aad) (hd:Nat.blt d c.n=true:=by rfl) :
  T c fr H (.dx k H0 X ops (f+1) listed):=.mk fun a w s g =>
 E7.take (v:=v) ho h1 h2 h3 h4 h5 (fun ch a w hp=>by rw [Mz] at hp ⊢;exact hR _ _ _ _ _ hp) (.inl ⟨rfl,fun w' hw'=>hy.h a w' _ _ _ _ g hw'⟩) (hI w s.on) (h.h _ _ s (g.put hd))
def dkI {i:Nat} (hI:∀w,O8 H w->O8 H0 w) (h:T c fr H (.dx k H0 X ops f listed)):T c fr H (.dk i k H0 X ops f listed):=.mk fun a w s g=>⟨fun _=>hI w s.on,h.h a w s g⟩
end
def Ij {g t:Nat} {x:Value} {r:am} {w:World} (h:(Pc.row g t 0 [] (x::r) []).P w):(Pc.cel g 0 [x]).P w:=⟨FA,fun j u hu=>by
 cases j with
 | zero=>exact Iv h 0 u (by simpa using hu)
 | succ j=>simp at hu⟩
def Lj (c:Int) (x:Hk):Bool:=Cd x.Ae && (decide (0 < x.Bl.length) && (Rc 1 7 x.Bl && Ff (c+1) x.Cm (c+6)))
def Z7 (c:Int) (es:List Hk) (i:Nat):Bool:=match es[i]? with
 | none=>true
 | some x=>Lj c x && !((es.take i).any fun o=>o.Ae == x.Ae)
def Ky {c:Int} {es:List Hk} {i:Nat} (h:i < es.length):Z7 c es i=(Lj c es[i] && !((es.take i).any fun o=>o.Ae == es[i].Ae)):=by
 simp [Z7,h]
def Bb (e:Bj):Bool:=Ld e.Ai && decide (e.Ah.length<=5) && Pr (Z7 e.Ai e.Ah) e.Ah.length
def Ns {c:Int}:Ld c=true↔0<=c/\c<=9999:=by unfold Ld Ff;simp
def Axo {es:List Hk} {m k:Nat} {p:Hk->Bool} (h:m < es.length) (hk:m < k) (hp:p es[m]=true):(es.take k).any p=true:=by
 rw [cG];exact ⟨es[m],cQ.2 ⟨m,EY,rfl⟩,hp⟩
def Anh {es:List Hk} {k:Nat} {n:Int} (h:∀q,q < k->∀hq:q < es.length,es[q].Ae≠n):((es.take k).any fun o=>o.Ae == n)=false:=by
 rw [cB];intro x hx;obtain ⟨i,hi,rfl⟩:=cQ.1 hx;simpa using h i EY EY
def Acv {c d:Int} (h:Ld c=true) (h1:0<=d) (h2:d<=100):wrap64 (c+d)=c+d:=by
 have:=Ns.1 h;unfold wrap64;omega
def Aby {e:Bj} {k:Nat} (hk:k < e.Ah.length) (h:Ld e.Ai=true->Z7 e.Ai e.Ah k=false):Bb e=false:=by
 unfold Bb;cases hc:Ld e.Ai
 ·rfl
 ·rw [Md hk (h hc)];simp
def Aal (x:Hk) (num:Int) (b:Nat) (G:aq) (u:Value) (w:World) (h:Su D9 w u x G) (hc:w.cell? ⟨b,0,none⟩=some (aa num)) :
  Calls prog 256 #[u,.pointer (some ⟨b,0,none⟩)] w (RB (.bool (x.Ae == num)) w):=by
 obtain ⟨_,rfl,v1,rfl, -⟩:=h;have hc1:=fun o:Obj=>kc ((Below.refl w.heap.size w).alloc (aK _) o) hc
 go_enter func256,ntmps256
 go_wp2
 go_ret
 exact ⟨Cs rfl,(Below.refl _ _).alloc (aK _) _⟩
def U7 (v:Value) (e:Bj) (F:aq) (w:World) (h:Su Bz w v e F) :
  Calls prog 195 #[v] w (RB (.bool (Bb e)) w):=by
 obtain ⟨_,rfl,v1,rfl,h1⟩:=h;obtain ⟨a,cap,rfl⟩:=h1.slice;have hl:=h1.len;unfold maxLen at hl;have hB0:∀A:Obj,Below w.heap.size w (w.alloc A):=fun A=>(Below.refl _ _).alloc (aK _) _
 go_enter func195,ntmps195
 go_wp2
 go_loopw [3,4,8] (fun _ _ i wr=>∃k:Nat,k<=e.Ah.length/\i=aa k/\Hid (Ld e.Ai=true->∀j,j < k->Z7 e.Ai e.Ah j=true)/\Ip wr w.heap.size 111 [aa e.Ai,ab a e.Ah.length cap]/\Below w.heap.size w wr) (fun _ _ i _=>e.Ah.length - (intOf i).toNat)
 case atStart=>exact ⟨0,aD _,rfl,fun _ j hj=>by omega,by simp [Jr],hB0 _⟩
 case round =>
  obtain ⟨k,hk,rfl,hz,hr,hB⟩:=hrel;have c0:=hr.cells;by_cases hlt:k < e.Ah.length
  ·have hz0:=hz;clear hz;obtain ⟨b,off,_,F1,rfl,hx, -,ja⟩:=(h1.below EZ hB).at k hlt;obtain ⟨u1,rfl,hf⟩:=id hx;obtain ⟨fa,fc,rfl⟩:=hf.slice;have a0:=ja 0 EZ;have a1:=ja 1 EZ;have a2:=ja 2 EZ;simp only [show D9.sz=3 from rfl,cV,bT,bM,bH] at a0 a1 a2;clear ja;have d0:=fun A=>(hr.alloc A).cells;have hf1:=fun A:Obj=>hf.below EZ ((Below.refl wr.heap.size wr).alloc (aK _) A);have hB1:=fun A:Obj=>tr hB ((Below.refl wr.heap.size wr).alloc (aK _) A) (aK _)
   have hcp:=h1.caps;by_cases hfe:e.Ah[k].Bl=[]
   ·have hE:((e.Ah[k].Bl.length:Int) == 0)=true:=by simp [hfe]
    have hno:=Lib.hid (Aby hlt (fun _=>by rw [Ky hlt];simp [Lj,hfe]))
    go_wp2_with (first
     | (go_at_call 181;refine (Jj _ _).mono ?_;rintro e' w' ⟨rfl,rfl⟩)
     | (go_at_call 254;refine (Agi _ _ _ _ (hf1 _)).mono ?_;rintro e' w' ⟨rfl,rfl⟩)
     | (go_at_call 37;refine (Hw _ _ _ _).mono ?_;rintro e' w' ⟨rfl,rfl⟩))
    all_goals go_ret
    all_goals exact ⟨Cs hno.out.symm,hB1 _⟩
   ·have hE:((e.Ah[k].Bl.length:Int) == 0)=false:=by simp [hfe]
    have hfe:=Lib.hid hfe
    go_wp2_with (first
     | (go_at_call 181;refine (Jj _ _).mono ?_;rintro e' w' ⟨rfl,rfl⟩)
     | (go_at_call 254;refine (Agi _ _ _ _ (hf1 _)).mono ?_;rintro e' w' ⟨rfl,rfl⟩)
     | (go_at_call 37;refine (Hw _ _ _ _).mono ?_;rintro e' w' ⟨rfl,rfl⟩))
    ·have t:(!Ff (wrap64 (e.Ai+1)) e.Ah[k].Cm (wrap64 (e.Ai+6)))=true:=FR
     go_ret
     refine ⟨Cs (Aby hlt fun hc=>?_).symm,hB1 _⟩;rw [Acv hc EY EY,Acv hc EY EY] at t;rw [Ky hlt];simp only [Lj];simp at t;simp [t]
    ·have t1:Cd e.Ah[k].Ae=true:=FR
     have t2:Rc 1 7 e.Ah[k].Bl=true:=FR
     have t:(!Ff (wrap64 (e.Ai+1)) e.Ah[k].Cm (wrap64 (e.Ai+6)))=false:=FR
     obtain ⟨G, -,hs⟩:=h1.takeS k hk;refine (Aak _ (.mk' func256 rfl rfl) _ _ _ _ (fun o=>o.Ae == e.Ah[k].Ae) _ (hs.below EZ (hB1 _)) ?_).mono ?_
     ·intro j hj w2 u G2 hb2 hu;exact Aal _ _ _ _ _ _ hu (kc hb2 FA)
     rintro e' w2 ⟨rfl,hb2⟩;have hr2:=(hr.alloc _).below hb2;have hB2:=tr (hB1 _) hb2 (aK _);have hc2:=hr2.cells;have hAt:=Lib.hid (Ky (c:=e.Ai) hlt);cases hany:(e.Ah.take k).any fun o=>o.Ae == e.Ah[k].Ae
     ·rw [hany] at hAt;have hany:=Lib.hid hany;go_wp2_with fail;refine ⟨⟨k+1,EY,HT,fun hc=>V3 (hz0.out hc) ?_,hr2,hB2⟩,GJ⟩;rw [Acv hc EY EY,Acv hc EY EY] at t;rw [hAt.out];simp only [Lj,t1,t2];simp at t;simp [t,cT,hfe.out]
     ·rw [hany] at hAt;have hany:=Lib.hid hany;go_wp2_with fail
      go_ret
      exact ⟨Cs (Aby hlt fun _=>by rw [hAt.out];simp).symm,hB2⟩
    ·have t:¬Rc 1 7 e.Ah[k].Bl=true:=FR
     go_ret
     refine ⟨Cs (Aby hlt fun hc=>?_).symm,hB1 _⟩;rw [Ky hlt];simp [Lj,t]
    ·have t:¬Cd e.Ah[k].Ae=true:=FR
     go_ret
     refine ⟨Cs (Aby hlt fun hc=>?_).symm,hB1 _⟩;rw [Ky hlt];simp [Lj,t]
  ·have hk:k=e.Ah.length:=EY
   subst hk;have hz0:=hz;clear hz;cases hck:Ld e.Ai
   ·have hn:=Lib.hid (show Bb e=false by unfold Bb;rw [hck];rfl);have hck:=Lib.hid hck;go_wp2_with (go_at_call 180;refine (Tm _ _).mono ?_;rintro e' w' ⟨rfl,rfl⟩;rw [hck.out])
    go_ret
    exact ⟨Cs hn.out.symm,hB⟩
   ·have hn:=Lib.hid (show Bb e=decide ((e.Ah.length:Int)<=5) by unfold Bb;rw [hck,Ks (hz0.out hck)];simp;omega);have hck:=Lib.hid hck;go_wp2_with (go_at_call 180;refine (Tm _ _).mono ?_;rintro e' w' ⟨rfl,rfl⟩;rw [hck.out])
    go_ret
    exact ⟨Cs hn.out.symm,hB⟩
def Au3 (e:Bj) (v:Value) (F:aq):FV 198 [v] [.isv Bz v e F] (.bool (Bb e)):=by
 refine enter func198 rfl ntmps198 fun w0=>?_;refine Ee ?_;rintro a c F1 rfl hl;refine go ?_;intros;refine ce (fun w s=>Aa2 _ _) ?_;cases hck:Ld e.Ai
 ·rw [show Bb e=false by unfold Bb;rw [hck];rfl];exact AA
 have hcb:=Ns.1 hck;refine go ?_;refine Ay rfl (fun h5=>?_) (fun h5=>?_)
 ·rw [show Bb e=false by unfold Bb;rw [hck,ay EY];rfl];exact AA
 rw [show Bb e=Pr (Z7 e.Ai e.Ah) e.Ah.length by unfold Bb;rw [hck,av EY];rfl];refine go ?_;refine Dl [1,2] (fun k:Nat=>[(3,aa (k:Nat))]) (fun k=>k<=e.Ah.length/\∀j,j < k->Z7 e.Ai e.Ah j=true) (fun k=>e.Ah.length - k) 0 ⟨aD _,fun j hj=>by omega⟩ fun k hz=>?_;obtain ⟨hk0,hy⟩:=hz;refine go ?_;refine Ay rfl (fun h6=>?_) (fun h6=>?_)
 rotate_left
 ·rw [Ks (fun j hj=>hy j EY)];exact AA
 have hk:k < e.Ah.length:=EY
 have hno:Z7 e.Ai e.Ah k=false->Pr (Z7 e.Ai e.Ah) e.Ah.length=false:=fun h=>Md hk h;refine Sw (xs:=e.Ah) k ?_;rintro hi b o a1 c1 F2 rfl hfl;refine go ?_;intros;refine ce (fun w s=>Oh _ _) ?_;cases t1:Cd e.Ah[k].Ae
 ·skip
  rw [hno (by rw [Ky hk];simp [Lj,t1])];exact AA
 refine go ?_;by_cases hfe:e.Ah[k].Bl.length=0
 ·rw [show decide (((e.Ah[k].Bl.length:Nat):Int)=0)=true from av EY];rw [hno (by rw [Ky hk];simp [Lj,t1,bu.1 hfe])];exact AA
 rw [show decide (((e.Ah[k].Bl.length:Nat):Int)=0)=false from ay EY];refine go ?_;refine cb (fun w st=>Aqy _ _ _ w (st.get (p:=.sl Bc (.slice a1 e.Ah[k].Bl.length c1) e.Ah[k].Bl F2) FD).2) ?_;cases t2:Rc 1 7 e.Ah[k].Bl
 ·skip
  rw [hno (by rw [Ky hk];simp [Lj,t1,t2])];exact AA
 refine go ?_;refine ce (fun w s=>Kq _ _ _ _) ?_;cases t3:Ff (e.Ai+1) e.Ah[k].Cm (e.Ai+6)
 ·skip
  rw [hno (by rw [Ky hk];simp [Lj,t1,t2,t3])];exact AA
 have hAt:Z7 e.Ai e.Ah k = !((e.Ah.take k).any fun o=>o.Ae == e.Ah[k].Ae):=by rw [Ky hk];unfold Lj;rw [t1,av (show 0 < e.Ah[k].Bl.length by omega),t2,t3];rfl
 refine go ?_;refine Dl [1,2,3,4,16,17,18,19,20,23,24,25,26,27,28,29,30,31,32,33,34,35,36,37,38,39,40,41,42,43,44,45,46,47,48,49,50,51,52,53,54,55] (fun m:Nat=>[(5,aa (m:Nat))]) (fun m=>m<=k/\∀q,q < m->∀hq:q < e.Ah.length,e.Ah[q].Ae≠e.Ah[k].Ae) (fun m=>k - m) 0 ⟨aD _,fun q hq=>by omega⟩ fun m hm=>?_;obtain ⟨hm0,hx⟩:=hm;refine go ?_;refine Ay rfl (fun h7=>?_) (fun h7=>?_)
 ·have hmk:m < k:=EY
  refine Sw (xs:=e.Ah) m ?_;rintro hi2 b2 o2 a2 c2 F3 e2 -;cases e2
  repeat (first|apply Pg|(apply wO;apply oc;rfl;exact ydE)|apply V8|apply Zz|(apply Ar3;rfl;rfl)|(apply Ar2;rfl;rfl;rfl;rfl)|(apply Ar4;rfl;rfl;rfl)|(apply c_t;rfl)|(apply c_f;rfl)|apply X5|apply Un|apply Ahl)
  refine Ar [0,2,5] [] ?_;refine C4 0 1 2 3 ?_;refine C4 4 5 6 7 ?_;refine dt 8 ?_;refine dd ?_;refine go ?_;refine Ay rfl (fun h8=>?_) (fun h8=>?_)
  ·rw [hno (by rw [hAt,Axo EY hmk (by simpa using h8)];rfl)];exact AA
  refine go ?_;refine Ce (m+1) ⟨EY,fun q hq hql=>by
   rcases be (cK hq) with h|h
   ·exact hx q h hql
   ·subst h;exact h8⟩ (by show k - (m+1) < k - m;omega)
 ·refine go ?_;refine Ce (k+1) ⟨EY,fun j hj=>by
   rcases be (cK hj) with h|h
   ·exact hy j h
   ·subst h;rw [hAt,Anh (fun q hq=>hx q EY)];rfl⟩ (by show e.Ah.length - (k+1) < e.Ah.length - k;omega)
def Akc (v:Value) (e:Bj) (F:aq) (w:World) (h:Su Bz w v e F) :
  Calls prog 198 #[v] w (RB (.bool (Bb e)) w):=(Au3 e v F).val w (I6 h)
def Th (v:Value) (xs:ar) (F:aq) (w:World) (h:Sl Bc w v xs F) (hm:xs.length<=4294967296) :
  Calls prog 60 #[v] w (X4 Bc 3 xs w):=by
 obtain ⟨ao,c,news,Fy,rfl,hl,hfy,hFy,hsrc⟩:=h.src;have hFl:=hfy.lt;have he:=fun w (a:aj) (n c:Nat)=>Lib.run_eql_slice_nil (P:=prog) w 24 _ a n c 0 0 underlying24
 go_enter func60,ntmps60
 rcases hsrc with ⟨rfl,rfl,rfl⟩|⟨ad,rfl,hn⟩
 ·go_wp2
  go_ret
  exact CE
 ·go_wp2_with (at_builtin;refine Pw C7 EZ FL _ _ _ FL 3 (aa 0) 8 underlying24 Ag7 rfl (ab (some ⟨w.heap.size,0,none⟩) 0 0) [] [w.heap.size] FL (Ow.empty (Ip.made _ _ _)) (Hd.one _) (some ad) xs c FL news Fy (hfy.frame fun b hb=>Below.heap_alloc _ _ _ (hFl b hb)) (.inr ⟨ad,rfl,fun j u hu=>kc ((Below.refl _ _).alloc (aK _) _) (hn j u hu)⟩) (fun b hb e=>by have:=hFl b hb;simp [Value.ownBlock] at e;omega) GY GU ?_);intro v2 w2 F2 hA;go_wp2_with fail
  go_ret
  have hB:Below w.heap.size w w2:=((Below.refl _ _).alloc (aK _) _).trans (hA.Je.below FA FA);have hs:∀b,v2.ownBlock=some b->w.heap.size<=b:=fun b hb=>by rcases hA.Arl with e|e <;> rw [e] at hb <;> simp [Value.ownBlock] at hb <;> omega
  refine ⟨v2,F2,rfl,IR,hA.ow.scal Eb▸?_,fun b hb=>?_,hB⟩
  ·cases v2.ownBlock <;> simp
  ·rw [hA.ow.scal Eb] at hb;exact hs b JD
def Zk (v:Value) (xs:ar) (F:aq) (w:World) (h:Sl Bc w v xs F) (hm:xs.length<=4294967296) :
  Calls prog 63 #[v] w (X4 Bc 3 xs w):=by
 obtain ⟨ao,c,news,Fy,rfl,hl,hfy,hFy,hsrc⟩:=h.src;have hFl:=hfy.lt;have hsrc2:(ao=none/\c=0/\xs=[])\/∃ad,ao=some ad/\∀j u,news[j]?=some u->(w.alloc (.cells #[] 3)).cell? (ad.add j)=some u:=by
  rcases hsrc with h|⟨ad,h1,h2⟩
  ·exact .inl h
  ·exact .inr ⟨ad,h1,fun j u hu=>kc ((Below.refl _ _).alloc (aK _) _) (h2 j u hu)⟩
 go_enter func63,ntmps63
 go_wp2_with (at_builtin;refine Pw C7 EZ FL _ _ _ FL 3 (aa 0) 8 underlying24 Ag7 rfl (ab (some ⟨w.heap.size,0,none⟩) 0 0) [] [w.heap.size] FL (Ow.empty (Ip.made _ _ _)) (Hd.one _) ao xs c FL news Fy (hfy.frame fun b hb=>Below.heap_alloc _ _ _ (hFl b hb)) hsrc2 (fun b hb e=>by have:=hFl b hb;simp [Value.ownBlock] at e;omega) GY GU ?_);intro v2 w2 F2 hA;go_wp2_with fail
 go_ret
 have hB:Below w.heap.size w w2:=((Below.refl _ _).alloc (aK _) _).trans (hA.Je.below FA FA);have hs:∀b,v2.ownBlock=some b->w.heap.size<=b:=fun b hb=>by rcases hA.Arl with e|e <;> rw [e] at hb <;> simp [Value.ownBlock] at hb <;> omega
 refine ⟨v2,F2,rfl,IR,hA.ow.scal Eb▸?_,fun b hb=>?_,hB⟩
 ·cases v2.ownBlock <;> simp
 ·rw [hA.ow.scal Eb] at hb;exact hs b JD
def Afe (v:Value) (e:Bj) (F:aq) (w:World) (h:Su Bz w v e F) (hm:e.Ah.length<=4294967296) (hm2:∀x∈e.Ah,x.Bl.length<=4294967296) :
  Calls prog 92 #[v] w (Axf Cc e w):=by
 obtain ⟨_,rfl,v1,rfl,h1⟩:=h;obtain ⟨a,cap,rfl⟩:=h1.slice;have hl:=h1.len;unfold maxLen at hl;have hB0:∀A B:Obj,Below w.heap.size w ((w.alloc A).alloc B):=fun A B=>((Below.refl _ _).alloc (aK _) _).alloc FA _;have hFl:=h1.lt EZ
 go_enter func92,ntmps92
 go_wp2_with fail;refine (Amz _ e.Ah F _ (h1.below EZ (hB0 _ _)) hm).mono ?_;rintro e' w1 ⟨v2,F2,rfl,ho,hd,hs,hF2,hb1⟩;obtain ⟨a2,cap2,rfl⟩:=ho.slice;have r0:=Ip.below (g:=w.heap.size) (t:=111) (cs:=[aa e.Ai,ab a e.Ah.length cap]) GM hb1;have r1:=Ip.below (g:=w.heap.size+1) (t:=111) (cs:=[aa 0,ab none 0 0]) GM hb1;have hB:=tr (hB0 _ _) hb1 (aK _);have hm1:=Lib.hid (Mix.start (O:=Ex) (R:=D9) (B1:=w.heap.size) (B0:=w.heap.size+2) rfl ho (by simpa using hs) (fun b hb=>(hF2 b hb).imp id fun hb=>hFl b hb) hd)
 have c0:=r0.cells;have f0:=r0.frozens;have f1:=r1.frozens;have c1:=r1.cells;clear hb1 ho hs hd hF2;go_wp2_with fail;have R0:=r0.set 1 (ab a2 e.Ah.length cap2);have R1:=r1.setOther (p:=⟨w.heap.size,1,none⟩) FA (ab a2 e.Ah.length cap2);have M1:=Lib.hid (hm1.out.setFar (p:=⟨w.heap.size,1,none⟩) (aK _) FA (ab a2 e.Ah.length cap2));clear hm1
 go_loopw [3,11] (fun _ i wr=>∃k:Nat,k<=e.Ah.length/\i=aa k/\Hid (Mix Ex D9 167 w.heap.size (w.heap.size+2) wr (ab a2 e.Ah.length cap2) e.Ah k)/\Ip wr w.heap.size 111 [aa e.Ai,ab a2 e.Ah.length cap2]/\Ip wr (w.heap.size+1) 111 [aa 0,ab none 0 0]/\Below w.heap.size w wr) (fun _ i _=>e.Ah.length - (intOf i).toNat)
 case atStart=>exact ⟨0,aD _,rfl,M1,by simpa using R0,R1,hB.setCell (aK _) _⟩
 case round =>
  obtain ⟨k,hk,rfl,hM,hr,hr1,hB⟩:=hrel;have c0:=hr.cells;have f0:=hr.frozens;have hsz:=hr1.lt;by_cases hlt:k < e.Ah.length
  ·obtain ⟨g,cap3,A,c,B,Fk,hv,hg,hrow,hA,hcl,hx, -,back⟩:=hM.out.at rfl hlt EY EY;cases hv;obtain ⟨u1,rfl,hf⟩:=id hx;obtain ⟨fa,fc,rfl⟩:=hf.slice;have a1:=hrow.cellMid (p:=k * 3+1) (j:=1) (by rw [hA];rfl) FA;simp only [bM,bH] at a1;have hne:¬g=w.heap.size:=EY
   have hne2:¬w.heap.size=g:=EY
   have hbk:=Lib.hid back;clear back;have hfl:=hm2 e.Ah[k] (aB _);go_wp2_with fail
   go_region_law (first|(go_simp;go_at_call 60;refine (Th _ e.Ah[k].Bl Fk wr.drew (hf.frame fun _ _=>rfl) hfl).mono ?_;rintro e' w2 ⟨v3,F3,rfl,o3,n3,g3,hb2⟩;obtain ⟨d3,p3,rfl⟩:=o3.slice;have z3:=kc hb2 (show wr.drew.cell? ⟨w.heap.size,1,none⟩=some (ab (some ⟨g,0,none⟩) e.Ah.length cap2) by simpa using c0 1);have z1:=kc hb2 (by simpa using a1);have zf:=((show Ip wr.drew g 167 _ from hrow).below hb2).frozens (k * 3+1)))
   all_goals
    have hr2:=((show Ip wr.drew w.heap.size 111 _ from hr).below hb2).setOther (p:=⟨g,k * 3+1,none⟩) hne (.slice d3 e.Ah[k].Bl.length p3);have hr3:=((show Ip wr.drew (w.heap.size+1) 111 _ from hr1).below hb2).setOther (p:=⟨g,k * 3+1,none⟩) FF (.slice d3 e.Ah[k].Bl.length p3);have hro:=((show Ip wr.drew g 167 _ from hrow).below hb2).setMid (p:=k * 3+1) (j:=1) (by rw [hA];rfl) FA (.slice d3 e.Ah[k].Bl.length p3);have hg3:∀b∈F3,wr.heap.size<=b:=g3;have hgs:=hrow.lt
    have hMk:=Lib.hid (hbk.out _ _ F3 hro ⟨_,rfl,o3.setFar (fun hm=>by have:=hg3 _ hm;simp at this;omega) _⟩ n3 hg3 (fun b hb hbg=>(Below.heap_setCell _ _ _ _ hbg).trans (hb2.block b hb)));have hB3:Below w.heap.size w (w2.setCell ⟨g,k * 3+1,none⟩ (.slice d3 e.Ah[k].Bl.length p3)):=(tr (Eu hB 1) hb2 (aK _)).setCell FF _;go_wp2_with fail;exact ⟨⟨k+1,EY,HT,hMk,hr2,hr3,hB3⟩,GJ⟩
  ·have hk:k=e.Ah.length:=EY
   subst hk;obtain ⟨F4,o4,n4,g4⟩:=hM.out.done;have O4:=Lib.hid o4;clear hM o4;have d1:=hr1.cells;have fd:=hr1.frozens;go_wp2_with fail;refine bodyPost_ret (v:=.agg #[aa e.Ai,ab a2 e.Ah.length cap2]) ?_ rfl ?_
   ·simp [results,results92,go_sem,c0,d1,fd]
   ·refine ⟨_,F4,rfl,⟨_,rfl,_,rfl,?_⟩,n4,fun b hb=>by have:=g4 b hb;omega,?_⟩
    ·repeat refine Ow.setFar ?_ (fun hm=>by have:=g4 _ hm;simp at this <;> omega) _
     exact O4.out
    ·repeat refine Below.setCell ?_ GP _
     exact hB
section
variable {P:Program} {ops:Array Oper} {Q:Exit->Act->World->Prop} {md:Region.Mode} {S:World->Prop} {X:Nat->Bool}
def E7.firstP {i:Nat} {oi:Oper} {v:Value} (hi:ops[i]?=some oi) (hsel:∀(j:Nat) (o:Oper) cs b,ops[j]?=some o->o.op≠.select cs b)
  (hQ:∀c a w,Q (.panic c) (a.put oi.dst v) w->Q (.panic c) a w) (hXi:X i=true) :
  ∀(f:Nat) (listed:Array Bool) (a:Act) (w:World),
   (∀j oj,ops[j]?=some oj->j≠i->listed.getD j true=false->(∀e∈oj.after,Region.binds md e=true->e.on≠i)->oi.apart ops oj=true) ->
   i∈Region.ready md ops listed->YieldsIf P ops (fun _=>True) oi v a->E7 P md ops Q S X f (listed.setIfInBounds i true) (a.put oi.dst v) w->E7 P md ops Q S X (f+1) listed a w:=by
 intro f
 induction f with
 | zero =>
  intro listed a w _ hr hy H;refine ⟨fun h=>HO,fun j hj=>?_⟩;by_cases hji:j=i
  ·subst hji;exact hy.wpOp hi trivial ⟨(fun h=>by rw [hXi] at h;cases h),H⟩
  ·have:=ready_mono hj hji;rw [H.1] at this;cases this
 | succ f ih =>
  intro listed a w hfree hr hy H;refine ⟨fun h=>HO,fun j hj=>?_⟩;by_cases hji:j=i
  ·subst hji;exact hy.wpOp hi trivial ⟨(fun h=>by rw [hXi] at h;cases h),H⟩
  ·obtain ⟨hju,oj,hoj,hall⟩:=mem_ready.1 hj;have hiu:=Y2 (mem_ready.1 hr).1;have hnot:∀e∈oj.after,Region.binds md e=true->e.on≠i:=fun e he hb heq=>by
    have h1:=hall e he hb;rw [heq,hiu] at h1;cases h1
   have h2:=wpOp_putIf hoj (hfree j oj hoj hji hju hnot) (fun cs b=>hsel i oi cs b hi) (fun cs b=>hsel j oj cs b hoj) hQ hy (H.2 j (ready_mono hj hji));refine wpOp_mono (fun a' w' h3=>⟨h3.2.1,ih (listed.setIfInBounds j true) a' w' (fun k ok hk hki hun hno=>hfree k ok hk hki ?_ hno) (ready_mono hr (Ne.symm hji)) h3.1 ?_⟩) h2
   ·by_cases hjk:j=k
    ·subst hjk;exact hju
    ·rw [getD_set_ne true hjk] at hun;exact hun
   ·rw [ef _ _ hji];exact h3.2.2
def E7.takeP {i:Nat} {oi:Oper} {v:Value} {f:Nat} {listed:Array Bool} {a:Act} {w:World} (hi:ops[i]?=some oi)
  (hs:Region.noSelect ops=true) (hf:Region.free md ops listed i=true) (hr:(Region.ready md ops listed).contains i=true) (hXi:X i=true)
  (hQ:∀c a w,Q (.panic c) (a.put oi.dst v) w->Q (.panic c) a w) (hy:YieldsIf P ops (fun _=>True) oi v a)
  (h:E7 P md ops Q S X f (listed.setIfInBounds i true) (a.put oi.dst v) w):E7 P md ops Q S X (f+1) listed a w :=
 E7.firstP hi (Region.noSelect_spec hs) hQ hXi f listed a w (Region.free_spec hi hf) GL hy h
end
section
variable {c:Cx} {fr:Fr} {H H0:List Pc} {k:List It} {X:aq} {ops:Array Oper} {f:Nat} {listed:Array Bool} {d:Nat} {o:Op} {ty:TypeId} {pos:String} {Cf:Array Edge} {v:Value}
def P0 (i:Nat) (h:T c ((d,v)::fr) H (.dx k H0 X ops f (listed.setIfInBounds i true))) (ho:ops[i]?=some ⟨some d,o,ty,pos,Cf,none⟩:=by rw [aO];rfl) (hy:Yd c.P c.n fr [] o ty v:=by exact ydE) (hX:X.contains i=true:=by rfl)
  (h1:Region.noSelect ops=true:=by kernel_rfl) (h2:Region.free .any ops listed i=true:=by kernel_rfl) (h3:(Region.ready .any ops listed).contains i=true:=by kernel_rfl) (hR:X2 c:=by exact Aad) (hd:Nat.blt d c.n=true:=by rfl) :
  T c fr H (.dx k H0 X ops (f+1) listed):=.mk fun a w s g =>
 E7.takeP (v:=v) ho h1 h2 h3 hX (fun ch a w hp=>by rw [Mz] at hp ⊢;exact hR _ _ _ _ _ hp) (.inl ⟨rfl,fun w' _=>hy.h a w' _ _ _ _ g (by intro p hp;simp at hp)⟩) (h.h _ _ s (g.put hd))
def Bcj {c:Cx} {fr:Fr} {H:List Pc} {k:List It} {x y:Code} {σ:Type} {cst:Fr} {rest:List Pc} (ks rs:aq) (upd:σ->Fr) (chg:σ->List Pc) (C:σ->Prop) (h:T c fr H (.By (.cd y::.lp (Jn c (fun s=>upd s++cst) (fun s=>chg s++rest) C)::k) x)) (h2:∀s,C s->T c (upd s++cst) (chg s++rest) (.norm k))
  (_hk:Kf fr ks cst:=by repeat (first|exact Kf.nil|apply Kf.cons FL)) (_hr:Sel H rs rest:=by repeat constructor):T c fr H (.By (.cd y::k) x):=.mk fun a w s g=>by
 refine wp_mono (h.h a w s g) fun e a1 w1 he=>?_;cases e with
 | normal =>
  refine wp_mono he fun e a2 w2 he=>?_;cases e with
  | normal=>obtain ⟨s,hC,hs,hg⟩:=he;exact (h2 s hC).h a2 w2 hs hg
  | _=>exact he
 | _=>exact he
end
section
variable {c:Cx} {fr:Fr} {H H0:List Pc} {k:List It} {Φ:Gl} {X:aq} {ops:Array Oper} {f:Nat} {listed:Array Bool} {d:Nat} {o:Op} {ty:TypeId} {v u:Value} {x y:Operand}
def Af3 {α:Type} {O R:B8 α} (hW:M9 O R) {t:TypeId} {v:Value} {xs:List α} {F:aq} {S:List Pc} (h:∀F',T c fr (.sl R v xs F'::S) Φ) (hp:C1 H (.ow O t v xs F) S:=by exact Do) (hz:0 < R.sz:=by decide):T c fr H Φ:=.mk fun a w s g=>by
 have s1:=s.pick hp;obtain ⟨-,ho⟩:=s1.on (.ow O t v xs F) FA;obtain ⟨F',hF,hs⟩:=ho.sl hW;exact (h F').h a w (s1.conv rfl ⟨hz,hs⟩ hF) g
def Put.all:∀{zs l:am},zs.length=l.length->Put zs 0 l l
 | [],[],_=>.zero
 | [],_::_,h=>by simp at h
 | _::_,[],h=>by simp at h
 | _::zs,_::l,h=>.one (Put.all FI)
end
/-! contracts, with what they ask read off pieces -/
section
variable {G D:aq} {w0 w:World} {H:List Pc}
def St.rO {α:Type} {O R:B8 α} (hW:M9 O R) {v:Value} {x:α} {F:aq} (s:St G D w0 H w) (hm:.own O v x F∈H:=by exact Bp):∃F',Su R w v x F':=by
 obtain ⟨-,ho⟩:=s.get hm;obtain ⟨F', -,h⟩:=Su.weak hW ho;exact ⟨F',h⟩
end
structure EcS where
 k:Nat
 a:aj
 c:Nat
 F:aq
def Bd1 {α:Type} {O:B8 α} {P:Program} {f:FuncId} {args:am} {x:α} {A:List Pc} (h:Fn P f args A [] (fun (_:Value × aq)=>True) (fun z=>z.1) (fun z=>[.own O z.1 x z.2])) (hA:A.all (fun p=>!p.mu)=true) {w:World} (hH:O8 A w):Calls P f args.toArray w (Axf O x w):=by
 refine (h.made w hH (fun _=>rfl) hA).mono ?_;rintro e w' ⟨z, -,he,hh,hn,hF,hB⟩;obtain ⟨h1,h2⟩:=hh (.own O z.1 x z.2) FA;exact ⟨z.1,z.2,he,h2,h1,fun b hb=>hF b (by simpa [fp,Pc.F,Pc.mu] using hb),hB⟩
def Au4 (v:Value) (e:Bj) (F:aq) (hm:e.Ah.length<=4294967296) (hm2:∀x∈e.Ah,x.Bl.length<=4294967296):Fn prog 123 [v] [.isv Bz v e F] [] (fun (_:Value × aq)=>True) (fun z=>z.1) (fun z=>[.own Cc z.1 e z.2]):=by
 refine enter func123 rfl ntmps123 fun w0=>?_;refine Ee ?_;rintro a1 c1 F1 rfl l1;refine Bt Ex 167 ?_;refine go ?_;intros;rename_i g;refine Ca [1,2,3] (fun y:EcS=>[(4,aa (y.k:Nat))]) (fun y=>[.row g 111 0 [] [aa e.Ai,.slice y.a (e.Ah.take y.k).length y.c] [],.ow Ex 167 (.slice y.a (e.Ah.take y.k).length y.c) (e.Ah.take y.k) y.F]) (fun y=>y.k<=e.Ah.length) (fun y=>e.Ah.length - y.k) ⟨0,none,0,[]⟩ (aD _) fun y hy0=>?_;obtain ⟨k,ya,yc,yF⟩:=y;dsimp only at hy0 ⊢;have htk:(e.Ah.take k).length=k:=GD
 refine go ?_;refine Ay rfl (fun h1=>?_) (fun h1=>?_)
 ·have hk:k < e.Ah.length:=EY
  have hfl:=hm2 _ (aB hk);refine Sw (xs:=e.Ah) k ?_;rintro hi b8 o8 a8 c8 F8 e8 l8;rw [e8];refine go ?_;intros;refine Ar [0,3] [13] ?_;refine C4 0 1 2 3 ?_;refine C4 4 5 7 8 ?_;refine dN 6 ?_;refine oC ?_;refine cn (fun w st=>Zk _ e.Ah[k].Bl F8 w (st.get (p:=.sl Bc (.slice a8 e.Ah[k].Bl.length c8) e.Ah[k].Bl F8) FD).2 EY) fun a9 c9 F9=>?_;refine Py e.Ah[k] ?_;refine dk ?_;refine dt 9 ?_;refine dN 10 ?_;apply I1;rfl;rfl;rfl;rfl;exact Iy;exact Ir;intro _;refine dk ?_;refine dN 11 ?_;refine Ac5 T9 e.Ah[k] rfl fun x4 d4 G4=>?_;refine dk ?_;refine dt 12 ?_
  refine dN 13 ?_;refine oS ?_;refine Nm ?_;refine dd ?_;rw [<-aR hk];refine go ?_;refine Ce ⟨k+1,x4,d4,G4⟩ hk (by show e.Ah.length - (k+1) < e.Ah.length - k;omega)
 ·rw [show e.Ah.take k=e.Ah from aV EY];refine go ?_;refine Hi e ?_;exact BL
def Yh (v:Value) (e:Bj) (F:aq) (w:World) (h:Su Bz w v e F) (hm:e.Ah.length<=4294967296) (hm2:∀x∈e.Ah,x.Bl.length<=4294967296):Calls prog 123 #[v] w (Axf Cc e w):=Bd1 (Au4 v e F hm hm2) rfl (I6 h)
def Er (e:Bj):Bj:=⟨e.Ai+1,e.Ah.filter fun x=>!decide (x.Cm<=e.Ai+1)⟩
def Sl.headIn {α:Type} {E:B8 α} {w:World} {b off n cap:Nat} {xs:List α} {F} (h:Sl E w (ab (some ⟨b,off,none⟩) n cap) xs F) (k:Nat) (hk:k < xs.length):b∈F:=by
 obtain ⟨a',cap',hv,hl,h⟩:=h;cases hv;rcases h with ⟨rfl,_⟩|⟨b,off,F',he,_,rfl,hc⟩
 ·simp at hk
 ·cases he;simp
def Akd (v:Value) (e:Bj) (F:aq) (w:World) (h:Su Bz w v e F) (hc:Ld e.Ai=true) (hm:e.Ah.length<=4294967296) (hm2:∀x∈e.Ah,x.Bl.length<=4294967296) :
  Calls prog 176 #[v] w (Bhq Bz (Er e) w):=by
 have hcb:=Ns.1 hc;have hm2:=Lib.hid hm2;have h0:=h;obtain ⟨_,rfl,v1,rfl,h1⟩:=h;obtain ⟨a,cap,rfl⟩:=h1.slice;have hB0:∀A B:Obj,Below w.heap.size w ((w.alloc A).alloc B):=fun A B=>((Below.refl _ _).alloc (aK _) _).alloc FA _
 go_enter func176,ntmps176
 go_wp2_with fail;refine (Yh _ e F _ (h0.below (hB0 _ _)) hm hm2.out).mono ?_;rintro e' w1 ⟨_,Fo,rfl,⟨_,rfl,v2,rfl,ho⟩,hn,hFo,hb1⟩;obtain ⟨a2,cap2,rfl⟩:=ho.slice;have r0:=Ip.below (g:=w.heap.size) (t:=111) (cs:=[aa e.Ai,ab a e.Ah.length cap]) GM hb1;have r1:=Ip.below (g:=w.heap.size+1) (t:=111) (cs:=[aa 0,ab none 0 0]) GM hb1;obtain ⟨Fr,hFr,hs⟩:=ho.sl Rg;have hFl:=ho.lt;have hB:=tr (hB0 _ _) hb1 (aK _);have d0:=fun A=>(r0.alloc A).cells;have c0:=r0.cells;clear hb1;go_wp2_with fail
 go_loopw [5] (fun i wr=>∃k:Nat,k<=e.Ah.length/\i=aa k/\∃oa oc F,Hid (Ow D9 167 wr (.slice oa ((e.Ah.take k).filter fun x=>!decide (x.Cm<=e.Ai+1)).length oc) ((e.Ah.take k).filter fun x=>!decide (x.Cm<=e.Ai+1)) F)/\Hd F/\(∀b,oa=some b->w1.heap.size+1+1<=b.block)/\(∀c∈F,w.heap.size+2<=c/\c≠w1.heap.size/\c≠w1.heap.size+1) /\
  Ip wr (w.heap.size+1) 111 [aa 0,ab none 0 0]/\Ip wr w1.heap.size 111 [aa e.Ai,ab a2 e.Ah.length cap2]/\Ip wr (w1.heap.size+1) 111 [aa (e.Ai+1),.slice oa ((e.Ah.take k).filter fun x=>!decide (x.Cm<=e.Ai+1)).length oc]/\Below w1.heap.size w1 wr) (fun i _=>e.Ah.length - (intOf i).toNat)
 case atStart=>exact ⟨0,aD _,rfl,none,0,[],Lib.hid (.inl ⟨rfl,FA,rfl⟩),Hd.nil,FA,FA,(r1.alloc _).alloc _,by simp [Jr],by simp [Jr],((Below.refl _ _).alloc (aK _) _).alloc FA _⟩
 case round =>
  obtain ⟨k,hk,rfl,oa,oc,F2,hO,hd2,hoa,hF2,hr1,hr2,hr3,hB2⟩:=hrel;have c1:=hr2.cells;have c2:=hr3.cells;have c4:=hr1.cells;have f4:=hr1.frozens;by_cases hlt:k < e.Ah.length
  ·obtain ⟨b,off,_,F1,rfl,hx,hFx,ja⟩:=(hs.below EZ hB2).at k hlt;obtain ⟨u1,rfl,hf⟩:=id hx;obtain ⟨fa,fc,rfl⟩:=hf.slice;have a0:=ja 0 EZ;have a1:=ja 1 EZ;have a2:=ja 2 EZ;simp only [show D9.sz=3 from rfl,bT,bM,bH] at a0 a1 a2;clear ja;by_cases hq:e.Ah[k].Cm > e.Ai+1
   ·have hqf:=Lib.hid (Hj (q:=fun x:Hk=>!decide (x.Cm<=e.Ai+1)) hlt FF);generalize hys:((e.Ah.take k).filter fun x=>!decide (x.Cm<=e.Ai+1))=ys at *;have hys:=Lib.hid hys;go_wp2_with fail
    go_quiet (fail)
    go_wp2_with fail;have D1:=show Ip (wr.drewN nq) _ _ _ from hr1;have D2:=show Ip (wr.drewN nq) _ _ _ from hr2;have D3:=show Ip (wr.drewN nq) _ _ _ from hr3;have DO:=Lib.hid (show Ow D9 167 (wr.drewN nq) _ _ _ from hO.out.frame fun _ _=>rfl);have DX:D9.Mj (wr.drewN nq) _ _ _:=D9.frame hx fun _ _=>rfl;have DB:=Eu hB2 nq;have b0:(wr.drewN nq).cell? ⟨b,off+k * 3,none⟩=_:=a0;have b1:(wr.drewN nq).cell? ⟨b,off+k * 3+1,none⟩=_:=a1;have b2:(wr.drewN nq).cell? ⟨b,off+k * 3+2,none⟩=_:=a2;clear hr1 hr2 hr3 hO hx hf hB2 a0 a1 a2 c1 c2 c4 f4;generalize wr.drewN nq=w2 at *
    have hbb:=World.block_lt_of_cell? w2 _ b0;simp only at hbb;have DBs:=DB.size;have t3:=fun A=>(D3.alloc A).cells 1;have t0:=D3.cells 1;have o0:=D2.cells 1;simp only [bM,bH] at t3 t0 o0;have hyl:ys.length<=4294967295:=by have:=congrArg List.length hys.out;have:=bN (fun x:Hk=>!decide (x.Cm<=e.Ai+1)) (e.Ah.take k);simp at this;omega
    have hA:=(Below.refl w2.heap.size w2).alloc (aK _) (.cells #[aa e.Ah[k].Ae,.slice fa e.Ah[k].Bl.length fc,aa e.Ah[k].Cm] 167);have DOd:=Lib.hid ((DO.out.below hA).frame (w':=(w2.alloc (.cells #[aa e.Ah[k].Ae,.slice fa e.Ah[k].Bl.length fc,aa e.Ah[k].Cm] 167)).drew) fun _ _=>rfl);have DXd:=D9.frame (w':=(w2.alloc (.cells #[aa e.Ah[k].Ae,.slice fa e.Ah[k].Bl.length fc,aa e.Ah[k].Cm] 167)).drew) (D9.below DX hA) fun _ _=>rfl
    have E0':=kc hA o0;have E0:(w2.alloc (.cells #[aa e.Ah[k].Ae,.slice fa e.Ah[k].Bl.length fc,aa e.Ah[k].Cm] 167)).drew.cell? _=_:=E0';have E1':=kc hA b0;have E1:(w2.alloc (.cells #[aa e.Ah[k].Ae,.slice fa e.Ah[k].Bl.length fc,aa e.Ah[k].Cm] 167)).drew.cell? _=_:=E1';have E2':=kc hA b1;have E2:(w2.alloc (.cells #[aa e.Ah[k].Ae,.slice fa e.Ah[k].Bl.length fc,aa e.Ah[k].Cm] 167)).drew.cell? _=_:=E2';have E3':=kc hA b2;have E3:(w2.alloc (.cells #[aa e.Ah[k].Ae,.slice fa e.Ah[k].Bl.length fc,aa e.Ah[k].Cm] 167)).drew.cell? _=_:=E3'
    have nob:∀c∈(ab oa ys.length oc).ownBlock.toList,w1.heap.size+1+1<=c:=fun c hc=>by
     cases oa with
     | none=>simp [Value.ownBlock] at hc
     | some b=>simp [Value.ownBlock] at hc;subst hc;exact hoa b rfl
    have D3a:=show Ip (w2.alloc (.cells #[aa e.Ah[k].Ae,.slice fa e.Ah[k].Bl.length fc,aa e.Ah[k].Cm] 167)).drew _ _ _ from D3.alloc (.cells #[aa e.Ah[k].Ae,.slice fa e.Ah[k].Bl.length fc,aa e.Ah[k].Cm] 167);have hFs:∀c∈F1,c < w1.heap.size:=fun c hc=>hs.lt EZ c (hFx c hc);have hbw:b < w1.heap.size:=hs.lt EZ b (hs.headIn k hlt);have hn1:¬b=w1.heap.size+1:=EY
    have hn2:¬w1.heap.size+1=b:=EY
    go_region_law (first|((refine Apk Wy EZ FL _ _ _ FL 167 (.agg #[aa 0,ab none 0 0,aa 0]) 40 underlying109 Aax rfl (ab oa ys.length oc) ys F2 FL DOd.out hd2 (some ⟨w2.heap.size,0,none⟩) [e.Ah[k]] 1 FL [aa e.Ah[k].Ae,.slice fa e.Ah[k].Bl.length fc,aa e.Ah[k].Cm] F1 (Cw.one DXd) (.inr ⟨_,rfl,World.news_of_block (w:=(w2.alloc (.cells #[aa e.Ah[k].Ae,.slice fa e.Ah[k].Bl.length fc,aa e.Ah[k].Cm] 167)).drew) (heap_alloc_new w2 _)⟩) (fun c hc he=>by have h1:=nob c (by rw [he];simp);have h2:=hFs c hc;omega) (by unfold maxLen;simp;omega) FF ?_);intro v4 w4 F4 hA4;obtain ⟨oa2,oc2,rfl⟩:=hA4.val;have D4:=D3a.keepK hA4.Asn (fun hm=>by have:=nob _ hm;omega);have t4:=D4.cells 1;have f4:=D4.frozens 1;simp only [bM,bH] at t4))
    all_goals
     have hn4:w1.heap.size+1 ∉ F4:=fun hm=>by
      rcases hA4.mem _ hm with h|h|h
      ·exact (hF2 _ h).2.2 rfl
      ·have:=hFs _ h;omega
      ·have:=D3.lt;simp at h;omega
     have P1:=Lib.hid (hA4.ow.setFar (p:=⟨w1.heap.size+1,1,none⟩) hn4 (ab oa2 (ys.length+1) oc2));have L1:=((show Ip (w2.alloc (.cells #[aa e.Ah[k].Ae,.slice fa e.Ah[k].Bl.length fc,aa e.Ah[k].Cm] 167)).drew _ _ _ from D1.alloc (.cells #[aa e.Ah[k].Ae,.slice fa e.Ah[k].Bl.length fc,aa e.Ah[k].Cm] 167)).keepK hA4.Asn (fun hm=>by have:=nob _ hm;have:=r1.lt;omega)).setOther (p:=⟨w1.heap.size+1,1,none⟩) (by have:=r1.lt;simp;omega) (ab oa2 (ys.length+1) oc2)
     have L2:=((show Ip (w2.alloc (.cells #[aa e.Ah[k].Ae,.slice fa e.Ah[k].Bl.length fc,aa e.Ah[k].Cm] 167)).drew _ _ _ from D2.alloc (.cells #[aa e.Ah[k].Ae,.slice fa e.Ah[k].Bl.length fc,aa e.Ah[k].Cm] 167)).keepK hA4.Asn (fun hm=>by have:=nob _ hm;omega)).setOther (p:=⟨w1.heap.size+1,1,none⟩) FA (ab oa2 (ys.length+1) oc2);have L3:=D4.set 1 (ab oa2 (ys.length+1) oc2);have hoa2:∀b,oa2=some b->w1.heap.size+1+1<=b.block:=fun c hc=>by
      subst hc;rcases hA4.Arl with h|h
      ·simp only [Value.ownBlock] at h;exact nob _ (by cases oa <;> simp_all [Value.ownBlock])
      ·simp [Value.ownBlock] at h;have:=D3.lt;omega
     have hF4:∀c∈F4,w.heap.size+2<=c/\c≠w1.heap.size/\c≠w1.heap.size+1:=fun c hc=>by
      have hs3:=D3.lt;have hsw:=r1.lt;rcases hA4.mem _ hc with h|h|h
      ·exact hF2 _ h
      ·have h1:=hFs _ h;have h2:w.heap.size+2<=c:=(by simpa using hFo c (hFr c (hFx c h)));exact ⟨h2,EY,EY⟩
      ·simp at h;exact ⟨EY,EY,EY⟩
     have hB5:Below w1.heap.size w1 (w4.setCell ⟨w1.heap.size+1,1,none⟩ (ab oa2 (ys.length+1) oc2)) :=
      Below.setCell ((Eu (tr DB hA (aK _)) 1).trans (hA4.Asn.below FF (fun b hb=>by have:=nob b hb;omega))) FA _
     have hd4:=hA4.hd;clear hA4 D1 D2 D3 D4;go_wp2_with fail;exact ⟨⟨k+1,EY,HT,oa2,oc2,F4,by rw [hqf.out,aA];exact P1,hd4,hoa2,hF4,L1,L2,by rw [hqf.out,aA];exact L3,hB5⟩,GJ⟩
   ·have hqf:=Lib.hid (Db (q:=fun x:Hk=>!decide (x.Cm<=e.Ai+1)) hlt FF);generalize hys:((e.Ah.take k).filter fun x=>!decide (x.Cm<=e.Ai+1))=ys at *;have hys:=Lib.hid hys;go_wp2_with fail
    go_quiet (fail)
    go_wp2_with fail;refine ⟨⟨k+1,EY,HT,oa,oc,F2,?_,hd2,hoa,hF2,hr1,hr2,?_,Eu hB2 _⟩,GJ⟩
    ·rw [hqf.out];exact Lib.hid (hO.out.frame fun _ _=>rfl)
    ·rw [hqf.out];exact hr3
  ·have hk:k=e.Ah.length:=EY
   subst hk;simp only [bj] at hO hr3 c2;obtain ⟨F3,hF3,hs3⟩:=hO.out.read;have hB3:=tr hB hB2 (aK _);go_wp2_with fail;refine bodyPost_ret (v:=.agg #[aa (e.Ai+1),.slice oa (e.Ah.filter fun x=>!decide (x.Cm<=e.Ai+1)).length oc]) ?_ rfl ?_
   ·simp [results,results176,go_sem,c4,c2,f4]
   ·refine ⟨_,F3,rfl,⟨_,rfl,_,rfl,?_⟩,fun b hb=>by have:=(hF2 b (hF3 b hb)).1;omega,?_⟩
    ·refine hs3.frame fun b hb=>?_;have h2:=(hF2 b (hF3 b hb)).1;rw [Below.heap_setCell _ _ _ _ FF,Below.heap_setCell _ _ _ _ FF]
    ·repeat refine Below.setCell ?_ GP _
     exact hB3
def Ari {lo hi:Int} {zs:ar} (h:Rc lo hi zs=true):(zs.length:Int)<=hi - lo+1\/zs=[]:=by
 by_cases h0:zs=[]
 ·exact .inr h0
 ·left;have key:∀i (hi':i < zs.length),lo+i<=zs[i]/\zs[i]<=hi:=by
   intro i
   induction i with
   | zero =>
    intro hi';have:=J8 h 0 hi';rw [W8 hi'] at this;simp [Ff] at this;exact EV
   | succ i ih =>
    intro hi';have:=J8 h (i+1) hi';rw [Ub hi'] at this;have:=ih EY;simp [Ff] at *;omega
  have hp:=cT.2 h0;have:=key (zs.length - 1) EY;omega
def Vh {e:Bj} (h:Bb e=true):Ld e.Ai=true/\e.Ah.length<=5/\∀x∈e.Ah,x.Bl.length<=7:=by
 unfold Bb at h;simp only [aw,aF] at h;refine ⟨h.1.1,h.1.2,fun x hx=>?_⟩;obtain ⟨i,hi,rfl⟩:=bl hx;have:=J8 h.2 i hi;rw [Ky hi] at this;simp [Lj] at this;rcases Ari this.1.2.2.1 with h|h
 ·omega
 ·rw [h];simp
def Lp (l:ar) (n:Int):Nat:=(l.takeWhile fun x=>decide (x < n)).length
def Sm (l:ar) (n:Int):ar:=if l[Lp l n]?=some n then l else l.take (Lp l n)++n::l.drop (Lp l n)
def Ml (e:Bj) (n:Int):Nat:=e.Ah.findIdx fun x=>x.Ae == n
def N7 (e:Bj) (n f:Int):Bj:=match e.Ah[Ml e n]? with
 | some x=>⟨e.Ai,e.Ah.set (Ml e n) ⟨x.Ae,Sm x.Bl f,x.Cm⟩⟩
 | none=>if e.Ah.length < 5 then ⟨e.Ai,e.Ah++[⟨n,[f],e.Ai+6⟩]⟩ else e
def Add (e:Bj) (n:Int):Bool:=!e.Ah.any fun x=>x.Ae == n
def Qn (e:Bj) (n:Int):Bj:=match e.Ah[Ml e n]? with
 | some _=>⟨e.Ai,e.Ah.take (Ml e n)++e.Ah.drop (Ml e n+1)⟩
 | none=>e
def Vg (e:Bj) (n:Int) (below:ar):ar:=match e.Ah[Ml e n]? with
 | some x=>x.Bl.filter fun f=>decide (f∈below)
 | none=>if e.Ah.length=5 then below else []
def Rv (e:Bj) (n:Int):(∃(h:Ml e n < e.Ah.length),Si (fun x=>x.Ae == n) e.Ah=(Ml e n:Nat)/\e.Ah[Ml e n].Ae=n/\Add e n=false)\/(Si (fun x=>x.Ae == n) e.Ah=-1/\e.Ah[Ml e n]?=none/\Add e n=true/\∀x∈e.Ah,x.Ae≠n):=by
 cases h:e.Ah.any fun x=>x.Ae == n
 ·right;have h':=cB.1 h;refine ⟨by unfold Si;rw [h];rfl,?_,by simp [Add,h],fun x hx=>by have:=h' x hx;simpa using this⟩;have:Ml e n=e.Ah.length:=List.findIdx_eq_length.2 (fun x hx=>by have:=h' x hx;simpa using this);rw [this];simp
 ·left;have h2:Ml e n < e.Ah.length:=by
   obtain ⟨x,hx,hp⟩:=cG.1 h;exact eL ⟨x,hx,hp⟩
  refine ⟨h2,by unfold Si;rw [h];rfl,?_,by simp [Add,h]⟩;have:(e.Ah[Ml e n].Ae == n)=true:=gm (p:=fun x:Hk=>x.Ae == n) (xs:=e.Ah) (w:=h2);exact EV
def Zr {lo hi:Int} {zs:ar} (h:Rc lo hi zs=true):zs.Pairwise (· < ·)/\∀z∈zs,lo<=z/\z<=hi:=by
 have hb:∀i (hi':i < zs.length),lo<=zs[i]/\zs[i]<=hi:=fun i hi'=>by
  have:=J8 h i hi';unfold Ae7 Ff at this;simp only [aw,aF] at this;rw [bt,aE hi'] at this;simpa using this.1
 refine ⟨?_,fun z hz=>by obtain ⟨i,hi',rfl⟩:=bl hz;exact hb i hi'⟩;have step:∀i (hi:i+1 < zs.length),zs[i] < zs[i+1]:=fun i hi'=>by
  have:=J8 h (i+1) hi';rw [Ub hi'] at this;simp only [aw,aF] at this;exact this.2
 refine bh.2 fun i j hi' hj hij=>?_;obtain ⟨d,rfl⟩:∃d,j=i+1+d:=⟨j - i - 1,EY⟩;clear hij
 induction d with
 | zero=>exact step i hj
 | succ d ih=>exact gI (ih EY) (step (i+1+d) hj)
def Aku {lo hi:Int} {zs:ar} (h1:zs.Pairwise (· < ·)) (h2:∀z∈zs,lo<=z/\z<=hi):Rc lo hi zs=true:=by
 unfold Rc;refine Ks fun i hi'=>?_;have hb:=h2 zs[i] (aB hi');cases i with
 | zero=>rw [W8 hi'];simp [Ff,hb]
 | succ i =>
  rw [Ub hi'];have:=bh.1 h1 i (i+1) EY hi' EY;simp [Ff,hb,this]
def Azw:∀{a b:ar},a.Pairwise (· < ·)->b.Pairwise (· < ·)->(∀x,x∈a↔x∈b)->a=b
 | [],[],_,_,_=>rfl
 | [],y::b,_,_,h=>absurd ((h y).2 FA) FA
 | x::a,[],_,_,h=>absurd ((h x).1 FA) FA
 | x::a,y::b,h1,h2,h=>by
  have a1:=dl.1 h1;have b1:=dl.1 h2;have e:x=y:=by
   rcases aG.1 ((h x).1 FA) with e|m
   ·exact e
   ·rcases aG.1 ((h y).2 FA) with e|m2
    ·exact e.symm
    ·have:=b1.1 x m;have:=a1.1 y m2;omega
  subst e
  congr 1
  refine Azw a1.2 b1.2 fun z=>⟨fun hz=>?_,fun hz=>?_⟩
  ·rcases aG.1 ((h z).1 JB) with e|m
   ·have:=a1.1 z hz;omega
   ·exact m
  ·rcases aG.1 ((h z).2 JB) with e|m
   ·have:=b1.1 z hz;omega
   ·exact m
def Anv {a b:ar} (h1:a.Pairwise (· < ·)) (h2:b.Pairwise (· < ·)):(a.filter fun f=>decide (f∈b))=b.filter fun f=>decide (f∈a) :=
 Azw (h1.filter _) (h2.filter _) fun x=>by simp [and_comm]
def Bcp (x:Hk) (gb:Nat) (n:Int) (u:Value) (G:aq):FV 296 [u,Gj gb 0 0] [.isv D9 u x G,.cel gb 0 [aa n]] (.bool (x.Ae == n)):=by
 refine enter func296 rfl ntmps296 fun w0=>?_;refine Ako ?_;rintro a1 c1 F1 rfl l1;refine go ?_;intros;refine ret () trivial ?_;rfl
def Alg (e:Bj) (n:Int) (v:Value) (F:aq):FV 229 [v,aa n] [.isv Bz v e F] (aa (Si (fun x=>x.Ae == n) e.Ah)):=by
 refine enter func229 rfl ntmps229 fun w0=>?_;refine Ee ?_;rintro a1 c1 F1 rfl l1;refine go ?_;intros;rename_i gb;refine cb (fun w st=>Sf _ (Wf FB) #[Gj gb 0 0] _ e.Ah _ (fun x=>x.Ae == n) w (st.get (p:=.sl D9 (ab a1 e.Ah.length c1) e.Ah F1) FA).2 (fun k hk wr u G hB hu=>(Bcp e.Ah[k] gb n u G).val wr (Vj hu ⟨FA,Iv ((st.below hB).get (p:=.row gb 3 0 [] [aa n] []) FA)⟩))) ?_;exact AA
def Ado (e:Bj) (n:Int) (v:Value) (F:aq):FV 204 [v,aa n] [.isv Bz v e F] (aa (Si (fun x=>x.Ae == n) e.Ah)):=by
 refine enter func204 rfl ntmps204 fun w0=>?_;refine Ee ?_;rintro a1 c1 F1 rfl l1;unfold maxLen at l1;refine go ?_;intros;refine Dl [1,2,4] (fun k:Nat=>[(5,aa (k:Nat))]) (fun k=>k<=e.Ah.length/\∀j (_:j < k) (hj:j < e.Ah.length),(e.Ah[j].Ae == n)=false) (fun k=>e.Ah.length - k) 0 ⟨aD _,fun j h=>by omega⟩ fun k hk=>?_;obtain ⟨hk1,hk2⟩:=hk;refine go ?_;refine Ay rfl (fun h1=>?_) (fun h1=>?_)
 ·have hh:k < e.Ah.length:=EY
  refine go ?_;refine Sw (xs:=e.Ah) k ?_;rintro hi b o a3 c3 F3 e1 l3;rw [e1];refine go ?_;refine Ay rfl (fun h2=>?_) (fun h2=>?_)
  ·refine go ?_;refine ret () trivial ?_;rw [Pi hh hk2 HN];rfl
  ·refine go ?_;refine Ce (k+1) ⟨hh,fun j hj hl=>?_⟩ EY;rcases be (bA.1 hj) with h|rfl
   ·exact hk2 j h hl
   ·simpa using h2
 ·obtain rfl:k=e.Ah.length:=EY
  exact BU
def Bc6 (l:ar) (n:Int) (a:aj) (c:Nat) (F:aq):FV 306 [ab a l.length c,aa n] [.sl Bc (ab a l.length c) l F] (.bool (decide (n∈l))):=by
 refine enter func306 rfl ntmps306 fun w0=>?_;refine Xf (xs:=l) ?_;rintro _ _ _ l2 l3;refine go ?_;refine Dl [0,1,4] (fun k:Nat=>[(5,aa (k:Nat))]) (fun k=>k<=l.length/\n ∉ l.take k) (fun k=>l.length - k) 0 ⟨aD _,FA⟩ fun k hk=>?_;obtain ⟨hk1,hk2⟩:=hk;refine go ?_;refine Ay rfl (fun h1=>?_) (fun h1=>?_)
 ·have hh:k < l.length:=EY
  refine go ?_;refine Im (xs:=l) k ?_;rintro hi b o e1;rw [e1];refine go ?_;refine Ay rfl (fun h2=>?_) (fun h2=>?_)
  ·refine go ?_;refine ret () trivial ?_;rw [av (h2▸aB hh:n∈l)];rfl
  ·refine go ?_;refine Ce (k+1) ⟨hh,fun hm=>?_⟩ EY;rw [cy,aE hh] at hm;rcases aJ.1 hm with h|h
   ·exact hk2 h
   ·simp at h;exact h2 h.symm
 ·obtain rfl:k=l.length:=EY
  rw [bj] at hk2;refine go ?_;refine ret () trivial ?_;rw [ay hk2];rfl
def Bfq (n:Int):FV 386 [aa n] [] (.bool false):=by
 refine enter func386 rfl ntmps386 fun w0=>?_;refine go ?_;refine ret () trivial ?_;simp [Uh]
def Bgp (n:Int):FV 373 [aa n] [] (.bool false):=by
 refine enter func373 rfl ntmps373 fun w0=>?_;refine go ?_;refine ret () trivial ?_;simp [Uh]
def Bci (a b:Int):FV 372 [aa a,aa b] [] (.bool (decide (a < b))):=by
 refine enter func372 rfl ntmps372 fun w0=>?_;refine go ?_;refine Be (Bfq a) fun _ _=>?_;exact AA
def Axr (l:ar) (n:Int):Bool:=decide (l[Lp l n]?=some n)
def Ad1 {l:ar} {n:Int} {k:Nat} (h1:k<=l.length) (h2:∀j (_:j < k) (h:j < l.length),l[j] < n) (h3:∀h:k < l.length,¬l[k] < n):Lp l n=k:=Y1 h1 (fun j hj h=>by simpa using h2 j hj h) (fun h=>by simpa using h3 h)
def Bch (xs:ar) (n:Int) (a:aj) (c:Nat) (F:aq) (hs:xs.Pairwise (· < ·)) (hl:xs.length<=1000000):FV 339 [ab a xs.length c,aa n] [.sl Bc (ab a xs.length c) xs F] (.tuple #[aa (Lp xs n:Nat),.bool (Axr xs n)]):=by
 have hm:=bh.1 hs;refine enter func339 rfl ntmps339 fun w0=>?_;refine go ?_;refine Dl [0,1,4,5,6] (fun s:Nat × Nat=>[(7,aa (s.1:Nat)),(8,aa (s.2:Nat))]) (fun s=>s.1<=s.2/\s.2<=xs.length/\(∀j (_:j < s.1) (h:j < xs.length),xs[j] < n)/\(∀j (_:s.2<=j) (h:j < xs.length),¬xs[j] < n)) (fun s=>s.2 - s.1) (0,xs.length) ⟨aD _,aK _,fun j h=>by omega,fun j h1 h2=>by omega⟩ fun s hs=>?_;obtain ⟨i,j⟩:=s;obtain ⟨h1,h2,h3,h4⟩:=hs;dsimp only at h1 h2 h3 h4 ⊢;refine go ?_;refine Ay rfl (fun h5=>?_) (fun h5=>?_)
 ·have hh:(i+j) / 2 < xs.length:=EY
  have e2:((i:Int)+(j:Int)) / 2=(((i+j) / 2:Nat):Int):=EY
  refine go ?_;apply wO;apply oc;rfl;exact Aiw rfl EY EY;refine go ?_;apply wO;apply oc;rfl;exact Amx rfl;rw [e2];apply wO;apply oc;rfl;exact Ap1 rfl EY EY;generalize hq:(i+j) / 2=q at hh;refine go ?_;refine Im (xs:=xs) q ?_;rintro hi b o e;rw [e];refine go ?_;refine Be (Bci _ _) fun _ _=>?_;refine go ?_;refine Ay rfl (fun h6=>?_) (fun h6=>?_)
  ·refine go ?_;refine Xd ?_;refine Ce (hH:=Lq _) (q+1,j) ⟨by show q+1<=j;omega,h2,fun k hk h=>?_,h4⟩ (by show j - (q+1) < j - i;omega);rcases be (bA.1 (show k < q+1 from hk)) with hk|rfl
   ·have:=hm k q h hh hk;omega
   ·exact h6
  ·refine go ?_;refine Xd ?_;refine Ce (hH:=Lq _) (i,q) ⟨by show i<=q;omega,by show q<=xs.length;omega,h3,fun k hk h hn=>h6 ?_⟩ (by show q - i < j - i;omega);rcases be (show q<=k from hk) with hk|rfl
   ·have:=hm q k hh h hk;omega
   ·exact hn
 ·have hij:i=j:=EY
  subst hij;have hk:Lp xs n=i:=Ad1 h2 h3 (fun h=>h4 i (aK _) h);unfold Axr;rw [hk];refine go ?_;refine Dd rfl rfl (fun h6=>?_) (fun h6=>?_)
  ·have hh:i < xs.length:=EY
   rw [aE hh];refine go ?_;refine Im (xs:=xs) i ?_;rintro hi b o e;rw [e];refine go ?_;refine Dd rfl rfl (fun h7=>?_) (fun h7=>?_)
   ·refine go ?_;refine ret () trivial ?_;rw [av (by simpa using h7)];rfl
   ·refine go ?_;refine Be (Bgp _) fun _ _=>?_;refine go ?_;refine ret () trivial ?_;rw [ay (by simpa using h7)];rfl
  ·refine go ?_;refine ret () trivial ?_;rw [bp EY];rfl
def Bf2 (xs:ar) (n:Int) (a:aj) (c:Nat) (F:aq):FV 119 [ab a xs.length c,aa n] [.sl Bc (ab a xs.length c) xs F] (aa (Si (fun x=>x == n) xs)):=by
 refine enter func119 rfl ntmps119 fun w0=>?_;refine Xf (xs:=xs) ?_;rintro _ _ - l2 l3;refine go ?_;refine Dl [0,1,4,7] (fun k:Nat=>[(8,aa (k:Nat))]) (fun k=>k<=xs.length/\∀j (_:j < k) (hj:j < xs.length),(xs[j] == n)=false) (fun k=>xs.length - k) 0 ⟨aD _,fun j h=>by omega⟩ fun k hk=>?_;obtain ⟨hk1,hk2⟩:=hk;refine go ?_;refine Ay rfl (fun h1=>?_) (fun h1=>?_)
 ·have hh:k < xs.length:=EY
  refine go ?_;refine Im (xs:=xs) k ?_;rintro hi b o e1;rw [e1];refine go ?_;refine Ay rfl (fun h2=>?_) (fun h2=>?_)
  ·refine go ?_;refine ret () trivial ?_;rw [Pi hh hk2 (by simpa using h2.symm)];rfl
  ·refine go ?_;refine Ce (k+1) ⟨hh,fun j hj hl=>?_⟩ EY;rcases be (bA.1 hj) with h|rfl
   ·exact hk2 j h hl
   ·simpa using fun e=>h2 e.symm
 ·obtain rfl:k=xs.length:=EY
  exact BU
def Bcc (l:ar) (n:Int):(l.any fun x=>x == n)=decide (n∈l):=by
 rw [cD,cG,aF];exact ⟨fun ⟨x,hx,h⟩=>by simp at h;exact h▸hx,fun h=>⟨n,h,FA⟩⟩
def Axx (xs:ar) (n:Int) (a:aj) (c:Nat) (F:aq):FV 70 [ab a xs.length c,aa n] [.sl Bc (ab a xs.length c) xs F] (.bool (decide (n∈xs))):=by
 refine enter func70 rfl ntmps70 fun w0=>?_;refine go ?_;refine Be (Bf2 xs n _ _ F) fun _ _=>?_;refine go ?_;refine ret () trivial ?_;rw [Ty,Bcc];rfl
def Az3 (y:Int) (w:World):Cw Bc w [aa y] [y] []:=⟨_,[],[],[],FA,FA,⟨rfl,rfl⟩,rfl,rfl⟩
def Aw5 (xs:ar) (y:Int) (i:Nat) (a:aj) (c vb:Nat) (F:aq) (hi:i<=xs.length) (hl:xs.length<=1000000) :
  Fn prog 340 [ab a xs.length c,aa i,ab (some ⟨vb,0,none⟩) 1 1] [] [.ow Bc 3 (ab a xs.length c) xs F,.row vb 3 0 [] [aa y] []] (fun (_:aj × Nat × aq)=>True)
   (fun z=>.slice z.1 (xs.take i++y::xs.drop i).length z.2.1) (fun z=>[.ow Bc 3 (.slice z.1 (xs.take i++y::xs.drop i).length z.2.1) (xs.take i++y::xs.drop i) z.2.2]):=by
 have hone:∀w':World,∀cs:am,Cw Bc w' cs xs []->∀u∈cs,u.oneCell'=true:=fun w' cs h=>h.one' C7;have hy:=Az3 y;have h1y:∀u∈([aa y]:am),u.oneCell'=true:=HQ
 refine enter func340 rfl ntmps340 fun w0=>?_;refine As7 (E:=Bc) fun hc1 hc2=>?_;refine go ?_;apply wO;refine Al8 rfl rfl rfl rfl hi (fun _=>?_) hc1;refine go ?_;refine Ay rfl (fun h1=>?_) (fun h1=>?_)
 ·have hin:i=xs.length:=EY
  subst hin;have e:xs.take xs.length++y::xs.drop xs.length=xs++[y]:=FA
  refine go ?_;apply wO;refine N9 hy C7 fun a2 c2 F2=>?_;rw [e];exact DL
 ·have hlt:i < xs.length:=EY
  refine Amp (xs:=xs) Eb (by rintro rfl;simp at hlt) ?_;rintro g cs rest rfl - - - hcl hcr hfl;rw [show Bc.sz=1 from rfl] at hcl hcr;have h1c:=hone w0 cs (hfl w0);obtain ⟨A,B,hcs,hA,hB⟩:∃A B,cs=A++B/\A=cs.take (i * 1)/\B=cs.drop (i * 1):=⟨_,_,(bo _ _).symm,rfl,rfl⟩;have hAl:A.length=i * 1:=by rw [hA,aP];omega
  have hBl:B.length=(xs.length - i) * 1:=by rw [hB,aX];omega
  have hins:∀w,Cw Bc w (A++[aa y]++B) (xs.take i++y::xs.drop i) []:=fun w=>by rw [hA,hB];exact (hfl w).insL (hy w) i hi
  have h1A:∀u∈A,u.oneCell'=true:=fun u hu=>h1c u IC;have h1B:∀u∈B,u.oneCell'=true:=fun u hu=>h1c u IC;have hlen:(xs.take i++y::xs.drop i).length=xs.length+1:=FF
  clear hA hB hfl hone;subst hcs;have eA:A=((A++B++rest).drop 0).take (i * 1):=by rw [dh,aM,bU hAl]
  have eB:B=((A++B++rest).drop (0+i * 1)).take ((xs.length - i) * 1):=by rw [cH,aM,dF hAl,bU hBl]
  rw [hlen];refine go ?_;apply wO;apply oc;rfl;exact Ar7 rfl;refine go ?_;refine Ay rfl (fun h2=>?_) (fun h2=>?_)
  ·refine go ?_;apply wO;apply oc;rfl;exact Pd (i:=i) rfl rfl rfl EY EY;refine go ?_;apply wO;refine Aq6 (k:=xs.length+1 - i) (olds:=A) rfl rfl rfl EY (Nc (m:=i * 1) (.head _) eA) EY EZ EY EY EY EY fun g' cp' Z rest' h3 h4 h5 h6=>?_;rw [show i+(xs.length+1 - i)=xs.length+1 by omega] at h3 ⊢;obtain ⟨Z1,Z2,rfl,hZ1,hZ2⟩:∃Z1 Z2,Z=Z1++Z2/\Z1.length=1/\Z2.length=B.length:=⟨Z.take 1,Z.drop 1,(bo _ _).symm,GD,JX⟩;refine go ?_
   apply wO;apply oc;rfl;exact Li (i:=i) rfl rfl rfl EY EY EY;refine go ?_;apply wO;refine Xt (cs:=[aa y]) (L':=A++[aa y]++(Z2++rest')) rfl rfl rfl (Nc (L:=[aa y]) (o:=0) (m:=1) FD rfl) .here (Afh (M:=Z1) HC EY (by simpa using hZ1)) (by show 1=min 1 (xs.length+1 - i) * 1;omega) FY h1y ?_;refine go ?_;refine Ar [] [] ?_;refine C4 0 1 2 3 ?_;refine dt 4 ?_ (hy:=Li (i:=i+1) rfl rfl EY EY EY EY)
   refine Dh 5 6 ?_;refine dt 7 ?_ (hy:=Li (i:=i) rfl rfl EY EY EY EY);refine dN 8 ?_;refine Xt (cs:=B) (L':=A++[aa y]++B++rest') rfl rfl rfl (Nc FD eB) .here (Afh (P:=A++[aa y]) (M:=Z2) HC FY hZ2) HA FY h1B ?_;refine dk ?_;refine dd ?_
   refine Ad9 (cs:=A++[aa y]++B) (rest:=rest') (xs:=xs.take i++y::xs.drop i) cp' rfl hins EY h4 (by rw [show Bc.sz=1 from rfl];simp only [aA,aU,aY] at h6 ⊢;omega) ?_;rw [hlen];refine go ?_;refine ret (_,cp',[g']) trivial rfl
  ·have hcx:xs.length+1<=c:=EY
   obtain ⟨X,Y,hXY,hX,hY⟩:=Aro (B:=B) (R:=rest) 1 EY;refine go ?_;apply wO;apply oc;rfl;exact Pd (i:=xs.length+1) rfl rfl EY EY EY;refine go ?_;apply wO;apply oc;rfl;exact Li (i:=i+1) rfl rfl EY EY EY EY;refine Hy ?_;intros;apply wO
   refine Azg rfl Wj (ovl (tS:=24) (tR:=4) (run_callFunc_extern func374 FB FB FB (e:=Extern.SlicesOverlaps.overlaps #[24,24] #[4]) FB) (.there .here) (.head _) HD) ?_;refine go ?_;refine Ar [] [] ?_;refine C4 0 1 2 3 ?_;refine dt 4 ?_ (hy:=Li (i:=i+1) rfl rfl EY EY EY EY);refine Dh 5 6 ?_;refine dt 7 ?_ (hy:=Li (i:=i) rfl rfl EY EY EY EY);refine dN 8 ?_
   refine Xt (cs:=B) (L':=A++X++B++rest.drop 1) rfl rfl rfl (Nc FD eB) .here (Afh (P:=A++X) (M:=Y) KJ HU hY) GX HU h1B ?_;refine dk ?_;refine dd ?_;refine go ?_;apply wO;apply oc;rfl;exact Li (i:=i) rfl rfl rfl EY EY EY;refine go ?_;apply wO
   refine Xt (cs:=[aa y]) (L':=A++[aa y]++(B++rest.drop 1)) rfl rfl rfl (Nc (L:=[aa y]) (o:=0) (m:=1) FD rfl) .here (Afh (M:=X) HC EY (by simpa using hX)) (by show 1=min 1 (xs.length+1 - i) * 1;omega) FY h1y ?_;refine go ?_
   refine Ad9 (L:=A++[aa y]++(B++rest.drop 1)) (cs:=A++[aa y]++B) (rest:=rest.drop 1) (xs:=xs.take i++y::xs.drop i) c HC hins EY EY (by rw [show Bc.sz=1 from rfl];simp only [aA,aU,aY,aX];omega) ?_;rw [hlen];refine ret (_,c,[g]) trivial rfl
def O3 (n:Int) (w:World):Cw Bc w [aa n] [n] []:=⟨_,[],[],[],FA,FA,⟨rfl,rfl⟩,rfl,rfl⟩
def Avt (l:ar) (n:Int):Lp l n<=l.length:=(Rm (p:=fun x=>decide (x < n)) (xs:=l)).1
structure Bi4 where
 a:aj
 c:Nat
 F:aq
def Bc7 (l:ar) (n:Int) (a:aj) (c:Nat) (F:aq) (hl:l.length<=1000000):Fn prog 244 [ab a l.length c,aa n] [] [.ow Bc 3 (ab a l.length c) l F] (fun (_:Bi4)=>True) (fun s=>.slice s.a (Sm l n).length s.c) (fun s=>[.ow Bc 3 (.slice s.a (Sm l n).length s.c) (Sm l n) s.F]):=by
 refine enter func244 rfl ntmps244 fun w0=>?_;refine go ?_;refine Dl [0,1,4] (fun k:Nat=>[(5,aa (k:Nat))]) (fun k=>k<=l.length/\∀j (_:j < k) (hj:j < l.length),l[j] < n) (fun k=>l.length - k) 0 ⟨aD _,fun j h=>by omega⟩ fun k hk=>?_;obtain ⟨hk1,hk2⟩:=hk;refine go ?_;refine Dd rfl rfl (fun h1=>?_) (fun h1=>?_)
 ·have hh:k < l.length:=EY
  refine go ?_;refine Q4 (m:=1) Eb k ?_ FC rfl hh;rintro _ g A cs B rfl rfl hr hH;obtain ⟨rfl, -⟩:=hr w0;refine go ?_;refine P8 l[k] hH hr ?_;rw [bv];refine Ay rfl (fun h2=>?_) (fun h2=>?_)
  ·refine go ?_;refine Ce (k+1) ⟨hh,fun j hj hl=>?_⟩ EY;rcases be (bA.1 hj) with h|rfl
   ·exact hk2 j h hl
   ·exact h2
  ·have hp:Lp l n=k:=Ad1 hk1 hk2 (fun _=>h2);refine go ?_;refine Dd rfl rfl (fun h4=>?_) (fun h4=>absurd h1 h4);refine go ?_;refine Q4 (m:=1) Eb k ?_ FC rfl hh;rintro _ g A cs B e1 - hr hH;cases e1;obtain ⟨rfl, -⟩:=hr w0;refine go ?_;refine P8 l[k] hH hr ?_;rw [bv];refine Ay rfl (fun h3=>?_) (fun h3=>?_)
   ·have e:Sm l n=l:=by unfold Sm;rw [hp,aE hh,aH (by rw [h3])]
    rw [e];exact BC
   ·have e:Sm l n=l.take k++[n]++l.drop k:=by unfold Sm;rw [hp,aE hh,aC IA];simp
    refine go ?_;refine Av fun F5=>?_;refine Ba3 k EY fun F6 hc1 hc2=>?_;refine Ar [] [] ?_;refine Dh 1 2 ?_;refine dt 3 ?_ (hy:=Pd (i:=k) rfl rfl rfl EY EY);refine Dh 5 8 ?_;refine dt 9 ?_;refine Aqk 10 k fun a6 c6 F6=>?_;refine dM 0 6 ?_ ?_
    ·apply Kt;rfl;intro _;refine C3 Bc ?_;refine dk ?_;refine dM 4 6 ?_ ?_
     ·exact CX
     ·apply I1;rfl;rfl;rfl;rfl;exact Iy;exact Ir;intro _;exact BD
    ·exact EN
 ·have hp:Lp l n=k:=Ad1 hk1 hk2 (fun h=>by omega);have e:Sm l n=l.take k++[n]++l.drop k:=by unfold Sm;rw [hp,bp EY];simp
  refine go ?_;refine Dd rfl rfl (fun h4=>absurd h4 h1) (fun h4=>?_);refine go ?_;refine Av fun F5=>?_;refine Ba3 k EY fun F6 hc1 hc2=>?_;refine Ar [] [] ?_;refine Dh 1 2 ?_;refine dt 3 ?_ (hy:=Pd (i:=k) rfl rfl rfl EY EY);refine Dh 5 8 ?_;refine dt 9 ?_;refine Aqk 10 k fun a6 c6 F6=>?_;refine dM 0 6 ?_ ?_
  ·apply Kt;rfl;intro _;refine C3 Bc ?_;refine dk ?_;refine dM 4 6 ?_ ?_
   ·exact CX
   ·apply I1;rfl;rfl;rfl;rfl;exact Iy;exact Ir;intro _;exact BD
  ·exact EN
def Aty {c:Cx} {fr:Fr} {H S:List Pc} {Φ:Gl} (x:Bj) {a:aj} {n cp:Nat} {F:aq} (hn:n=x.Ah.length) (h:T c fr (.own Cc (.agg #[aa x.Ai,ab a n cp]) x F::S) Φ) (hp:C1 H (.ow Ex 167 (ab a n cp) x.Ah F) S:=by exact Do):T c fr H Φ:=by
 subst hn;exact Hi x h hp
def Ah4 {e:Bj} {n f:Int} (h:Ml e n < e.Ah.length):N7 e n f=⟨e.Ai,e.Ah.set (Ml e n) ⟨e.Ah[Ml e n].Ae,Sm e.Ah[Ml e n].Bl f,e.Ah[Ml e n].Cm⟩⟩:=by unfold N7;rw [aE h]
def Ah3 {e:Bj} {n f:Int} (h:e.Ah[Ml e n]?=none) (hl:e.Ah.length < 5):N7 e n f=⟨e.Ai,e.Ah++[⟨n,[f],e.Ai+6⟩]⟩:=by unfold N7;rw [h];simp [hl]
def Ad3 {e:Bj} {n f:Int} (h:e.Ah[Ml e n]?=none) (hl:¬e.Ah.length < 5):N7 e n f=e:=by unfold N7;rw [h];simp [hl]
def Wq (e:Bj) (n f:Int) (v:Value) (F:aq) (hl:e.Ah.length<=1000000) (hf:∀x∈e.Ah,x.Bl.length<=1000000) (hc0:-1000000<=e.Ai) (hc1:e.Ai<=1000000):Fn prog 177 [v,aa n,aa f] [.isv Bz v e F] [] (fun (_:Value × aq)=>True) (fun s=>.tuple #[s.1,.bool (Add e n)]) (fun s=>[.own Cc s.1 (N7 e n f) s.2]):=by
 refine enter func177 rfl ntmps177 fun w0=>?_;refine Ee ?_;rintro a1 c1 F1 rfl l1;refine go ?_;intros;refine cv (fun w st=>Yh _ e _ w (st.get (p:=.isv Bz (.agg #[aa e.Ai,ab a1 e.Ah.length c1]) e F) FA) EY (fun x hx=>bE (hf x hx) EZ)) fun u FU=>?_;refine Ih ?_;rintro a2 c2 F2 rfl l2;refine go ?_;intros;refine Be (Ado e n _ F) fun _ _=>?_;rcases Rv e n with ⟨h,e1,e2,e3⟩|⟨e1,e2,e3,e4⟩
 ·rw [e1,e3,Ah4 h];have hfx:=hf e.Ah[Ml e n] (aB h);refine go ?_;refine Adc (m:=3) (Ml e n) ?_ rfl h;rintro _ g A cs B k1 k2 G1 Gi G2 rfl - hc hH;refine Aa8 ?_;rintro a5 c5 F5 ev l5;obtain rfl:=Oa ev;refine go ?_;intros;refine Be (Bc7 _ f a5 c5 F5 hfx) fun z _=>?_;refine go ?_;refine Py ⟨e.Ah[Ml e n].Ae,Sm e.Ah[Ml e n].Bl f,e.Ah[Ml e n].Cm⟩ ?_;refine Xg _ hH rfl fun F6=>?_;refine Aty ⟨e.Ai,_⟩ bG.symm ?_;exact BL
 ·rw [e1,e3];refine go ?_;refine Ay rfl (fun h5=>?_) (fun h5=>?_)
  ·rw [Ah3 e2 EY];refine go ?_;intros;refine Dy (E:=Bc) (xs:=[f]) (O3 f) ?_ FA;refine Py ⟨n,[f],e.Ai+6⟩ ?_;apply wO;refine Ac5 T9 ⟨n,[f],e.Ai+6⟩ rfl fun a3 c3 F3=>?_;refine go ?_;refine Aty ⟨e.Ai,_⟩ rfl ?_;exact BL
  ·rw [Ad3 e2 EY];refine go ?_;refine Aty e rfl ?_;exact BL
def Abu (e:Bj) (n:Int) (below:ar):ar:=match e.Ah[Ml e n]? with
 | some x=>below.filter fun f=>decide (f∈x.Bl)
 | none=>if e.Ah.length=5 then below else []
def Ahz {e:Bj} {n:Int} (h:Ml e n < e.Ah.length):Qn e n=⟨e.Ai,e.Ah.take (Ml e n)++e.Ah.drop (Ml e n+1)⟩:=by unfold Qn;rw [aE h]
def Amc {e:Bj} {n:Int} (h:e.Ah[Ml e n]?=none):Qn e n=e:=by unfold Qn;rw [h]
def Aya {e:Bj} {n:Int} {l:ar} (h:Ml e n < e.Ah.length):Abu e n l=l.filter fun f=>decide (f∈e.Ah[Ml e n].Bl):=by unfold Abu;rw [aE h]
def Bco {e:Bj} {n:Int} {l:ar} (h:e.Ah[Ml e n]?=none):Abu e n l=if e.Ah.length=5 then l else []:=by unfold Abu;rw [h]
structure Bfi where
 k:Nat
 a:aj
 c:Nat
 F:aq
structure Bi6 where
 v:Value
 F:aq
 a:aj
 c:Nat
 G:aq
def Aev (e:Bj) (n:Int) (below:ar) (v:Value) (F:aq) (a0:aj) (c0:Nat) (F0:aq) (hl:e.Ah.length<=1000000) (hf:∀x∈e.Ah,x.Bl.length<=1000000) (hb:below.length<=1000000):Fn prog 239 [v,aa n,ab a0 below.length c0] [.isv Bz v e F,.sl Bc (ab a0 below.length c0) below F0] [] (fun (_:Bi6)=>True) (fun s=>.tuple #[s.v,.slice s.a (Abu e n below).length s.c]) (fun s=>[.own Cc s.v (Qn e n) s.F,.ow Bc 3 (.slice s.a (Abu e n below).length s.c) (Abu e n below) s.G]):=by
 refine enter func239 rfl ntmps239 fun w0=>?_;refine Ee ?_;rintro a1 c1 F1 rfl l1;refine go ?_;intros;refine cv (fun w st=>Yh _ e _ w (st.get (p:=.isv Bz (.agg #[aa e.Ai,ab a1 e.Ah.length c1]) e F) FA) EY (fun x hx=>bE (hf x hx) EZ)) fun u FU=>?_;refine Ih ?_;rintro a2 c2 F2 rfl l2;refine go ?_;intros;refine Be (Ado e n _ F) fun _ _=>?_;refine C3 Bc ?_;rcases Rv e n with ⟨h,e1,e2,e3⟩|⟨e1,e2,e3,e4⟩
 ·rw [e1,Ahz h,Aya h];have hfx:=hf e.Ah[Ml e n] (aB h);refine go ?_;refine Sw (xs:=e.Ah) (Ml e n) ?_;rintro hi b o a5 c5 F5 e6 l5;generalize Ml e n=i at *;generalize hx:e.Ah[i]=x at *;rw [e6];refine go ?_;refine Ca [2,3,6,7,8,10] (fun s:Bfi=>[(11,aa (s.k:Nat)),(9,.slice s.a ((below.take s.k).filter fun f=>decide (f∈x.Bl)).length s.c)]) (fun s=>[.ow Bc 3 (.slice s.a ((below.take s.k).filter fun f=>decide (f∈x.Bl)).length s.c) ((below.take s.k).filter fun f=>decide (f∈x.Bl)) s.F]) (fun s=>s.k<=below.length) (fun s=>below.length - s.k) ⟨0,_,_,_⟩ (aD _) fun s hs=>?_
  obtain ⟨k,a3,c3,F3⟩:=s;dsimp only at hs ⊢;refine go ?_;refine Ay rfl (fun h6=>?_) (fun h6=>?_)
  ·have hk:k < below.length:=EY
   refine Im (xs:=below) k ?_;rintro hi2 b2 o2 e7;rw [e7];have ht:below.take (k+1)=below.take k++[below[k]]:=by rw [cy,aE hk];rfl
   have hle:((below.take k).filter fun f=>decide (f∈x.Bl)).length<=k:=bE (bN _ _) FF;refine go ?_;refine Ar [0,2,7] [] ?_;refine C4 0 1 2 3 ?_;refine C4 4 5 6 7 ?_;refine Dh 8 9 ?_;refine dN 10 ?_;refine oC ?_;refine Be (Bc6 x.Bl below[k] a5 c5 F5) fun _ _=>?_;refine dk ?_;refine dd ?_;refine go ?_;refine Ay rfl (fun h7=>?_) (fun h7=>?_)
   ·have e8:(below.take (k+1)).filter (fun f=>decide (f∈x.Bl))=((below.take k).filter fun f=>decide (f∈x.Bl))++[below[k]]:=by rw [ht,cj];simp [h7]
    refine go ?_;intros;apply wO;refine N9 (O3 _) C7 fun a6 c6 F6=>?_;rw [<-e8];refine go ?_;refine Ce (⟨k+1,_,_,_⟩:Bfi) hk HX
   ·have e8:(below.take (k+1)).filter (fun f=>decide (f∈x.Bl))=((below.take k).filter fun f=>decide (f∈x.Bl)):=by rw [ht,cj];simp [h7]
    refine go ?_;rw [<-e8];refine Ce (⟨k+1,_,_,_⟩:Bfi) hk HX
  ·have hk:below.take k=below:=aV EY;rw [hk];refine go ?_;refine Aea T9 rfl fun ys Fy Gy hyl hym=>?_;refine Ba0 i hi hyl hym fun G1 Gi G2=>?_;refine Av (E:=EC 3) (xs:=ys) fun Fr=>?_;refine Ba3 (E:=EC 3) (xs:=ys) i EY fun F6 hc1 hc2=>?_;refine Ar [8] [13] ?_;refine Dh 1 2 ?_;refine dt 3 ?_;refine dt 4 ?_ (hy:=Pd (i:=i) rfl rfl rfl EY EY);refine C4 6 7 8 9 ?_;refine Aqk 10 (i+1) fun a7 c7 F7=>?_;refine dN 0 ?_;apply Kt;rfl;intro _;refine C3 (EC 3) ?_;refine dk ?_;refine dN 5 ?_
   refine N5 (Ql 3) (Ik 3) (fun a6 c6 F6=>?_) (hn:=GD) (h63:=GV) (hby:=GV);refine dk ?_;refine dN 11 ?_;refine N5 (Ql 3) (Ik 3) (fun a8 c8 F8=>?_) (h63:=GV) (hby:=GV);refine dk ?_;refine dt 12 ?_;refine dN 13 ?_;refine oS ?_;refine Nm ?_;refine dd ?_;refine As8 (E:=Ex) ?_;refine Bay (E:=Ex) (m:=3) (ys:=([]++ys.take i)++ys.drop (i+1)) (cs:=(ys.take i).flatten++(ys.drop (i+1)).flatten) (xs:=e.Ah.take i++e.Ah.drop (i+1)) ?_ rfl FA HS;refine go ?_
   refine Aty (n:=(([]++ys.take i)++ys.drop (i+1)).length) ⟨e.Ai,e.Ah.take i++e.Ah.drop (i+1)⟩ HS ?_;exact EE
 ·rw [e1,Amc e2,Bco e2];refine go ?_;refine Ay rfl (fun h5=>?_) (fun h5=>?_)
  ·rw [aH EY];refine go ?_;apply wO;refine N5 C7 Eb fun a4 c4 F4=>?_;refine go ?_;refine Aty e rfl ?_;exact EE
  ·rw [aC EY];refine go ?_;refine Aty e rfl ?_;exact EE
section
variable {P:Program} {n:Nat} {fr:Fr} {H:List Pc} {ty:TypeId} {x y z u:Operand}
def Bbw {t e m i g o len cp:Nat} {kd:IntKind} {q:Int} [hS:SlC P t e m] (hx:ev fr x=some (ab (some ⟨g,o,none⟩) len cp)) (hy:ev fr y=some (.int kd q)) (hq:q=(i:Int)) (hi:i<=len) (hlc:len<=cp):Yd P n fr H (.slice t x (some y) none none) ty (ab (some ⟨g,if cp=i then o else o+i * m,none⟩) (len - i) (cp - i)):=.mk fun ac w d pos Cf gd hA _=>by
 subst hq;have he2:P.elem t=e:=IH
 have h3:(Instr.sliceAt t (ab (some ⟨g,o,none⟩) len cp) (some (.int kd (i:Int))) none none).run P w=.ok (ab (some ⟨g,if cp=i then o else o+i * m,none⟩) (len - i) (cp - i)) w:=by
  rw [run_sliceAt_slice (h:=GE),run_slice_l (ht:=GE) (h0:=EY) (h1:=EY),he2,Nb hS.s];simp only [Result.andThen,sliced,bW,Addr.add_lit,ba]
  split <;> rfl
 exact BK
def Atg {t e m i j g o len cp:Nat} {kd kd2:IntKind} {q r:Int} [hS:SlC P t e m] (hx:ev fr x=some (ab (some ⟨g,o,none⟩) len cp)) (hy:ev fr y=some (.int kd q)) (hz:ev fr z=some (.int kd2 r)) (hq:q=(i:Int)) (hr:r=(j:Int)) (hi:i < cp) (hij:i<=j) (hj:j<=cp):Yd P n fr H (.slice t x (some y) (some z) none) ty (ab (some ⟨g,o+i * m,none⟩) (j - i) (cp - i)):=.mk fun ac w d pos Cf gd hA _=>by
 subst hq hr;have he2:P.elem t=e:=IH
 have h3:(Instr.sliceAt t (ab (some ⟨g,o,none⟩) len cp) (some (.int kd (i:Int))) (some (.int kd2 (j:Int))) none).run P w=.ok (ab (some ⟨g,o+i * m,none⟩) (j - i) (cp - i)) w:=by
  rw [run_sliceAt_slice (h:=GE),run_slice_lh (ht:=GE) (h0:=EY) (h1:=EY) (h2:=EY),he2,Nb hS.s];simp only [Result.andThen,sliced,bW,Addr.add_lit,ba];rw [aC EY]
 simp only [execOp,cP,bW,hA.ev hx,hA.ev hy,hA.ev hz,Sem.run_bind,h3,Result.andThen_ok,Sem.run_pure]
end
section
variable {c:Cx} {fr:Fr} {H:List Pc} {k:List It} {Φ:Gl} {d:Nat} {ty:TypeId} {x y z u:Operand}
def Aos {t e m n cp i j l:Nat} {a:aj} {q r s:Int} [hS:SlC c.P t e m] (hd:Nat.blt d c.n=true) (hx:ev fr x=some (ab a n cp)) (hy:ev fr y=some (aa q)) (hz:ev fr z=some (aa r)) (hu:ev fr u=some (aa s)) (hq:q=(i:Int)) (hr:r=(j:Int)) (hs:s=(l:Int)) (hij:i<=j) (hjl:j<=l) (hl:l<=cp) (h:∀v,T c ((d,v)::fr) H Φ):On c fr H (some d) (.slice t x (some y) (some z) (some u)) ty Φ:=⟨fun _ _ _=>Ph fun Q ac w st g=>by
 subst hq hr hs;have he2:=Afu hS;obtain ⟨v,h3⟩:∃v,(Instr.sliceAt t (ab a n cp) (some (aa (i:Int))) (some (aa (j:Int))) (some (aa (l:Int)))).run c.P w=.ok v w:=by
  rw [run_sliceAt_slice (h:=GE),run_slice_lhm (ht:=GE) (h0:=EY) (h1:=EY) (h2:=EY) (h3:=EY),he2,Nb hS.s];exact ⟨_,rfl⟩
 have e1:∀pos Cf gd,(execOp ac.eval ⟨some d,.slice t x (some y) (some z) (some u),ty,pos,Cf,gd⟩).run c.P w=.ok (.value v) w:=by
  intro pos Cf gd;simp only [execOp,cP,bW,g.ev hx,g.ev hy,g.ev hz,g.ev hu,Sem.run_bind,h3,Result.andThen_ok,Sem.run_pure]
 rw [e1];exact (h v).h _ w st (g.put hd)⟩
def Azd {α:Type} {E:B8 α} (sc:Abn E) (one:One E) {t e m b g n cp i j q c2:Nat} {zv:Value} [hS:SlC c.P t e m] [hE:ElT c.P e zv m b] (hm:E.sz=m) {xs:List α} {F:aq} {S:List Pc}
  (hd:Nat.blt d c.n=true) (hx:ev fr x=some (ab (some ⟨g,0,none⟩) i cp)) (hy:ev fr y=some (ab (some ⟨g,q,none⟩) (n - j) c2)) (hq:j < n->q=j * m) (hij:i<=j) (hj:j<=n) (hn:n=xs.length)
  (hp:C1 H (.ow E e (ab (some ⟨g,0,none⟩) n cp) xs F) S) (h:T c ((d,ab (some ⟨g,0,none⟩) (i+(n - j)) cp)::fr) (.ow E e (ab (some ⟨g,0,none⟩) n cp) (xs.take i++xs.drop j++xs.drop (i+(n - j))) F::S) Φ) :
  On c fr H (some d) (.call { callee:=.builtin .append,args:=#[x,y],argTypes:=#[t,t] }) ty Φ:=⟨fun _ _ _=>Ph fun Q a w s ag=>by
 subst hm hn;have s1:=s.pick hp;obtain ⟨hnd,ho⟩:=s1.on (.ow E e (ab (some ⟨g,0,none⟩) xs.length cp) xs F) FA;have hF:=ho.scal sc;rcases ho with ⟨h1, -, -⟩|⟨g2,cap,cs,rest,G,h1,h2,h3,h4,h5,h6,h7⟩
 ·cases h1
 cases h1;have hG:G=[]:=IQ
 subst hG h7;obtain ⟨ti,hi,hiz⟩:=cu.1 hE.i;simp only [Prod.mk.injEq] at hiz;obtain ⟨-,i2, -⟩:=hiz;have hl:=h6.len;have hle:i+(xs.length - j)<=xs.length:=EY
 have fi:=(h6.cutL i EY).1;have fj:=(h6.cutL j hj).2;have fk:=(h6.cutL (i+(xs.length - j)) hle).2;have hd1:(cs.take (i * E.sz)).length=i * E.sz:=by have:=fi.len;rw [aP (l:=xs),cY EY] at this;exact this
 have hd2:(cs.drop (j * E.sz)).length=(xs.length - j) * E.sz:=by have:=fj.len;rwa [aX (l:=xs)] at this
 have h1c:=h6.one' one;have hsm:(i+(xs.length - j)) * E.sz<=xs.length * E.sz:=cF _ hle;have hadd:(i+(xs.length - j)) * E.sz=i * E.sz+(xs.length - j) * E.sz:=cC _ _ _;have hsrc:∀r u,(cs.drop (j * E.sz))[r]?=some u->w.cell? ((⟨g,q,none⟩:Addr).add r)=some u:=fun r u hu=>by
  have hr:r < (cs.drop (j * E.sz)).length:=(cm.1 hu).1;have hlt:j < xs.length:=by
   rcases dQ j xs.length with h|h
   ·exact h
   ·rw [hd2,show xs.length - j=0 by omega] at hr;simp at hr
  rw [hq hlt,Addr.add_lit,h2.cell,bx (by rw [aX] at hr;omega)];rw [dH] at hu;exact hu
 have hr:=fun ty=>run_append_room_cells (P:=c.P) w t ty e ti hS.u hi g 0 i cp ⟨g,q,none⟩ (xs.length - j) c2 (cs.drop (j * E.sz)) (by rw [hd2,i2]) hsrc (fun u hu=>h1c u (br hu)) EY
  (fun r hr=>by rw [i2,h2.cell,aE IS];rfl) (fun r _=>h2.frozen _)
 have e1:∀pos Cf gd,(execOp a.eval ⟨some d,.call { callee:=.builtin .append,args:=#[x,y],argTypes:=#[t,t] },ty,pos,Cf,gd⟩).run c.P w=.ok (.value (ab (some ⟨g,0,none⟩) (i+(xs.length - j)) cp)) (w.setCells g (0+i * E.sz) (cs.drop (j * E.sz))):=by
  intro pos Cf gd;simp only [execOp,resolve,invoke,builtin,Sem.run_bind,Sem.run_pure,Result.andThen_ok,cW,cI,di,ag.ev hx,ag.ev hy,hr,i2]
 rw [e1];have R0:Ip w g e (cs.take (i * E.sz)++(cs.drop (i * E.sz)).take ((xs.length - j) * E.sz)++(cs.drop ((i+(xs.length - j)) * E.sz)++rest)):=by
  rw [hadd,<-cw,aM,<-aM _ _ rest,bo,<-aM,bo];exact h2
 have R1:=Ip.put (cs.drop (j * E.sz)) _ R0 (p:=0+i * E.sz) EY (by rw [hd2,aP,aX];omega);have hk:=Mi (g:=g) (cs.drop (j * E.sz)) w (0+i * E.sz);rw [M5 w g] at R1 hk;have hW:(Pc.ow E e (ab (some ⟨g,0,none⟩) xs.length cp) (xs.take i++xs.drop j++xs.drop (i+(xs.length - j))) [g]).P (w.setCells g (0+i * E.sz) (cs.drop (j * E.sz))):=by
  have hll:(xs.take i++xs.drop j++xs.drop (i+(xs.length - j))).length=xs.length:=by simp only [aA,aP,aX];omega
  refine ⟨FA,.inr ⟨g,cp,cs.take (i * E.sz)++cs.drop (j * E.sz)++cs.drop ((i+(xs.length - j)) * E.sz),rest,[],by rw [hll],by simpa [aM] using R1,by rw [hll];exact h3,h4,?_,?_,rfl⟩⟩
  ·rw [aA,aA,hd1,hd2,aX,hl,<-h5];omega
  ·have:=((fi.all (w.setCells g (0+i * E.sz) (cs.drop (j * E.sz)))).append (fj.all _)).append (fk.all _);exact EV
 exact h.h _ _ (St.turn (M:=[.ow E e (ab (some ⟨g,0,none⟩) xs.length cp) xs [g]]) (N:=[.ow E e (ab (some ⟨g,0,none⟩) xs.length cp) (xs.take i++xs.drop j++xs.drop (i+(xs.length - j))) [g]]) s1 HF (by intro q hq;rw [aL] at hq;subst hq;exact hW) ⟨FA,trivial⟩ (by
   intro q hq b hb;rw [aL] at hq;subst hq;exact .inr (.inl ⟨_,aL.2 rfl,rfl,hb⟩))) (ag.put hd)⟩
end
def Bfg (xs:List (am)) (n i:Nat) (j:Int) (a:aj) (c:Nat) (F:aq) (hn:n=xs.length) (hi:i < xs.length) (hj:j=(i:Int)+1) (hl:xs.length<=1000000) :
  Fn prog 335 [ab a n c,aa i,aa j] [] [.ow (EC 3) 167 (ab a n c) xs F] (fun (_:aj × Nat × aq)=>True)
   (fun z=>.slice z.1 (xs.take i++xs.drop (i+1)).length z.2.1) (fun z=>[.ow (EC 3) 167 (.slice z.1 (xs.take i++xs.drop (i+1)).length z.2.1) (xs.take i++xs.drop (i+1)) z.2.2]):=by
 subst hn;refine enter func335 rfl ntmps335 fun w0=>?_;refine Amn (xs:=xs) (Ik 3) (by rintro rfl;simp at hi) ?_;rintro g rfl rfl - hc1 hc2;refine go ?_;apply wO;refine Aos (i:=i) (j:=i+1) (l:=xs.length) rfl rfl rfl rfl rfl rfl EY rfl EY EY hc1 (fun _=>?_);refine go ?_;refine Ay rfl (fun h=>absurd h EY) (fun _=>?_);refine go ?_;refine Ar [] [] ?_;refine Dh 0 1 ?_;refine dt 2 ?_ (hy:=Pd (i:=i) rfl rfl rfl EY EY);refine Dh 3 4 ?_;refine dt 5 ?_ (hy:=Bbw (i:=i+1) rfl rfl EY EY hc1);refine dN 6 ?_
 refine Azd (m:=3) (i:=i) (j:=i+1) (q:=if c=i+1 then 0 else 0+(i+1) * 3) (g:=g) (cp:=c) (n:=xs.length) (Ik 3) (Ql 3) rfl rfl rfl rfl (fun h=>by rw [aC EY];omega) EY EY rfl FC ?_;refine dk ?_;refine dt 7 ?_;refine dd ?_;refine go ?_;apply wO;apply oc;rfl;exact Atg (i:=i+(xs.length - (i+1))) (j:=xs.length) rfl rfl rfl rfl rfl EY EY hc1;refine go ?_;apply wO
 refine Asu (xs:=xs.take i++xs.drop (i+1)++xs.drop (i+(xs.length - (i+1)))) (z0:=[aa 0,ab none 0 0,aa 0]) (n:=xs.length) (cp:=c) (i:=i+(xs.length - (i+1))) (g:=g) (Ik 3) (fun w=>⟨rfl,⟨rfl,FO⟩,rfl⟩) EZ rfl rfl EY GV FC ?_;have hk:(xs.take i++xs.drop (i+1)).length=i+(xs.length - (i+1)):=GV
 refine Ail (xs:=(xs.take i++xs.drop (i+1)++xs.drop (i+(xs.length - (i+1)))).take (i+(xs.length - (i+1)))++List.replicate (xs.length - (i+(xs.length - (i+1)))) [aa 0,ab none 0 0,aa 0]) (i+(xs.length - (i+1))) (fun F2=>?_) GV;rw [bU (by rw [bU hk,hk]),bU hk,<-hk];refine go ?_;refine ret (_,c,F2) trivial rfl
def Aw4 (fid:FuncId) (bd caps:am) (A:List Pc) (hA:A.all (fun p=>!p.mu)=true) (xs:ar) (a:aj) (c:Nat) (F:aq) (p:Int->Bool) (hb:Rr prog fid=true) (hl:xs.length<=1000000000)
  (hp:∀x∈xs,∀w,O8 A w->Calls prog fid (bd++[(aa x:Value)]++caps).toArray w (RB (.bool (p x)) w)) :
  Fn prog 367 [ab a xs.length c,.func (.func fid) bd.toArray caps.toArray] (.sl Bc (ab a xs.length c) xs F::A) [] (fun (_:Unit)=>True) (fun _=>aa (Si p xs)) (fun _=>[]):=by
 refine enter func367 rfl ntmps367 (fun w0=>?_) rfl GA .nil;refine go ?_;refine Dl [0,1,4,7] (fun k:Nat=>[(8,aa (k:Nat))]) (fun k=>k<=xs.length/\∀j (_:j < k) (hj:j < xs.length),p xs[j]=false) (fun k=>xs.length - k) 0 ⟨aD _,fun j h=>by omega⟩ fun k hk=>?_;obtain ⟨hk1,hk2⟩:=hk;refine go ?_;refine Ay rfl (fun h5=>?_) (fun h5=>?_)
 ·have hh:k < xs.length:=EY
  refine go ?_;refine Im (xs:=xs) k ?_;rintro hi b o e;rw [e];refine go ?_;apply wO;refine Ab7 rfl rfl hb Wj ?_;refine cb (fun w st=>hp xs[k] (aB hh) w (fun q hq=>st.on q GB)) ?_;cases hpk:p xs[k]
  ·refine go ?_;refine Xd ?_;refine Ce (hH:=Lq _) (k+1) ⟨hh,fun j hj h=>?_⟩ EY;rcases be (bA.1 hj) with h2|rfl
   ·exact hk2 j h2 h
   ·exact hpk
  ·refine go ?_;refine ret () trivial ?_;rw [Pi hh hk2 hpk];rfl
 ·obtain rfl:k=xs.length:=EY
  exact BU
structure Awz where
 i:Nat
 j:Nat
 zs:ar
def Am0 (fid:FuncId) (bd caps:am) (A:List Pc) (hA:A.all (fun p=>!p.mu)=true) (xs:ar) (a:aj) (c:Nat) (F:aq) (p:Int->Bool) (hb:Rr prog fid=true) (hl:xs.length<=1000000000)
  (hp:∀x∈xs,∀w,O8 A w->Calls prog fid (bd++[(aa x:Value)]++caps).toArray w (RB (.bool (p x)) w)) :
  Fn prog 333 [ab a xs.length c,.func (.func fid) bd.toArray caps.toArray] A [.ow Bc 3 (ab a xs.length c) xs F] (fun (_:aj × Nat × aq)=>True)
   (fun z=>.slice z.1 (xs.filter fun x=>!p x).length z.2.1) (fun z=>[.ow Bc 3 (.slice z.1 (xs.filter fun x=>!p x).length z.2.1) (xs.filter fun x=>!p x) z.2.2]):=by
 refine enter func333 rfl ntmps333 (fun w0=>?_) rfl GA (.cons .nil);refine go ?_;refine cb (fun w st=>by
  obtain ⟨Fw, -,hw⟩:=(st.get (p:=.ow Bc 3 (ab a xs.length c) xs F) FA).2.read;refine (Aw4 fid bd caps A hA xs a c Fw p hb hl hp).val w ?_ GA;intro q hq;rcases aG.1 hq with rfl|hq
  ·exact ⟨EZ,hw⟩
  ·exact st.on q GB) ?_
 by_cases hany:xs.any p=true
 ·obtain ⟨i0,hi0,hfx,hpi,hfl⟩:=Zi hany;rw [hfx];refine Amn (xs:=xs) Eb (by rintro rfl;simp at hi0) ?_;rintro g rfl rfl - hc1 hc2;refine go ?_;refine Ca [0,1,4] (fun s:Awz=>[(5,aa (s.i:Nat)),(6,aa (s.j:Nat))]) (fun s=>[.ow Bc 3 (ab (some ⟨g,0,none⟩) xs.length c) s.zs [g]]) (fun s=>s.zs.length=xs.length/\s.j<=xs.length/\s.i < s.j/\s.zs.take s.i=(xs.take s.j).filter (fun x=>!p x)/\s.zs.drop s.j=xs.drop s.j) (fun s=>xs.length - s.j) ⟨i0,i0+1,xs⟩ ⟨rfl,hi0,Nat.lt_succ_self _,by rw [Db hi0 (by simp [hpi]),hfl],rfl⟩ fun s hs=>?_;obtain ⟨i,j,zs⟩:=s;obtain ⟨h1,h2,h3,h4,h5⟩:=hs
  dsimp only at h1 h2 h3 h4 h5 ⊢;refine go ?_;refine Ay rfl (fun h6=>?_) (fun h6=>?_)
  ·have hj:j < xs.length:=EY
   have hjz:j < zs.length:=EY
   have hx:zs[j]=xs[j]:=by
    have a1:=bF hjz;have a2:=bF hj;rw [h5,a2] at a1;exact (List.cons.inj a1).1.symm
   have hdz:zs.drop (j+1)=xs.drop (j+1):=by
    rw [<-cw,h5,cw]
   refine go ?_;refine Q4 (m:=1) Eb j ?_ FC rfl hjz;rintro _ g2 A2 cs2 B2 e1 e2 hc3 hh;cases e1;obtain ⟨rfl, -⟩:=hc3 w0;refine go ?_;refine P8 zs[j] hh hc3 ?_;rw [bv,hx];apply wO;refine Ab7 rfl rfl hb Wj ?_;refine cb (fun w st=>hp xs[j] (aB hj) w (fun q hq=>st.on q GB)) ?_;cases hpj:p xs[j]
   ·refine go ?_;refine Q4 (m:=1) Eb i ?_ FC rfl EY;rintro _ g3 A3 cs3 B3 e1 e2 hc4 hh3;cases e1;obtain ⟨rfl, -⟩:=hc4 w0;refine go ?_;refine P8 xs[j] hh3 (fun w=>⟨rfl,rfl⟩) ?_;refine Ce (hH:=Lq _) (⟨i+1,j+1,zs.set i xs[j]⟩:Awz) ⟨by simp [h1],hj,Nat.succ_lt_succ h3,?_,?_⟩ HX
    ·dsimp only;rw [Hj hj (by simp [hpj]),<-h4,cy,eG EY,gA (aK _)];rfl
    ·dsimp only;rw [gD EY,hdz]
   ·refine go ?_;refine Ce (hH:=Lq _) (⟨i,j+1,zs⟩:Awz) ⟨h1,hj,Nat.lt_succ_of_lt h3,?_,hdz⟩ HX;dsimp only;rw [Db hj (by simp [hpj]),h4]
  ·obtain rfl:j=xs.length:=EY
   have h4':zs.take i=xs.filter fun x=>!p x:=by rw [h4,bj]
   have hil:(xs.filter fun x=>!p x).length=i:=by rw [<-h4',aP];omega
   refine go ?_;apply wO;apply oc;rfl;exact Li (i:=i) rfl rfl rfl EY EY EY;refine go ?_;apply wO;refine Asu (z0:=0) (n:=xs.length) (cp:=c) (i:=i) (g:=g) Eb (fun w=>⟨rfl,rfl⟩) EZ rfl rfl h3 h1.symm FC ?_;refine go ?_;refine Ail (xs:=zs.take i++List.replicate (xs.length - i) 0) i (fun F2=>?_) (by rw [aA,aP,bi];omega);rw [bU GD,h4'];apply wO;apply oc;rfl;exact Pd (i:=i) rfl rfl rfl EY EY;refine go ?_;subst hil
   refine ret (_,c,F2) trivial rfl
 ·obtain ⟨hfx,hfl⟩:=Abv hany;rw [hfx,hfl];refine go ?_;refine ret (a,c,F) trivial rfl
def Amo {c:Cx} {fr:Fr} {H S:List Pc} {Φ:Gl} {g t:Nat} {cs:am} (h:T c fr (.cel g 0 cs::S) Φ) (h0:cs≠[]) (hp:C1 H (.row g t 0 [] cs []) S:=by exact Do):T c fr H Φ:=.mk fun ac w s ag=>by
 have s1:=s.pick hp;exact h.h ac w (s1.conv rfl ⟨h0,Iv (s1.on (.row g t 0 [] cs []) FA)⟩ (fun b hb=>hb)) ag
def As9 {c:Cx} {fr:Fr} {H S:List Pc} {Φ:Gl} {g t o k:Nat} {A B L:am} (X cs Y:am) (h:T c fr (.row g t (o+k) (A++X) cs (Y++B)::S) Φ) (hL:L=X++cs++Y:=by rfl) (hk:X.length=k:=by rfl) (hp:C1 H (.row g t o A L B) S:=by exact Do):T c fr H Φ:=.mk fun ac w s ag=>by
 subst hL hk;have s1:=s.pick hp;obtain ⟨hA,hr⟩:=s1.on (.row g t o A (X++cs++Y) B) FA;exact h.h ac w (s1.conv rfl ⟨by simp [hA],by simpa [aM] using hr⟩ (fun b hb=>hb)) ag
def Aik {c:Cx} {fr:Fr} {H S:List Pc} {Φ:Gl} {g t o k:Nat} {A B L:am} (X cs Y:am) (h:T c fr (.row g t o A L B::S) Φ) (hL:L=X++cs++Y:=by rfl) (hk:X.length=k:=by rfl) (hp:C1 H (.row g t (o+k) (A++X) cs (Y++B)) S:=by exact Do):T c fr H Φ:=.mk fun ac w s ag=>by
 subst hL hk;have s1:=s.pick hp;obtain ⟨hA,hr⟩:=s1.on (.row g t (o+X.length) (A++X) cs (Y++B)) FA;exact h.h ac w (s1.conv rfl ⟨JF,by simpa [aM] using hr⟩ (fun b hb=>hb)) ag
def Adh {p:Pc}:∀(A:List Pc),Lr (p::A) A
 | []=>.nil
 | _::r=>.cons (.there .here) (Adh r)
def Ap7 (e:Bj) (n f:Int) (g t o:Nat) (A B:am) (a:aj) (c:Nat) (F:aq) (hl:e.Ah.length<=1000000) (hf:∀x∈e.Ah,x.Bl.length<=1000000/\x.Bl.Pairwise (· < ·)) (hc0:-1000000<=e.Ai) (hc1:e.Ai<=1000000) :
  Fn prog 292 [Gj g o 0,aa n,aa f] [] [.row g t o A [aa e.Ai,ab a e.Ah.length c] B,.ow Ex 167 (ab a e.Ah.length c) e.Ah F] (fun (_:aj × Nat × aq)=>True) (fun _=>.bool (Add e n)) (fun s=>[.row g t o A [aa (N7 e n f).Ai,.slice s.1 (N7 e n f).Ah.length s.2.1] B,.ow Ex 167 (.slice s.1 (N7 e n f).Ah.length s.2.1) (N7 e n f).Ah s.2.2]):=by
 refine enter func292 rfl ntmps292 fun w0=>?_;refine go ?_;refine cb (fun w st=>by
  obtain ⟨F', -,hs⟩:=(st.get (p:=.ow Ex 167 (ab a e.Ah.length c) e.Ah F) FA).2.sl Rg;exact (Alg e n _ F').val w (I6 ⟨_,rfl,_,rfl,hs⟩)) ?_
 rcases Rv e n with ⟨h,e1,e2,e3⟩|⟨e1,e2,e3,e4⟩
 ·rw [e1,e3,Ah4 h];obtain ⟨hfx,hpw⟩:=hf e.Ah[Ml e n] (aB h);have hsl:∀y,(e.Ah.set (Ml e n) y).length=e.Ah.length:=fun y=>bG;refine go ?_;refine Adc (m:=3) (Ml e n) ?_ rfl h;rintro _ g2 A2 cs B2 k1 k2 G1 Gi G2 rfl - hc hH;refine Aa8 ?_;rintro a5 c5 F5 ev l5;obtain rfl:=Oa ev;refine go ?_;refine cb (fun w st=>by
   obtain ⟨F', -,hs⟩:=(st.get (p:=.ow Bc 3 (.slice a5 e.Ah[Ml e n].Bl.length c5) e.Ah[Ml e n].Bl F5) FA).2.read;exact (Bch _ f a5 c5 F' hpw hfx).val w (I6 ⟨EZ,hs⟩)) ?_
  cases hq:Axr e.Ah[Ml e n].Bl f
  ·have ep:Sm e.Ah[Ml e n].Bl f=e.Ah[Ml e n].Bl.take (Lp e.Ah[Ml e n].Bl f)++f::e.Ah[Ml e n].Bl.drop (Lp e.Ah[Ml e n].Bl f):=by unfold Sm;rw [aC (by simpa [Axr] using hq)]
   refine go ?_;intros;refine Be (Aw5 e.Ah[Ml e n].Bl f (Lp e.Ah[Ml e n].Bl f) a5 c5 _ F5 (Avt _ _) hfx) fun z _=>?_;rw [<-ep];refine go ?_;refine Py ⟨e.Ah[Ml e n].Ae,Sm e.Ah[Ml e n].Bl f,e.Ah[Ml e n].Cm⟩ ?_;refine Xg _ hH rfl fun F6=>?_;dsimp only;rw [<-hsl ⟨e.Ah[Ml e n].Ae,Sm e.Ah[Ml e n].Bl f,e.Ah[Ml e n].Cm⟩];exact BN
  ·have ep:Sm e.Ah[Ml e n].Bl f=e.Ah[Ml e n].Bl:=by unfold Sm;rw [aH (by simpa [Axr] using hq)]
   rw [ep];refine go ?_;refine Py ⟨e.Ah[Ml e n].Ae,e.Ah[Ml e n].Bl,e.Ah[Ml e n].Cm⟩ ?_;refine Xg _ hH rfl fun F6=>?_;dsimp only;rw [<-hsl ⟨e.Ah[Ml e n].Ae,e.Ah[Ml e n].Bl,e.Ah[Ml e n].Cm⟩];exact BN
 ·rw [e1,e3];refine go ?_;refine Ay rfl (fun h5=>?_) (fun h5=>?_)
  ·rw [Ah3 e2 EY];refine go ?_;refine Ar [0] [18] ?_;refine C4 0 1 2 3 ?_;refine C4 4 5 6 8 ?_;refine C4 9 10 11 12 ?_;refine dN 7 ?_;apply I1;rfl;rfl;rfl;rfl;exact Iy;exact Ir;intro _;refine dk ?_;refine dt 13 ?_;refine dN 14 ?_;apply I1;rfl;rfl;rfl;rfl;exact Iy;exact Ir;intro _;refine Dy (E:=Bc) (xs:=[f]) (O3 f) ?_ FA;refine Py ⟨n,[f],e.Ai+6⟩ ?_;refine dk ?_;refine dN 15 ?_;refine Ac5 T9 ⟨n,[f],e.Ai+6⟩ rfl fun a3 c3 F3=>?_;refine dk ?_;refine Dh 16 17 ?_;refine dN 18 ?_;refine oS ?_;refine Nm ?_;refine dd ?_;refine go ?_;exact BN
  ·rw [Ad3 e2 EY];refine go ?_;exact BN
def Ax9 {e:Bj} {n:Int} {l:ar} (h:Ml e n < e.Ah.length):Vg e n l=e.Ah[Ml e n].Bl.filter fun f=>decide (f∈l):=by unfold Vg;rw [aE h]
def Bcm {e:Bj} {n:Int} {l:ar} (h:e.Ah[Ml e n]?=none):Vg e n l=if e.Ah.length=5 then l else []:=by unfold Vg;rw [h]
def Av1 (x:Int) (gb:Nat) (l:ar) (a:aj) (c:Nat) (F:aq):FV 334 [aa x,Gj gb 0 0] [.cel gb 0 [ab a l.length c],.sl Bc (ab a l.length c) l F] (.bool (!decide (x∈l))):=by
 refine enter func334 rfl ntmps334 fun w0=>?_;refine go ?_;refine Be (Axx l x _ _ F) fun _ _=>?_;refine go ?_;refine ret () trivial ?_;rw [decide_not];rfl
structure Bi7 where
 a:aj
 c:Nat
 F:aq
 a2:aj
 c2:Nat
 F2:aq
def Atl (e:Bj) (n:Int) (below:ar) (g t o:Nat) (A B:am) (a:aj) (c:Nat) (F:aq) (a0:aj) (c0:Nat) (F0:aq) (hl:e.Ah.length<=1000000) (hf:∀x∈e.Ah,x.Bl.length<=1000000) (hb:below.length<=1000000) :
  Fn prog 290 [Gj g o 0,aa n,ab a0 below.length c0] [.sl Bc (ab a0 below.length c0) below F0] [.row g t o A [aa e.Ai,ab a e.Ah.length c] B,.ow Ex 167 (ab a e.Ah.length c) e.Ah F] (fun (_:Bi7)=>True) (fun s=>.slice s.a2 (Vg e n below).length s.c2) (fun s=>[.row g t o A [aa (Qn e n).Ai,.slice s.a (Qn e n).Ah.length s.c] B,.ow Ex 167 (.slice s.a (Qn e n).Ah.length s.c) (Qn e n).Ah s.F,.ow Bc 3 (.slice s.a2 (Vg e n below).length s.c2) (Vg e n below) s.F2]):=by
 refine enter func290 rfl ntmps290 fun w0=>?_;refine go ?_;intros;rename_i gb;refine cb (fun w st=>by
  obtain ⟨F', -,hs⟩:=(st.get (p:=.ow Ex 167 (ab a e.Ah.length c) e.Ah F) FA).2.sl Rg;exact (Alg e n _ F').val w (I6 ⟨_,rfl,_,rfl,hs⟩)) ?_
 refine Amo (cs:=[ab a0 below.length c0]) ?_ FA;rcases Rv e n with ⟨h,e1,e2,e3⟩|⟨e1,e2,e3,e4⟩
 ·rw [e1,Ahz h,Ax9 h];have hfx:=hf e.Ah[Ml e n] (aB h);refine go ?_;refine Aea T9 rfl fun ys Fy Gy hyl hym=>?_;generalize Ml e n=i at *;generalize hx:e.Ah[i]=x at *;refine Ba0 i h hyl hym fun G1 Gi G2=>?_;rw [hx];refine Aa8 ?_;rintro a5 c5 F5 ev l5;have hyi:ys[i]=[aa x.Ae,ab a5 x.Bl.length c5,aa x.Cm]:=by simpa using ev
  refine Q4 (m:=3) (Ik 3) i ?_ FC rfl EY;rintro _ g2 A2 cs B2 rfl rfl hr hH;obtain ⟨rfl, -⟩:=hr w0;rw [hyi];refine go ?_;refine Be (Am0 334 [] [Gj gb 0 0] [.cel gb 0 [ab a0 below.length c0],.sl Bc (ab a0 below.length c0) below F0] rfl x.Bl a5 c5 F5 (fun z=>!decide (z∈below)) FB EY (fun z _ w hA=>(Av1 z gb below a0 c0 F0).val w hA)) fun z _=>?_;have e9:(x.Bl.filter fun z=>!!decide (z∈below))=x.Bl.filter fun z=>decide (z∈below):=by simp only [Bool.not_not]
  rw [e9];rw [<-hyi];refine P8 ys[i] hH hr ?_;rw [bv];refine go ?_;refine Be (Bfg ys e.Ah.length i _ _ _ _ hyl.symm EY rfl EY) fun q _=>?_;refine go ?_;refine As8 (E:=Ex) ?_;refine Bay (E:=Ex) (m:=3) (ys:=ys.take i++ys.drop (i+1)) (cs:=(ys.take i).flatten++(ys.drop (i+1)).flatten) (xs:=e.Ah.take i++e.Ah.drop (i+1)) ?_ rfl FA HS;rw [show (ys.take i++ys.drop (i+1)).length=(e.Ah.take i++e.Ah.drop (i+1)).length by simp [hyl]];refine ret ⟨_,_,_,_,_,_⟩ trivial rfl
 ·rw [e1,Amc e2,Bcm e2];refine go ?_;refine Ay rfl (fun h5=>?_) (fun h5=>?_)
  ·rw [aH EY];refine go ?_;refine cn (fun w st=>Th _ below F0 w (st.get (p:=.sl Bc (ab a0 below.length c0) below F0) FA).2 EY) fun a6 c6 F6=>?_;exact DP
  ·rw [aC EY];refine Bt Bc 3 ?_;exact DP
def Anu {e:Bj} (h:Bb e=true) {x:Hk} (hx:x∈e.Ah):x.Bl.Pairwise (· < ·):=by
 unfold Bb at h;simp only [aw] at h;obtain ⟨i,hi,rfl⟩:=bl hx;have:=J8 h.2 i hi;rw [Ky hi] at this;simp only [Lj,aw] at this;exact (Zr this.1.2.2.1).1
def Asi {e:Bj} {n:Int} {l:ar} (h:Bb e=true) (h2:Rc 1 7 l=true):Abu e n l=Vg e n l:=by
 unfold Abu Vg;cases hx:e.Ah[Ml e n]? with
 | none=>rfl
 | some x=>exact (Anv (Anu h (ci hx)) (Zr h2).1).symm
def Lo (e:Bj) (n:Int):ar:=match e.Ah[Ml e n]? with
 | some x=>x.Bl
 | none=>[]
def Gc (e:Bj) (n:Int):ar × Bool:=if Bb e && Cd n then (Lo e n,true) else ([],false)
def Ut {e:Bj} {n:Int} (h:(Bb e && Cd n)=false):Gc e n=([],false):=by unfold Gc;rw [h];rfl
def Ap8 (e:Bj) (n:Int) (v:Value) (F:aq):Fn prog 162 [v,aa n] [.isv Bz v e F] [] (fun (_:aj × Nat × aq)=>True) (fun s=>.tuple #[.slice s.1 (Gc e n).1.length s.2.1,.bool (Gc e n).2]) (fun s=>[.ow Bc 3 (.slice s.1 (Gc e n).1.length s.2.1) (Gc e n).1 s.2.2]):=by
 refine enter func162 rfl ntmps162 fun w0=>?_;refine Bt Bc 3 ?_;refine Ee ?_;rintro a1 c1 F1 rfl l1;refine go ?_;intros;refine cb (fun w st=>U7 _ e _ w (st.get (p:=.isv Bz (.agg #[aa e.Ai,ab a1 e.Ah.length c1]) e F) FA)) ?_;cases g1:Bb e
 ·skip
  rw [Ut (by simp [g1])];refine go ?_;exact BN
 obtain ⟨hck,hl5,hf7⟩:=Vh g1;refine go ?_;refine ce (fun w s=>Jj n _) ?_;cases g2:Cd n
 ·skip
  rw [Ut (by simp [g1,g2])];refine go ?_;exact BN
 refine go ?_;refine Be (Alg e n _ F) fun _ _=>?_;rw [show Gc e n=(Lo e n,true) by unfold Gc;rw [g1,g2];rfl];rcases Rv e n with ⟨h,e1,e2,e3⟩|⟨e1,e2,e3,e4⟩
 ·have hfx:=hf7 e.Ah[Ml e n] (aB h);rw [e1,show Lo e n=e.Ah[Ml e n].Bl by unfold Lo;rw [aE h]];refine Sw (xs:=e.Ah) (Ml e n) ?_;rintro hi b o a5 c5 F5 e6 l5;rw [e6];refine go ?_;refine cn (fun w st=>Th _ e.Ah[Ml e n].Bl F5 w (st.get (p:=.sl Bc (.slice a5 e.Ah[Ml e n].Bl.length c5) e.Ah[Ml e n].Bl F5) FA).2 EY) fun a6 c6 F6=>?_;refine go ?_;exact BN
 ·rw [e1,show Lo e n=[] by unfold Lo;rw [e2]];refine go ?_;exact BN
def Aif (e:Bj) (n:Int) (v:Value) (F:aq):Fn prog 135 [v,aa n] [.isv Bz v e F] [] (fun (_:aj × Nat × aq)=>True) (fun s=>.tuple #[.slice s.1 (Gc e n).1.length s.2.1,.bool (Gc e n).2]) (fun s=>[.ow Bc 3 (.slice s.1 (Gc e n).1.length s.2.1) (Gc e n).1 s.2.2]):=by
 refine enter func135 rfl ntmps135 fun w0=>?_;refine Ee ?_;rintro a1 c1 F1 rfl l1;refine go ?_;intros;refine cb (fun w st=>Akc _ e _ w (st.get (p:=.isv Bz (.agg #[aa e.Ai,ab a1 e.Ah.length c1]) e F) FA)) ?_;cases g1:Bb e
 ·skip
  rw [Ut (by simp [g1])];refine go ?_;intros;refine C3 Bc ?_;exact BN
 obtain ⟨hck,hl5,hf7⟩:=Vh g1;refine go ?_;refine ce (fun w s=>Oh n _) ?_;cases g2:Cd n
 ·skip
  rw [Ut (by simp [g1,g2])];refine go ?_;intros;refine C3 Bc ?_;exact BN
 refine go ?_;refine Be (Ado e n _ F) fun _ _=>?_;rw [show Gc e n=(Lo e n,true) by unfold Gc;rw [g1,g2];rfl];rcases Rv e n with ⟨h,e1,e2,e3⟩|⟨e1,e2,e3,e4⟩
 ·have hfx:=hf7 e.Ah[Ml e n] (aB h);rw [e1,show Lo e n=e.Ah[Ml e n].Bl by unfold Lo;rw [aE h]];refine Sw (xs:=e.Ah) (Ml e n) ?_;rintro hi b o a5 c5 F5 e6 l5;rw [e6];refine go ?_;refine cn (fun w st=>Zk _ e.Ah[Ml e n].Bl F5 w (st.get (p:=.sl Bc (.slice a5 e.Ah[Ml e n].Bl.length c5) e.Ah[Ml e n].Bl F5) FA).2 EY) fun a6 c6 F6=>?_;refine go ?_;exact BN
 ·rw [e1,show Lo e n=[] by unfold Lo;rw [e2]];refine go ?_;intros;refine C3 Bc ?_;exact BN
def Ar0 (v v2:Value) (e:Bj) (F F2:aq):FV 66 [v,v2] [.isv Bz v e F,.isv Bz v2 e F2] (.bool true):=by
 refine enter func66 rfl ntmps66 fun w0=>?_;refine Ee (v:=v) (x:=e) (F:=F) ?_;rintro a1 c1 F3 rfl l1;unfold maxLen at l1;refine Ee (v:=v2) (x:=e) (F:=F2) ?_;rintro a2 c2 F4 rfl l2;refine go ?_;intros;refine Dd rfl rfl (fun h1=>?_) (fun h1=>?_)
 ·exact absurd rfl h1
 refine go ?_;refine Ay rfl (fun h2=>?_) (fun h2=>?_)
 ·exact absurd rfl h2
 refine go ?_;refine Dl [2,3,4] (fun k:Nat=>[(5,aa (k:Nat))]) (fun k=>k<=e.Ah.length) (fun k=>e.Ah.length - k) 0 (aD _) fun k hk=>?_;refine go ?_;refine Ay rfl (fun h3=>?_) (fun h3=>?_)
 ·have hk3:k < e.Ah.length:=EY
  refine Sw (a:=a1) (xs:=e.Ah) k ?_;rintro hi b o a5 c5 F5 e6 l5;rw [e6];refine Sw (a:=a2) (xs:=e.Ah) k ?_;rintro hi2 b2 o2 a7 c7 F7 e8 l7;rw [e8];refine go ?_;refine Ar [0,2,4,5] [] ?_;refine C4 0 1 2 3 ?_;refine C4 4 5 6 7 ?_;refine Dh 8 9 ?_;refine dM 10 11 ?_ ?_
  ·apply Cn;rfl;intro _;refine dk ?_;refine dN 11 ?_;apply Cn;rfl;intro _;refine dk ?_;refine dN 12 ?_;refine oS ?_;refine dk ?_;refine dN 13 ?_;refine oS ?_;refine dk ?_;refine dd ?_;refine go ?_;refine Dd rfl rfl (fun h4=>?_) (fun h4=>?_)
   ·exact absurd rfl h4
   refine go ?_;refine Dd rfl rfl (fun h5=>?_) (fun h5=>?_)
   ·exact absurd rfl h5
   refine go ?_;refine Be (Ams _ _ e.Ah[k].Bl F5 F7) fun _ _=>?_;refine go ?_;refine Ce (k+1) EY EY
  ·apply Cn;rfl;intro _;refine dk ?_;refine dN 10 ?_;apply Cn;rfl;intro _;refine dk ?_;refine dN 12 ?_;refine oS ?_;refine dk ?_;refine dN 13 ?_;refine oS ?_;refine dk ?_;refine dd ?_;refine go ?_;refine Dd rfl rfl (fun h4=>?_) (fun h4=>?_)
   ·exact absurd rfl h4
   refine go ?_;refine Dd rfl rfl (fun h5=>?_) (fun h5=>?_)
   ·exact absurd rfl h5
   refine go ?_;refine Be (Ams _ _ e.Ah[k].Bl F5 F7) fun _ _=>?_;refine go ?_;refine Ce (k+1) EY EY
 ·exact AA
structure Nf where
 Ad:ar
def Ro:B8 Nf where
 sz:=1
 Mj w cs x F:=∃v1,cs=[v1]/\Sl Bc w v1 x.Ad F
 len h:=GT
 lt h:=GS
 frame h hF:=FX
end Go.Proofs.YtmppejmafbfhlaaGreatDoor
namespace Go.Proofs.YtmppejmafbfhlaaGreatDoor

open Go.RowKit
end Go.Proofs.YtmppejmafbfhlaaGreatDoor
