/- Part 3 of the proof: 52 texts, one behind the other. -/
import Derived.Laws.IdiomStrings
import Derived.Laws.StructEq
import Derived.Deep.RegionLaw
import Derived.BigQuiet
import Derived.ArgAppend
import Derived.Test.YtkoldibamfjghaaGreatDoorM2
open _root_.Go.Proofs.Tryz
set_option maxRecDepth 100000
set_option maxHeartbeats 8000000
set_option linter.all false
set_option linter.unusedVariables false
set_option linter.unusedSimpArgs false
namespace Go.Proofs.YtkoldibamfjghaaGreatDoor
theorem AC{p:Prop}(h:p:=by refine dk ?_;refine dN 7 ?_;refine Np (Oq n) Da (fun a3 c3 F3=>?_) (h63:=by exact Jo) (hby:=by exact Jo);refine dk ?_;refine dN 11 ?_;refine Nm Da Ek (fun a4 c4 F4=>?_) (h63:=by exact Jo) (hby:=by exact Jo);refine dk ?_;refine dt 12 ?_;refine dd ?_;rw [e];refine go ?_;refine ret ⟨_,_,_⟩ trivial rfl):p:=h
theorem AJ{p:Prop}(h:p:=by refine dk ?_;refine dN 8 ?_;refine Np (U6 ⟨p.Ae,x.Ai+3⟩) I0 fun a8 c8 F8=>?_;refine dk ?_;refine dN 13 ?_;refine Nm (ys:=x.holds.drop (Gf x.Aa.Am x.holds p.Ae)) I0 Kv (h63:=by simp;omega) (hby:=by simp;omega) fun a9 c9 F9=>?_;refine dk ?_;refine dt 14 ?_;refine dN 15 ?_;refine oS ?_;refine dk ?_;refine dd ?_;refine go ?_;rw [hAdd];refine Bh (⟨a9,c9,F9⟩:Bao) trivial):p:=h
theorem AX{p:Prop}(h:p:=by obtain ⟨b,o,cs,G,ha,hrep,hG,hb,hne,hr⟩:=Wp (s.get hm) i hi;obtain ⟨v1,rfl,h1⟩:=hrep;obtain ⟨a1,c1,rfl⟩:=h1.slice;have l1:=h1.len;have t1:=s.ro (p:=.sl _ _ _ _) hm rfl rfl ⟨by decide,h1⟩ (by intro b hb;simp only [Pc.F] at hb ⊢;exact hG b (by simp [hb]));exact (h hi b o a1 c1 G ha  l1).h ac w (t1.ro (aN _ hm) rfl rfl ⟨hne,hr⟩ (by intro x hx;simp [Pc.F] at hx;subst hx;exact hb)) g):p:=h
theorem BB{p:Prop}(h:p:=by refine go ?_;refine ret ⟨_,_,_⟩ trivial rfl):p:=h
theorem BC{p:Prop}(h:p:=by refine ret () trivial rfl):p:=h
theorem BD{p:Prop}(h:p:=by refine dk ?_;refine dN 4 ?_;refine Nm Da Ek (fun a2 c2 F2=>?_) (hn:=by rw [aO];omega) (h63:=by exact Jo) (hby:=by exact Jo);exact AC):p:=h
theorem BE{p:Prop}(h:p:=by refine Cb (k+1) hk3 (by omega)):p:=h
theorem BT{p:Prop}(h:p:=by refine go ?_;refine ret () trivial ?_;rw [M6 (fun j hj=>hk2 j hj hj)];rfl):p:=h
theorem BY{p:Prop}(h:p:=by refine dk ?_;refine dN 6 ?_;refine oS ?_;refine dk ?_;refine dd ?_;refine go ?_;refine Bh (⟨_,z.a,z.c,z.a2,z.c2,z.F⟩:RjS) trivial):p:=h
theorem CF{p:Prop}(h:p:=by refine dN 10 ?_;refine oS ?_;refine dk ?_;refine dt 11 ?_;refine dd ?_;refine go ?_;intros;apply wO;refine Np (De (Dn W p).1 (Afi hW)) Ho fun a9 c9 F9=>?_;refine go ?_;refine ret ⟨a,c,z.1,z.2.1,_,a9,c9,F9⟩ trivial rfl):p:=h
theorem CR{p:Prop}(h:p:=by refine dk ?_;refine dt 6 ?_;refine dd ?_;refine go ?_;refine Eh (xs:=[Rs x.Aa]) (De _ (by show (⟨#[]⟩:au).size<=maxLen;decide)) ?_ (by simp);refine ret ⟨s.a,s.c,s.a2,s.c2,s.F,_,_,_⟩ trivial rfl):p:=h
theorem CU{p:Prop}(h:p:=by refine dd ?_;refine go ?_;exact BE):p:=h
theorem CW{p:Prop}(h:p:=by refine Nm Da Ek (fun a2 c2 F2=>?_) (hn:=by rw [aO];omega) (h63:=by exact Jo) (hby:=by exact Jo);refine dk ?_;refine dN 6 ?_;apply Iz;rfl;rfl;rfl;rfl;exact Ir;exact Io;intro _;exact AC):p:=h
theorem DD{p:Prop}(h:p:=by refine go ?_;refine V8 ?_;refine Cb (hH:=Li _) (q+1,j) ⟨by show q+1<=j;omega,h2,fun k hk h=>hm k q (by have:k < q+1:=hk;omega) hh h6,h4⟩ (by show j - (q+1) < j - i;omega)):p:=h
theorem DE{p:Prop}(h:p:=by refine go ?_;refine V8 ?_;refine Cb (hH:=Li _) (i,q) ⟨by show i<=q;omega,by show q<=xs.length;omega,h3,fun k hk h hn=>h6 (hm q k hk h hn)⟩ (by show q - i < j - i;omega)):p:=h
theorem DI{p:Prop}(h:p:=by rintro hi b o e;rw [e];refine go ?_;apply wO;refine Ae0 rfl rfl hb Vi ?_;refine cb (fun w st=>hp xs[i] (aB hh) w (fun p hp=>st.on p (by simp [hp]))) ?_;exact AA):p:=h
theorem DJ{p:Prop}(h:p:=by refine go ?_;refine ret (a2,c2,F2) trivial rfl):p:=h
theorem DM{p:Prop}(h:p:=by refine go ?_;refine ret ⟨_,_,_,_,_,_⟩ trivial rfl):p:=h
theorem EL{p:Prop}(h:p:=by apply Iz;rfl;rfl;rfl;rfl;exact Ir;exact Io;intro _;refine dk ?_;refine dN 0 ?_;apply Kj;rfl;intro _;refine C1 Bb ?_;exact BD):p:=h
theorem FJ{p:Prop}(h:p:=by simp [Value.oneCell']):p:=h
theorem FK{p:Prop}(h:p:=by obtain ⟨v1,v2,v3,v4,v5,v6,v7,F1,F2,F3,F4,F5,F6,F7,rfl,h1,h2,h3,h4,h5,h6,h7,rfl⟩:=h;exact ⟨v1,v2,v3,v4,v5,v6,v7,F1,F2,F3,F4,F5,F6,F7,rfl,h1.frame fun b hb=>hF b (by simp [hb]),h2.frame fun b hb=>hF b (by simp [hb]),h3.frame fun b hb=>hF b (by simp [hb]),h4.frame fun b hb=>hF b (by simp [hb]),h5.frame fun b hb=>hF b (by simp [hb]),h6.frame fun b hb=>hF b (by simp [hb]),h7.frame fun b hb=>hF b (by simp [hb]),rfl⟩):p:=h
theorem FR{p:Prop}(h:p:=by simpa [Pc.mu] using hA):p:=h
theorem GA{p:Prop}(h:p:=by rw [aO];omega):p:=h
theorem GS{p:Prop}(h:p:=by exact Jo):p:=h
theorem GT{p:Prop}(h:p:=by rw [hBl];congr 1;show _=min (xs.length+1 - i) (xs.length+1 - (i+1));omega):p:=h
theorem GW{p:Prop}(h:p:=by rw [hBl];congr 1;show _=min (xs.length - i) (xs.length+1 - (i+1));omega):p:=h
theorem GX{p:Prop}(h:p:=by simp [aM]):p:=h
theorem GY{p:Prop}(h:p:=by intro e;have:=congrArg List.length e;simp only [aA,aY] at this;omega):p:=h
theorem HE{p:Prop}(h:p:=by intro b hb;simp only [Pc.F] at hb ⊢;exact hG b (by simp [hb])):p:=h
theorem HJ{p:Prop}(h:p:=by intro u hu;simp at hu;rcases hu with rfl|rfl|rfl|rfl <;> rfl):p:=h
theorem HL{p:Prop}(h:p:=by simp [hyl]):p:=h
theorem HN{p:Prop}(h:p:=by simp only [aA];omega):p:=h
theorem HQ{p:Prop}(h:p:=by dsimp only;omega):p:=h
theorem HV{p:Prop}(h:p:=by rw [hcs];simp [hu]):p:=h
theorem IZ{p:Prop}(h:p:=by obtain ⟨v1,v2,v3,v4,v5,v6,v7,F1,F2,F3,F4,F5,F6,F7,rfl,h1,h2,h3,h4,h5,h6,h7,rfl⟩:=h;rfl):p:=h
theorem KC{p:Prop}(h:p:=by rw [aM A B rest,hXY];simp [aM]):p:=h
end Go.Proofs.YtkoldibamfjghaaGreatDoor
namespace Go.Proofs.YtkoldibamfjghaaGreatDoor
open Go.RowKit
theorem Ls {x:Aw} {p:As} (h:Kc x p=false):Dn x p=(zPk,false):=by unfold Dn;rw [h];rfl
theorem Zh {x:Aw} {p:As} (h:Kc x p=true):Dn x p=(Al7 x p.Ae,true):=by unfold Dn;rw [h];rfl
theorem Aa6 {x:Aw} {n:Int} (h:I8 x n=true):(gp x.Am n).toNat < x.Ak.length:=by
 have b:=Ll x.Am n;unfold I8 at h;simp only [aF] at h;omega
theorem Us {x:Aw} {n:Int} (h:(gp x.Am n).toNat < x.Ak.length):Z0 x n=x.Ak[(gp x.Am n).toNat]:=by
 unfold Z0;rw [br,aD h];rfl
theorem Ae9 (x:Aw) (p:As) (v:Value) (F:aq) (hs:p.data.size<=maxLen):FV 355 [v,.agg #[aa p.Cq,aa p.Ae,aa p.Am,aa p.Er,af p.data]] [.isv Cf v x F] (.tuple #[.agg #[aa (Dn x p).1.Cq,aa (Dn x p).1.Ae,aa (Dn x p).1.Am,aa (Dn x p).1.Er,af (Dn x p).1.data],.bool (Dn x p).2]):=by
 refine enter func355 rfl ntmps355 fun w0=>?_;refine E6 ?_;rintro a1 c1 F1 rfl l1;refine go ?_;intros;refine cb (fun w st=>Rr _ x _ w (st.get (p:=.isv Cf (.agg #[aa x.Am,aa x.size,ab a1 x.Ak.length c1]) x F) EX)) ?_;cases g1:D6 x
 ·refine go ?_;rw [Ls (by unfold Kc;rw [g1];rfl)];exact BC
 obtain ⟨⟨t0,t1⟩,⟨z0,z1⟩,hl,hi⟩:=Dq.1 g1;have hl6:x.Ak.length<=6:=EV
 refine go ?_;refine Be (Wi p hs) fun _ _=>?_;cases g2:Bo p
 ·refine go ?_;rw [Ls (by unfold Kc;rw [g1,g2];rfl)];exact BC
 obtain ⟨n0,n1⟩:=Kr g2;refine go ?_;refine Dc rfl rfl (fun h3=>?_) (fun h3=>?_)
 ·refine go ?_;rw [Ls (by unfold Kc;rw [g1,g2,ay h3];rfl)];exact BC
 have h3:=cX.1 h3;refine go ?_;refine cb (fun w st=>(Xl x p.Ae _ F t0 t1 n0 n1).val w (I4 (st.get (p:=.isv Cf (.agg #[aa x.Am,aa x.size,ab a1 x.Ak.length c1]) x F) EX))) ?_;cases g3:I8 x p.Ae
 ·refine go ?_;rw [Ls (by unfold Kc;rw [g1,g2,g3];simp)];exact BC
 rw [Zh (by unfold Kc;rw [g1,g2,g3,av h3];rfl)];have b:=Ll x.Am p.Ae;have hk3:=Aa6 g3;rw [show Al7 x p.Ae=⟨2,p.Ae,x.Am,Lo x,x.Ak[(gp x.Am p.Ae).toNat]⟩ by unfold Al7;rw [Us hk3]];refine Mg (xs:=x.Ak) (gp x.Am p.Ae).toNat ?_;rintro hi b2 o2 e s1;rw [e];refine Ih ?_;intros;refine Ar [0,2,3] [] ?_;refine C8 0 1 2 3 ?_;refine C8 4 6 7 8 ?_;refine Dg 9 10 ?_;refine dt 11 ?_;refine dN 5 ?_;refine oC ?_;refine cb (fun w _=>Iv _ _ _ _ _ w t0 t1 EV) ?_;refine dk ?_;refine dN 12 ?_;refine oC ?_;refine ce (fun w s=>Pf _ _ _ EV EV EV EV) ?_;refine dk ?_
 refine Dg 13 14 ?_;refine dt 15 ?_;refine dN 16 ?_;refine oS ?_;refine dk ?_;refine dt 17 ?_;exact CQ
theorem Ag8 (x:Aw) (p:As) (v:Value) (F:aq) (hs:p.data.size<=maxLen):FV 245 [v,.agg #[aa p.Cq,aa p.Ae,aa p.Am,aa p.Er,af p.data]] [.isv Cf v x F] (.tuple #[.agg #[aa (Dn x p).1.Cq,aa (Dn x p).1.Ae,aa (Dn x p).1.Am,aa (Dn x p).1.Er,af (Dn x p).1.data],.bool (Dn x p).2]):=by
 refine enter func245 rfl ntmps245 fun w0=>?_;refine E6 ?_;rintro a1 c1 F1 rfl l1;refine go ?_;intros;refine cb (fun w st=>Am8 _ x _ w (st.get (p:=.isv Cf (.agg #[aa x.Am,aa x.size,ab a1 x.Ak.length c1]) x F) EX)) ?_;cases g1:D6 x
 ·refine go ?_;rw [Ls (by unfold Kc;rw [g1];rfl)];exact BC
 obtain ⟨⟨t0,t1⟩,⟨z0,z1⟩,hl,hi⟩:=Dq.1 g1;have hl6:x.Ak.length<=6:=EV
 refine go ?_;refine Be (Am7 p hs) fun _ _=>?_;cases g2:Bo p
 ·refine go ?_;rw [Ls (by unfold Kc;rw [g1,g2];rfl)];exact BC
 obtain ⟨n0,n1⟩:=Kr g2;refine go ?_;refine Dc rfl rfl (fun h3=>?_) (fun h3=>?_)
 ·refine go ?_;rw [Ls (by unfold Kc;rw [g1,g2,ay h3];rfl)];exact BC
 have h3:=cX.1 h3;refine go ?_;refine cb (fun w st=>(Am9 x p.Ae _ F t0 t1 n0 n1).val w (I4 (st.get (p:=.isv Cf (.agg #[aa x.Am,aa x.size,ab a1 x.Ak.length c1]) x F) EX))) ?_;cases g3:I8 x p.Ae
 ·refine go ?_;rw [Ls (by unfold Kc;rw [g1,g2,g3];simp)];exact BC
 rw [Zh (by unfold Kc;rw [g1,g2,g3,av h3];rfl)];have b:=Ll x.Am p.Ae;have hk3:=Aa6 g3;rw [show Al7 x p.Ae=⟨2,p.Ae,x.Am,Lo x,x.Ak[(gp x.Am p.Ae).toNat]⟩ by unfold Al7;rw [Us hk3]];refine Mg (xs:=x.Ak) (gp x.Am p.Ae).toNat ?_;rintro hi b2 o2 e s1;rw [e];refine Ih ?_;intros;refine Ar [0,2,3] [] ?_;refine C8 0 1 2 3 ?_;refine C8 4 6 7 8 ?_;refine Dg 9 10 ?_;refine dt 11 ?_;refine dN 5 ?_;refine oC ?_;refine cb (fun w _=>Td _ _ _ _ _ w t0 t1 EV) ?_;refine dk ?_;refine dN 12 ?_;refine oC ?_;refine ce (fun w s=>Jm _ _ _ EV EV) ?_;refine dk ?_;refine Dg 13 14 ?_
 refine dt 15 ?_;refine dN 16 ?_;refine oS ?_;refine dk ?_;refine dt 17 ?_;exact CQ
end Go.Proofs.YtkoldibamfjghaaGreatDoor
namespace Go.Proofs.YtkoldibamfjghaaGreatDoor

theorem X9 {α:Type} {p:α->Bool}:∀{xs:List α} {k:Nat},k<=xs.length->(∀j (_:j < k) (h:j < xs.length),p xs[j]=true)->(∀h:k < xs.length,p xs[k]=false)->(xs.takeWhile p).length=k
 | [],k,hk,_,_=>by simp at hk;simp [hk]
 | x::r,0,_,_,h2=>by have:=h2 EX;simp at this;simp [this]
 | x::r,k+1,hk,h1,h2=>by
  have hx:p x=true:=h1 0 EV EX;rw [fy hx,aU,X9 (xs:=r) (k:=k) (by simpa using hk) (fun j hj h=>by have:=h1 (j+1) EV FF;simpa using this) (fun h=>by have:=h2 FF;simpa using this)]
theorem Qx {α:Type} {p:α->Bool}:∀{xs:List α},(xs.takeWhile p).length<=xs.length/\(∀j (_:j < (xs.takeWhile p).length) (h:j < xs.length),p xs[j]=true)/\∀h:(xs.takeWhile p).length < xs.length,p xs[(xs.takeWhile p).length]=false
 | []=>by simp
 | x::r=>by
  cases hx:p x
  ·rw [List.takeWhile_cons_of_neg IA];simp [hx]
  ·rw [fy hx];obtain ⟨h1,h2,h3⟩:=Qx (p:=p) (xs:=r);refine ⟨HR,fun j hj h=>?_,fun h=>?_⟩
   ·cases j with
    | zero=>simpa using hx
    | succ j=>simpa using h2 j HZ FF
   ·simpa using h3 FF
def Bbk {α:Type} (f:α->Int):Option α->Bool
 | some x=>decide (f x=0)
 | none=>false
end Go.Proofs.YtkoldibamfjghaaGreatDoor
namespace Go.Proofs.YtkoldibamfjghaaGreatDoor
open Go.RowKit
theorem Axc {t a b:Int} (ha:0<=a/\a<=65535) (hb:0<=b/\b<=65535) (h:gp t a=gp t b):a=b:=by unfold gp at h;omega
def srt (t:Int) (hs:List Iu):Prop:=hs.Pairwise fun a b=>gp t a.Ae < gp t b.Ae
theorem Eo {x:Cs}:Cr x=true↔D6 x.Aa=true/\Kt x.Ai=true/\Ff 0 x.quiet 3=true/\(∀h∈x.holds,B8 h.Ae=true/\I8 x.Aa h.Ae=true/\Ff (x.Ai+1) h.Cg (x.Ai+3)=true)/\srt x.Aa.Am x.holds:=by
 unfold Cr;simp only [aw,aV,cO];constructor
 ·rintro ⟨⟨⟨h1,h2⟩,h3⟩,h4⟩;refine ⟨h1,h2,h3,fun h hh=>?_,?_⟩
  ·obtain ⟨i,hi,rfl⟩:=bi hh;have:=h4 i hi;rw [Po hi] at this;simp only [aw] at this;exact ⟨this.1.1.1,this.1.1.2,this.1.2⟩
  ·have step:∀i (hi:i+1 < x.holds.length),gp x.Aa.Am x.holds[i].Ae < gp x.Aa.Am x.holds[i+1].Ae:=fun i hi=>by
    have:=h4 (i+1) hi;rw [Po hi] at this;simp only [aw,bW,aF,bu,bM] at this;have h:=this.2;rcases h with h|h
    ·omega
    ·simpa using h
   refine bh.2 fun i j hi hj hij=>?_;obtain ⟨d,rfl⟩:∃d,j=i+1+d:=⟨j - i - 1,EV⟩;clear hij
   induction d with
   | zero=>exact step i hj
   | succ d ih=>exact gC (ih EV) (step (i+1+d) hj)
 ·rintro ⟨h1,h2,h3,h4,h5⟩;refine ⟨⟨⟨h1,h2⟩,h3⟩,fun i hi=>?_⟩;rw [Po hi];obtain ⟨a,b,c⟩:=h4 x.holds[i] (aB hi);rw [a,b,c];simp only [bT,bW,aF,bu,bM];rcases cm i with h0|h0
  ·exact .inl h0
  ·have:=bh.1 h5 (i - 1) i EV hi EV;right;omega
def Gf (t:Int) (hs:List Iu) (n:Int):Nat:=(hs.takeWhile fun h=>decide (gp t h.Ae < gp t n)).length
def Oh (t:Int) (hs:List Iu) (n:Int):Bool:=match hs[Gf t hs n]? with|some h=>decide (h.Ae=n)|none=>false
def onB (hs:List Iu) (n:Int):Bool:=hs.any fun h=>decide (h.Ae=n)
def Lk (hs:List Iu) (k:Nat) (h:Iu):List Iu:=hs.take k++h::hs.drop k
def Aaw (W:Aw) (n:Int):As:=⟨4,n,W.Am,Lo W,⟨#[]⟩⟩
def Ni (x:Cs) (n:Int):Cs:=if I8 x.Aa n && !Oh x.Aa.Am x.holds n then ⟨x.Aa,x.Ai,x.quiet,Lk x.holds (Gf x.Aa.Am x.holds n) ⟨n,x.Ai+3⟩⟩ else Yf x x.Aa
def No (x:Cs) (p:As):List As:=if I8 x.Aa p.Ae then (if Oh x.Aa.Am x.holds p.Ae then [Aaw x.Aa p.Ae] else [Aaw x.Aa p.Ae,(Dn x.Aa p).1]) else [Rs x.Aa]
def Mk (x:Cs) (n:Int):Cs:=if I8 x.Aa n && !Oh x.Aa.Am x.holds n then ⟨x.Aa,x.Ai,x.quiet,Lk x.holds (Gf x.Aa.Am x.holds n) ⟨n,x.Ai+3⟩⟩ else x
theorem Z4 {x:Cs} (hg:Cr x=true):Ip x.Aa x.Ai x.holds=x.holds:=by
 obtain ⟨-, -, -,h4, -⟩:=Eo.1 hg;unfold Ip;refine dv.2 fun h hh=>?_;obtain ⟨a,b,c⟩:=h4 h hh;unfold Ff at c;simp only [aw,aF] at c;rw [b,av EV];rfl
theorem Ayw {x:Cs} (hg:Cr x=true) (n:Int):Ni x n=Mk x n:=by
 unfold Ni Mk Yf;rw [Z4 hg]
theorem Yo (t:Int) (hs:List Iu) (n:Int):Gf t hs n<=hs.length:=Qx.1
theorem Azu {t n:Int} {hs:List Iu} (hn:0<=n/\n<=65535) (hser:∀h∈hs,B8 h.Ae=true) (hs':srt t hs):Oh t hs n=onB hs n:=by
 obtain ⟨h1,h2,h3⟩:=Qx (p:=fun h:Iu=>decide (gp t h.Ae < gp t n)) (xs:=hs);unfold Oh onB;have hle:=Yo t hs n;rw [cC,cG];constructor
 ·intro h
  split at h
  ·rename_i z hz;exact ⟨z,bX hz,h⟩
  ·cases h
 ·rintro ⟨z,hz,he⟩;simp only [aF] at he;obtain ⟨i,hi,rfl⟩:=bi hz;have hk:Gf t hs n=i:=by
   refine X9 EV (fun j hj h=>?_) (fun h=>?_)
   ·have:=bh.1 hs' j i h hi hj;simp only [aF];rw [<-he];exact this
   ·simp only [bM];rw [he];omega
  rw [hk,aD hi];simpa using he
theorem Bcw {t n:Int} {hs:List Iu} (u:Int) (hn:0<=n/\n<=65535) (hser:∀h∈hs,B8 h.Ae=true) (hs':srt t hs) (ht:Oh t hs n=false):srt t (Lk hs (Gf t hs n) ⟨n,u⟩):=by
 obtain ⟨h1,h2,h3⟩:=Qx (p:=fun h:Iu=>decide (gp t h.Ae < gp t n)) (xs:=hs);have hle:=Yo t hs n;have hon:onB hs n=false:=by rw [<-Azu hn hser hs'];exact ht
 have hne:∀h∈hs,gp t h.Ae≠gp t n:=fun h hh e=>by
  have:=Axc (A4.1 (hser h hh)) hn e;have h0:onB hs n=true:=cG.2 ⟨h,hh,by simp [this]⟩;rw [hon] at h0;cases h0
 unfold Lk srt;rw [dH];refine ⟨hs'.sublist (fD _ _),?_,?_⟩
 ·rw [dh];refine ⟨fun b hb=>?_,hs'.sublist (fB _ _)⟩;obtain ⟨j,hj,rfl⟩:=bi hb;rw [dD];rw [aX] at hj;have hk:Gf t hs n < hs.length:=EV
  have h0:=h3 hk;simp only [bM,Int.not_lt] at h0;have h00:gp t n<=gp t (hs[Gf t hs n]'hk).Ae:=h0;have hd:=hne _ (aB hk);rcases cm j with e|e
  ·subst e;show gp t n < gp t (hs[Gf t hs n+0]).Ae;simp only [bN];omega
  ·have h5:=bh.1 hs' (Gf t hs n) (Gf t hs n+j) hk EV EV;show gp t n < _;omega
 ·intro a ha b hb;obtain ⟨i,hi,rfl⟩:=bi ha;rw [aO] at hi;rw [List.getElem_take];have ha2:=h2 i (by show i < Gf t hs n;omega) EV;simp only [aF] at ha2;rcases aG.1 hb with rfl|hb
  ·exact ha2
  ·obtain ⟨j,hj,rfl⟩:=bi hb;rw [dD];rw [aX] at hj;exact bh.1 hs' i _ EV EV EV
theorem Axb {x:Cs} {n:Int} (hg:Cr x=true) (hn:0<=n/\n<=65535):Cr (Mk x n)=true:=by
 unfold Mk
 split
 ·rename_i h;simp only [aw,bu] at h;obtain ⟨hh,ht⟩:=h;obtain ⟨h1,h2,h3,h4,h5⟩:=Eo.1 hg;refine Eo.2 ⟨h1,h2,h3,fun z hz=>?_,Bcw _ hn (fun z hz=>(h4 z hz).1) h5 ht⟩;have:z∈x.holds\/z=⟨n,x.Ai+3⟩:=by
   unfold Lk at hz;simp only [aJ,aG] at hz;rcases hz with h|h|h
   ·exact .inl (bR h)
   ·exact .inr h
   ·exact .inl (bq h)
  rcases this with h|rfl
  ·exact h4 z h
  ·exact ⟨A4.2 hn,hh,by unfold Ff;simp⟩
 ·exact hg
theorem Ath {x:Cs} (hg:Cr x=true) (hc:x.Ai < 9999):Cr (M3 x)=true:=by
 obtain ⟨h1,h2,h3,h4,h5⟩:=Eo.1 hg;have hk:=Akl h2;refine Eo.2 ⟨h1,?_,?_,fun z hz=>?_,h5.sublist (eU)⟩
 ·unfold M3 Kt Ff;simp;omega
 ·unfold Ff at h3;simp only [aw,aF] at h3;unfold M3 Rt Ff;dsimp only
  split <;> simp <;> omega
 ·unfold M3 Uu at hz;simp only [bL] at hz;obtain ⟨z1,z2⟩:=hz;obtain ⟨a,b,c⟩:=h4 z z1;refine ⟨a,b,?_⟩;unfold Ff at c ⊢;simp only [aw,aF,bu,bM] at c z2 ⊢;show x.Ai+1+1<=z.Cg/\z.Cg<=x.Ai+1+3;omega
theorem Af2 {x:Cs} {W:Aw} (k:Nat) (q:Int) (hg:Cr x=true) (hw:D6 W=true) (hq:Ff 0 q 3=true) (hk:k<=6) (ht:W.Am=Cd x.Aa.Am k):Cr ⟨W,x.Ai,q,Nt W x.holds⟩=true:=by
 obtain ⟨h1,h2,h3,h4,h5⟩:=Eo.1 hg;obtain ⟨-,⟨z0,z1⟩,hl, -⟩:=Dq.1 hw;have key:∀n,I8 W n=true->gp x.Aa.Am n=gp W.Am n+k:=fun n hn=>by
  unfold I8 at hn;simp only [aF] at hn;rw [ht] at hn ⊢;have:=Ll (Cd x.Aa.Am k) n;unfold gp Cd at *;omega
 refine Eo.2 ⟨hw,h2,hq,fun z hz=>?_,?_⟩
 ·unfold Nt at hz;simp only [bL] at hz;obtain ⟨a,b,c⟩:=h4 z hz.1;exact ⟨a,hz.2,c⟩
 ·unfold Nt srt;show List.Pairwise (fun a b=>gp W.Am a.Ae < gp W.Am b.Ae) (x.holds.filter fun h=>I8 W h.Ae);have hp:List.Pairwise (fun a b=>gp x.Aa.Am a.Ae < gp x.Aa.Am b.Ae) (x.holds.filter fun h=>I8 W h.Ae):=h5.sublist (eU);refine List.Pairwise.imp_of_mem (fun {a b} ha hb h=>?_) hp;simp only [bL] at ha hb;have e1:=key _ ha.2;have e2:=key _ hb.2;omega
theorem Atg {x:Cs} {s:au} (hg:Cr x=true) (hs:Pk s=true):Cr (Rd x s)=true:=by
 have hw:=(Eo.1 hg).1;obtain ⟨-,hw2, -⟩:=Aqb (x:=x.Aa) (s:=s) (by unfold Aab;rw [hw,hs];rfl);obtain ⟨⟨t0,t1⟩, -⟩:=Dq.1 hw;by_cases h:(x.Aa.Ak.length:Int)=x.Aa.size
 ·refine Af2 1 0 hg hw2 EW EV ?_;show (Df x.Aa).Am=_;unfold Df;rw [aH h];rfl
 ·refine Af2 0 0 hg hw2 EW EV ?_;show (Df x.Aa).Am=_;unfold Df Cd;rw [aC h];omega
theorem U6 (y:Iu) (w:World):Cw Bx w [aa y.Ae,aa y.Cg] [y] []:=⟨_,[],[],[],EX,EX,⟨rfl,rfl⟩,rfl,rfl⟩
theorem Asj (xs:List Iu) (y:Iu) (i:Nat) (a:aj) (c vb:Nat) (F:aq) (hi:i<=xs.length) (hl:xs.length<=1000000) :
  Fn prog 354 [ab a xs.length c,aa i,ab (some ⟨vb,0,none⟩) 1 1] [] [.ow Bx 191 (ab a xs.length c) xs F,.row vb 191 0 [] [aa y.Ae,aa y.Cg] []] (fun (_:aj × Nat × aq)=>True)
   (fun z=>.slice z.1 (xs.take i++y::xs.drop i).length z.2.1) (fun z=>[.ow Bx 191 (.slice z.1 (xs.take i++y::xs.drop i).length z.2.1) (xs.take i++y::xs.drop i) z.2.2]):=by
 have hone:∀w':World,∀cs:am,Cw Bx w' cs xs []->∀u∈cs,u.oneCell'=true:=fun w' cs h=>h.one' I0;have hy:=U6 y;have h1y:∀u∈([aa y.Ae,aa y.Cg]:am),u.oneCell'=true:=HJ
 refine enter func354 rfl ntmps354 fun w0=>?_;refine Azl (E:=Bx) fun hc1 hc2=>?_;refine go ?_;apply wO;refine Ak2 rfl rfl rfl rfl hi (fun _=>?_) hc1;refine go ?_;refine A1 rfl (fun h1=>?_) (fun h1=>?_)
 ·have hin:i=xs.length:=EV
  subst hin;have e:xs.take xs.length++y::xs.drop xs.length=xs++[y]:=EX
  refine go ?_;apply wO;refine Np hy I0 fun a2 c2 F2=>?_;rw [e];exact DJ
 ·have hlt:i < xs.length:=EV
  refine All (xs:=xs) Kv (by rintro rfl;simp at hlt) ?_;rintro g cs rest rfl - - - hcl hcr hfl;rw [show Bx.sz=2 from rfl] at hcl hcr;have h1c:=hone w0 cs (hfl w0);obtain ⟨A,B,hcs,hA,hB⟩:∃A B,cs=A++B/\A=cs.take (i * 2)/\B=cs.drop (i * 2):=⟨_,_,(bo _ _).symm,rfl,rfl⟩;have hAl:A.length=i * 2:=by rw [hA,aO];omega
  have hBl:B.length=(xs.length - i) * 2:=by rw [hB,aX];omega
  have hins:∀w,Cw Bx w (A++[aa y.Ae,aa y.Cg]++B) (xs.take i++y::xs.drop i) []:=fun w=>by rw [hA,hB];exact (hfl w).insL (hy w) i hi
  have h1A:∀u∈A,u.oneCell'=true:=fun u hu=>h1c u HV;have h1B:∀u∈B,u.oneCell'=true:=fun u hu=>h1c u HV;have hlen:(xs.take i++y::xs.drop i).length=xs.length+1:=FB
  clear hA hB hfl hone;subst hcs;have eA:A=((A++B++rest).drop 0).take (i * 2):=by rw [du,aM,bS hAl]
  have eB:B=((A++B++rest).drop (0+i * 2)).take ((xs.length - i) * 2):=by rw [cN,aM,dy hAl,bS hBl]
  rw [hlen];refine go ?_;apply wO;apply oc;rfl;exact Aq5 rfl;refine go ?_;refine A1 rfl (fun h2=>?_) (fun h2=>?_)
  ·refine go ?_;apply wO;apply oc;rfl;exact O8 (i:=i) rfl rfl rfl EV EV;refine go ?_;apply wO;refine Ap4 (k:=xs.length+1 - i) (olds:=A) rfl rfl rfl EV (Mx (m:=i * 2) (.head _) eA) EV EW EV EV EV EV fun g' cp' Z rest' h3 h4 h5 h6=>?_;rw [show i+(xs.length+1 - i)=xs.length+1 by omega] at h3 ⊢;obtain ⟨Z1,Z2,rfl,hZ1,hZ2⟩:∃Z1 Z2,Z=Z1++Z2/\Z1.length=2/\Z2.length=B.length:=⟨Z.take 2,Z.drop 2,(bo _ _).symm,GA,JQ⟩;refine go ?_
   apply wO;apply oc;rfl;exact Kx (i:=i) rfl rfl rfl EV EV EV;refine go ?_;apply wO;refine Wn (cs:=[aa y.Ae,aa y.Cg]) (L':=A++[aa y.Ae,aa y.Cg]++(Z2++rest')) rfl rfl rfl (Mx (L:=[aa y.Ae,aa y.Cg]) (o:=0) (m:=2) FA rfl) .here (Aek (M:=Z1) GX EV (by simpa using hZ1)) (by show 2=min 1 (xs.length+1 - i) * 2;omega) FQ h1y ?_;refine go ?_;refine Ar [] [] ?_;refine C8 0 1 2 3 ?_
   refine dt 4 ?_ (hy:=Kx (i:=i+1) rfl rfl EV EV EV EV);refine Dg 5 6 ?_;refine dt 7 ?_ (hy:=Kx (i:=i) rfl rfl EV EV EV EV);refine dN 8 ?_
   refine Wn (cs:=B) (L':=A++[aa y.Ae,aa y.Cg]++B++rest') rfl rfl rfl (Mx FA eB) .here (Aek (P:=A++[aa y.Ae,aa y.Cg]) (M:=Z2) GX FQ hZ2) GW FQ h1B ?_;refine dk ?_;refine dd ?_
   refine Ada (cs:=A++[aa y.Ae,aa y.Cg]++B) (rest:=rest') (xs:=xs.take i++y::xs.drop i) cp' rfl hins EV h4 (by rw [show Bx.sz=2 from rfl];simp only [aA,aU,aY] at h6 ⊢;omega) ?_;rw [hlen];refine go ?_;refine ret (_,cp',[g']) trivial rfl
  ·have hcx:xs.length+1<=c:=EV
   obtain ⟨X,Y,hXY,hX,hY⟩:=Aqp (B:=B) (R:=rest) 2 EV;refine go ?_;apply wO;apply oc;rfl;exact O8 (i:=xs.length+1) rfl rfl EV EV EV;refine go ?_;apply wO;apply oc;rfl;exact Kx (i:=i+1) rfl rfl EV EV EV EV;refine Ih ?_;intros;apply wO
   refine Aya rfl Vi (ovl (tS:=30) (tR:=4) (run_callFunc_extern func371 EY EY EY (e:=Extern.SlicesOverlaps.overlaps #[30,30] #[4]) EY) (.there .here) (.head _) GY) ?_;refine go ?_;refine Ar [] [] ?_;refine C8 0 1 2 3 ?_;refine dt 4 ?_ (hy:=Kx (i:=i+1) rfl rfl EV EV EV EV);refine Dg 5 6 ?_;refine dt 7 ?_ (hy:=Kx (i:=i) rfl rfl EV EV EV EV);refine dN 8 ?_
   refine Wn (cs:=B) (L':=A++X++B++rest.drop 2) rfl rfl rfl (Mx FA eB) .here (Aek (P:=A++X) (M:=Y) KC HN hY) GT HN h1B ?_;refine dk ?_;refine dd ?_;refine go ?_;apply wO;apply oc;rfl;exact Kx (i:=i) rfl rfl rfl EV EV EV;refine go ?_;apply wO
   refine Wn (cs:=[aa y.Ae,aa y.Cg]) (L':=A++[aa y.Ae,aa y.Cg]++(B++rest.drop 2)) rfl rfl rfl (Mx (L:=[aa y.Ae,aa y.Cg]) (o:=0) (m:=2) FA rfl) .here (Aek (M:=X) GX EV (by simpa using hX)) (by show 2=min 1 (xs.length+1 - i) * 2;omega) FQ h1y ?_;refine go ?_
   refine Ada (L:=A++[aa y.Ae,aa y.Cg]++(B++rest.drop 2)) (cs:=A++[aa y.Ae,aa y.Cg]++B) (rest:=rest.drop 2) (xs:=xs.take i++y::xs.drop i) c GX hins EV EV (by rw [show Bx.sz=2 from rfl];simp only [aA,aU,aY,aX];omega) ?_;rw [hlen];refine ret (_,c,[g]) trivial rfl
instance:IntC prog 146 .u64:=⟨underlying146⟩
theorem Ao5 (fid:FuncId) (caps:am) (A:List Pc) (hA:A.all (fun p=>!p.mu)=true) (xs:List Iu) (a:aj) (c:Nat) (F:aq) (tv:Value) (f:Iu->Int) (hm:∀i j (_:i<=j) (hj:j < xs.length),f xs[j] < 0->f (xs[i]'EV) < 0) (hb:Q2 prog fid=true) (hl:xs.length<=1000000)
  (hp:∀x∈xs,∀w,Od A w->Calls prog fid ([.agg #[aa x.Ae,aa x.Cg],tv]++caps).toArray w (RB (aa (f x)) w)) :
  Fn prog 369 [ab a xs.length c,tv,.func (.func fid) #[] caps.toArray] (.sl Bx (ab a xs.length c) xs F::A) [] (fun (_:Unit)=>True) (fun _=>.tuple #[aa ((xs.takeWhile fun x=>decide (f x < 0)).length:Nat),.bool (Bbk f xs[(xs.takeWhile fun x=>decide (f x < 0)).length]?)]) (fun _=>[]):=by
 refine enter func369 rfl ntmps369 (fun w0=>?_) rfl FR .nil;refine go ?_;refine Dk [0,1,2,6,7,8] (fun s:Nat × Nat=>[(9,aa (s.1:Nat)),(10,aa (s.2:Nat))]) (fun s=>s.1<=s.2/\s.2<=xs.length/\(∀j (_:j < s.1) (h:j < xs.length),f xs[j] < 0)/\(∀j (_:s.2<=j) (h:j < xs.length),¬f xs[j] < 0)) (fun s=>s.2 - s.1) (0,xs.length) ⟨aE _,aK _,fun j h=>by omega,fun j h1 h2=>by omega⟩ fun s hs=>?_;obtain ⟨i,j⟩:=s;obtain ⟨h1,h2,h3,h4⟩:=hs;dsimp only at h1 h2 h3 h4 ⊢;refine go ?_;refine A1 rfl (fun h5=>?_) (fun h5=>?_)
 ·have hh:(i+j) / 2 < xs.length:=EV
  have e2:((i:Int)+(j:Int)) / 2=(((i+j) / 2:Nat):Int):=EV
  refine go ?_;apply wO;apply oc;rfl;exact Ahs rfl EV EV;refine go ?_;apply wO;apply oc;rfl;exact Alt rfl;rw [e2];apply wO;apply oc;rfl;exact Aox rfl EV EV;generalize hq:(i+j) / 2=q at hh;refine go ?_;refine T5 (xs:=xs) q ?_;rintro hi b o e;rw [e];refine go ?_;apply wO;refine Ae0 rfl rfl hb Vi ?_;refine cb (fun w st=>hp xs[q] (aB hh) w (fun p hp=>st.on p HD)) ?_;refine go ?_;refine A1 rfl (fun h6=>?_) (fun h6=>?_)
  ·exact DD
  ·exact DE
 ·have hij:i=j:=EV
  subst hij;have hk:(xs.takeWhile fun x=>decide (f x < 0)).length=i:=X9 h2 (fun j hj h=>av (h3 j hj h)) (fun h=>ay (h4 i (aK _) h));rw [hk];refine go ?_;refine Dc rfl rfl (fun h6=>?_) (fun h6=>?_)
  ·have hh:i < xs.length:=EV
   rw [aD hh];refine go ?_;refine T5 (xs:=xs) i ?_;exact DI
  ·rw [bn EV];exact AA
theorem Afi {W:Aw} {p:As} (hg:D6 W=true):(Dn W p).1.data.size<=maxLen:=by
 unfold Dn
 split
 ·rename_i h;unfold Kc at h;simp only [aw] at h;have hk:=Aa6 h.2;show (Z0 W p.Ae).size<=maxLen;rw [Us hk];have:=aV.1 (Dq.1 hg).2.2.2 _ (aB hk);unfold Pk at this;simp only [aw,aF] at this;unfold maxLen;omega
 ·decide
theorem Au7 {t n:Int} {hs:List Iu} (hser:∀h∈hs,B8 h.Ae=true) (hn:0<=n/\n<=65535):(hs.takeWhile fun x=>decide (gp t x.Ae - gp t n < 0)).length=Gf t hs n /\
  Bbk (fun x:Iu=>gp t x.Ae - gp t n) hs[(hs.takeWhile fun x=>decide (gp t x.Ae - gp t n < 0)).length]?=Oh t hs n:=by
 have e:(fun x:Iu=>decide (gp t x.Ae - gp t n < 0))=fun h=>decide (gp t h.Ae < gp t n):=by
  funext x;rw [dI];omega
 have e1:(hs.takeWhile fun x=>decide (gp t x.Ae - gp t n < 0)).length=Gf t hs n:=by unfold Gf;rw [e]
 refine ⟨e1,?_⟩;rw [e1];unfold Oh;cases hq:hs[Gf t hs n]? with
 | none=>rfl
 | some z =>
  show decide (gp t z.Ae - gp t n=0)=decide (z.Ae=n);rw [dI];have hz:=A4.1 (hser z (bX hq));exact ⟨fun h=>Axc (t:=t) hz hn EV,fun h=>by rw [h];omega⟩
theorem Bgk (h:Iu) (n t:Int) (gb g o:Nat) (v1 v2 v3 v4 v5:Value) (t0:0<=t) (t1:t<=65535) (n0:0<=n) (n1:n<=65535) (m0:0<=h.Ae) (m1:h.Ae<=65535) :
  FV 370 [.agg #[aa h.Ae,aa h.Cg],aa n,Gc gb 0 0] [.cel gb 0 [Gc g o 0],.cel g o [aa t,v1,v2,v3,v4,v5]] (aa (gp t h.Ae - gp t n)):=by
 have b1:=Ll t h.Ae;have b2:=Ll t n;refine enter func370 rfl ntmps370 fun w0=>?_;refine go ?_;intros;refine Ar [0,1,2] [] ?_;refine C8 0 1 2 3 ?_;refine C8 4 5 6 8 ?_;refine C8 9 10 11 12 ?_;refine dt 13 ?_;refine dN 7 ?_;refine oC ?_;refine ce (fun w s=>Pf _ _ _ EV EV EV EV) ?_;refine dk ?_;refine dN 14 ?_;refine oC ?_;refine ce (fun w s=>Pf _ _ _ EV EV EV EV) ?_;refine dk ?_;refine Dg 15 16 ?_;exact CQ
theorem Apl (W:Aw) (hs:List Iu) (n:Int) (g t o:Nat) (A B:am) (a a2:aj) (c c2:Nat) (cl q:Int) (F2:aq) (t0:0<=W.Am) (t1:W.Am<=65535) (n0:0<=n) (n1:n<=65535) (hser:∀h∈hs,B8 h.Ae=true) (hsr:srt W.Am hs) (hl:hs.length<=1000000) :
  Fn prog 353 [Gc g o 0,aa n] [] [.row g t o A [aa W.Am,aa W.size,ab a W.Ak.length c,aa cl,aa q,ab a2 hs.length c2] B,.ow Bx 191 (ab a2 hs.length c2) hs F2] (fun (_:Unit)=>True) (fun _=>.tuple #[aa (Gf W.Am hs n:Nat),.bool (Oh W.Am hs n)]) (fun _=>[.row g t o A [aa W.Am,aa W.size,ab a W.Ak.length c,aa cl,aa q,ab a2 hs.length c2] B,.ow Bx 191 (ab a2 hs.length c2) hs F2]):=by
 have hs1:=Au7 (t:=W.Am) hser ⟨n0,n1⟩;refine enter func353 rfl ntmps353 fun w0=>?_;refine go ?_;intros;rename_i gb;refine cb (fun w st=>by
  have r1:=st.get (p:=.row gb 280 0 [] [Gc g o 0] []) EX;have r2:=st.get (p:=.row g t o A [aa W.Am,aa W.size,ab a W.Ak.length c,aa cl,aa q,ab a2 hs.length c2] B) EX;obtain ⟨Fw, -,hw⟩:=(st.get (p:=.ow Bx 191 (ab a2 hs.length c2) hs F2) EX).2.read
  refine (Ao5 370 [Gc gb 0 0] [.cel gb 0 [Gc g o 0],.cel g o [aa W.Am,aa W.size,ab a W.Ak.length c,aa cl,aa q,ab a2 hs.length c2]] rfl hs a2 c2 Fw (aa n) (fun h=>gp W.Am h.Ae - gp W.Am n) (fun i j hij hj h=>?_) EY hl fun x hx w' hA=>?_).val w ?_
  ·rcases ba hij with h2|rfl
   ·have:=bh.1 hsr i j EV hj h2;omega
   ·exact h
  ·obtain ⟨m0,m1⟩:=A4.1 (hser x hx);exact (Bgk x n W.Am gb g o _ _ _ _ _ t0 t1 n0 n1 m0 m1).val w' hA
  ·intro p hp;simp only [aG,aT,bl] at hp;rcases hp with rfl|rfl|rfl
   ·exact ⟨EW,hw⟩
   ·exact ⟨EX,Ik r1⟩
   ·exact ⟨EX,Ik r2⟩) ?_
 rw [hs1.2];rw [hs1.1];exact AA
structure ReS where
 a:aj
 c:Nat
 a2:aj
 c2:Nat
 F:aq
 ae:aj
 ce:Nat
 Fe:aq
theorem Afg (W:Aw) (hs:List Iu) (p:As) (g t o:Nat) (A B:am) (a a2:aj) (c c2:Nat) (cl q:Int) (F F2:aq) (hg:Cr ⟨W,cl,q,hs⟩=true) (n0:0<=p.Ae) (n1:p.Ae<=65535) (hps:p.data.size<=maxLen) :
  Fn prog 318 [Gc g o 0,.agg #[aa p.Cq,aa p.Ae,aa p.Am,aa p.Er,af p.data]] [] [.row g t o A [aa W.Am,aa W.size,ab a W.Ak.length c,aa cl,aa q,ab a2 hs.length c2] B,.ow Bx 191 (ab a2 hs.length c2) hs F2,.ow A8 9 (ab a W.Ak.length c) W.Ak F] (fun (_:ReS)=>True)
   (fun z=>.slice z.ae (No ⟨W,cl,q,hs⟩ p).length z.ce) (fun z=>[.row g t o A [aa W.Am,aa W.size,ab a W.Ak.length c,aa cl,aa q,.slice z.a2 (Mk ⟨W,cl,q,hs⟩ p.Ae).holds.length z.c2] B,.ow Bx 191 (.slice z.a2 (Mk ⟨W,cl,q,hs⟩ p.Ae).holds.length z.c2) (Mk ⟨W,cl,q,hs⟩ p.Ae).holds z.F,.ow A8 9 (ab a W.Ak.length c) W.Ak F,.ow Al 141 (.slice z.ae (No ⟨W,cl,q,hs⟩ p).length z.ce) (No ⟨W,cl,q,hs⟩ p) z.Fe]):=by
 obtain ⟨gw,hl,t0,t1,k0,k1,hm,hn,hu,hbb⟩:=J9 hg;have hsr:=(Eo.1 hg).2.2.2.2;dsimp only at gw hl t0 t1 k0 k1 hm hn hu hbb hsr;have hl2:hs.length<=1000000:=EV
 have hW:D6 W=true:=gw;refine enter func318 rfl ntmps318 fun w0=>?_;cases hb:I8 W p.Ae
 ·have e1:Mk ⟨W,cl,q,hs⟩ p.Ae=⟨W,cl,q,hs⟩:=by unfold Mk;dsimp only;rw [hb];rfl
  have e2:No ⟨W,cl,q,hs⟩ p=[Rs W]:=by unfold No;dsimp only;rw [hb];rfl
  rw [e1,e2];refine go ?_;intros;refine Ar [0,1] [] ?_;refine C8 0 1 2 3 ?_;refine Dg 4 5 ?_;refine dN 6 ?_;refine oC ?_;refine cb (fun w st=>by obtain ⟨Fw, -,hw⟩:=(st.get (p:=.ow A8 9 (ab a W.Ak.length c) W.Ak F) EX).2.read;exact (Xl W p.Ae (.agg #[aa W.Am,aa W.size,ab a W.Ak.length c]) Fw t0 t1 n0 n1).val w (I4 ⟨_,rfl,_,rfl,hw⟩)) ?_;rw [hb];refine dk ?_;refine dt 7 ?_;refine dd ?_;refine go ?_;refine Be (Aoa W.Am W.size a W.Ak.length c t0 t1 EV) fun _ _=>?_;refine go ?_;intros
  refine Eh (xs:=[Rs W]) (De _ GV) ?_ EX;refine ret ⟨a,c,a2,c2,F2,_,_,_⟩ trivial rfl
 refine go ?_;intros;refine Ar [0,1] [] ?_;refine C8 0 1 2 3 ?_;refine Dg 4 5 ?_;refine dN 6 ?_;refine oC ?_;refine cb (fun w st=>by obtain ⟨Fw, -,hw⟩:=(st.get (p:=.ow A8 9 (ab a W.Ak.length c) W.Ak F) EX).2.read;exact (Xl W p.Ae (.agg #[aa W.Am,aa W.size,ab a W.Ak.length c]) Fw t0 t1 n0 n1).val w (I4 ⟨_,rfl,_,rfl,hw⟩)) ?_;rw [hb];refine dk ?_;refine dt 7 ?_;refine dd ?_;refine go ?_;refine Ar [0,1] [] ?_;refine C8 0 1 2 3 ?_;refine C8 4 5 6 7 ?_;refine Dg 8 9 ?_;refine dt 10 ?_;refine dN 11 ?_;refine oC ?_;refine cb (fun w _=>Iv _ _ _ _ _ w t0 t1 EV) ?_
 refine dk ?_;refine dt 12 ?_;refine dN 13 ?_;apply Iz;rfl;rfl;rfl;rfl;exact Ir;exact Io;intro _;refine dk ?_;refine dt 14 ?_;refine dd ?_;refine Ih ?_;intros;refine Eh (xs:=[Aaw W p.Ae]) (De _ GV) ?_ EX;refine go ?_;refine Be (Apl W hs p.Ae g t o A B a a2 c c2 cl q F2 t0 t1 n0 n1 hn hsr hl2) fun _ _=>?_;cases ht:Oh W.Am hs p.Ae
 ·have e1:Mk ⟨W,cl,q,hs⟩ p.Ae=⟨W,cl,q,Lk hs (Gf W.Am hs p.Ae) ⟨p.Ae,cl+3⟩⟩:=by unfold Mk;dsimp only;rw [hb,ht];rfl
  have e2:No ⟨W,cl,q,hs⟩ p=[Aaw W p.Ae]++[(Dn W p).1]:=by unfold No;dsimp only;rw [hb,ht];rfl
  rw [e1,e2];refine go ?_;refine Ar [0,3] [18] ?_;refine C8 0 1 2 3 ?_;refine C8 4 5 6 7 ?_;refine C8 8 9 10 11 ?_;refine Dg 12 13 ?_;refine dN 14 ?_;apply Iz;rfl;rfl;rfl;rfl;exact Ir;exact Io;intro _;refine dk ?_;refine dN 15 ?_;refine oC ?_;refine Be (Asj hs ⟨p.Ae,cl+3⟩ (Gf W.Am hs p.Ae) a2 c2 _ F2 (Yo _ _ _) hl2) fun z _=>?_;refine dk ?_;refine Dg 16 17 ?_;refine dN 18 ?_;refine oS ?_;refine N2 ?_;refine dd ?_;refine go ?_;refine Ar [1,3] [] ?_;refine C8 0 1 2 3 ?_;refine dt 4 ?_;refine dM 5 9 ?_ ?_
  ·refine oC ?_;refine cb (fun w st=>by obtain ⟨Fw, -,hw⟩:=(st.get (p:=.ow A8 9 (ab a W.Ak.length c) W.Ak F) EX).2.read;exact (Ae9 W p (.agg #[aa W.Am,aa W.size,ab a W.Ak.length c]) Fw hps).val w (I4 ⟨_,rfl,_,rfl,hw⟩)) ?_;refine dk ?_;refine Dg 6 7 ?_;refine dt 8 ?_;refine dN 9 ?_;apply Ci;rfl;intro _;refine dk ?_;exact CF
  ·apply Ci;rfl;intro _;refine dk ?_;refine dN 5 ?_;refine oC ?_;refine cb (fun w st=>by obtain ⟨Fw, -,hw⟩:=(st.get (p:=.ow A8 9 (ab a W.Ak.length c) W.Ak F) EX).2.read;exact (Ae9 W p (.agg #[aa W.Am,aa W.size,ab a W.Ak.length c]) Fw hps).val w (I4 ⟨_,rfl,_,rfl,hw⟩)) ?_;refine dk ?_;refine Dg 6 7 ?_;refine dt 8 ?_;exact CF
 ·have e1:Mk ⟨W,cl,q,hs⟩ p.Ae=⟨W,cl,q,hs⟩:=by unfold Mk;dsimp only;rw [hb,ht];rfl
  have e2:No ⟨W,cl,q,hs⟩ p=[Aaw W p.Ae]:=by unfold No;dsimp only;rw [hb,ht];rfl
  rw [e1,e2];refine go ?_;refine ret ⟨a,c,a2,c2,F2,_,_,_⟩ trivial rfl
structure RjS where
 g:Nat
 a:aj
 c:Nat
 a2:aj
 c2:Nat
 F:aq
structure Bao where
 a:aj
 c:Nat
 F:aq
theorem Atu (x:Cs) (n:Int) (v:Value) (F:aq) (t0:0<=x.Aa.Am) (t1:x.Aa.Am<=65535) (hm:x.holds.length<=1000) (hn:Zj x.holds) (n0:-1<=n) (n1:n<=65536) :
  FV 244 [v,aa n] [.isv El v x F] (.tuple #[aa (Gf x.Aa.Am x.holds n:Nat),.bool (Oh x.Aa.Am x.holds n)]):=by
 refine enter func244 rfl ntmps244 fun w0=>?_;refine Gn ?_;rintro a1 c1 F1 a2 c2 F2 rfl l1 l2;refine go ?_;intros;refine Dk [1,2,4,5] (fun k:Nat=>[(6,aa (k:Nat))]) (fun k=>k<=x.holds.length/\∀j (_:j < k) (h:j < x.holds.length),gp x.Aa.Am x.holds[j].Ae < gp x.Aa.Am n) (fun k=>x.holds.length - k) 0 ⟨aE _,fun j h=>by omega⟩ fun k hk=>?_;obtain ⟨hk1,hk2⟩:=hk;by_cases hlt:k < x.holds.length
 ·obtain ⟨m0,m1⟩:=hn x.holds[k] (aB hlt);refine T5 (xs:=x.holds) k ?_;rintro hi b o e;rw [e];refine go ?_;refine Ar [0,1] [] ?_;refine C8 0 1 2 3 ?_;refine dt 4 ?_;rw [av (show (k:Int) < x.holds.length by omega)];refine dt 5 ?_;refine Dd 6 ?_;refine Dd 7 ?_;refine Dd 8 ?_;refine Dd 9 ?_;refine Dd 10 ?_;refine Dd 11 ?_;refine Dd 12 ?_;refine Dd 13 ?_;refine Dd 14 ?_;refine Dd 16 ?_;refine Dd 17 ?_;refine Dd 18 ?_;refine Dd 19 ?_;refine d1g 15 ?_;apply On.h;refine oC ?_;refine ce (fun w s=>Jm _ _ _ EV EV) ?_;refine dk ?_;refine d1g 20 ?_;apply On.h
  refine oC ?_;refine ce (fun w s=>Jm _ _ _ EV EV) ?_;refine dk ?_;refine Dd 21 ?_;refine dt 22 ?_;refine dd ?_;refine go ?_;refine A1 rfl (fun h=>?_) (fun h=>?_)
  ·refine go ?_;refine Cb (k+1) ⟨hlt,fun j hj hh=>?_⟩ EV;rcases ba (bA.1 hj) with h2|rfl
   ·exact hk2 j h2 hh
   ·exact h
  ·have hh:Gf x.Aa.Am x.holds n=k:=X9 hk1 (fun j hj h=>av (hk2 j hj h)) (fun _=>ay h);have ht:Oh x.Aa.Am x.holds n=decide (x.holds[k].Ae=n):=by unfold Oh;rw [hh,aD hlt]
   rw [ht,hh];refine go ?_;refine Ar [0,1] [] ?_;refine C8 0 1 2 3 ?_;refine Dg 4 5 ?_;rw [av (show (k:Int) < x.holds.length by omega)];refine dt 6 ?_;refine Dd 7 ?_;refine Dd 8 ?_;refine Dd 9 ?_;refine Dd 10 ?_;refine Dd 11 ?_;refine Dd 12 ?_;refine Dd 13 ?_;refine Dd 14 ?_;refine Dg 15 16 ?_;refine dt 17 ?_;exact CQ
 ·have hh:Gf x.Aa.Am x.holds n=k:=X9 hk1 (fun j hj h=>av (hk2 j hj h)) (fun h=>absurd h hlt);have ht:Oh x.Aa.Am x.holds n=false:=by unfold Oh;rw [hh,bn EV]
  rw [ht,hh];refine go ?_;refine Ar [0] [] ?_;refine C8 0 1 2 3 ?_;refine dt 4 ?_;rw [ay (show ¬(k:Int) < x.holds.length by omega)];refine dt 5 ?_;refine ds 6 ?_;refine ds 7 ?_;refine ds 8 ?_;refine ds 9 ?_;refine ds 10 ?_;refine ds 11 ?_;refine ds 12 ?_;refine ds 13 ?_;refine ds 14 ?_;refine ds 15 ?_;refine ds 16 ?_;refine ds 17 ?_;refine ds 18 ?_;refine ds 19 ?_;refine ds 20 ?_;refine ds 21 ?_;refine dt 22 ?_;refine dd ?_;refine go ?_;refine Ar [0] [] ?_;refine C8 0 1 2 3 ?_;refine Dg 4 5 ?_;rw [ay (show ¬(k:Int) < x.holds.length by omega)];refine dt 6 ?_
  refine ds 7 ?_;refine ds 8 ?_;refine ds 9 ?_;refine ds 10 ?_;refine ds 11 ?_;refine ds 12 ?_;refine ds 13 ?_;refine ds 14 ?_;refine Dg 15 16 ?_;refine dt 17 ?_;exact CQ
theorem Zc (x:Cs) (p:As) (v:Value) (F:aq) (t0:0<=x.Aa.Am) (t1:x.Aa.Am<=65535) (hl:x.Aa.Ak.length<=6) (k0:0<=x.Ai) (k1:x.Ai<=99999) (hm:x.holds.length<=900) (hn:Zj x.holds) (n0:-1<=p.Ae) (n1:p.Ae<=65536) (hps:p.data.size<=maxLen) (hans:(Dn x.Aa p).1.data.size<=maxLen) :
  Fn prog 168 [v,.agg #[aa p.Cq,aa p.Ae,aa p.Am,aa p.Er,af p.data]] [.isv El v x F] [] (fun (_:TiS)=>True) (fun s=>.tuple #[.agg #[aa (Ni x p.Ae).Aa.Am,aa (Ni x p.Ae).Aa.size,.slice s.a (Ni x p.Ae).Aa.Ak.length s.c,aa (Ni x p.Ae).Ai,aa (Ni x p.Ae).quiet,.slice s.a2 (Ni x p.Ae).holds.length s.c2],.slice s.ae (No x p).length s.ce])
   (fun s=>[.isv El (.agg #[aa (Ni x p.Ae).Aa.Am,aa (Ni x p.Ae).Aa.size,.slice s.a (Ni x p.Ae).Aa.Ak.length s.c,aa (Ni x p.Ae).Ai,aa (Ni x p.Ae).quiet,.slice s.a2 (Ni x p.Ae).holds.length s.c2]) (Ni x p.Ae) s.F,.ow Al 141 (.slice s.ae (No x p).length s.ce) (No x p) s.Fe]):=by
 refine enter func168 rfl ntmps168 fun w0=>?_;refine Gn ?_;rintro a1 c1 F1 a2 c2 F2 rfl l1 l2;refine Cn x.Aa (a1:=a1) ?_;generalize F1=F3;refine go ?_;intros
 refine Du [2,3,4,5] [0,1,2,3,4,5,6] (fun s:RjS=>[(6,Gc s.g 0 0)]) (fun s=>[.row s.g 32 0 [] [aa x.Aa.Am,aa x.Aa.size,ab s.a x.Aa.Ak.length s.c,aa x.Ai,aa x.quiet,.slice s.a2 (Ip x.Aa x.Ai x.holds).length s.c2] [],.isv El (.agg #[aa x.Aa.Am,aa x.Aa.size,ab s.a x.Aa.Ak.length s.c,aa x.Ai,aa x.quiet,.slice s.a2 (Ip x.Aa x.Ai x.holds).length s.c2]) (Yf x x.Aa) s.F]) (fun _=>True) ?_ fun s _=>?_
 ·refine Ih ?_;intros;refine Ar [1,2] [] ?_;refine Dg 0 1 ?_;refine dt 2 ?_;refine dM 3 5 ?_ ?_
  ·refine oC ?_;refine Be (Sr x.Aa _ F3 t0 t1 EV) fun y _=>?_;refine J0 ?_;rintro a5 c5 F5 e5 l5;rw [e5];refine Av (xs:=x.Aa.Ak) fun F8=>?_;refine Cn x.Aa (a1:=a5) ?_;refine dk ?_;refine dM 4 5 ?_ ?_
   ·refine oC ?_;refine Be (Tb x x.Aa _ _ F _ t0 t1 EV hn) fun z _=>?_;refine dk ?_;refine dN 5 ?_;apply Ci;rfl;intro _;exact BY
   ·apply Ci;rfl;intro _;refine dk ?_;refine dN 4 ?_;refine oC ?_;refine Be (Tb x x.Aa _ _ F _ t0 t1 EV hn) fun z _=>?_;exact BY
  ·apply Ci;rfl;intro _;refine dk ?_;refine dN 3 ?_;refine oC ?_;refine Be (Sr x.Aa _ F3 t0 t1 EV) fun y _=>?_;refine J0 ?_;rintro a5 c5 F5 e5 l5;rw [e5];refine Av (xs:=x.Aa.Ak) fun F8=>?_;refine Cn x.Aa (a1:=a5) ?_;refine dk ?_;refine dN 4 ?_;refine oC ?_;refine Be (Tb x x.Aa _ _ F _ t0 t1 EV hn) fun z _=>?_;exact BY
 refine go ?_;refine cb (fun w st=>(Yq x.Aa p.Ae _ F3 t0 t1 n0 n1).val w (I4 (st.get (p:=.isv _ _ _ _) EX))) ?_;cases hb:I8 x.Aa p.Ae
 ·have e1:Ni x p.Ae=Yf x x.Aa:=by unfold Ni;rw [hb];rfl
  have e2:No x p=[Rs x.Aa]:=by unfold No;rw [hb];rfl
  rw [e1,e2];refine go ?_;refine Ar [0,4] [] ?_;refine Dg 0 1 ?_;refine dt 2 ?_;refine dN 3 ?_;refine oC ?_;refine Be (Z8 x.Aa.Am x.Aa.size _ x.Aa.Ak.length _ t0 t1 EV) fun _ _=>?_;refine dk ?_;refine dM 4 5 ?_ ?_
  ·apply Iz;rfl;rfl;rfl;rfl;exact Ir;exact Io;intro _;refine dk ?_;refine dN 5 ?_;refine oS ?_;exact CR
  ·refine oS ?_;refine dk ?_;refine dN 4 ?_;apply Iz;rfl;rfl;rfl;rfl;exact Ir;exact Io;intro _;exact CR
 refine go ?_;refine Ar [3,4] [] ?_;refine C8 0 1 2 3 ?_;refine Dg 4 5 ?_;refine dt 6 ?_;refine dN 7 ?_;refine oC ?_;refine cb (fun w _=>Td _ _ _ _ _ w t0 t1 EV) ?_;refine dk ?_;refine dt 8 ?_;refine dN 9 ?_;apply Iz;rfl;rfl;rfl;rfl;exact Ir;exact Io;intro _;refine dk ?_;refine dt 10 ?_;refine dd ?_;refine Ih ?_;intros;refine Eh (xs:=[Aaw x.Aa p.Ae]) (De _ GV) ?_ EX;refine go ?_;refine Be (Atu x p.Ae _ F t0 t1 EV hn n0 n1) fun _ _=>?_;cases ht:Oh x.Aa.Am x.holds p.Ae
 ·have e1:Ni x p.Ae=⟨x.Aa,x.Ai,x.quiet,(Lk x.holds (Gf x.Aa.Am x.holds p.Ae) ⟨p.Ae,x.Ai+3⟩)⟩:=by unfold Ni;rw [hb,ht];rfl
  have e2:No x p=[Aaw x.Aa p.Ae]++[(Dn x.Aa p).1]:=by unfold No;rw [hb,ht];rfl
  rw [e1,e2];have hkk:=Yo x.Aa.Am x.holds p.Ae;refine Ww (E:=Bx) (xs:=x.holds) ?_;rintro _ _ e8 q1 q2;cases e8;refine go ?_;refine cb (fun w st=>(Ag8 x.Aa p _ F3 hps).val w (I4 (st.get (p:=.isv _ _ _ _) EX))) ?_;refine go ?_;intros;refine Ar8 (E:=Bx) (xs:=x.holds) (Gf x.Aa.Am x.holds p.Ae) (fun FT=>?_) hkk;obtain ⟨T1,hT1⟩:∃T1,T1=x.holds.take (Gf x.Aa.Am x.holds p.Ae):=⟨_,rfl⟩;have hT1l:T1.length=Gf x.Aa.Am x.holds p.Ae:=by rw [hT1,aO];omega
  rw [<-hT1];have hAdd:T1++[⟨p.Ae,x.Ai+3⟩]++x.holds.drop (Gf x.Aa.Am x.holds p.Ae)=(Lk x.holds (Gf x.Aa.Am x.holds p.Ae) ⟨p.Ae,x.Ai+3⟩):=by rw [hT1];unfold Lk;simp
  refine Du [4,5,6,7,10] [0,1,2,3,5,6,7,8,9,10,11,12] (fun _:Bao=>[]) (fun z=>[.row s.g 32 0 [] [aa x.Aa.Am,aa x.Aa.size,ab s.a x.Aa.Ak.length s.c,aa x.Ai,aa x.quiet,.slice z.a (Lk x.holds (Gf x.Aa.Am x.holds p.Ae) ⟨p.Ae,x.Ai+3⟩).length z.c] [],.ow Bx 191 (.slice z.a (Lk x.holds (Gf x.Aa.Am x.holds p.Ae) ⟨p.Ae,x.Ai+3⟩).length z.c) (Lk x.holds (Gf x.Aa.Am x.holds p.Ae) ⟨p.Ae,x.Ai+3⟩) z.F]) (fun _=>True) ?_ fun z _=>?_
  ·refine Ih ?_;intros;refine Ar [1,8] [] ?_;refine Dg 1 2 ?_;refine dt 3 ?_;refine dt 4 ?_ (hy:=O8 (i:=T1.length) rfl rfl (by rw [hT1l]) EV EV);refine C8 6 9 10 11 ?_;refine Apg 12 (Gf x.Aa.Am x.holds p.Ae) (fun a6 c6 F6=>?_);refine dM 0 7 ?_ ?_
   ·apply Kj;rfl;intro _;refine C1 Bx ?_;refine dk ?_;refine dM 5 7 ?_ ?_
    ·refine Nm (ys:=T1) I0 Kv fun a7 c7 F7=>?_;rw [aZ];refine dk ?_;refine dN 7 ?_;apply Iz;rfl;rfl;rfl;rfl;exact Ir;exact Io;intro _;exact AJ
    ·apply Iz;rfl;rfl;rfl;rfl;exact Ir;exact Io;intro _;refine dk ?_;refine dN 5 ?_;refine Nm (ys:=T1) I0 Kv fun a7 c7 F7=>?_;rw [aZ];exact AJ
   ·apply Iz;rfl;rfl;rfl;rfl;exact Ir;exact Io;intro _;refine dk ?_;refine dN 0 ?_;apply Kj;rfl;intro _;refine C1 Bx ?_;refine dk ?_;refine dN 5 ?_;refine Nm (ys:=T1) I0 Kv fun a7 c7 F7=>?_;rw [aZ];exact AJ
  refine Gn (x:=Yf x x.Aa) ?_;rintro b1 d1 G1 b2 d2 G2 e5 m1 m2;simp only [Value.agg.injEq,Array.mk.injEq,List.cons.injEq,Value.slice.injEq,Value.int.injEq,cJ,cK] at e5;obtain ⟨-, -,⟨rfl, -,rfl⟩, -⟩:=e5;refine Av (E:=Bx) fun F9=>?_;refine En ⟨x.Aa,x.Ai,x.quiet,(Lk x.holds (Gf x.Aa.Am x.holds p.Ae) ⟨p.Ae,x.Ai+3⟩)⟩ (a1:=s.a) ?_;refine go ?_;refine Ar [4,7] [] ?_;refine Dg 0 1 ?_;refine dt 2 ?_;refine dN 3 ?_;apply Iz;rfl;rfl;rfl;rfl;exact Ir;exact Io;intro _;refine dk ?_;refine dN 4 ?_;refine Np (De (Dn x.Aa p).1 hans) Ho fun a9 c9 F9=>?_;refine dk ?_;refine dN 5 ?_;refine oS ?_
  refine dk ?_;refine dt 6 ?_;refine dd ?_;refine go ?_;refine ret ⟨s.a,s.c,z.a,z.c,_,a9,c9,F9⟩ trivial rfl
 ·have e1:Ni x p.Ae=Yf x x.Aa:=by unfold Ni;rw [hb,ht];rfl
  have e2:No x p=[Aaw x.Aa p.Ae]:=by unfold No;rw [hb,ht];rfl
  rw [e1,e2];refine go ?_;refine ret ⟨s.a,s.c,s.a2,s.c2,s.F,_,_,_⟩ trivial rfl
theorem Akw (x:Cs) (p:As) (v:Value) (F:aq) (hg:Cr x=true) (n0:0<=p.Ae) (n1:p.Ae<=65535) (hps:p.data.size<=maxLen) :
  Fn prog 168 [v,.agg #[aa p.Cq,aa p.Ae,aa p.Am,aa p.Er,af p.data]] [.isv El v x F] [] (fun (_:TiS)=>True) (fun s=>.tuple #[.agg #[aa (Mk x p.Ae).Aa.Am,aa (Mk x p.Ae).Aa.size,.slice s.a (Mk x p.Ae).Aa.Ak.length s.c,aa (Mk x p.Ae).Ai,aa (Mk x p.Ae).quiet,.slice s.a2 (Mk x p.Ae).holds.length s.c2],.slice s.ae (No x p).length s.ce])
   (fun s=>[.isv El (.agg #[aa (Mk x p.Ae).Aa.Am,aa (Mk x p.Ae).Aa.size,.slice s.a (Mk x p.Ae).Aa.Ak.length s.c,aa (Mk x p.Ae).Ai,aa (Mk x p.Ae).quiet,.slice s.a2 (Mk x p.Ae).holds.length s.c2]) (Mk x p.Ae) s.F,.ow Al 141 (.slice s.ae (No x p).length s.ce) (No x p) s.Fe]):=by
 obtain ⟨gw,hl,t0,t1,k0,k1,hm,hn,hu,hb⟩:=J9 hg;have h:=Zc x p v F t0 t1 hl k0 EV EV (Ae7 hn) EV EV hps (Afi gw);rw [Ayw hg] at h;exact h
def Ml (f z:Int):Cs × Bool:=if Cr ⟨⟨f,z,[]⟩,0,0,[]⟩ then (⟨⟨f,z,[]⟩,0,0,[]⟩,true) else (Ban,false)
theorem Wq (f z:Int):Fn prog 161 [aa f,aa z] [] [] (fun (_:aq)=>True) (fun _=>.tuple #[.agg #[aa (Ml f z).1.Aa.Am,aa (Ml f z).1.Aa.size,ab none 0 0,aa (Ml f z).1.Ai,aa (Ml f z).1.quiet,ab none 0 0],.bool (Ml f z).2]) (fun s=>[.isv El (.agg #[aa (Ml f z).1.Aa.Am,aa (Ml f z).1.Aa.size,ab none 0 0,aa (Ml f z).1.Ai,aa (Ml f z).1.quiet,ab none 0 0]) (Ml f z).1 s]):=by
 refine enter func161 rfl ntmps161 fun w0=>?_;refine Cm A8 EW ?_;refine Cm Bx EW ?_;refine En Ban ?_;refine Cm A8 EW ?_;refine Cm Bx EW ?_;refine En ⟨⟨f,z,[]⟩,0,0,[]⟩ ?_;refine go ?_;intros;refine cb (fun w st=>(Ai7 ⟨⟨f,z,[]⟩,0,0,[]⟩ _ ([]++[])).val w (I4 (st.get (p:=.isv _ _ _ _) FA))) ?_;cases g1:Cr ⟨⟨f,z,[]⟩,0,0,[]⟩
 ·rw [show Ml f z=(Ban,false) by unfold Ml;rw [g1];rfl];refine go ?_;refine ret ([]++[]) trivial rfl
 rw [show Ml f z=(⟨⟨f,z,[]⟩,0,0,[]⟩,true) by unfold Ml;rw [g1];rfl];refine go ?_;refine ret ([]++[]) trivial rfl
def Jq:Bw Int where
 sz:=1
 Kz _ cs z F:=cs=[.int .u8 z]/\0<=z/\z<=255/\F=[]
 len h:=JI
 lt h:=by simp [h.2.2.2]
 frame h _:=h
def Tq (w:World) (g:Nat) (l:List UInt8):Prop :=
 g < w.heap.size/\∀j (hj:j < l.length),w.cell? ⟨g,j,none⟩=some (.int .u8 (l[j].toNat:Int))/\w.frozen? ⟨g,j,none⟩=false
theorem Tq.below {w w' g l} (h:Tq w g l) (hb:Below w.heap.size w w'):Tq w' g l :=
 ⟨dA h.1 hb.size,fun j hj=>⟨(hb.cell (p:=⟨g,j,none⟩) h.1).trans (h.2 j hj).1,(hb.frozen (p:=⟨g,j,none⟩) h.1).trans (h.2 j hj).2⟩⟩
theorem Tq.set {w g l} (h:Tq w g l) (k:Nat) (b:UInt8) (hk:k < l.length):Tq (w.setCell ⟨g,k,none⟩ (.int .u8 (b.toNat:Int))) g (l.set k b):=by
 refine ⟨JI,fun j hj=>?_⟩;rw [bQ] at hj;refine ⟨?_,?_⟩
 ·by_cases e:k=j
  ·subst e;rw [World.cell?_setCell_same _ _ _ (h.2 k hk).1];simp
  ·rw [World.cell?_setCell_other _ _ _ _ (by intro q;cases q;exact e rfl),(h.2 j hj).1];simp [fO,e]
 ·rw [World.frozen?_setCell];exact (h.2 j hj).2
theorem Ao7 {w:World} {g:Nat} {l:List UInt8} (cap:Nat) (h:Tq w g l):(convert 22 9 (ab (some ⟨g,0,none⟩) l.length cap)).run prog w=.ok (af ⟨l.toArray⟩) w :=
 run_convert_bytes_back w _ _ _ ⟨g,0,none⟩ cap l underlying22 underlying5 underlying9 fun j hj=>by cases j <;> simpa [Addr.add] using (h.2 _ hj).1
theorem Az6 (v v2:Value) (xs:ai) (F F2:aq):FV 219 [v,v2] [.sl A8 v xs F,.sl A8 v2 xs F2] (.bool true):=by
 refine enter func219 rfl ntmps219 fun w0=>?_;refine Ww (v:=v) (xs:=xs) (F:=F) ?_;rintro a c rfl l1 l2;refine Ww (v:=v2) (xs:=xs) (F:=F2) ?_;rintro a2 c2 rfl l3 l4;refine go ?_;refine A1 rfl (fun h=>?_) (fun h=>?_)
 ·exact absurd rfl h
 refine go ?_;refine Dk [0,1,4] (fun k:Nat=>[(5,aa k)]) (fun k=>k<=xs.length) (fun k=>xs.length - k) 0 (aE _) fun k hk=>?_;refine go ?_;refine A1 rfl (fun h3=>?_) (fun h3=>?_)
 ·have hk3:k < xs.length:=EV
  refine Mg (a:=a) (xs:=xs) k ?_;rintro hi b o e s1;rw [e];refine Mg (a:=a2) (xs:=xs) k ?_;rintro hi2 b2 o2 e2 s2;rw [e2];refine Ih ?_;intros;refine Ar [0,1] [] ?_;refine C8 0 1 2 3 ?_;refine C8 4 5 6 7 ?_;refine dt 8 ?_;refine dd ?_;refine go ?_;refine A1 rfl (fun h4=>?_) (fun h4=>?_)
  ·exact absurd rfl h4
  refine go ?_;exact BE
 ·exact AA
theorem Bfk (v:Value) (B4:ar) (F:aq):FV 5 [v] [.sl Jq v B4 F] (.bool (decide (65536 < (B4.length:Int)))):=by
 refine enter func5 rfl ntmps5 fun w0=>?_;refine Ww (E:=Jq) ?_;rintro a c rfl l1 l2;exact AA
def Pz (x:Cs) (s:au):Cs:=⟨Dh x.Aa s,x.Ai,0,Ip (Dh x.Aa s) x.Ai x.holds⟩
theorem Ay8 {x:Cs} {s:au} (h:∀z∈x.holds,x.Ai+1<=z.Cg):Pz x s=Rd x s:=by unfold Pz Rd;rw [Xp h]
theorem Z7 (x:Cs) (s:au) (v:Value) (F:aq) (t0:0<=x.Aa.Am) (t1:x.Aa.Am<=65535) (hl:x.Aa.Ak.length<=6) (z1:1<=x.Aa.size) (hm:x.holds.length<=1000) (hn:Zj x.holds) (hs:s.size<=maxLen) :
  Fn prog 163 [v,af s] [.isv El v x F] [] (fun (_:Akg)=>True) (fun z=>.tuple #[.agg #[aa (Pz x s).Aa.Am,aa (Pz x s).Aa.size,.slice z.a (Pz x s).Aa.Ak.length z.c,aa (Pz x s).Ai,aa (Pz x s).quiet,.slice z.a2 (Pz x s).holds.length z.c2],.agg #[aa 1,aa (Dv x.Aa s).Ae,aa (Dv x.Aa s).Am,aa (Dv x.Aa s).Er,af s]]) (fun z=>[.isv El (.agg #[aa (Pz x s).Aa.Am,aa (Pz x s).Aa.size,.slice z.a (Pz x s).Aa.Ak.length z.c,aa (Pz x s).Ai,aa (Pz x s).quiet,.slice z.a2 (Pz x s).holds.length z.c2]) (Pz x s) z.F]):=by
 have hb:=Qp t0 t1;refine enter func163 rfl ntmps163 fun w0=>?_;refine Gn ?_;rintro a1 c1 F1 a2 c2 F2 rfl l1 l2;refine Cn x.Aa ?_;generalize F1=F3;refine go ?_;intros;refine Be (Axv x.Aa s _ F3 hl t0 t1 hs z1) fun y _=>?_;refine E6 (x:=Dh x.Aa s) ?_;rintro a5 c5 F5 e5 l5;rw [e5];refine go ?_;intros;refine Be (Tb x (Dh x.Aa s) _ _ F y.2 hb.1 hb.2 EV hn) fun q _=>?_;refine Gn (x:=Yf x (Dh x.Aa s)) ?_;rintro a6 c6 F6 a7 c7 F7 e6 l6 l7;rw [e6];refine go ?_;intros;refine Ar [0,4] [] ?_;refine Dg 0 1 ?_;refine dN 2 ?_;refine oS ?_;refine dk ?_;refine dN 3 ?_;refine oS ?_;refine dk ?_
 refine dd ?_;refine En (Pz x s) ?_;refine go ?_;exact EB
theorem Atv (x:Cs) (s:au) (v:Value) (F:aq) (hg:Cr x=true) (hs:s.size<=maxLen) :
  Fn prog 163 [v,af s] [.isv El v x F] [] (fun (_:Akg)=>True) (fun z=>.tuple #[.agg #[aa (Rd x s).Aa.Am,aa (Rd x s).Aa.size,.slice z.a (Rd x s).Aa.Ak.length z.c,aa (Rd x s).Ai,aa (Rd x s).quiet,.slice z.a2 (Rd x s).holds.length z.c2],.agg #[aa 1,aa (Dv x.Aa s).Ae,aa (Dv x.Aa s).Am,aa (Dv x.Aa s).Er,af s]]) (fun z=>[.isv El (.agg #[aa (Rd x s).Aa.Am,aa (Rd x s).Aa.size,.slice z.a (Rd x s).Aa.Ak.length z.c,aa (Rd x s).Ai,aa (Rd x s).quiet,.slice z.a2 (Rd x s).holds.length z.c2]) (Rd x s) z.F]):=by
 obtain ⟨gw,hl,t0,t1,k0,k1,hm,hn,hu,hb⟩:=J9 hg;obtain ⟨-,⟨z1, -⟩, -⟩:=Dq.1 gw;have h:=Z7 x s v F t0 t1 hl z1 EV (Ae7 hn) hs;rw [Ay8 hu] at h;exact h
theorem Alo (v v2:Value) (xs:ar) (F F2:aq):FV 74 [v,v2] [.sl Bb v xs F,.sl Bb v2 xs F2] (.bool true):=by
 refine enter func74 rfl ntmps74 fun w0=>?_;refine Ww (v:=v) (xs:=xs) (F:=F) ?_;rintro a c rfl l1 l2;refine Ww (v:=v2) (xs:=xs) (F:=F2) ?_;rintro a2 c2 rfl l3 l4;refine go ?_;refine A1 rfl (fun h=>?_) (fun h=>?_)
 ·exact absurd rfl h
 refine go ?_;refine Dk [0,1,4] (fun k:Nat=>[(5,aa k)]) (fun k=>k<=xs.length) (fun k=>xs.length - k) 0 (aE _) fun k hk=>?_;refine go ?_;refine A1 rfl (fun h3=>?_) (fun h3=>?_)
 ·have hk3:k < xs.length:=EV
  refine In (a:=a) (xs:=xs) k ?_;rintro hi b o e;rw [e];refine In (a:=a2) (xs:=xs) k ?_;rintro hi2 b2 o2 e2;rw [e2];refine Ih ?_;intros;refine Ar [0,1] [] ?_;refine C8 0 1 2 3 ?_;refine C8 4 5 6 7 ?_;refine dt 8 ?_;refine dd ?_;refine go ?_;refine A1 rfl (fun h4=>?_) (fun h4=>?_)
  ·exact absurd rfl h4
  refine go ?_;exact BE
 ·exact AA
theorem Avi (v v2:Value) (x:Aw) (F F2:aq):FV 142 [v,v2] [.isv Cf v x F,.isv Cf v2 x F2] (.bool true):=by
 refine enter func142 rfl ntmps142 fun w0=>?_;refine E6 (v:=v) (F:=F) ?_;rintro a1 c1 F1 rfl l1;refine E6 (v:=v2) (F:=F2) ?_;rintro a2 c2 F3 rfl l2;refine go ?_;intros;refine Dc rfl rfl (fun h1=>?_) (fun h1=>?_)
 ·refine go ?_;refine Dc rfl rfl (fun h2=>?_) (fun h2=>?_)
  ·refine go ?_;refine Be (Az6 _ _ x.Ak F1 F3) fun _ _=>?_;exact AA
  ·exact absurd rfl h2
 ·exact absurd rfl h1
theorem Auo (p:As) (w:World):(Op.equalIn 10000 141 (.agg #[aa p.Cq,aa p.Ae,aa p.Am,aa p.Er,af p.data]) (.agg #[aa p.Cq,aa p.Ae,aa p.Am,aa p.Er,af p.data])).run prog w=.ok true w:=by
 have u1:=underlying3;have u2:=underlying9;have hS:prog.underlying 141=some (.struct (prog.fieldsOf 141)):=EY
 rw [show (10000:Nat)=9999+1 from rfl,run_equalIn_agg w 9999 141 _ _ hS EY];have a1:=Tryz.isAgg3;have a2:=Tryz.isAgg9;simp only [Program.fieldsOf,underlying141]
 go_simp
theorem Aoy {n:Nat} {fr:Fr} {H:List Pc} {x y:Operand} {ty t':TypeId} {p:As} (hx:ev fr x=some (.agg #[aa p.Cq,aa p.Ae,aa p.Am,aa p.Er,af p.data])) (hy:ev fr y=some (.agg #[aa p.Cq,aa p.Ae,aa p.Am,aa p.Er,af p.data])):Yd prog n fr H (.binOp .neq 141 x y t') ty (.bool false):=.mk fun c w d pos Cd gd hA _=>by
 have h2:(eqGuard .neq 141 x y (.agg #[aa p.Cq,aa p.Ae,aa p.Am,aa p.Er,af p.data]) (.agg #[aa p.Cq,aa p.Ae,aa p.Am,aa p.Er,af p.data])).run prog w=.ok () w:=run_eqGuard_agg w _ _ _ _ _ _ EY;simp only [execOp,hA.ev hx,hA.ev hy,Sem.run_bind,h2,Result.andThen_ok,run_neq_struct,Auo,Sem.run_pure];rfl
theorem Bbl (s:Iu) (w:World):(Op.equalIn 10000 191 (.agg #[aa s.Ae,aa s.Cg]) (.agg #[aa s.Ae,aa s.Cg])).run prog w=.ok true w:=by
 have u0:=underlying3;have a0:=Tryz.isAgg3;have hS:prog.underlying 191=some (.struct (prog.fieldsOf 191)):=EY
 rw [show (10000:Nat)=9999+1 from rfl,run_equalIn_agg w 9999 191 _ _ hS EY];simp only [Program.fieldsOf,underlying191]
 go_simp
theorem Avo {n:Nat} {fr:Fr} {H:List Pc} {x y:Operand} {ty t':TypeId} {s:Iu} (hx:ev fr x=some (.agg #[aa s.Ae,aa s.Cg])) (hy:ev fr y=some (.agg #[aa s.Ae,aa s.Cg])):Yd prog n fr H (.binOp .neq 191 x y t') ty (.bool false):=.mk fun c w d pos Cd gd hA _=>by
 have h2:(eqGuard .neq 191 x y (.agg #[aa s.Ae,aa s.Cg]) (.agg #[aa s.Ae,aa s.Cg])).run prog w=.ok () w:=run_eqGuard_agg w _ _ _ _ _ _ EY;simp only [execOp,hA.ev hx,hA.ev hy,Sem.run_bind,h2,Result.andThen_ok,run_neq_struct,Bbl,Sem.run_pure];rfl
theorem Avh (v v2:Value) (x:Cs) (F F2:aq):FV 75 [v,v2] [.isv El v x F,.isv El v2 x F2] (.bool true):=by
 refine enter func75 rfl ntmps75 fun w0=>?_;refine Gn (v:=v) (x:=x) (F:=F) ?_;rintro a1 c1 F3 a2 c2 F4 rfl l1 l2;unfold maxLen at l1 l2;refine Cn x.Aa (a1:=a1) ?_;generalize F3=F5;refine Gn (v:=v2) (x:=x) (F:=F2) ?_;rintro a3 c3 F6 a4 c4 F7 rfl l3 l4;refine Cn x.Aa (a1:=a3) ?_;generalize F6=F8;refine go ?_;intros;refine Be (Avi _ _ x.Aa F5 F8) fun _ _=>?_;refine go ?_;refine Dc rfl rfl (fun h=>?_) (fun h=>?_)
 ·exact absurd rfl h
 refine go ?_;refine Dc rfl rfl (fun h2=>?_) (fun h2=>?_)
 ·exact absurd rfl h2
 refine go ?_;refine A1 rfl (fun h3=>?_) (fun h3=>?_)
 ·exact absurd rfl h3
 refine go ?_;refine Dk [2,3,4] (fun k:Nat=>[(5,aa k)]) (fun k=>k<=x.holds.length) (fun k=>x.holds.length - k) 0 (aE _) fun k hk=>?_;refine go ?_;refine A1 rfl (fun h4=>?_) (fun h4=>?_)
 ·have hk3:k < x.holds.length:=EV
  refine T5 (a:=a2) (xs:=x.holds) k ?_;rintro hi b o e;rw [e];refine T5 (a:=a4) (xs:=x.holds) k ?_;rintro hi2 b2 o2 e2;rw [e2];refine Ih ?_;intros;refine Ar [0,1,2,3] [] ?_;refine C8 0 1 2 3 ?_;refine C8 4 5 6 7 ?_;refine Dg 8 9 ?_;refine dt 10 ?_ (hy:=Avo rfl rfl);exact CU
 ·exact AA
theorem Ahn (a a2:aj) (c c2:Nat) (xs:List As) (F F2:aq) (hl:xs.length<=1000000000):FV 78 [ab a xs.length c,ab a2 xs.length c2] [.sl Al (ab a xs.length c) xs F,.sl Al (ab a2 xs.length c2) xs F2] (.bool true):=by
 refine enter func78 rfl ntmps78 fun w0=>?_;refine go ?_;refine A1 rfl (fun h2=>?_) (fun h2=>?_)
 ·exact absurd rfl h2
 refine go ?_;refine Dk [0,1,4] (fun k:Nat=>[(5,aa k)]) (fun k=>k<=xs.length) (fun k=>xs.length - k) 0 (aE _) fun k hk=>?_;refine go ?_;refine A1 rfl (fun h3=>?_) (fun h3=>?_)
 ·have hk3:k < xs.length:=EV
  refine Oj (a:=a) (xs:=xs) k ?_;rintro hi b o e s1;rw [e];refine Oj (a:=a2) (xs:=xs) k ?_;rintro hi2 b2 o2 e2 s2;rw [e2];refine Ih ?_;intros;refine Ar [0,1] [] ?_;refine C8 0 1 2 3 ?_;refine C8 4 5 6 7 ?_;refine dt 8 ?_ (hy:=Aoy rfl rfl);exact CU
 ·exact AA
theorem Bcu (s:Hz) (w:World):(Op.equalIn 10000 107 (.agg #[.bool s.T6,af s.Dj]) (.agg #[.bool s.T6,af s.Dj])).run prog w=.ok true w:=by
 have u1:=underlying4;have u2:=underlying9;have hS:prog.underlying 107=some (.struct (prog.fieldsOf 107)):=EY
 rw [show (10000:Nat)=9999+1 from rfl,run_equalIn_agg w 9999 107 _ _ hS EY];have a1:=Tryz.isAgg4;have a2:=Tryz.isAgg9;simp only [Program.fieldsOf,underlying107]
 go_simp
theorem Avp {n:Nat} {fr:Fr} {H:List Pc} {x y:Operand} {ty t':TypeId} {s:Hz} (hx:ev fr x=some (.agg #[.bool s.T6,af s.Dj])) (hy:ev fr y=some (.agg #[.bool s.T6,af s.Dj])):Yd prog n fr H (.binOp .neq 107 x y t') ty (.bool false):=.mk fun c w d pos Cd gd hA _=>by
 have h2:(eqGuard .neq 107 x y (.agg #[.bool s.T6,af s.Dj]) (.agg #[.bool s.T6,af s.Dj])).run prog w=.ok () w:=run_eqGuard_agg w _ _ _ _ _ _ EY;simp only [execOp,hA.ev hx,hA.ev hy,Sem.run_bind,h2,Result.andThen_ok,run_neq_struct,Bcu,Sem.run_pure];rfl
theorem Az5 (v v2:Value) (x:Aj) (F F2:aq):FV 143 [v,v2] [.isv Br v x F,.isv Br v2 x F2] (.bool true):=by
 refine enter func143 rfl ntmps143 fun w0=>?_;refine Ck (v:=v) (x:=x) (F:=F) ?_;rintro a c F3 rfl l1;unfold maxLen at l1;refine Ck (v:=v2) (x:=x) (F:=F2) ?_;rintro a2 c2 F4 rfl l3;refine go ?_;intros;refine Dc rfl rfl (fun h=>?_) (fun h=>?_)
 ·exact absurd rfl h
 refine go ?_;refine A1 rfl (fun h2=>?_) (fun h2=>?_)
 ·exact absurd rfl h2
 refine go ?_;refine Dk [2,3,4] (fun k:Nat=>[(5,aa k)]) (fun k=>k<=x.Ao.length) (fun k=>x.Ao.length - k) 0 (aE _) fun k hk=>?_;refine go ?_;refine A1 rfl (fun h3=>?_) (fun h3=>?_)
 ·have hk3:k < x.Ao.length:=EV
  refine Oe (a:=a) (xs:=x.Ao) k ?_;rintro hi b o e s1;rw [e];refine Oe (a:=a2) (xs:=x.Ao) k ?_;rintro hi2 b2 o2 e2 s2;rw [e2];refine Ih ?_;intros;refine Ar [0,1,2,3] [] ?_;refine C8 0 1 2 3 ?_;refine C8 4 5 6 7 ?_;refine Dg 8 9 ?_;refine dt 10 ?_ (hy:=Avp rfl rfl);exact CU
 ·exact AA
structure Az where
 Ae:Int
 state:Int
 Cg:Int
 Ds:Int
def Ay:Bw Az where
 sz:=4
 Kz _ cs x F:=cs=[aa x.Ae,aa x.state,aa x.Cg,aa x.Ds]/\F=[]
 len h:=by obtain ⟨rfl,rfl⟩:=h;rfl
 lt h:=by obtain ⟨rfl,rfl⟩:=h;simp
 frame h _:=h
theorem Db:One Ay:=fun h u hu=>by
 obtain ⟨rfl,rfl⟩:=h;simp only [aG,aT,bl] at hu;rcases hu with rfl|rfl|rfl|rfl
 ·rfl
 ·rfl
 ·rfl
 ·rfl
theorem D0:Aar Ay:=fun h=>by obtain ⟨rfl,rfl⟩:=h;rfl
structure A9 where
 Bd:Bool
 Ai:Int
 Aa:Aj
 An:List Az
def Bz:Bw A9 where
 sz:=5
 Kz w cs x F:=∃v1 v2 F1 F2,cs=[.bool x.Bd,aa x.Ai,aa x.Aa.next,v1,v2]/\Sl Cv w v1 x.Aa.Ao F1/\Sl Ay w v2 x.An F2/\F=F1++F2
 len h:=HI
 lt h:=by
  obtain ⟨v1,v2,F1,F2,rfl,h1,h2,rfl⟩:=h;intro b hb;simp only [aJ] at hb;rcases hb with hb|hb
  ·exact h1.lt EW b hb
  ·exact h2.lt EW b hb
 frame h hF:=FG
def B9:Bw A9 where
 sz:=5
 Kz w cs x F:=∃v1 v2 F1 F2,cs=[.bool x.Bd,aa x.Ai,aa x.Aa.next,v1,v2]/\Ow Cv 107 w v1 x.Aa.Ao F1/\Ow Ay 231 w v2 x.An F2/\F=F1++F2
 len h:=HI
 lt h:=by
  obtain ⟨v1,v2,F1,F2,rfl,h1,h2,rfl⟩:=h;intro b hb;simp only [aJ] at hb;rcases hb with hb|hb
  ·exact h1.lt b hb
  ·exact h2.lt b hb
 frame h hF:=FG
theorem Qw:One B9:=fun h u hu=>by
 obtain ⟨v1,v2,F1,F2,rfl,h1,h2,rfl⟩:=h;simp only [aG,aT,bl] at hu;rcases hu with rfl|rfl|rfl|rfl|rfl
 ·rfl
 ·rfl
 ·rfl
 ·exact h1.one
 ·exact h2.one
theorem Qy:Mu B9 Bz:=⟨rfl,fun h=>by
 obtain ⟨v1,v2,F1,F2,rfl,h1,h2,rfl⟩:=h;obtain ⟨G1,g1,k1⟩:=h1.sl (Mu.refl _);obtain ⟨G2,g2,k2⟩:=h2.sl (Mu.refl _);refine ⟨G1++G2,?_,v1,v2,G1,G2,rfl,k1,k2,rfl⟩;intro b hb;simp only [aJ] at hb ⊢;rcases hb with hb|hb
 ·simp [g1 b hb]
 ·simp [g2 b hb]⟩
section
variable {c:Cx} {fr:Fr} {H:List Pc} {Φ:Gl}
theorem Fj {v:Value} {x:A9} {F:aq} (h:∀(a1:aj) (c1:Nat) (F1:aq) (a2:aj) (c2:Nat) (F2:aq),v=.agg #[.bool x.Bd,aa x.Ai,aa x.Aa.next,ab a1 x.Aa.Ao.length c1,ab a2 x.An.length c2]->x.Aa.Ao.length<=maxLen->x.An.length<=maxLen->T c fr (.sl Cv (ab a1 x.Aa.Ao.length c1) x.Aa.Ao F1::.sl Ay (ab a2 x.An.length c2) x.An F2::H) Φ) (hm:.isv Bz v x F∈H:=by exact Bn):T c fr H Φ:=.mk fun a w s g=>by
 exact AT
theorem Dy (x:A9) {a1:aj} {c1:Nat} {F1:aq} {a2:aj} {c2:Nat} {F2:aq}  (h:T c fr (.isv Bz (.agg #[.bool x.Bd,aa x.Ai,aa x.Aa.next,ab a1 x.Aa.Ao.length c1,ab a2 x.An.length c2]) x (F1++F2)::H) Φ) (m1:.sl Cv (ab a1 x.Aa.Ao.length c1) x.Aa.Ao F1∈H:=by exact Bn) (m2:.sl Ay (ab a2 x.An.length c2) x.An F2∈H:=by exact Bn):T c fr H Φ:=.mk fun a w s g=>by
 refine h.h a w (s.add (N:=[_]) (Below.refl _ _) IR ⟨EX,trivial⟩ fun q hq b hb=>?_) g;obtain rfl:=aL.1 hq;simp only [Pc.F,aJ] at hb;rcases hb with hb|hb
 ·exact .inr ⟨rfl,_,m1,rfl,hb⟩
 ·exact .inr ⟨rfl,_,m2,rfl,hb⟩
theorem Is {v:Value} {x:A9} {F:aq} {S:List Pc} (h:∀(a1:aj) (c1:Nat) (F1:aq) (a2:aj) (c2:Nat) (F2:aq),v=.agg #[.bool x.Bd,aa x.Ai,aa x.Aa.next,ab a1 x.Aa.Ao.length c1,ab a2 x.An.length c2]->x.Aa.Ao.length<=maxLen->x.An.length<=maxLen->T c fr (.ow Cv 107 (ab a1 x.Aa.Ao.length c1) x.Aa.Ao F1::.ow Ay 231 (ab a2 x.An.length c2) x.An F2::S) Φ) (hp:C2 H (.own B9 v x F) S:=by exact Dr):T c fr H Φ:=.mk fun a w s g=>by
 obtain ⟨hn,cs,rfl,v1,v2,G1,G2,rfl,h1,h2,rfl⟩:=(s.pick hp).on (.own B9 v x F) EX;obtain ⟨a1,c1,rfl⟩:=h1.slice;have l1:=h1.len;obtain ⟨a2,c2,rfl⟩:=h2.slice;have l2:=h2.len;exact (h a1 c1 G1 a2 c2 G2 rfl  l1 l2).h a w (s.mer (M:=[.own B9 _ x _]) (N:=[.ow Cv _ _ _ G1,.ow Ay _ _ _ G2]) (.cons hp .nil) (fun _ _=>⟨Xk ⟨(Tg hn),h1⟩ (Xk ⟨Anj hn,h2⟩ (Axf)),FZ⟩) GK) g
theorem Kn (x:A9) {a1:aj} {c1:Nat} {F1:aq} {a2:aj} {c2:Nat} {F2:aq} {S1 S2:List Pc}  (h:T c fr (.own B9 (.agg #[.bool x.Bd,aa x.Ai,aa x.Aa.next,ab a1 x.Aa.Ao.length c1,ab a2 x.An.length c2]) x (F1++F2)::S2) Φ) (m1:C2 H (.ow Cv 107 (ab a1 x.Aa.Ao.length c1) x.Aa.Ao F1) S1:=by exact Dr) (m2:C2 S1 (.ow Ay 231 (ab a2 x.An.length c2) x.An F2) S2:=by exact Dr)  : T c fr H Φ:=.mk fun a w s g =>
 h.h a w (s.mer (M:=[.ow Cv _ _ _ F1,.ow Ay _ _ _ F2]) (N:=[.own B9 _ x (F1++F2)]) (.cons m1 (.cons m2 (.nil))) (fun hk hn=>⟨I4 ⟨FZ,_,rfl,_,_,_,_,rfl,(P6 hk).2,(P6 (Hn hk)).2,rfl⟩,FZ⟩) GK) g
theorem Jc {a:aj} {n cp:Nat} {xs:List A9} {F:aq} (i:Nat) (h:∀(hi:i < xs.length) (b o:Nat) (a1:aj) (c1:Nat) (F1:aq) (a2:aj) (c2:Nat) (F2:aq),a=some ⟨b,o,none⟩->xs[i].Aa.Ao.length<=maxLen->xs[i].An.length<=maxLen->T c fr (.cel b (o+i * 5) [.bool xs[i].Bd,aa xs[i].Ai,aa xs[i].Aa.next,.slice a1 xs[i].Aa.Ao.length c1,.slice a2 xs[i].An.length c2]::.sl Cv (.slice a1 xs[i].Aa.Ao.length c1) xs[i].Aa.Ao F1::.sl Ay (.slice a2 xs[i].An.length c2) xs[i].An F2::H) Φ) (hm:.sl Bz (ab a n cp) xs F∈H:=by exact Bn) (hi:i < xs.length:=by omega):T c fr H Φ:=.mk fun ac w s g=>by
 obtain ⟨b,o,cs,G,ha,hrep,hG,hb,hne,hr⟩:=Wp (s.get hm) i hi;obtain ⟨v1,v2,G1,G2,rfl,h1,h2,rfl⟩:=hrep;obtain ⟨a1,c1,rfl⟩:=h1.slice;have l1:=h1.len;obtain ⟨a2,c2,rfl⟩:=h2.slice;have l2:=h2.len;have t2:=s.ro (p:=.sl _ _ _ _) hm rfl rfl ⟨EW,h2⟩ HE;have t1:=t2.ro (p:=.sl _ _ _ _) (aN _ hm) rfl rfl ⟨EW,h1⟩ HE
 exact (h hi b o a1 c1 G1 a2 c2 G2 ha  l1 l2).h ac w (t1.ro (aN _ (aN _ hm)) rfl rfl ⟨hne,hr⟩ GC) g
end
section
variable {c:Cx} {fr:Fr} {H:List Pc} {Φ:Gl}
theorem Ig {a:aj} {n cp:Nat} {xs:List Az} {F:aq} (i:Nat) (h:∀(hi:i < xs.length) (b o:Nat),a=some ⟨b,o,none⟩->T c fr (.cel b (o+i * 4) [aa xs[i].Ae,aa xs[i].state,aa xs[i].Cg,aa xs[i].Ds]::H) Φ) (hm:.sl Ay (ab a n cp) xs F∈H:=by exact Bn) (hi:i < xs.length:=by omega):T c fr H Φ:=.mk fun ac w s g=>by
 exact CP
theorem Afy {t:TypeId} {a:aj} {n cp:Nat} {xs:List Az} {F:aq} {S:List Pc} (i:Nat) (h:∀(_:i < xs.length) g A B,a=some ⟨g,0,none⟩->F=[g]->Avz Ay t g (ab (some ⟨g,0,none⟩) n cp) xs i A B->T c fr (.row g t (0+i * 4) A [aa xs[i].Ae,aa xs[i].state,aa xs[i].Cg,aa xs[i].Ds] B::S) Φ) (hp:C2 H (.ow Ay t (ab a n cp) xs F) S:=by exact Dr) (hi:i < xs.length:=by omega):T c fr H Φ :=
 Rm D0 i (fun hi g A cs B ha hF hr hh=>by obtain ⟨rfl, -⟩:=hr default;exact h hi g A B ha hF  hh) hp rfl hi
theorem Nq (x:Az)  (w:World):Cw Ay w [aa x.Ae,aa x.state,aa x.Cg,aa x.Ds] [x] []:=⟨_,[],[],[],EX,EX,⟨rfl,rfl⟩,rfl,rfl⟩
end
theorem Aqg (s:Az) (w:World):(Op.equalIn 10000 231 (.agg #[aa s.Ae,aa s.state,aa s.Cg,aa s.Ds]) (.agg #[aa s.Ae,aa s.state,aa s.Cg,aa s.Ds])).run prog w=.ok true w:=by
 have u0:=underlying3;have a0:=Tryz.isAgg3;have hS:prog.underlying 231=some (.struct (prog.fieldsOf 231)):=EY
 rw [show (10000:Nat)=9999+1 from rfl,run_equalIn_agg w 9999 231 _ _ hS EY];simp only [Program.fieldsOf,underlying231]
 go_simp
theorem Als {n:Nat} {fr:Fr} {H:List Pc} {x y:Operand} {ty t':TypeId} {s:Az} (hx:ev fr x=some (.agg #[aa s.Ae,aa s.state,aa s.Cg,aa s.Ds])) (hy:ev fr y=some (.agg #[aa s.Ae,aa s.state,aa s.Cg,aa s.Ds])):Yd prog n fr H (.binOp .neq 231 x y t') ty (.bool false):=.mk fun c w d pos Cd gd hA _=>by
 have h2:(eqGuard .neq 231 x y (.agg #[aa s.Ae,aa s.state,aa s.Cg,aa s.Ds]) (.agg #[aa s.Ae,aa s.state,aa s.Cg,aa s.Ds])).run prog w=.ok () w:=run_eqGuard_agg w _ _ _ _ _ _ EY;simp only [execOp,hA.ev hx,hA.ev hy,Sem.run_bind,h2,Result.andThen_ok,run_neq_struct,Aqg,Sem.run_pure];rfl
theorem Aon (a a2:aj) (c c2:Nat) (xs:List Az) (F F2:aq) (hl:xs.length<=9223372036854775807):FV 144 [ab a xs.length c,ab a2 xs.length c2] [.sl Ay (ab a xs.length c) xs F,.sl Ay (ab a2 xs.length c2) xs F2] (.bool true):=by
 refine enter func144 rfl ntmps144 fun w0=>?_;refine go ?_;refine A1 rfl (fun h2=>?_) (fun h2=>?_)
 ·exact absurd rfl h2
 refine go ?_;refine Dk [0,1,4] (fun k:Nat=>[(5,aa k)]) (fun k=>k<=xs.length) (fun k=>xs.length - k) 0 (aE _) fun k hk=>?_;refine go ?_;refine A1 rfl (fun h3=>?_) (fun h3=>?_)
 ·have hk3:k < xs.length:=EV
  refine Ig (a:=a) (xs:=xs) k ?_;rintro hi b o e;rw [e];refine Ig (a:=a2) (xs:=xs) k ?_;rintro hi2 b2 o2 e2;rw [e2];refine Ih ?_;intros;refine Ar [0,1] [] ?_;refine C8 0 1 2 3 ?_;refine C8 4 5 6 7 ?_;refine dt 8 ?_ (hy:=Als rfl rfl);exact CU
 ·exact AA
theorem Aom (v v2:Value) (x:A9) (F F2:aq):FV 77 [v,v2] [.isv Bz v x F,.isv Bz v2 x F2] (.bool true):=by
 refine enter func77 rfl ntmps77 fun w0=>?_;refine Fj (v:=v) (x:=x) (F:=F) ?_;rintro a1 c1 F3 a2 c2 F4 rfl l1 l2;unfold maxLen at l1 l2;refine Ce x.Aa (a1:=a1) ?_;generalize F3=F5;refine Fj (v:=v2) (x:=x) (F:=F2) ?_;rintro a3 c3 F6 a4 c4 F7 rfl l3 l4;refine Ce x.Aa (a1:=a3) ?_;generalize F6=F8;cases hs:x.Bd
 all_goals
  refine go ?_;intros;refine Dc rfl rfl (fun h=>?_) (fun h=>?_)
  rotate_left
  ·exact absurd rfl h
  refine go ?_;refine Be (Az5 _ _ x.Aa F5 F8) fun _ _=>?_;refine go ?_;refine Be (Aon a2 a4 c2 c4 x.An F4 F7 EV) fun _ _=>?_;exact AA
structure Gz where
 Ae:Int
 Bg:ar
 Cg:Int
def D5:Bw Gz where
 sz:=3
 Kz w cs x F:=∃v1,cs=[aa x.Ae,v1,aa x.Cg]/\Sl Bb w v1 x.Bg F
 len h:=GQ
 lt h:=GP
 frame h hF:=FP
theorem Vw:One D5:=fun h u hu=>by
 obtain ⟨v1,rfl,h1⟩:=h;simp only [aG,aT,bl] at hu;rcases hu with rfl|rfl|rfl
 ·rfl
 ·exact h1.one
 ·rfl
theorem Zz:(prog.info? 193).map (fun i=>(i.zero,i.size,i.bytes))=some (some (.agg #[aa 0,ab none 0 0,aa 0]),3,40):=by kernel_rfl
def Eu:Bw Gz where
 sz:=3
 Kz w cs x F:=∃v1,cs=[aa x.Ae,v1,aa x.Cg]/\Ow Bb 3 w v1 x.Bg F
 len h:=GQ
 lt h:=KJ
 frame h hF:=FP
theorem Th:One Eu:=fun h u hu=>by
 obtain ⟨v1,rfl,h1⟩:=h;simp only [aG,aT,bl] at hu;rcases hu with rfl|rfl|rfl
 ·rfl
 ·exact h1.one
 ·rfl
theorem Qs:Mu Eu D5:=⟨rfl,fun h=>by
 obtain ⟨v1,rfl,h1⟩:=h;obtain ⟨G1,g1,k1⟩:=h1.sl (Mu.refl _);exact ⟨G1,g1,v1,rfl,k1⟩⟩
structure Bf where
 Ai:Int
 Ah:List Gz
def Bv:Bw Bf where
 sz:=2
 Kz w cs x F:=∃v1,cs=[aa x.Ai,v1]/\Sl D5 w v1 x.Ah F
 len h:=GQ
 lt h:=GP
 frame h hF:=FP
theorem Ak4:One Bv:=fun h u hu=>by
 obtain ⟨v1,rfl,h1⟩:=h;simp only [aG,aT,bl] at hu;rcases hu with rfl|rfl
 ·rfl
 ·exact h1.one
def Ch:Bw Bf where
 sz:=2
 Kz w cs x F:=∃v1,cs=[aa x.Ai,v1]/\Ow Eu 193 w v1 x.Ah F
 len h:=GQ
 lt h:=KJ
 frame h hF:=FP
theorem R7:One Ch:=fun h u hu=>by
 obtain ⟨v1,rfl,h1⟩:=h;simp only [aG,aT,bl] at hu;rcases hu with rfl|rfl
 ·rfl
 ·exact h1.one
theorem Kh:Mu Ch Bv:=⟨rfl,fun h=>by
 obtain ⟨v1,rfl,h1⟩:=h;obtain ⟨G1,g1,k1⟩:=h1.sl Qs;exact ⟨G1,g1,v1,rfl,k1⟩⟩
section
variable {c:Cx} {fr:Fr} {H:List Pc} {Φ:Gl}
theorem D9 {v:Value} {x:Bf} {F:aq} (h:∀(a1:aj) (c1:Nat) (F1:aq),v=.agg #[aa x.Ai,ab a1 x.Ah.length c1]->x.Ah.length<=maxLen->T c fr (.sl D5 (ab a1 x.Ah.length c1) x.Ah F1::H) Φ) (hm:.isv Bv v x F∈H:=by exact Bn):T c fr H Φ:=.mk fun a w s g=>by
 exact AI
theorem Ex (x:Bf) {a1:aj} {c1:Nat} {F1:aq}  (h:T c fr (.isv Bv (.agg #[aa x.Ai,ab a1 x.Ah.length c1]) x (F1)::H) Φ) (m1:.sl D5 (ab a1 x.Ah.length c1) x.Ah F1∈H:=by exact Bn):T c fr H Φ:=.mk fun a w s g=>by
 exact AE
theorem H8 {v:Value} {x:Bf} {F:aq} {S:List Pc} (h:∀(a1:aj) (c1:Nat) (F1:aq),v=.agg #[aa x.Ai,ab a1 x.Ah.length c1]->x.Ah.length<=maxLen->T c fr (.ow Eu 193 (ab a1 x.Ah.length c1) x.Ah F1::S) Φ) (hp:C2 H (.own Ch v x F) S:=by exact Dr):T c fr H Φ:=.mk fun a w s g=>by
 have z1:=s.pick hp;obtain ⟨hn,cs,rfl,v1,rfl,h1⟩:=z1.on (.own Ch v x F) EX;obtain ⟨a1,c1,rfl⟩:=h1.slice;have l1:=h1.len;refine (h a1 c1 F rfl  l1).h a w (St.turn (M:=[.own Ch (.agg #[aa x.Ai,ab a1 x.Ah.length c1]) x _]) (N:=[.ow Eu 193 (ab a1 x.Ah.length c1) x.Ah F]) z1 (Ei.refl _ w) ?_ ?_ ?_) g
 ·intro q hq;simp at hq;subst hq;exact ⟨hn,h1⟩
 ·exact ⟨EX,trivial⟩
 ·exact DL
theorem Gt (x:Bf) {a1:aj} {c1:Nat} {F1:aq} {S1:List Pc}  (h:T c fr (.own Ch (.agg #[aa x.Ai,ab a1 x.Ah.length c1]) x (F1)::S1) Φ) (m1:C2 H (.ow Eu 193 (ab a1 x.Ah.length c1) x.Ah F1) S1:=by exact Dr)  : T c fr H Φ:=.mk fun a w s g=>by
 have z1:St c.G c.D c.w0 ([.ow Eu 193 (ab a1 x.Ah.length c1) x.Ah F1]++S1) w:=by simpa using (show Km H [.ow Eu 193 (ab a1 x.Ah.length c1) x.Ah F1] S1 from Km.cons m1 (Km.nil)).st (X:=[]) HP
 obtain ⟨n1,k1⟩:=z1.on (.ow Eu 193 (ab a1 x.Ah.length c1) x.Ah F1) EX;have hN:=n1;refine h.h a w (St.turn (M:=[.ow Eu 193 (ab a1 x.Ah.length c1) x.Ah F1]) (N:=[.own Ch (.agg #[aa x.Ai,ab a1 x.Ah.length c1]) x (F1)]) z1 (Ei.refl _ w) (by intro q hq;simp at hq;subst hq;exact ⟨hN,_,rfl,_,rfl,k1⟩) ⟨EX,trivial⟩ fun q hq b hb=>?_) g;simp at hq;subst hq;simp only [Pc.F,aJ] at hb;exact .inr (.inl ⟨_,aL.2 rfl,rfl,hb⟩)
theorem N3 {a:aj} {n cp:Nat} {xs:List Bf} {F:aq} (i:Nat) (h:∀(hi:i < xs.length) (b o:Nat) (a1:aj) (c1:Nat) (F1:aq),a=some ⟨b,o,none⟩->xs[i].Ah.length<=maxLen->T c fr (.cel b (o+i * 2) [aa xs[i].Ai,.slice a1 xs[i].Ah.length c1]::.sl D5 (.slice a1 xs[i].Ah.length c1) xs[i].Ah F1::H) Φ) (hm:.sl Bv (ab a n cp) xs F∈H:=by exact Bn) (hi:i < xs.length:=by omega):T c fr H Φ:=.mk fun ac w s g=>by
 exact AX
end
section
variable {c:Cx} {fr:Fr} {H:List Pc} {Φ:Gl}
theorem Ajk {v:Value} {x:Gz} {F:aq} (h:∀(a1:aj) (c1:Nat) (F1:aq),v=.agg #[aa x.Ae,ab a1 x.Bg.length c1,aa x.Cg]->x.Bg.length<=maxLen->T c fr (.sl Bb (ab a1 x.Bg.length c1) x.Bg F1::H) Φ) (hm:.isv D5 v x F∈H:=by exact Bn):T c fr H Φ:=.mk fun a w s g=>by
 exact AI
theorem Sz (x:Gz) {a1:aj} {c1:Nat} {F1:aq}  (h:T c fr (.isv D5 (.agg #[aa x.Ae,ab a1 x.Bg.length c1,aa x.Cg]) x (F1)::H) Φ) (m1:.sl Bb (ab a1 x.Bg.length c1) x.Bg F1∈H:=by exact Bn):T c fr H Φ:=.mk fun a w s g=>by
 exact AE
theorem Aac {v:Value} {x:Gz} {F:aq} {S:List Pc} (h:∀(a1:aj) (c1:Nat) (F1:aq),v=.agg #[aa x.Ae,ab a1 x.Bg.length c1,aa x.Cg]->x.Bg.length<=maxLen->T c fr (.ow Bb 3 (ab a1 x.Bg.length c1) x.Bg F1::S) Φ) (hp:C2 H (.own Eu v x F) S:=by exact Dr):T c fr H Φ:=.mk fun a w s g=>by
 have z1:=s.pick hp;obtain ⟨hn,cs,rfl,v1,rfl,h1⟩:=z1.on (.own Eu v x F) EX;obtain ⟨a1,c1,rfl⟩:=h1.slice;have l1:=h1.len;refine (h a1 c1 F rfl  l1).h a w (St.turn (M:=[.own Eu (.agg #[aa x.Ae,ab a1 x.Bg.length c1,aa x.Cg]) x _]) (N:=[.ow Bb 3 (ab a1 x.Bg.length c1) x.Bg F]) z1 (Ei.refl _ w) ?_ ?_ ?_) g
 ·intro q hq;simp at hq;subst hq;exact ⟨hn,h1⟩
 ·exact ⟨EX,trivial⟩
 ·exact DL
theorem Pa (x:Gz) {a1:aj} {c1:Nat} {F1:aq} {S1:List Pc}  (h:T c fr (.own Eu (.agg #[aa x.Ae,ab a1 x.Bg.length c1,aa x.Cg]) x (F1)::S1) Φ) (m1:C2 H (.ow Bb 3 (ab a1 x.Bg.length c1) x.Bg F1) S1:=by exact Dr)  : T c fr H Φ:=.mk fun a w s g=>by
 have z1:St c.G c.D c.w0 ([.ow Bb 3 (ab a1 x.Bg.length c1) x.Bg F1]++S1) w:=by simpa using (show Km H [.ow Bb 3 (ab a1 x.Bg.length c1) x.Bg F1] S1 from Km.cons m1 (Km.nil)).st (X:=[]) HP
 obtain ⟨n1,k1⟩:=z1.on (.ow Bb 3 (ab a1 x.Bg.length c1) x.Bg F1) EX;have hN:=n1;refine h.h a w (St.turn (M:=[.ow Bb 3 (ab a1 x.Bg.length c1) x.Bg F1]) (N:=[.own Eu (.agg #[aa x.Ae,ab a1 x.Bg.length c1,aa x.Cg]) x (F1)]) z1 (Ei.refl _ w) (by intro q hq;simp at hq;subst hq;exact ⟨hN,_,rfl,_,rfl,k1⟩) ⟨EX,trivial⟩ fun q hq b hb=>?_) g;simp at hq;subst hq;simp only [Pc.F,aJ] at hb;exact .inr (.inl ⟨_,aL.2 rfl,rfl,hb⟩)
theorem Rx {a:aj} {n cp:Nat} {xs:List Gz} {F:aq} (i:Nat) (h:∀(hi:i < xs.length) (b o:Nat) (a1:aj) (c1:Nat) (F1:aq),a=some ⟨b,o,none⟩->xs[i].Bg.length<=maxLen->T c fr (.cel b (o+i * 3) [aa xs[i].Ae,.slice a1 xs[i].Bg.length c1,aa xs[i].Cg]::.sl Bb (.slice a1 xs[i].Bg.length c1) xs[i].Bg F1::H) Φ) (hm:.sl D5 (ab a n cp) xs F∈H:=by exact Bn) (hi:i < xs.length:=by omega):T c fr H Φ:=.mk fun ac w s g=>by
 exact AX
end
theorem Ri (fid:FuncId) (hbd:Y0 prog fid) (caps:Array Value) (v:Value) (xs:List Gz) (F:aq) (p:Gz->Bool) (w:World) (h:Sl D5 w v xs F)
  (hp:∀(k:Nat) (hk:k < xs.length) (wr:World) (u:Value) (G:aq),Below w.heap.size w wr->Ru D5 wr u xs[k] G->Calls prog fid (#[u]++caps) wr fun e w'=>e=.returned (.bool (p xs[k]))/\Below wr.heap.size wr w') :
  Calls prog 287 #[v,.func (.func fid) #[] caps] w (RB (aa (Rl p xs)) w):=by
 obtain ⟨a,cap,rfl⟩:=h.slice;have hl:=h.len;unfold maxLen at hl
 go_enter func287,ntmps287
 go_wp2
 go_loopw [5,8] (fun _ i wr=>∃k:Nat,k<=xs.length/\i=aa k/\Hid (∀j,j < k->∀hj:j < xs.length,p xs[j]=false)/\Below w.heap.size w wr) (fun _ i _=>xs.length - (intOf i).toNat)
 case atStart=>exact ⟨0,aE _,rfl,fun j hj=>by omega,Below.refl _ _⟩
 case round =>
  obtain ⟨k,hk,rfl,hz,hB⟩:=hrel;by_cases hlt:k < xs.length
  ·have hz0:=hz;clear hz;obtain ⟨b,off,_,F1,rfl,hx, -,ja⟩:=(h.below EW hB).at k hlt;obtain ⟨v1,rfl,h1⟩:=id hx;have a0:=ja 0 EW;have a1:=ja 1 EW;have a2:=ja 2 EW;simp only [show D5.sz=3 from rfl,cS,bN,bH,bF] at a0 a1 a2;clear ja;have hr:=hp k hlt wr _ F1 hB ⟨_,rfl,hx⟩;have hp:=Lib.hid hp;cases hpk:p xs[k]
   all_goals
    rw [hpk] at hr;have hpk:=Lib.hid hpk;have hr:=Lib.hid hr;go_wp2_with fail;refine hbd.upon hr.out ?_;rintro e w1 ⟨rfl,hb1⟩;refine ⟨_,rfl,?_⟩;have hB:=tr hB hb1 (aK _);clear hb1;go_wp2_with fail
   ·exact AV
   ·go_ret
    exact EJ
  ·go_wp2
   go_ret
   exact DG
theorem Zm (fid:FuncId) (hbd:Y0 prog fid) (caps:Array Value) (v:Value) (xs:List Gz) (F:aq) (p:Gz->Bool) (w:World) (h:Sl D5 w v xs F)
  (hp:∀(k:Nat) (hk:k < xs.length) (wr:World) (u:Value) (G:aq),Below w.heap.size w wr->Ru D5 wr u xs[k] G->Calls prog fid (#[u]++caps) wr fun e w'=>e=.returned (.bool (p xs[k]))/\Below wr.heap.size wr w') :
  Calls prog 231 #[v,.func (.func fid) #[] caps] w (RB (.bool (xs.any p)) w):=by
 have hp:=Lib.hid hp
 go_enter func231,ntmps231
 go_wp2_with fail;refine (Ri fid hbd caps v xs F p _ h hp.out).mono ?_;rintro e w1 ⟨rfl,hb1⟩;go_wp2_with fail
 go_ret
 exact ⟨Co (S8 p xs),hb1⟩
theorem Alv (v:Value) (xs:List Gz) (F:aq) (w:World) (h:Sl D5 w v xs F) (hm:xs.length<=4294967296) :
  Calls prog 183 #[v] w fun e w'=>∃v' F',e=.returned v'/\Ow D5 193 w' v' xs F'/\Hd F'/\(∀b,v'.ownBlock=some b->w.heap.size<=b)/\(∀b∈F',v'.ownBlock=some b\/b∈F)/\Below w.heap.size w w':=by
 obtain ⟨ao,c,news,Fy,rfl,hl,hfy,hFy,hsrc⟩:=h.src;have hFl:=hfy.lt;have he:=fun w (a:aj) (n c:Nat)=>Lib.run_eql_slice_nil (P:=prog) w 120 _ a n c 0 0 underlying120
 go_enter func183,ntmps183
 rcases hsrc with ⟨rfl,rfl,rfl⟩|⟨ad,rfl,hn⟩
 ·go_wp2
  go_ret
  exact ⟨ab none 0 0,[],rfl,.inl ⟨rfl,rfl,rfl⟩,Hd.nil,(fun b e=>by simp [Value.ownBlock] at e),EX,Below.refl _ _⟩
 ·go_wp2_with (at_builtin;refine O7 Vw EW FH _ _ _ FH 193 (.agg #[aa 0,ab none 0 0,aa 0]) 40 underlying120 Zz rfl (ab (some ⟨w.heap.size,0,none⟩) 0 0) [] [w.heap.size] FH (Ow.empty (If.made _ _ _)) (Hd.one _) (some ad) xs c FH news Fy (hfy.frame fun b hb=>Below.heap_alloc _ _ _ (hFl b hb)) (.inr ⟨ad,rfl,fun j u hu=>kc ((Below.refl _ _).alloc (aK _) _) (hn j u hu)⟩) (fun b hb e=>by have:=hFl b hb;simp [Value.ownBlock] at e;omega) GU GR ?_);intro v2 w2 F2 hA;go_wp2_with fail
  go_ret
  have hB:Below w.heap.size w w2:=((Below.refl _ _).alloc (aK _) _).trans (hA.I5.below EX EX);have hs:∀b,v2.ownBlock=some b->w.heap.size<=b:=fun b hb=>by rcases hA.Aqm with e|e <;> rw [e] at hb <;> simp [Value.ownBlock] at hb <;> omega
  refine ⟨v2,F2,rfl,II,hA.hd,hs,fun b hb=>?_,hB⟩;rw [hA.Bh0 [] (by simp [Value.ownBlock])] at hb;simp at hb;rcases hb with hb|hb
  ·exact .inl hb
  ·exact .inr (hFy b hb)
theorem Ab1 (fid:FuncId) (hbd:Y0 prog fid) (caps:Array Value) (v:Value) (xs:List Gz) (F:aq) (p:Gz->Bool) (w:World) (h:Ow Eu 193 w v xs F) (hn:F.Nodup)
  (hp:∀(k:Nat) (hk:k < xs.length) (wr:World) (u:Value) (G:aq),Ei F w wr->Ru D5 wr u xs[k] G->Calls prog fid (#[u]++caps) wr fun e w'=>e=.returned (.bool (p xs[k]))/\Below wr.heap.size wr w') :
  Calls prog 310 #[v,.func (.func fid) #[] caps] w fun e w'=>∃v' F',e=.returned v'/\Ow Eu 193 w' v' (xs.filter fun x=>!p x) F'/\F'.Nodup/\(∀b∈F',b∈F)/\Ei F w w':=by
 obtain ⟨F1,hF1,hs⟩:=h.sl Qs;obtain ⟨a,cap,rfl⟩:=h.slice;have hl:=h.len;unfold maxLen at hl;have hp:=Lib.hid hp
 go_enter func310,ntmps310
 go_wp2_with fail;refine (Ri fid hbd caps _ xs F1 p _ hs (fun k hk wr u G hb hu=>hp.out k hk wr u G (Ei.ofBelow hb) hu)).mono ?_;rintro e w1 ⟨rfl,hb1⟩;have hK1:=Ei.ofBelow (F:=F) hb1;by_cases hany:xs.any p=true
 ·obtain ⟨k0,hk0,hfx,hpk,hfl⟩:=Ym hany;rw [hfx];obtain ⟨g,rfl, -,hg0⟩:=Gap.start (h.below hb1) hn (ys:=xs.take k0) (zs:=xs[k0]::xs.drop (k0+1)) EX EV;obtain ⟨F0,hg0,hF0⟩:=hg0.skip;have hG0:=Lib.hid hg0;clear hg0;have hk1:((k0:Int) == -1)=false:=EX
  go_wp2_with fail
  go_loopw [5,6,7] (fun i j _ wr=>∃(q m:Nat) (F1:aq),q<=xs.length/\0 < m/\((xs.take q).filter fun x=>!p x).length+m=q/\i=aa ((xs.take q).filter fun x=>!p x).length/\j=aa q/\Hid (Gap Eu 193 wr g xs.length cap ((xs.take q).filter fun x=>!p x) m (xs.drop q) F1)/\(∀b∈F1,b∈F)/\Ei F w wr) (fun _ j _ _=>xs.length - (intOf j).toNat)
  case atStart=>exact ⟨k0+1,1,F0,hk0,EV,HC,HC,HM,by rw [C9 hk0 KD,hfl];exact hG0,hF0,hK1⟩
  case round =>
   obtain ⟨q,m,F1,hq,hm,hlen,rfl,rfl,hG,hF1,hK⟩:=hrel;obtain ⟨-,hcap, -⟩:=hG.out.caps;generalize hys:((xs.take q).filter fun x=>!p x)=ys at *;by_cases hlt:q < xs.length
   ·rw [bP hlt] at hG;obtain ⟨c,Fx,hx,hFx,hcell⟩:=hG.out.first
    obtain ⟨Fx2, -,hxe⟩:=Qs.Kz hx;obtain ⟨v1,rfl,h1⟩:=id hx;obtain ⟨d1,p1,rfl⟩:=h1.slice;have a0:=hcell 0 EW;have a1:=hcell 1 EW;have a2:=hcell 2 EW;simp only [hlen,show Eu.sz=3 from rfl,cS,bN,bH,bF] at a0 a1 a2;have hr:=fun A=>hp.out q hlt (wr.alloc A) _ Fx2 (hK.alloc A) ⟨_,rfl,D5.below hxe ((Below.refl wr.heap.size wr).alloc (aK _) A)⟩;cases hpq:p xs[q]
    ·obtain ⟨st,c2,Fx3,hx3, -,hcell2,back⟩:=hG.out.move hm;simp only [hpq] at hr;obtain rfl:=Ag2 (Eu.len hx) (Eu.len hx3) hcell hcell2;have st:=st;obtain ⟨⟨x0,z0⟩,g0⟩:=st 0 EW;obtain ⟨⟨x1,z1⟩,g1⟩:=st 1 EW;obtain ⟨⟨x2,z2⟩,g2⟩:=st 2 EW;simp only [show Eu.sz=3 from rfl,cS,bN] at z0 g0 z1 g1 z2 g2;have hr:=Lib.hid hr;have hbk:=Lib.hid back;have hpq:=Lib.hid hpq;have hys:=Lib.hid hys;have hlen:=Lib.hid hlen;have hyl:ys.length < xs.length:=by have:=hlen.out;omega
     clear hx hxe hcell hcell2 hx3 back st hfx hpk hfl;go_wp2_with fail;refine hbd.upon (hr.out _) ?_;rintro e w2 ⟨rfl,hb2⟩;refine ⟨_,rfl,?_⟩;have b2:=(If.below (g:=wr.heap.size) (t:=193) (cs:=[aa xs[q].Ae,.slice d1 xs[q].Bg.length p1,aa xs[q].Cg]) (by simp [Jg]) hb2).cells;have hbb:=tr ((Below.refl wr.heap.size wr).alloc (aK _) _) hb2 (aK _);clear hb2;have g0:=(kf hbb z0).trans g0;have z0:=kc hbb z0;have g1:=(kf hbb z1).trans g1;have z1:=kc hbb z1;have g2:=(kf hbb z2).trans g2;have z2:=kc hbb z2;obtain ⟨F2,hg2,hF2⟩:=hbk.out w2 hbb
     simp only [Ny,show Eu.sz=3 from rfl,cS] at hg2;have hg2:=Lib.hid hg2;have hgF:g∈F:=hF1 g hG.out.caps.2.2.2.2.1;go_wp2_with fail;exact ⟨⟨q+1,m,F2,EV,hm,KE,by rw [Gw hlt IQ,hys.out,aA];go_num,HM,by rw [Gw hlt IQ,hys.out];exact hg2.out,fun b hb=>hF1 b (hF2 b hb),JZ⟩,GG⟩
    ·obtain ⟨F2,hg2,hF2⟩:=hG.out.skip;simp only [hpq] at hr;have hr:=Lib.hid hr;have hg2:=Lib.hid hg2;have hpq:=Lib.hid hpq;have hys:=Lib.hid hys;have hlen:=Lib.hid hlen;clear hx hxe hcell hfx hpk hfl;go_wp2_with fail;refine hbd.upon (hr.out _) ?_;rintro e w2 ⟨rfl,hb2⟩;refine ⟨_,rfl,?_⟩;have hbb:=tr ((Below.refl wr.heap.size wr).alloc (aK _) _) hb2 (aK _);clear hb2;go_wp2_with fail
     exact BP
   ·have hqe:q=xs.length:=EV
    subst hqe;simp only [List.drop_length,bm] at hG hys;obtain ⟨hc,F2,ho2,hn2,hF2⟩:=hG.out.done (z:=#[aa 0,ab none 0 0,aa 0]) rfl;have hmm:xs.length - ys.length=m:=EV
    have hcl:=fun ty=>Tk (P:=prog) wr 120 193 ty (.agg #[aa 0,ab none 0 0,aa 0]) underlying120 (Wf Zz) (by simp [Value.cells,Value.oneCell']) g (ys.length * 3) m (cap - ys.length) hm (fun j hj=>(hc j hj).1) (fun j hj=>(hc j hj).2);have hyl:ys.length < xs.length:=EV
    have hgF:g∈F:=hF1 g hG.out.caps.2.2.2.2.1;have hO:=Lib.hid ho2;have hlen:=Lib.hid hlen;have hys:=Lib.hid hys;clear ho2 hc hfx hpk hfl;go_wp2_with fail
    go_ret
    exact DC
 ·obtain ⟨hfx,hfl⟩:=Aa2 hany;rw [hfx];go_wp2_with fail
  go_ret
  exact ⟨_,F,rfl,by rw [hfl];exact h.below hb1,hn,fun b hb=>hb,hK1⟩
section
variable {c:Cx} {fr:Fr} {H:List Pc} {k:List It} {Φ:Gl} {ops:Array Oper} {o:Op} {d:Nat} {v:Value} {ty:TypeId} {pos:String} {Cd:Array Edge} {H0:List Pc} {X:aq} {f:Nat} {listed:Array Bool}
theorem dsI {id:Nat} {l:List Oper} (H0:List Pc) (X:aq) (h:T c fr H (.dx k H0 X l.toArray l.length (Array.replicate l.length false))) (hm:c.P.follows .mixedOrders=true:=by kernel_rfl):T c fr H (.B4 k (Code.region id l.toArray true)):=.mk fun a w s g=>by
 exact DT
theorem dtI (i:Nat) (hI:∀w,Od H w->Od H0 w) (h:T c ((d,v)::fr) H (.dx k H0 X ops f (listed.setIfInBounds i true))) (ho:ops[i]?=some ⟨some d,o,ty,pos,Cd,none⟩:=by rw [aP];rfl) (hy:Yd c.P c.n fr H0 o ty v:=by exact ydE)
  (h1:Region.noSelect ops=true:=by kernel_rfl) (h2:Region.free .any ops listed i=true:=by kernel_rfl) (h3:(Region.ready .any ops listed).contains i=true:=by kernel_rfl) (h4:Lv .any ops (fun i=>X.contains i) i=true:=by kernel_rfl) (h5:Mv .any ops listed=true:=by kernel_rfl) (hR:Wz c:=by exact Zf) (hd:Nat.blt d c.n=true:=by rfl) :
  T c fr H (.dx k H0 X ops (f+1) listed):=.mk fun a w s g =>
 Ez.take (v:=v) ho h1 h2 h3 h4 h5 (fun ch a w hp=>by rw [Mm] at hp ⊢;exact hR _ _ _ _ _ hp) (.inl ⟨rfl,fun w' hw'=>hy.h a w' _ _ _ _ g hw'⟩) (hI w s.on) (h.h _ _ s (g.put hd))
theorem dkI {i:Nat} (hI:∀w,Od H w->Od H0 w) (h:T c fr H (.dx k H0 X ops f listed)):T c fr H (.dk i k H0 X ops f listed):=.mk fun a w s g=>⟨fun _=>hI w s.on,h.h a w s g⟩
end
theorem Ia {g t:Nat} {x:Value} {r:am} {w:World} (h:(Pc.row g t 0 [] (x::r) []).P w):(Pc.cel g 0 [x]).P w:=⟨EX,fun j u hu=>by
 cases j with
 | zero=>exact Ik h 0 u (by simpa using hu)
 | succ j=>simp at hu⟩
def Ky (c:Int) (x:Gz):Bool:=B8 x.Ae && (decide (0 < x.Bg.length) && (Qo 1 7 x.Bg && Ff (c+1) x.Cg (c+6)))
def Y9 (c:Int) (es:List Gz) (i:Nat):Bool:=match es[i]? with
 | none=>true
 | some x=>Ky c x && !((es.take i).any fun o=>o.Ae == x.Ae)
theorem Kq {c:Int} {es:List Gz} {i:Nat} (h:i < es.length):Y9 c es i=(Ky c es[i] && !((es.take i).any fun o=>o.Ae == es[i].Ae)):=by
 simp [Y9,h]
def Ba (e:Bf):Bool:=Kt e.Ai && decide (e.Ah.length<=5) && O1 (Y9 e.Ai e.Ah) e.Ah.length
theorem Na {c:Int}:Kt c=true↔0<=c/\c<=9999:=by unfold Kt Ff;simp
theorem Awh {es:List Gz} {m k:Nat} {p:Gz->Bool} (h:m < es.length) (hk:m < k) (hp:p es[m]=true):(es.take k).any p=true:=by
 rw [cG];exact ⟨es[m],cM.2 ⟨m,EV,rfl⟩,hp⟩
theorem Al9 {es:List Gz} {k:Nat} {n:Int} (h:∀q,q < k->∀hq:q < es.length,es[q].Ae≠n):((es.take k).any fun o=>o.Ae == n)=false:=by
 rw [cB];intro x hx;obtain ⟨i,hi,rfl⟩:=cM.1 hx;simpa using h i EV EV
theorem Aby {c d:Int} (h:Kt c=true) (h1:0<=d) (h2:d<=100):wrap64 (c+d)=c+d:=by
 have:=Na.1 h;unfold wrap64;omega
theorem Aa5 {e:Bf} {k:Nat} (hk:k < e.Ah.length) (h:Kt e.Ai=true->Y9 e.Ai e.Ah k=false):Ba e=false:=by
 unfold Ba;cases hc:Kt e.Ai
 ·rfl
 ·rw [Lw hk (h hc)];simp
theorem Zn (x:Gz) (num:Int) (b:Nat) (G:aq) (u:Value) (w:World) (h:Ru D5 w u x G) (hc:w.cell? ⟨b,0,none⟩=some (aa num)) :
  Calls prog 232 #[u,.pointer (some ⟨b,0,none⟩)] w (RB (.bool (x.Ae == num)) w):=by
 obtain ⟨_,rfl,v1,rfl, -⟩:=h;have hc1:=fun o:Obj=>kc ((Below.refl w.heap.size w).alloc (aK _) o) hc
 go_enter func232,ntmps232
 go_wp2
 go_ret
 exact ⟨Co rfl,(Below.refl _ _).alloc (aK _) _⟩
theorem Ue (v:Value) (e:Bf) (F:aq) (w:World) (h:Ru Bv w v e F) :
  Calls prog 156 #[v] w (RB (.bool (Ba e)) w):=by
 obtain ⟨_,rfl,v1,rfl,h1⟩:=h;obtain ⟨a,cap,rfl⟩:=h1.slice;have hl:=h1.len;unfold maxLen at hl;have hB0:∀A:Obj,Below w.heap.size w (w.alloc A):=fun A=>(Below.refl _ _).alloc (aK _) _
 go_enter func156,ntmps156
 go_wp2
 go_loopw [3,4,8] (fun _ _ i wr=>∃k:Nat,k<=e.Ah.length/\i=aa k/\Hid (Kt e.Ai=true->∀j,j < k->Y9 e.Ai e.Ah j=true)/\If wr w.heap.size 122 [aa e.Ai,ab a e.Ah.length cap]/\Below w.heap.size w wr) (fun _ _ i _=>e.Ah.length - (intOf i).toNat)
 case atStart=>exact ⟨0,aE _,rfl,fun _ j hj=>by omega,by simp [Jg],hB0 _⟩
 case round =>
  obtain ⟨k,hk,rfl,hz,hr,hB⟩:=hrel;have c0:=hr.cells;by_cases hlt:k < e.Ah.length
  ·have hz0:=hz;clear hz;obtain ⟨b,off,_,F1,rfl,hx, -,ja⟩:=(h1.below EW hB).at k hlt;obtain ⟨u1,rfl,hf⟩:=id hx;obtain ⟨fa,fc,rfl⟩:=hf.slice;have a0:=ja 0 EW;have a1:=ja 1 EW;have a2:=ja 2 EW;simp only [show D5.sz=3 from rfl,cS,bN,bH,bF] at a0 a1 a2;clear ja;have d0:=fun A=>(hr.alloc A).cells;have hf1:=fun A:Obj=>hf.below EW ((Below.refl wr.heap.size wr).alloc (aK _) A);have hB1:=fun A:Obj=>tr hB ((Below.refl wr.heap.size wr).alloc (aK _) A) (aK _)
   have hcp:=h1.caps;by_cases hfe:e.Ah[k].Bg=[]
   ·have hE:((e.Ah[k].Bg.length:Int) == 0)=true:=by simp [hfe]
    have hno:=Lib.hid (Aa5 hlt (fun _=>by rw [Kq hlt];simp [Ky,hfe]))
    go_wp2_with (first
     | (go_at_call 147;refine (Ja _ _).mono ?_;rintro e' w' ⟨rfl,rfl⟩)
     | (go_at_call 230;refine (Afj _ _ _ _ (hf1 _)).mono ?_;rintro e' w' ⟨rfl,rfl⟩)
     | (go_at_call 106;refine (Hy _ _ _ _).mono ?_;rintro e' w' ⟨rfl,rfl⟩))
    all_goals go_ret
    all_goals exact ⟨Co hno.out.symm,hB1 _⟩
   ·have hE:((e.Ah[k].Bg.length:Int) == 0)=false:=by simp [hfe]
    have hfe:=Lib.hid hfe
    go_wp2_with (first
     | (go_at_call 147;refine (Ja _ _).mono ?_;rintro e' w' ⟨rfl,rfl⟩)
     | (go_at_call 230;refine (Afj _ _ _ _ (hf1 _)).mono ?_;rintro e' w' ⟨rfl,rfl⟩)
     | (go_at_call 106;refine (Hy _ _ _ _).mono ?_;rintro e' w' ⟨rfl,rfl⟩))
    ·have t:(!Ff (wrap64 (e.Ai+1)) e.Ah[k].Cg (wrap64 (e.Ai+6)))=true:=FM
     go_ret
     refine ⟨Co (Aa5 hlt fun hc=>?_).symm,hB1 _⟩;rw [Aby hc EV EV,Aby hc EV EV] at t;rw [Kq hlt];simp only [Ky];simp at t;simp [t]
    ·have t1:B8 e.Ah[k].Ae=true:=FM
     have t2:Qo 1 7 e.Ah[k].Bg=true:=FM
     have t:(!Ff (wrap64 (e.Ai+1)) e.Ah[k].Cg (wrap64 (e.Ai+6)))=false:=FM
     obtain ⟨G, -,hs⟩:=h1.takeS k hk;refine (Zm _ (.mk' func232 rfl rfl) _ _ _ _ (fun o=>o.Ae == e.Ah[k].Ae) _ (hs.below EW (hB1 _)) ?_).mono ?_
     ·intro j hj w2 u G2 hb2 hu;exact Zn _ _ _ _ _ _ hu (kc hb2 EX)
     rintro e' w2 ⟨rfl,hb2⟩;have hr2:=(hr.alloc _).below hb2;have hB2:=tr (hB1 _) hb2 (aK _);have hc2:=hr2.cells;have hAt:=Lib.hid (Kq (c:=e.Ai) hlt);cases hany:(e.Ah.take k).any fun o=>o.Ae == e.Ah[k].Ae
     ·rw [hany] at hAt;have hany:=Lib.hid hany;go_wp2_with fail;refine ⟨⟨k+1,EV,HM,fun hc=>U8 (hz0.out hc) ?_,hr2,hB2⟩,GG⟩;rw [Aby hc EV EV,Aby hc EV EV] at t;rw [hAt.out];simp only [Ky,t1,t2];simp at t;simp [t,cR,hfe.out]
     ·rw [hany] at hAt;have hany:=Lib.hid hany;go_wp2_with fail
      go_ret
      exact ⟨Co (Aa5 hlt fun _=>by rw [hAt.out];simp).symm,hB2⟩
    ·have t:¬Qo 1 7 e.Ah[k].Bg=true:=FM
     go_ret
     refine ⟨Co (Aa5 hlt fun hc=>?_).symm,hB1 _⟩;rw [Kq hlt];simp [Ky,t]
    ·have t:¬B8 e.Ah[k].Ae=true:=FM
     go_ret
     refine ⟨Co (Aa5 hlt fun hc=>?_).symm,hB1 _⟩;rw [Kq hlt];simp [Ky,t]
  ·have hk:k=e.Ah.length:=EV
   subst hk;have hz0:=hz;clear hz;cases hck:Kt e.Ai
   ·have hn:=Lib.hid (show Ba e=false by unfold Ba;rw [hck];rfl);have hck:=Lib.hid hck;go_wp2_with (go_at_call 146;refine (So _ _).mono ?_;rintro e' w' ⟨rfl,rfl⟩;rw [hck.out])
    go_ret
    exact ⟨Co hn.out.symm,hB⟩
   ·have hn:=Lib.hid (show Ba e=decide ((e.Ah.length:Int)<=5) by unfold Ba;rw [hck,Ki (hz0.out hck)];simp;omega);have hck:=Lib.hid hck;go_wp2_with (go_at_call 146;refine (So _ _).mono ?_;rintro e' w' ⟨rfl,rfl⟩;rw [hck.out])
    go_ret
    exact ⟨Co hn.out.symm,hB⟩
theorem At1 (e:Bf) (v:Value) (F:aq):FV 205 [v] [.isv Bv v e F] (.bool (Ba e)):=by
 refine enter func205 rfl ntmps205 fun w0=>?_;refine D9 ?_;rintro a c F1 rfl hl;refine go ?_;intros;refine ce (fun w s=>Z6 _ _) ?_;cases hck:Kt e.Ai
 ·rw [show Ba e=false by unfold Ba;rw [hck];rfl];exact AA
 have hcb:=Na.1 hck;refine go ?_;refine A1 rfl (fun h5=>?_) (fun h5=>?_)
 ·rw [show Ba e=false by unfold Ba;rw [hck,ay EV];rfl];exact AA
 rw [show Ba e=O1 (Y9 e.Ai e.Ah) e.Ah.length by unfold Ba;rw [hck,av EV];rfl];refine go ?_;refine Dk [1,2] (fun k:Nat=>[(3,aa (k:Nat))]) (fun k=>k<=e.Ah.length/\∀j,j < k->Y9 e.Ai e.Ah j=true) (fun k=>e.Ah.length - k) 0 ⟨aE _,fun j hj=>by omega⟩ fun k hz=>?_;obtain ⟨hk0,hy⟩:=hz;refine go ?_;refine A1 rfl (fun h6=>?_) (fun h6=>?_)
 rotate_left
 ·rw [Ki (fun j hj=>hy j EV)];exact AA
 have hk:k < e.Ah.length:=EV
 have hno:Y9 e.Ai e.Ah k=false->O1 (Y9 e.Ai e.Ah) e.Ah.length=false:=fun h=>Lw hk h;refine Rx (xs:=e.Ah) k ?_;rintro hi b o a1 c1 F2 rfl hfl;refine go ?_;intros;refine ce (fun w s=>Nw _ _) ?_;cases t1:B8 e.Ah[k].Ae
 ·skip
  rw [hno (by rw [Kq hk];simp [Ky,t1])];exact AA
 refine go ?_;by_cases hfe:e.Ah[k].Bg.length=0
 ·rw [show decide (((e.Ah[k].Bg.length:Nat):Int)=0)=true from av EV];rw [hno (by rw [Kq hk];simp [Ky,t1,bt.1 hfe])];exact AA
 rw [show decide (((e.Ah[k].Bg.length:Nat):Int)=0)=false from ay EV];refine go ?_;refine cb (fun w st=>Apw _ _ _ w (st.get (p:=.sl Bb (.slice a1 e.Ah[k].Bg.length c1) e.Ah[k].Bg F2) FA).2) ?_;cases t2:Qo 1 7 e.Ah[k].Bg
 ·skip
  rw [hno (by rw [Kq hk];simp [Ky,t1,t2])];exact AA
 refine go ?_;refine ce (fun w s=>Kg _ _ _ _) ?_;cases t3:Ff (e.Ai+1) e.Ah[k].Cg (e.Ai+6)
 ·skip
  rw [hno (by rw [Kq hk];simp [Ky,t1,t2,t3])];exact AA
 have hAt:Y9 e.Ai e.Ah k = !((e.Ah.take k).any fun o=>o.Ae == e.Ah[k].Ae):=by rw [Kq hk];unfold Ky;rw [t1,av (show 0 < e.Ah[k].Bg.length by omega),t2,t3];rfl
 refine go ?_;refine Dk [1,2,3,4,16,17,18,19,20,23,24,25,26,27,28,29,30,31,32,33,34,35,36,37,38,39,40,41,42,43,44,45,46,47,48,49,50,51,52,53,54,55] (fun m:Nat=>[(5,aa (m:Nat))]) (fun m=>m<=k/\∀q,q < m->∀hq:q < e.Ah.length,e.Ah[q].Ae≠e.Ah[k].Ae) (fun m=>k - m) 0 ⟨aE _,fun q hq=>by omega⟩ fun m hm=>?_;obtain ⟨hm0,hx⟩:=hm;refine go ?_;refine A1 rfl (fun h7=>?_) (fun h7=>?_)
 ·have hmk:m < k:=EV
  refine Rx (xs:=e.Ah) m ?_;rintro hi2 b2 o2 a2 c2 F3 e2 -;cases e2
  repeat (first|apply N7|(apply wO;apply oc;rfl;exact ydE)|apply T3|apply Xu|(apply Aot;rfl;rfl)|(apply Aos;rfl;rfl;rfl;rfl)|(apply Aou;rfl;rfl;rfl)|(apply c_t;rfl)|(apply c_f;rfl)|apply Vf|apply Rz|apply Ad1)
  refine Ar [0,2,5] [] ?_;refine C8 0 1 2 3 ?_;refine C8 4 5 6 7 ?_;refine dt 8 ?_;refine dd ?_;refine go ?_;refine A1 rfl (fun h8=>?_) (fun h8=>?_)
  ·rw [hno (by rw [hAt,Awh EV hmk (by simpa using h8)];rfl)];exact AA
  refine go ?_;refine Cb (m+1) ⟨EV,fun q hq hql=>by
   rcases ba (cI hq) with h|h
   ·exact hx q h hql
   ·subst h;exact h8⟩ (by show k - (m+1) < k - m;omega)
 ·refine go ?_;refine Cb (k+1) ⟨EV,fun j hj=>by
   rcases ba (cI hj) with h|h
   ·exact hy j h
   ·subst h;rw [hAt,Al9 (fun q hq=>hx q EV)];rfl⟩ (by show e.Ah.length - (k+1) < e.Ah.length - k;omega)
theorem Ai9 (v:Value) (e:Bf) (F:aq) (w:World) (h:Ru Bv w v e F) :
  Calls prog 205 #[v] w (RB (.bool (Ba e)) w):=(At1 e v F).val w (I4 h)
theorem Uc (v:Value) (xs:ar) (F:aq) (w:World) (h:Sl Bb w v xs F) (hm:xs.length<=4294967296) :
  Calls prog 101 #[v] w (W8 Bb 3 xs w):=by
 obtain ⟨ao,c,news,Fy,rfl,hl,hfy,hFy,hsrc⟩:=h.src;have hFl:=hfy.lt;have he:=fun w (a:aj) (n c:Nat)=>Lib.run_eql_slice_nil (P:=prog) w 24 _ a n c 0 0 underlying24
 go_enter func101,ntmps101
 rcases hsrc with ⟨rfl,rfl,rfl⟩|⟨ad,rfl,hn⟩
 ·go_wp2
  go_ret
  exact CC
 ·go_wp2_with (at_builtin;refine O7 Da EW FH _ _ _ FH 3 (aa 0) 8 underlying24 Af5 rfl (ab (some ⟨w.heap.size,0,none⟩) 0 0) [] [w.heap.size] FH (Ow.empty (If.made _ _ _)) (Hd.one _) (some ad) xs c FH news Fy (hfy.frame fun b hb=>Below.heap_alloc _ _ _ (hFl b hb)) (.inr ⟨ad,rfl,fun j u hu=>kc ((Below.refl _ _).alloc (aK _) _) (hn j u hu)⟩) (fun b hb e=>by have:=hFl b hb;simp [Value.ownBlock] at e;omega) GU GR ?_);intro v2 w2 F2 hA;go_wp2_with fail
  go_ret
  have hB:Below w.heap.size w w2:=((Below.refl _ _).alloc (aK _) _).trans (hA.I5.below EX EX);have hs:∀b,v2.ownBlock=some b->w.heap.size<=b:=fun b hb=>by rcases hA.Aqm with e|e <;> rw [e] at hb <;> simp [Value.ownBlock] at hb <;> omega
  refine ⟨v2,F2,rfl,II,hA.ow.scal Ek▸?_,fun b hb=>?_,hB⟩
  ·cases v2.ownBlock <;> simp
  ·rw [hA.ow.scal Ek] at hb;exact hs b IU
theorem Yp (v:Value) (xs:ar) (F:aq) (w:World) (h:Sl Bb w v xs F) (hm:xs.length<=4294967296) :
  Calls prog 127 #[v] w (W8 Bb 3 xs w):=by
 obtain ⟨ao,c,news,Fy,rfl,hl,hfy,hFy,hsrc⟩:=h.src;have hFl:=hfy.lt;have hsrc2:(ao=none/\c=0/\xs=[])\/∃ad,ao=some ad/\∀j u,news[j]?=some u->(w.alloc (.cells #[] 3)).cell? (ad.add j)=some u:=by
  rcases hsrc with h|⟨ad,h1,h2⟩
  ·exact .inl h
  ·exact .inr ⟨ad,h1,fun j u hu=>kc ((Below.refl _ _).alloc (aK _) _) (h2 j u hu)⟩
 go_enter func127,ntmps127
 go_wp2_with (at_builtin;refine O7 Da EW FH _ _ _ FH 3 (aa 0) 8 underlying24 Af5 rfl (ab (some ⟨w.heap.size,0,none⟩) 0 0) [] [w.heap.size] FH (Ow.empty (If.made _ _ _)) (Hd.one _) ao xs c FH news Fy (hfy.frame fun b hb=>Below.heap_alloc _ _ _ (hFl b hb)) hsrc2 (fun b hb e=>by have:=hFl b hb;simp [Value.ownBlock] at e;omega) GU GR ?_);intro v2 w2 F2 hA;go_wp2_with fail
 go_ret
 have hB:Below w.heap.size w w2:=((Below.refl _ _).alloc (aK _) _).trans (hA.I5.below EX EX);have hs:∀b,v2.ownBlock=some b->w.heap.size<=b:=fun b hb=>by rcases hA.Aqm with e|e <;> rw [e] at hb <;> simp [Value.ownBlock] at hb <;> omega
 refine ⟨v2,F2,rfl,II,hA.ow.scal Ek▸?_,fun b hb=>?_,hB⟩
 ·cases v2.ownBlock <;> simp
 ·rw [hA.ow.scal Ek] at hb;exact hs b IU
theorem Aeg (v:Value) (e:Bf) (F:aq) (w:World) (h:Ru Bv w v e F) (hm:e.Ah.length<=4294967296) (hm2:∀x∈e.Ah,x.Bg.length<=4294967296) :
  Calls prog 104 #[v] w (Awa Ch e w):=by
 obtain ⟨_,rfl,v1,rfl,h1⟩:=h;obtain ⟨a,cap,rfl⟩:=h1.slice;have hl:=h1.len;unfold maxLen at hl;have hB0:∀A B:Obj,Below w.heap.size w ((w.alloc A).alloc B):=fun A B=>((Below.refl _ _).alloc (aK _) _).alloc EX _;have hFl:=h1.lt EW
 go_enter func104,ntmps104
 go_wp2_with fail;refine (Alv _ e.Ah F _ (h1.below EW (hB0 _ _)) hm).mono ?_;rintro e' w1 ⟨v2,F2,rfl,ho,hd,hs,hF2,hb1⟩;obtain ⟨a2,cap2,rfl⟩:=ho.slice;have r0:=If.below (g:=w.heap.size) (t:=122) (cs:=[aa e.Ai,ab a e.Ah.length cap]) GI hb1;have r1:=If.below (g:=w.heap.size+1) (t:=122) (cs:=[aa 0,ab none 0 0]) GI hb1;have hB:=tr (hB0 _ _) hb1 (aK _);have hm1:=Lib.hid (Mix.start (O:=Eu) (R:=D5) (B1:=w.heap.size) (B0:=w.heap.size+2) rfl ho (by simpa using hs) (fun b hb=>(hF2 b hb).imp id fun hb=>hFl b hb) hd)
 have c0:=r0.cells;have f0:=r0.frozens;have f1:=r1.frozens;have c1:=r1.cells;clear hb1 ho hs hd hF2;go_wp2_with fail;have R0:=r0.set 1 (ab a2 e.Ah.length cap2);have R1:=r1.setOther (p:=⟨w.heap.size,1,none⟩) EX (ab a2 e.Ah.length cap2);have M1:=Lib.hid (hm1.out.setFar (p:=⟨w.heap.size,1,none⟩) (aK _) EX (ab a2 e.Ah.length cap2));clear hm1
 go_loopw [3,11] (fun _ i wr=>∃k:Nat,k<=e.Ah.length/\i=aa k/\Hid (Mix Eu D5 193 w.heap.size (w.heap.size+2) wr (ab a2 e.Ah.length cap2) e.Ah k)/\If wr w.heap.size 122 [aa e.Ai,ab a2 e.Ah.length cap2]/\If wr (w.heap.size+1) 122 [aa 0,ab none 0 0]/\Below w.heap.size w wr) (fun _ i _=>e.Ah.length - (intOf i).toNat)
 case atStart=>exact ⟨0,aE _,rfl,M1,by simpa using R0,R1,hB.setCell (aK _) _⟩
 case round =>
  obtain ⟨k,hk,rfl,hM,hr,hr1,hB⟩:=hrel;have c0:=hr.cells;have f0:=hr.frozens;have hsz:=hr1.lt;by_cases hlt:k < e.Ah.length
  ·obtain ⟨g,cap3,A,c,B,Fk,hv,hg,hrow,hA,hcl,hx, -,back⟩:=hM.out.at rfl hlt EV EV;cases hv;obtain ⟨u1,rfl,hf⟩:=id hx;obtain ⟨fa,fc,rfl⟩:=hf.slice;have a1:=hrow.cellMid (p:=k * 3+1) (j:=1) (by rw [hA];rfl) EX;simp only [bH,bF] at a1;have hne:¬g=w.heap.size:=EV
   have hne2:¬w.heap.size=g:=EV
   have hbk:=Lib.hid back;clear back;have hfl:=hm2 e.Ah[k] (aB _);go_wp2_with fail
   go_region_law (first|(go_simp;go_at_call 101;refine (Uc _ e.Ah[k].Bg Fk wr.drew (hf.frame fun _ _=>rfl) hfl).mono ?_;rintro e' w2 ⟨v3,F3,rfl,o3,n3,g3,hb2⟩;obtain ⟨d3,p3,rfl⟩:=o3.slice;have z3:=kc hb2 (show wr.drew.cell? ⟨w.heap.size,1,none⟩=some (ab (some ⟨g,0,none⟩) e.Ah.length cap2) by simpa using c0 1);have z1:=kc hb2 (by simpa using a1);have zf:=((show If wr.drew g 193 _ from hrow).below hb2).frozens (k * 3+1)))
   all_goals
    have hr2:=((show If wr.drew w.heap.size 122 _ from hr).below hb2).setOther (p:=⟨g,k * 3+1,none⟩) hne (.slice d3 e.Ah[k].Bg.length p3);have hr3:=((show If wr.drew (w.heap.size+1) 122 _ from hr1).below hb2).setOther (p:=⟨g,k * 3+1,none⟩) FB (.slice d3 e.Ah[k].Bg.length p3);have hro:=((show If wr.drew g 193 _ from hrow).below hb2).setMid (p:=k * 3+1) (j:=1) (by rw [hA];rfl) EX (.slice d3 e.Ah[k].Bg.length p3);have hg3:∀b∈F3,wr.heap.size<=b:=g3;have hgs:=hrow.lt
    have hMk:=Lib.hid (hbk.out _ _ F3 hro ⟨_,rfl,o3.setFar (fun hm=>by have:=hg3 _ hm;simp at this;omega) _⟩ n3 hg3 (fun b hb hbg=>(Below.heap_setCell _ _ _ _ hbg).trans (hb2.block b hb)));have hB3:Below w.heap.size w (w2.setCell ⟨g,k * 3+1,none⟩ (.slice d3 e.Ah[k].Bg.length p3)):=(tr (E4 hB 1) hb2 (aK _)).setCell FB _;go_wp2_with fail;exact ⟨⟨k+1,EV,HM,hMk,hr2,hr3,hB3⟩,GG⟩
  ·have hk:k=e.Ah.length:=EV
   subst hk;obtain ⟨F4,o4,n4,g4⟩:=hM.out.done;have O4:=Lib.hid o4;clear hM o4;have d1:=hr1.cells;have fd:=hr1.frozens;go_wp2_with fail;refine bodyPost_ret (v:=.agg #[aa e.Ai,ab a2 e.Ah.length cap2]) ?_ rfl ?_
   ·simp [results,results104,go_sem,c0,d1,fd]
   ·refine ⟨_,F4,rfl,⟨_,rfl,_,rfl,?_⟩,n4,fun b hb=>by have:=g4 b hb;omega,?_⟩
    ·repeat refine Ow.setFar ?_ (fun hm=>by have:=g4 _ hm;simp at this <;> omega) _
     exact O4.out
    ·repeat refine Below.setCell ?_ GL _
     exact hB
section
variable {P:Program} {ops:Array Oper} {Q:Exit->Act->World->Prop} {md:Region.Mode} {S:World->Prop} {X:Nat->Bool}
theorem Ez.firstP {i:Nat} {oi:Oper} {v:Value} (hi:ops[i]?=some oi) (hsel:∀(j:Nat) (o:Oper) cs b,ops[j]?=some o->o.op≠.select cs b)
  (hQ:∀c a w,Q (.panic c) (a.put oi.dst v) w->Q (.panic c) a w) (hXi:X i=true) :
  ∀(f:Nat) (listed:Array Bool) (a:Act) (w:World),
   (∀j oj,ops[j]?=some oj->j≠i->listed.getD j true=false->(∀e∈oj.after,Region.binds md e=true->e.on≠i)->oi.apart ops oj=true) ->
   i∈Region.ready md ops listed->YieldsIf P ops (fun _=>True) oi v a->Ez P md ops Q S X f (listed.setIfInBounds i true) (a.put oi.dst v) w->Ez P md ops Q S X (f+1) listed a w:=by
 intro f
 induction f with
 | zero =>
  intro listed a w _ hr hy H;refine ⟨fun h=>HH,fun j hj=>?_⟩;by_cases hji:j=i
  ·subst hji;exact hy.wpOp hi trivial ⟨(fun h=>by rw [hXi] at h;cases h),H⟩
  ·have:=ready_mono hj hji;rw [H.1] at this;cases this
 | succ f ih =>
  intro listed a w hfree hr hy H;refine ⟨fun h=>HH,fun j hj=>?_⟩;by_cases hji:j=i
  ·subst hji;exact hy.wpOp hi trivial ⟨(fun h=>by rw [hXi] at h;cases h),H⟩
  ·obtain ⟨hju,oj,hoj,hall⟩:=mem_ready.1 hj;have hiu:=Ya (mem_ready.1 hr).1;have hnot:∀e∈oj.after,Region.binds md e=true->e.on≠i:=fun e he hb heq=>by
    have h1:=hall e he hb;rw [heq,hiu] at h1;cases h1
   have h2:=wpOp_putIf hoj (hfree j oj hoj hji hju hnot) (fun cs b=>hsel i oi cs b hi) (fun cs b=>hsel j oj cs b hoj) hQ hy (H.2 j (ready_mono hj hji));refine wpOp_mono (fun a' w' h3=>⟨h3.2.1,ih (listed.setIfInBounds j true) a' w' (fun k ok hk hki hun hno=>hfree k ok hk hki ?_ hno) (ready_mono hr (Ne.symm hji)) h3.1 ?_⟩) h2
   ·by_cases hjk:j=k
    ·subst hjk;exact hju
    ·rw [getD_set_ne true hjk] at hun;exact hun
   ·rw [dX _ _ hji];exact h3.2.2
theorem Ez.takeP {i:Nat} {oi:Oper} {v:Value} {f:Nat} {listed:Array Bool} {a:Act} {w:World} (hi:ops[i]?=some oi)
  (hs:Region.noSelect ops=true) (hf:Region.free md ops listed i=true) (hr:(Region.ready md ops listed).contains i=true) (hXi:X i=true)
  (hQ:∀c a w,Q (.panic c) (a.put oi.dst v) w->Q (.panic c) a w) (hy:YieldsIf P ops (fun _=>True) oi v a)
  (h:Ez P md ops Q S X f (listed.setIfInBounds i true) (a.put oi.dst v) w):Ez P md ops Q S X (f+1) listed a w :=
 Ez.firstP hi (Region.noSelect_spec hs) hQ hXi f listed a w (Region.free_spec hi hf) GH hy h
end
section
variable {c:Cx} {fr:Fr} {H H0:List Pc} {k:List It} {X:aq} {ops:Array Oper} {f:Nat} {listed:Array Bool} {d:Nat} {o:Op} {ty:TypeId} {pos:String} {Cd:Array Edge} {v:Value}
theorem R5 (i:Nat) (h:T c ((d,v)::fr) H (.dx k H0 X ops f (listed.setIfInBounds i true))) (ho:ops[i]?=some ⟨some d,o,ty,pos,Cd,none⟩:=by rw [aP];rfl) (hy:Yd c.P c.n fr [] o ty v:=by exact ydE) (hX:X.contains i=true:=by rfl)
  (h1:Region.noSelect ops=true:=by kernel_rfl) (h2:Region.free .any ops listed i=true:=by kernel_rfl) (h3:(Region.ready .any ops listed).contains i=true:=by kernel_rfl) (hR:Wz c:=by exact Zf) (hd:Nat.blt d c.n=true:=by rfl) :
  T c fr H (.dx k H0 X ops (f+1) listed):=.mk fun a w s g =>
 Ez.takeP (v:=v) ho h1 h2 h3 hX (fun ch a w hp=>by rw [Mm] at hp ⊢;exact hR _ _ _ _ _ hp) (.inl ⟨rfl,fun w' _=>hy.h a w' _ _ _ _ g (by intro p hp;simp at hp)⟩) (h.h _ _ s (g.put hd))
theorem Ba8 {c:Cx} {fr:Fr} {H:List Pc} {k:List It} {x y:Code} {σ:Type} {cst:Fr} {rest:List Pc} (ks rs:aq) (upd:σ->Fr) (chg:σ->List Pc) (C:σ->Prop) (h:T c fr H (.B4 (.cd y::.lp (Jn c (fun s=>upd s++cst) (fun s=>chg s++rest) C)::k) x)) (h2:∀s,C s->T c (upd s++cst) (chg s++rest) (.norm k))
  (_hk:Kf fr ks cst:=by repeat (first|exact Kf.nil|apply Kf.cons FH)) (_hr:Sel H rs rest:=by repeat constructor):T c fr H (.B4 (.cd y::k) x):=.mk fun a w s g=>by
 refine wp_mono (h.h a w s g) fun e a1 w1 he=>?_;cases e with
 | normal =>
  refine wp_mono he fun e a2 w2 he=>?_;cases e with
  | normal=>obtain ⟨s,hC,hs,hg⟩:=he;exact (h2 s hC).h a2 w2 hs hg
  | _=>exact he
 | _=>exact he
end
section
variable {c:Cx} {fr:Fr} {H H0:List Pc} {k:List It} {Φ:Gl} {X:aq} {ops:Array Oper} {f:Nat} {listed:Array Bool} {d:Nat} {o:Op} {ty:TypeId} {v u:Value} {x y:Operand}
theorem Ae4 {α:Type} {O R:Bw α} (hW:Mu O R) {t:TypeId} {v:Value} {xs:List α} {F:aq} {S:List Pc} (h:∀F',T c fr (.sl R v xs F'::S) Φ) (hp:C2 H (.ow O t v xs F) S:=by exact Dr) (hz:0 < R.sz:=by decide):T c fr H Φ:=.mk fun a w s g=>by
 have s1:=s.pick hp;obtain ⟨-,ho⟩:=s1.on (.ow O t v xs F) EX;obtain ⟨F',hF,hs⟩:=ho.sl hW;exact (h F').h a w (s1.conv rfl ⟨hz,hs⟩ hF) g
theorem Bfg {α:Type} {E:Bw α} {v:Value} {x:α} {F:aq} (one:One E) (h:∀cs:am,v=.agg cs.toArray->cs.length=E.sz->cs.all (·.oneCell')=true->T c fr H Φ) (hm:.isv E v x F∈H:=by exact Bn):T c fr H Φ:=.mk fun a w s g=>by
 obtain ⟨cs,hv,hx⟩:=s.get hm;exact (h cs hv (E.len hx) (aV.2 fun u hu=>one hx u hu)).h a w s g
theorem Put.all:∀{zs l:am},zs.length=l.length->Put zs 0 l l
 | [],[],_=>.zero
 | [],_::_,h=>by simp at h
 | _::_,[],h=>by simp at h
 | _::zs,_::l,h=>.one (Put.all FF)
theorem Bfu {P:Program} {n:Nat} {H:List Pc} {t g o tt m:Nat} {A cs B:am} [AggC P t m] (hx:ev fr x=some (Gc g o 0)) (hm:Pc.row g tt o A cs B∈H) (hl:cs.length=m):Yd P n fr H (.load t x) ty (.agg cs.toArray):=Bai hx hm (hl▸Cut.whole cs)
theorem Bgw {t g tt m:Nat} {cs l:am} {S:List Pc} (hx:ev fr x=some (Gc g 0 0)) (hy:ev fr y=some (.agg l.toArray)) (hs:(c.P.info? t).map (·.size)=some m) (hr:Rpl H (.row g tt 0 [] cs []) (.row g tt 0 [] l []) S) (hl:l.length=m) (hc:cs.length=m) (h1:l.all (·.oneCell')=true) (h:T c fr S Φ):On c fr H none (.store t x y) ty Φ :=
 Ap7 hx hy rfl hs hl hr (Put.all EV) h1 h
end
/-! contracts, with what they ask read off pieces -/
section
variable {G D:aq} {w0 w:World} {H:List Pc}
theorem St.rO {α:Type} {O R:Bw α} (hW:Mu O R) {v:Value} {x:α} {F:aq} (s:St G D w0 H w) (hm:.own O v x F∈H:=by exact Bn):∃F',Ru R w v x F':=by
 obtain ⟨-,ho⟩:=s.get hm;obtain ⟨F', -,h⟩:=Ru.weak hW ho;exact ⟨F',h⟩
end
structure EcS where
 k:Nat
 a:aj
 c:Nat
 F:aq
theorem Bco {α:Type} {O:Bw α} {P:Program} {f:FuncId} {args:am} {x:α} {A:List Pc} (h:Fn P f args A [] (fun (_:Value × aq)=>True) (fun z=>z.1) (fun z=>[.own O z.1 x z.2])) (hA:A.all (fun p=>!p.mu)=true) {w:World} (hH:Od A w):Calls P f args.toArray w (Awa O x w):=by
 refine (h.made w hH (fun _=>rfl) hA).mono ?_;rintro e w' ⟨z, -,he,hh,hn,hF,hB⟩;obtain ⟨h1,h2⟩:=hh (.own O z.1 x z.2) EX;exact ⟨z.1,z.2,he,h2,h1,fun b hb=>hF b (by simpa [fp,Pc.F,Pc.mu] using hb),hB⟩
theorem At2 (v:Value) (e:Bf) (F:aq) (hm:e.Ah.length<=4294967296) (hm2:∀x∈e.Ah,x.Bg.length<=4294967296):Fn prog 128 [v] [.isv Bv v e F] [] (fun (_:Value × aq)=>True) (fun z=>z.1) (fun z=>[.own Ch z.1 e z.2]):=by
 refine enter func128 rfl ntmps128 fun w0=>?_;refine D9 ?_;rintro a1 c1 F1 rfl l1;refine Cj Eu 193 ?_;refine go ?_;intros;rename_i g;refine Ca [1,2,3] (fun y:EcS=>[(4,aa (y.k:Nat))]) (fun y=>[.row g 122 0 [] [aa e.Ai,.slice y.a (e.Ah.take y.k).length y.c] [],.ow Eu 193 (.slice y.a (e.Ah.take y.k).length y.c) (e.Ah.take y.k) y.F]) (fun y=>y.k<=e.Ah.length) (fun y=>e.Ah.length - y.k) ⟨0,none,0,[]⟩ (aE _) fun y hy0=>?_;obtain ⟨k,ya,yc,yF⟩:=y;dsimp only at hy0 ⊢;have htk:(e.Ah.take k).length=k:=GA
 refine go ?_;refine A1 rfl (fun h1=>?_) (fun h1=>?_)
 ·have hk:k < e.Ah.length:=EV
  have hfl:=hm2 _ (aB hk);refine Rx (xs:=e.Ah) k ?_;rintro hi b8 o8 a8 c8 F8 e8 l8;rw [e8];refine go ?_;intros;refine Ar [0,3] [13] ?_;refine C8 0 1 2 3 ?_;refine C8 4 5 7 8 ?_;refine dN 6 ?_;refine oC ?_;refine cn (fun w st=>Yp _ e.Ah[k].Bg F8 w (st.get (p:=.sl Bb (.slice a8 e.Ah[k].Bg.length c8) e.Ah[k].Bg F8) FA).2 EV) fun a9 c9 F9=>?_;refine Pa e.Ah[k] ?_;refine dk ?_;refine dt 9 ?_;refine dN 10 ?_;apply Iz;rfl;rfl;rfl;rfl;exact Ir;exact Io;intro _;refine dk ?_;refine dN 11 ?_;refine Ab7 Th e.Ah[k] rfl fun x4 d4 G4=>?_;refine dk ?_;refine dt 12 ?_
  refine dN 13 ?_;refine oS ?_;refine N2 ?_;refine dd ?_;rw [<-aR hk];refine go ?_;refine Cb ⟨k+1,x4,d4,G4⟩ hk (by show e.Ah.length - (k+1) < e.Ah.length - k;omega)
 ·rw [show e.Ah.take k=e.Ah from aW EV];refine go ?_;refine Gt e ?_;exact CD
theorem Xq (v:Value) (e:Bf) (F:aq) (w:World) (h:Ru Bv w v e F) (hm:e.Ah.length<=4294967296) (hm2:∀x∈e.Ah,x.Bg.length<=4294967296):Calls prog 128 #[v] w (Awa Ch e w):=Bco (At2 v e F hm hm2) rfl (I4 h)
def Ep (e:Bf):Bf:=⟨e.Ai+1,e.Ah.filter fun x=>!decide (x.Cg<=e.Ai+1)⟩
theorem Sl.headIn {α:Type} {E:Bw α} {w:World} {b off n cap:Nat} {xs:List α} {F} (h:Sl E w (ab (some ⟨b,off,none⟩) n cap) xs F) (k:Nat) (hk:k < xs.length):b∈F:=by
 obtain ⟨a',cap',hv,hl,h⟩:=h;cases hv;rcases h with ⟨rfl,_⟩|⟨b,off,F',he,_,rfl,hc⟩
 ·simp at hk
 ·cases he;simp
theorem Aja (v:Value) (e:Bf) (F:aq) (w:World) (h:Ru Bv w v e F) (hc:Kt e.Ai=true) (hm:e.Ah.length<=4294967296) (hm2:∀x∈e.Ah,x.Bg.length<=4294967296) :
  Calls prog 172 #[v] w (Bgd Bv (Ep e) w):=by
 have hcb:=Na.1 hc;have hm2:=Lib.hid hm2;have h0:=h;obtain ⟨_,rfl,v1,rfl,h1⟩:=h;obtain ⟨a,cap,rfl⟩:=h1.slice;have hB0:∀A B:Obj,Below w.heap.size w ((w.alloc A).alloc B):=fun A B=>((Below.refl _ _).alloc (aK _) _).alloc EX _
 go_enter func172,ntmps172
 go_wp2_with fail;refine (Xq _ e F _ (h0.below (hB0 _ _)) hm hm2.out).mono ?_;rintro e' w1 ⟨_,Fo,rfl,⟨_,rfl,v2,rfl,ho⟩,hn,hFo,hb1⟩;obtain ⟨a2,cap2,rfl⟩:=ho.slice;have r0:=If.below (g:=w.heap.size) (t:=122) (cs:=[aa e.Ai,ab a e.Ah.length cap]) GI hb1;have r1:=If.below (g:=w.heap.size+1) (t:=122) (cs:=[aa 0,ab none 0 0]) GI hb1;obtain ⟨Fr,hFr,hs⟩:=ho.sl Qs;have hFl:=ho.lt;have hB:=tr (hB0 _ _) hb1 (aK _);have d0:=fun A=>(r0.alloc A).cells;have c0:=r0.cells;clear hb1;go_wp2_with fail
 go_loopw [5] (fun i wr=>∃k:Nat,k<=e.Ah.length/\i=aa k/\∃oa oc F,Hid (Ow D5 193 wr (.slice oa ((e.Ah.take k).filter fun x=>!decide (x.Cg<=e.Ai+1)).length oc) ((e.Ah.take k).filter fun x=>!decide (x.Cg<=e.Ai+1)) F)/\Hd F/\(∀b,oa=some b->w1.heap.size+1+1<=b.block)/\(∀c∈F,w.heap.size+2<=c/\c≠w1.heap.size/\c≠w1.heap.size+1) /\
  If wr (w.heap.size+1) 122 [aa 0,ab none 0 0]/\If wr w1.heap.size 122 [aa e.Ai,ab a2 e.Ah.length cap2]/\If wr (w1.heap.size+1) 122 [aa (e.Ai+1),.slice oa ((e.Ah.take k).filter fun x=>!decide (x.Cg<=e.Ai+1)).length oc]/\Below w1.heap.size w1 wr) (fun i _=>e.Ah.length - (intOf i).toNat)
 case atStart=>exact ⟨0,aE _,rfl,none,0,[],Lib.hid (.inl ⟨rfl,EX,rfl⟩),Hd.nil,EX,EX,(r1.alloc _).alloc _,by simp [Jg],by simp [Jg],((Below.refl _ _).alloc (aK _) _).alloc EX _⟩
 case round =>
  obtain ⟨k,hk,rfl,oa,oc,F2,hO,hd2,hoa,hF2,hr1,hr2,hr3,hB2⟩:=hrel;have c1:=hr2.cells;have c2:=hr3.cells;have c4:=hr1.cells;have f4:=hr1.frozens;by_cases hlt:k < e.Ah.length
  ·obtain ⟨b,off,_,F1,rfl,hx,hFx,ja⟩:=(hs.below EW hB2).at k hlt;obtain ⟨u1,rfl,hf⟩:=id hx;obtain ⟨fa,fc,rfl⟩:=hf.slice;have a0:=ja 0 EW;have a1:=ja 1 EW;have a2:=ja 2 EW;simp only [show D5.sz=3 from rfl,bN,bH,bF] at a0 a1 a2;clear ja;by_cases hq:e.Ah[k].Cg > e.Ai+1
   ·have hqf:=Lib.hid (Gw (q:=fun x:Gz=>!decide (x.Cg<=e.Ai+1)) hlt FB);generalize hys:((e.Ah.take k).filter fun x=>!decide (x.Cg<=e.Ai+1))=ys at *;have hys:=Lib.hid hys;go_wp2_with fail
    go_quiet (fail)
    go_wp2_with fail;have D1:=show If (wr.drewN nq) _ _ _ from hr1;have D2:=show If (wr.drewN nq) _ _ _ from hr2;have D3:=show If (wr.drewN nq) _ _ _ from hr3;have DO:=Lib.hid (show Ow D5 193 (wr.drewN nq) _ _ _ from hO.out.frame fun _ _=>rfl);have DX:D5.Kz (wr.drewN nq) _ _ _:=D5.frame hx fun _ _=>rfl;have DB:=E4 hB2 nq;have b0:(wr.drewN nq).cell? ⟨b,off+k * 3,none⟩=_:=a0;have b1:(wr.drewN nq).cell? ⟨b,off+k * 3+1,none⟩=_:=a1;have b2:(wr.drewN nq).cell? ⟨b,off+k * 3+2,none⟩=_:=a2;clear hr1 hr2 hr3 hO hx hf hB2 a0 a1 a2 c1 c2 c4 f4;generalize wr.drewN nq=w2 at *
    have hbb:=World.block_lt_of_cell? w2 _ b0;simp only at hbb;have DBs:=DB.size;have t3:=fun A=>(D3.alloc A).cells 1;have t0:=D3.cells 1;have o0:=D2.cells 1;simp only [bH,bF] at t3 t0 o0;have hyl:ys.length<=4294967295:=by have:=congrArg List.length hys.out;have:=bJ (fun x:Gz=>!decide (x.Cg<=e.Ai+1)) (e.Ah.take k);simp at this;omega
    have hA:=(Below.refl w2.heap.size w2).alloc (aK _) (.cells #[aa e.Ah[k].Ae,.slice fa e.Ah[k].Bg.length fc,aa e.Ah[k].Cg] 193);have DOd:=Lib.hid ((DO.out.below hA).frame (w':=(w2.alloc (.cells #[aa e.Ah[k].Ae,.slice fa e.Ah[k].Bg.length fc,aa e.Ah[k].Cg] 193)).drew) fun _ _=>rfl);have DXd:=D5.frame (w':=(w2.alloc (.cells #[aa e.Ah[k].Ae,.slice fa e.Ah[k].Bg.length fc,aa e.Ah[k].Cg] 193)).drew) (D5.below DX hA) fun _ _=>rfl
    have E0':=kc hA o0;have E0:(w2.alloc (.cells #[aa e.Ah[k].Ae,.slice fa e.Ah[k].Bg.length fc,aa e.Ah[k].Cg] 193)).drew.cell? _=_:=E0';have E1':=kc hA b0;have E1:(w2.alloc (.cells #[aa e.Ah[k].Ae,.slice fa e.Ah[k].Bg.length fc,aa e.Ah[k].Cg] 193)).drew.cell? _=_:=E1';have E2':=kc hA b1;have E2:(w2.alloc (.cells #[aa e.Ah[k].Ae,.slice fa e.Ah[k].Bg.length fc,aa e.Ah[k].Cg] 193)).drew.cell? _=_:=E2';have E3':=kc hA b2;have E3:(w2.alloc (.cells #[aa e.Ah[k].Ae,.slice fa e.Ah[k].Bg.length fc,aa e.Ah[k].Cg] 193)).drew.cell? _=_:=E3'
    have nob:∀c∈(ab oa ys.length oc).ownBlock.toList,w1.heap.size+1+1<=c:=fun c hc=>by
     cases oa with
     | none=>simp [Value.ownBlock] at hc
     | some b=>simp [Value.ownBlock] at hc;subst hc;exact hoa b rfl
    have D3a:=show If (w2.alloc (.cells #[aa e.Ah[k].Ae,.slice fa e.Ah[k].Bg.length fc,aa e.Ah[k].Cg] 193)).drew _ _ _ from D3.alloc (.cells #[aa e.Ah[k].Ae,.slice fa e.Ah[k].Bg.length fc,aa e.Ah[k].Cg] 193);have hFs:∀c∈F1,c < w1.heap.size:=fun c hc=>hs.lt EW c (hFx c hc);have hbw:b < w1.heap.size:=hs.lt EW b (hs.headIn k hlt);have hn1:¬b=w1.heap.size+1:=EV
    have hn2:¬w1.heap.size+1=b:=EV
    go_region_law (first|((refine Aoc Vw EW FH _ _ _ FH 193 (.agg #[aa 0,ab none 0 0,aa 0]) 40 underlying120 Zz rfl (ab oa ys.length oc) ys F2 FH DOd.out hd2 (some ⟨w2.heap.size,0,none⟩) [e.Ah[k]] 1 FH [aa e.Ah[k].Ae,.slice fa e.Ah[k].Bg.length fc,aa e.Ah[k].Cg] F1 (Cw.one DXd) (.inr ⟨_,rfl,World.news_of_block (w:=(w2.alloc (.cells #[aa e.Ah[k].Ae,.slice fa e.Ah[k].Bg.length fc,aa e.Ah[k].Cg] 193)).drew) (heap_alloc_new w2 _)⟩) (fun c hc he=>by have h1:=nob c (by rw [he];simp);have h2:=hFs c hc;omega) (by unfold maxLen;simp;omega) FB ?_);intro v4 w4 F4 hA4;obtain ⟨oa2,oc2,rfl⟩:=hA4.val;have D4:=D3a.keepK hA4.Arl (fun hm=>by have:=nob _ hm;omega);have t4:=D4.cells 1;have f4:=D4.frozens 1;simp only [bH,bF] at t4))
    all_goals
     have hn4:w1.heap.size+1 ∉ F4:=fun hm=>by
      rcases hA4.mem _ hm with h|h|h
      ·exact (hF2 _ h).2.2 rfl
      ·have:=hFs _ h;omega
      ·have:=D3.lt;simp at h;omega
     have P1:=Lib.hid (hA4.ow.setFar (p:=⟨w1.heap.size+1,1,none⟩) hn4 (ab oa2 (ys.length+1) oc2));have L1:=((show If (w2.alloc (.cells #[aa e.Ah[k].Ae,.slice fa e.Ah[k].Bg.length fc,aa e.Ah[k].Cg] 193)).drew _ _ _ from D1.alloc (.cells #[aa e.Ah[k].Ae,.slice fa e.Ah[k].Bg.length fc,aa e.Ah[k].Cg] 193)).keepK hA4.Arl (fun hm=>by have:=nob _ hm;have:=r1.lt;omega)).setOther (p:=⟨w1.heap.size+1,1,none⟩) (by have:=r1.lt;simp;omega) (ab oa2 (ys.length+1) oc2)
     have L2:=((show If (w2.alloc (.cells #[aa e.Ah[k].Ae,.slice fa e.Ah[k].Bg.length fc,aa e.Ah[k].Cg] 193)).drew _ _ _ from D2.alloc (.cells #[aa e.Ah[k].Ae,.slice fa e.Ah[k].Bg.length fc,aa e.Ah[k].Cg] 193)).keepK hA4.Arl (fun hm=>by have:=nob _ hm;omega)).setOther (p:=⟨w1.heap.size+1,1,none⟩) EX (ab oa2 (ys.length+1) oc2);have L3:=D4.set 1 (ab oa2 (ys.length+1) oc2);have hoa2:∀b,oa2=some b->w1.heap.size+1+1<=b.block:=fun c hc=>by
      subst hc;rcases hA4.Aqm with h|h
      ·simp only [Value.ownBlock] at h;exact nob _ (by cases oa <;> simp_all [Value.ownBlock])
      ·simp [Value.ownBlock] at h;have:=D3.lt;omega
     have hF4:∀c∈F4,w.heap.size+2<=c/\c≠w1.heap.size/\c≠w1.heap.size+1:=fun c hc=>by
      have hs3:=D3.lt;have hsw:=r1.lt;rcases hA4.mem _ hc with h|h|h
      ·exact hF2 _ h
      ·have h1:=hFs _ h;have h2:w.heap.size+2<=c:=(by simpa using hFo c (hFr c (hFx c h)));exact ⟨h2,EV,EV⟩
      ·simp at h;exact ⟨EV,EV,EV⟩
     have hB5:Below w1.heap.size w1 (w4.setCell ⟨w1.heap.size+1,1,none⟩ (ab oa2 (ys.length+1) oc2)) :=
      Below.setCell ((E4 (tr DB hA (aK _)) 1).trans (hA4.Arl.below FB (fun b hb=>by have:=nob b hb;omega))) EX _
     have hd4:=hA4.hd;clear hA4 D1 D2 D3 D4;go_wp2_with fail;exact ⟨⟨k+1,EV,HM,oa2,oc2,F4,by rw [hqf.out,aA];exact P1,hd4,hoa2,hF4,L1,L2,by rw [hqf.out,aA];exact L3,hB5⟩,GG⟩
   ·have hqf:=Lib.hid (C9 (q:=fun x:Gz=>!decide (x.Cg<=e.Ai+1)) hlt FB);generalize hys:((e.Ah.take k).filter fun x=>!decide (x.Cg<=e.Ai+1))=ys at *;have hys:=Lib.hid hys;go_wp2_with fail
    go_quiet (fail)
    go_wp2_with fail;refine ⟨⟨k+1,EV,HM,oa,oc,F2,?_,hd2,hoa,hF2,hr1,hr2,?_,E4 hB2 _⟩,GG⟩
    ·rw [hqf.out];exact Lib.hid (hO.out.frame fun _ _=>rfl)
    ·rw [hqf.out];exact hr3
  ·have hk:k=e.Ah.length:=EV
   subst hk;simp only [bm] at hO hr3 c2;obtain ⟨F3,hF3,hs3⟩:=hO.out.read;have hB3:=tr hB hB2 (aK _);go_wp2_with fail;refine bodyPost_ret (v:=.agg #[aa (e.Ai+1),.slice oa (e.Ah.filter fun x=>!decide (x.Cg<=e.Ai+1)).length oc]) ?_ rfl ?_
   ·simp [results,results172,go_sem,c4,c2,f4]
   ·refine ⟨_,F3,rfl,⟨_,rfl,_,rfl,?_⟩,fun b hb=>by have:=(hF2 b (hF3 b hb)).1;omega,?_⟩
    ·refine hs3.frame fun b hb=>?_;have h2:=(hF2 b (hF3 b hb)).1;rw [Below.heap_setCell _ _ _ _ FB,Below.heap_setCell _ _ _ _ FB]
    ·repeat refine Below.setCell ?_ GL _
     exact hB3
theorem Aqj {lo hi:Int} {zs:ar} (h:Qo lo hi zs=true):(zs.length:Int)<=hi - lo+1\/zs=[]:=by
 by_cases h0:zs=[]
 ·exact .inr h0
 ·left;have key:∀i (hi':i < zs.length),lo+i<=zs[i]/\zs[i]<=hi:=by
   intro i
   induction i with
   | zero =>
    intro hi';have:=Jr h 0 hi';rw [Vy hi'] at this;simp [Ff] at this;exact ET
   | succ i ih =>
    intro hi';have:=Jr h (i+1) hi';rw [Tj hi'] at this;have:=ih EV;simp [Ff] at *;omega
  have hp:=cR.2 h0;have:=key (zs.length - 1) EV;omega
theorem Un {e:Bf} (h:Ba e=true):Kt e.Ai=true/\e.Ah.length<=5/\∀x∈e.Ah,x.Bg.length<=7:=by
 unfold Ba at h;simp only [aw,aF] at h;refine ⟨h.1.1,h.1.2,fun x hx=>?_⟩;obtain ⟨i,hi,rfl⟩:=bi hx;have:=Jr h.2 i hi;rw [Kq hi] at this;simp [Ky] at this;rcases Aqj this.1.2.2.1 with h|h
 ·omega
 ·rw [h];simp
def Lh (l:ar) (n:Int):Nat:=(l.takeWhile fun x=>decide (x < n)).length
def Rp (l:ar) (n:Int):ar:=if l[Lh l n]?=some n then l else l.take (Lh l n)++n::l.drop (Lh l n)
def L0 (e:Bf) (n:Int):Nat:=e.Ah.findIdx fun x=>x.Ae == n
def Nn (e:Bf) (n f:Int):Bf:=match e.Ah[L0 e n]? with
 | some x=>⟨e.Ai,e.Ah.set (L0 e n) ⟨x.Ae,Rp x.Bg f,x.Cg⟩⟩
 | none=>if e.Ah.length < 5 then ⟨e.Ai,e.Ah++[⟨n,[f],e.Ai+6⟩]⟩ else e
def Acf (e:Bf) (n:Int):Bool:=!e.Ah.any fun x=>x.Ae == n
def Px (e:Bf) (n:Int):Bf:=match e.Ah[L0 e n]? with
 | some _=>⟨e.Ai,e.Ah.take (L0 e n)++e.Ah.drop (L0 e n+1)⟩
 | none=>e
def Um (e:Bf) (n:Int) (below:ar):ar:=match e.Ah[L0 e n]? with
 | some x=>x.Bg.filter fun f=>decide (f∈below)
 | none=>if e.Ah.length=5 then below else []
theorem Q5 (e:Bf) (n:Int):(∃(h:L0 e n < e.Ah.length),Rl (fun x=>x.Ae == n) e.Ah=(L0 e n:Nat)/\e.Ah[L0 e n].Ae=n/\Acf e n=false)\/(Rl (fun x=>x.Ae == n) e.Ah=-1/\e.Ah[L0 e n]?=none/\Acf e n=true/\∀x∈e.Ah,x.Ae≠n):=by
 cases h:e.Ah.any fun x=>x.Ae == n
 ·right;have h':=cB.1 h;refine ⟨by unfold Rl;rw [h];rfl,?_,by simp [Acf,h],fun x hx=>by have:=h' x hx;simpa using this⟩;have:L0 e n=e.Ah.length:=List.findIdx_eq_length.2 (fun x hx=>by have:=h' x hx;simpa using this);rw [this];simp
 ·left;have h2:L0 e n < e.Ah.length:=by
   obtain ⟨x,hx,hp⟩:=cG.1 h;exact eD ⟨x,hx,hp⟩
  refine ⟨h2,by unfold Rl;rw [h];rfl,?_,by simp [Acf,h]⟩;have:(e.Ah[L0 e n].Ae == n)=true:=f9 (p:=fun x:Gz=>x.Ae == n) (xs:=e.Ah) (w:=h2);exact ET
theorem Yv {lo hi:Int} {zs:ar} (h:Qo lo hi zs=true):zs.Pairwise (· < ·)/\∀z∈zs,lo<=z/\z<=hi:=by
 have hb:∀i (hi':i < zs.length),lo<=zs[i]/\zs[i]<=hi:=fun i hi'=>by
  have:=Jr h i hi';unfold Ad8 Ff at this;simp only [aw,aF] at this;rw [br,aD hi'] at this;simpa using this.1
 refine ⟨?_,fun z hz=>by obtain ⟨i,hi',rfl⟩:=bi hz;exact hb i hi'⟩;have step:∀i (hi:i+1 < zs.length),zs[i] < zs[i+1]:=fun i hi'=>by
  have:=Jr h (i+1) hi';rw [Tj hi'] at this;simp only [aw,aF] at this;exact this.2
 refine bh.2 fun i j hi' hj hij=>?_;obtain ⟨d,rfl⟩:∃d,j=i+1+d:=⟨j - i - 1,EV⟩;clear hij
 induction d with
 | zero=>exact step i hj
 | succ d ih=>exact gC (ih EV) (step (i+1+d) hj)
theorem Ajq {lo hi:Int} {zs:ar} (h1:zs.Pairwise (· < ·)) (h2:∀z∈zs,lo<=z/\z<=hi):Qo lo hi zs=true:=by
 unfold Qo;refine Ki fun i hi'=>?_;have hb:=h2 zs[i] (aB hi');cases i with
 | zero=>rw [Vy hi'];simp [Ff,hb]
 | succ i =>
  rw [Tj hi'];have:=bh.1 h1 i (i+1) EV hi' EV;simp [Ff,hb,this]
theorem Aym:∀{a b:ar},a.Pairwise (· < ·)->b.Pairwise (· < ·)->(∀x,x∈a↔x∈b)->a=b
 | [],[],_,_,_=>rfl
 | [],y::b,_,_,h=>absurd ((h y).2 EX) EX
 | x::a,[],_,_,h=>absurd ((h x).1 EX) EX
 | x::a,y::b,h1,h2,h=>by
  have a1:=dh.1 h1;have b1:=dh.1 h2;have e:x=y:=by
   rcases aG.1 ((h x).1 EX) with e|m
   ·exact e
   ·rcases aG.1 ((h y).2 EX) with e|m2
    ·exact e.symm
    ·have:=b1.1 x m;have:=a1.1 y m2;omega
  subst e
  congr 1
  refine Aym a1.2 b1.2 fun z=>⟨fun hz=>?_,fun hz=>?_⟩
  ·rcases aG.1 ((h z).1 IS) with e|m
   ·have:=a1.1 z hz;omega
   ·exact m
  ·rcases aG.1 ((h z).2 IS) with e|m
   ·have:=b1.1 z hz;omega
   ·exact m
theorem Amn {a b:ar} (h1:a.Pairwise (· < ·)) (h2:b.Pairwise (· < ·)):(a.filter fun f=>decide (f∈b))=b.filter fun f=>decide (f∈a) :=
 Aym (h1.filter _) (h2.filter _) fun x=>by simp [and_comm]
theorem Bbf (x:Gz) (gb:Nat) (n:Int) (u:Value) (G:aq):FV 320 [u,Gc gb 0 0] [.isv D5 u x G,.cel gb 0 [aa n]] (.bool (x.Ae == n)):=by
 refine enter func320 rfl ntmps320 fun w0=>?_;refine Ajk ?_;rintro a1 c1 F1 rfl l1;refine go ?_;intros;refine ret () trivial ?_;rfl
theorem Akc (e:Bf) (n:Int) (v:Value) (F:aq):FV 268 [v,aa n] [.isv Bv v e F] (aa (Rl (fun x=>x.Ae == n) e.Ah)):=by
 refine enter func268 rfl ntmps268 fun w0=>?_;refine D9 ?_;rintro a1 c1 F1 rfl l1;refine go ?_;intros;rename_i gb;refine cb (fun w st=>Ri _ (Ve EY) #[Gc gb 0 0] _ e.Ah _ (fun x=>x.Ae == n) w (st.get (p:=.sl D5 (ab a1 e.Ah.length c1) e.Ah F1) EX).2 (fun k hk wr u G hB hu=>(Bbf e.Ah[k] gb n u G).val wr (Up hu ⟨EX,Ik ((st.below hB).get (p:=.row gb 3 0 [] [aa n] []) EX)⟩))) ?_;exact AA
theorem Acq (e:Bf) (n:Int) (v:Value) (F:aq):FV 218 [v,aa n] [.isv Bv v e F] (aa (Rl (fun x=>x.Ae == n) e.Ah)):=by
 refine enter func218 rfl ntmps218 fun w0=>?_;refine D9 ?_;rintro a1 c1 F1 rfl l1;unfold maxLen at l1;refine go ?_;intros;refine Dk [1,2,4] (fun k:Nat=>[(5,aa (k:Nat))]) (fun k=>k<=e.Ah.length/\∀j (_:j < k) (hj:j < e.Ah.length),(e.Ah[j].Ae == n)=false) (fun k=>e.Ah.length - k) 0 ⟨aE _,fun j h=>by omega⟩ fun k hk=>?_;obtain ⟨hk1,hk2⟩:=hk;refine go ?_;refine A1 rfl (fun h1=>?_) (fun h1=>?_)
 ·have hh:k < e.Ah.length:=EV
  refine go ?_;refine Rx (xs:=e.Ah) k ?_;rintro hi b o a3 c3 F3 e1 l3;rw [e1];refine go ?_;refine A1 rfl (fun h2=>?_) (fun h2=>?_)
  ·refine go ?_;refine ret () trivial ?_;rw [Ok hh hk2 HG];rfl
  ·refine go ?_;refine Cb (k+1) ⟨hh,fun j hj hl=>?_⟩ EV;rcases ba (bA.1 hj) with h|rfl
   ·exact hk2 j h hl
   ·simpa using h2
 ·obtain rfl:k=e.Ah.length:=EV
  exact BT
theorem Bbu (l:ar) (n:Int) (a:aj) (c:Nat) (F:aq):FV 294 [ab a l.length c,aa n] [.sl Bb (ab a l.length c) l F] (.bool (decide (n∈l))):=by
 refine enter func294 rfl ntmps294 fun w0=>?_;refine Ww (xs:=l) ?_;rintro _ _ _ l2 l3;refine go ?_;refine Dk [0,1,4] (fun k:Nat=>[(5,aa (k:Nat))]) (fun k=>k<=l.length/\n ∉ l.take k) (fun k=>l.length - k) 0 ⟨aE _,EX⟩ fun k hk=>?_;obtain ⟨hk1,hk2⟩:=hk;refine go ?_;refine A1 rfl (fun h1=>?_) (fun h1=>?_)
 ·have hh:k < l.length:=EV
  refine go ?_;refine In (xs:=l) k ?_;rintro hi b o e1;rw [e1];refine go ?_;refine A1 rfl (fun h2=>?_) (fun h2=>?_)
  ·refine go ?_;refine ret () trivial ?_;rw [av (h2▸aB hh:n∈l)];rfl
  ·refine go ?_;refine Cb (k+1) ⟨hh,fun hm=>?_⟩ EV;rw [cy,aD hh] at hm;rcases aJ.1 hm with h|h
   ·exact hk2 h
   ·simp at h;exact h2 h.symm
 ·obtain rfl:k=l.length:=EV
  rw [bm] at hk2;refine go ?_;refine ret () trivial ?_;rw [ay hk2];rfl
theorem Bd8 (n:Int):FV 385 [aa n] [] (.bool false):=by
 refine enter func385 rfl ntmps385 fun w0=>?_;refine go ?_;refine ret () trivial ?_;simp [Tp]
theorem Bfb (n:Int):FV 374 [aa n] [] (.bool false):=by
 refine enter func374 rfl ntmps374 fun w0=>?_;refine go ?_;refine ret () trivial ?_;simp [Tp]
theorem Ba7 (a b:Int):FV 373 [aa a,aa b] [] (.bool (decide (a < b))):=by
 refine enter func373 rfl ntmps373 fun w0=>?_;refine go ?_;refine Be (Bd8 a) fun _ _=>?_;exact AA
def Awk (l:ar) (n:Int):Bool:=decide (l[Lh l n]?=some n)
theorem Ac3 {l:ar} {n:Int} {k:Nat} (h1:k<=l.length) (h2:∀j (_:j < k) (h:j < l.length),l[j] < n) (h3:∀h:k < l.length,¬l[k] < n):Lh l n=k:=X9 h1 (fun j hj h=>by simpa using h2 j hj h) (fun h=>by simpa using h3 h)
theorem Ba6 (xs:ar) (n:Int) (a:aj) (c:Nat) (F:aq) (hs:xs.Pairwise (· < ·)) (hl:xs.length<=1000000):FV 356 [ab a xs.length c,aa n] [.sl Bb (ab a xs.length c) xs F] (.tuple #[aa (Lh xs n:Nat),.bool (Awk xs n)]):=by
 have hm:=bh.1 hs;refine enter func356 rfl ntmps356 fun w0=>?_;refine go ?_;refine Dk [0,1,4,5,6] (fun s:Nat × Nat=>[(7,aa (s.1:Nat)),(8,aa (s.2:Nat))]) (fun s=>s.1<=s.2/\s.2<=xs.length/\(∀j (_:j < s.1) (h:j < xs.length),xs[j] < n)/\(∀j (_:s.2<=j) (h:j < xs.length),¬xs[j] < n)) (fun s=>s.2 - s.1) (0,xs.length) ⟨aE _,aK _,fun j h=>by omega,fun j h1 h2=>by omega⟩ fun s hs=>?_;obtain ⟨i,j⟩:=s;obtain ⟨h1,h2,h3,h4⟩:=hs;dsimp only at h1 h2 h3 h4 ⊢;refine go ?_;refine A1 rfl (fun h5=>?_) (fun h5=>?_)
 ·have hh:(i+j) / 2 < xs.length:=EV
  have e2:((i:Int)+(j:Int)) / 2=(((i+j) / 2:Nat):Int):=EV
  refine go ?_;apply wO;apply oc;rfl;exact Ahs rfl EV EV;refine go ?_;apply wO;apply oc;rfl;exact Alt rfl;rw [e2];apply wO;apply oc;rfl;exact Aox rfl EV EV;generalize hq:(i+j) / 2=q at hh;refine go ?_;refine In (xs:=xs) q ?_;rintro hi b o e;rw [e];refine go ?_;refine Be (Ba7 _ _) fun _ _=>?_;refine go ?_;refine A1 rfl (fun h6=>?_) (fun h6=>?_)
  ·refine go ?_;refine V8 ?_;refine Cb (hH:=Li _) (q+1,j) ⟨by show q+1<=j;omega,h2,fun k hk h=>?_,h4⟩ (by show j - (q+1) < j - i;omega);rcases ba (bA.1 (show k < q+1 from hk)) with hk|rfl
   ·have:=hm k q h hh hk;omega
   ·exact h6
  ·refine go ?_;refine V8 ?_;refine Cb (hH:=Li _) (i,q) ⟨by show i<=q;omega,by show q<=xs.length;omega,h3,fun k hk h hn=>h6 ?_⟩ (by show q - i < j - i;omega);rcases ba (show q<=k from hk) with hk|rfl
   ·have:=hm q k hh h hk;omega
   ·exact hn
 ·have hij:i=j:=EV
  subst hij;have hk:Lh xs n=i:=Ac3 h2 h3 (fun h=>h4 i (aK _) h);unfold Awk;rw [hk];refine go ?_;refine Dc rfl rfl (fun h6=>?_) (fun h6=>?_)
  ·have hh:i < xs.length:=EV
   rw [aD hh];refine go ?_;refine In (xs:=xs) i ?_;rintro hi b o e;rw [e];refine go ?_;refine Dc rfl rfl (fun h7=>?_) (fun h7=>?_)
   ·refine go ?_;refine ret () trivial ?_;rw [av (by simpa using h7)];rfl
   ·refine go ?_;refine Be (Bfb _) fun _ _=>?_;refine go ?_;refine ret () trivial ?_;rw [ay (by simpa using h7)];rfl
  ·refine go ?_;refine ret () trivial ?_;rw [bn EV];rfl
theorem Bem (xs:ar) (n:Int) (a:aj) (c:Nat) (F:aq):FV 157 [ab a xs.length c,aa n] [.sl Bb (ab a xs.length c) xs F] (aa (Rl (fun x=>x == n) xs)):=by
 refine enter func157 rfl ntmps157 fun w0=>?_;refine Ww (xs:=xs) ?_;rintro _ _ - l2 l3;refine go ?_;refine Dk [0,1,4,7] (fun k:Nat=>[(8,aa (k:Nat))]) (fun k=>k<=xs.length/\∀j (_:j < k) (hj:j < xs.length),(xs[j] == n)=false) (fun k=>xs.length - k) 0 ⟨aE _,fun j h=>by omega⟩ fun k hk=>?_;obtain ⟨hk1,hk2⟩:=hk;refine go ?_;refine A1 rfl (fun h1=>?_) (fun h1=>?_)
 ·have hh:k < xs.length:=EV
  refine go ?_;refine In (xs:=xs) k ?_;rintro hi b o e1;rw [e1];refine go ?_;refine A1 rfl (fun h2=>?_) (fun h2=>?_)
  ·refine go ?_;refine ret () trivial ?_;rw [Ok hh hk2 (by simpa using h2.symm)];rfl
  ·refine go ?_;refine Cb (k+1) ⟨hh,fun j hj hl=>?_⟩ EV;rcases ba (bA.1 hj) with h|rfl
   ·exact hk2 j h hl
   ·simpa using fun e=>h2 e.symm
 ·obtain rfl:k=xs.length:=EV
  exact BT
theorem Ba1 (l:ar) (n:Int):(l.any fun x=>x == n)=decide (n∈l):=by
 rw [cC,cG,aF];exact ⟨fun ⟨x,hx,h⟩=>by simp at h;exact h▸hx,fun h=>⟨n,h,EX⟩⟩
theorem Aws (xs:ar) (n:Int) (a:aj) (c:Nat) (F:aq):FV 82 [ab a xs.length c,aa n] [.sl Bb (ab a xs.length c) xs F] (.bool (decide (n∈xs))):=by
 refine enter func82 rfl ntmps82 fun w0=>?_;refine go ?_;refine Be (Bem xs n _ _ F) fun _ _=>?_;refine go ?_;refine ret () trivial ?_;rw [S8,Ba1];rfl
theorem Ayt (y:Int) (w:World):Cw Bb w [aa y] [y] []:=⟨_,[],[],[],EX,EX,⟨rfl,rfl⟩,rfl,rfl⟩
theorem Av1 (xs:ar) (y:Int) (i:Nat) (a:aj) (c vb:Nat) (F:aq) (hi:i<=xs.length) (hl:xs.length<=1000000) :
  Fn prog 357 [ab a xs.length c,aa i,ab (some ⟨vb,0,none⟩) 1 1] [] [.ow Bb 3 (ab a xs.length c) xs F,.row vb 3 0 [] [aa y] []] (fun (_:aj × Nat × aq)=>True)
   (fun z=>.slice z.1 (xs.take i++y::xs.drop i).length z.2.1) (fun z=>[.ow Bb 3 (.slice z.1 (xs.take i++y::xs.drop i).length z.2.1) (xs.take i++y::xs.drop i) z.2.2]):=by
 have hone:∀w':World,∀cs:am,Cw Bb w' cs xs []->∀u∈cs,u.oneCell'=true:=fun w' cs h=>h.one' Da;have hy:=Ayt y;have h1y:∀u∈([aa y]:am),u.oneCell'=true:=HJ
 refine enter func357 rfl ntmps357 fun w0=>?_;refine Azl (E:=Bb) fun hc1 hc2=>?_;refine go ?_;apply wO;refine Ak2 rfl rfl rfl rfl hi (fun _=>?_) hc1;refine go ?_;refine A1 rfl (fun h1=>?_) (fun h1=>?_)
 ·have hin:i=xs.length:=EV
  subst hin;have e:xs.take xs.length++y::xs.drop xs.length=xs++[y]:=EX
  refine go ?_;apply wO;refine Np hy Da fun a2 c2 F2=>?_;rw [e];exact DJ
 ·have hlt:i < xs.length:=EV
  refine All (xs:=xs) Ek (by rintro rfl;simp at hlt) ?_;rintro g cs rest rfl - - - hcl hcr hfl;rw [show Bb.sz=1 from rfl] at hcl hcr;have h1c:=hone w0 cs (hfl w0);obtain ⟨A,B,hcs,hA,hB⟩:∃A B,cs=A++B/\A=cs.take (i * 1)/\B=cs.drop (i * 1):=⟨_,_,(bo _ _).symm,rfl,rfl⟩;have hAl:A.length=i * 1:=by rw [hA,aO];omega
  have hBl:B.length=(xs.length - i) * 1:=by rw [hB,aX];omega
  have hins:∀w,Cw Bb w (A++[aa y]++B) (xs.take i++y::xs.drop i) []:=fun w=>by rw [hA,hB];exact (hfl w).insL (hy w) i hi
  have h1A:∀u∈A,u.oneCell'=true:=fun u hu=>h1c u HV;have h1B:∀u∈B,u.oneCell'=true:=fun u hu=>h1c u HV;have hlen:(xs.take i++y::xs.drop i).length=xs.length+1:=FB
  clear hA hB hfl hone;subst hcs;have eA:A=((A++B++rest).drop 0).take (i * 1):=by rw [du,aM,bS hAl]
  have eB:B=((A++B++rest).drop (0+i * 1)).take ((xs.length - i) * 1):=by rw [cN,aM,dy hAl,bS hBl]
  rw [hlen];refine go ?_;apply wO;apply oc;rfl;exact Aq5 rfl;refine go ?_;refine A1 rfl (fun h2=>?_) (fun h2=>?_)
  ·refine go ?_;apply wO;apply oc;rfl;exact O8 (i:=i) rfl rfl rfl EV EV;refine go ?_;apply wO;refine Ap4 (k:=xs.length+1 - i) (olds:=A) rfl rfl rfl EV (Mx (m:=i * 1) (.head _) eA) EV EW EV EV EV EV fun g' cp' Z rest' h3 h4 h5 h6=>?_;rw [show i+(xs.length+1 - i)=xs.length+1 by omega] at h3 ⊢;obtain ⟨Z1,Z2,rfl,hZ1,hZ2⟩:∃Z1 Z2,Z=Z1++Z2/\Z1.length=1/\Z2.length=B.length:=⟨Z.take 1,Z.drop 1,(bo _ _).symm,GA,JQ⟩;refine go ?_
   apply wO;apply oc;rfl;exact Kx (i:=i) rfl rfl rfl EV EV EV;refine go ?_;apply wO;refine Wn (cs:=[aa y]) (L':=A++[aa y]++(Z2++rest')) rfl rfl rfl (Mx (L:=[aa y]) (o:=0) (m:=1) FA rfl) .here (Aek (M:=Z1) GX EV (by simpa using hZ1)) (by show 1=min 1 (xs.length+1 - i) * 1;omega) FQ h1y ?_;refine go ?_;refine Ar [] [] ?_;refine C8 0 1 2 3 ?_;refine dt 4 ?_ (hy:=Kx (i:=i+1) rfl rfl EV EV EV EV)
   refine Dg 5 6 ?_;refine dt 7 ?_ (hy:=Kx (i:=i) rfl rfl EV EV EV EV);refine dN 8 ?_;refine Wn (cs:=B) (L':=A++[aa y]++B++rest') rfl rfl rfl (Mx FA eB) .here (Aek (P:=A++[aa y]) (M:=Z2) GX FQ hZ2) GW FQ h1B ?_;refine dk ?_;refine dd ?_
   refine Ada (cs:=A++[aa y]++B) (rest:=rest') (xs:=xs.take i++y::xs.drop i) cp' rfl hins EV h4 (by rw [show Bb.sz=1 from rfl];simp only [aA,aU,aY] at h6 ⊢;omega) ?_;rw [hlen];refine go ?_;refine ret (_,cp',[g']) trivial rfl
  ·have hcx:xs.length+1<=c:=EV
   obtain ⟨X,Y,hXY,hX,hY⟩:=Aqp (B:=B) (R:=rest) 1 EV;refine go ?_;apply wO;apply oc;rfl;exact O8 (i:=xs.length+1) rfl rfl EV EV EV;refine go ?_;apply wO;apply oc;rfl;exact Kx (i:=i+1) rfl rfl EV EV EV EV;refine Ih ?_;intros;apply wO
   refine Aya rfl Vi (ovl (tS:=24) (tR:=4) (run_callFunc_extern func375 EY EY EY (e:=Extern.SlicesOverlaps.overlaps #[24,24] #[4]) EY) (.there .here) (.head _) GY) ?_;refine go ?_;refine Ar [] [] ?_;refine C8 0 1 2 3 ?_;refine dt 4 ?_ (hy:=Kx (i:=i+1) rfl rfl EV EV EV EV);refine Dg 5 6 ?_;refine dt 7 ?_ (hy:=Kx (i:=i) rfl rfl EV EV EV EV);refine dN 8 ?_
   refine Wn (cs:=B) (L':=A++X++B++rest.drop 1) rfl rfl rfl (Mx FA eB) .here (Aek (P:=A++X) (M:=Y) KC HN hY) GT HN h1B ?_;refine dk ?_;refine dd ?_;refine go ?_;apply wO;apply oc;rfl;exact Kx (i:=i) rfl rfl rfl EV EV EV;refine go ?_;apply wO
   refine Wn (cs:=[aa y]) (L':=A++[aa y]++(B++rest.drop 1)) rfl rfl rfl (Mx (L:=[aa y]) (o:=0) (m:=1) FA rfl) .here (Aek (M:=X) GX EV (by simpa using hX)) (by show 1=min 1 (xs.length+1 - i) * 1;omega) FQ h1y ?_;refine go ?_
   refine Ada (L:=A++[aa y]++(B++rest.drop 1)) (cs:=A++[aa y]++B) (rest:=rest.drop 1) (xs:=xs.take i++y::xs.drop i) c GX hins EV EV (by rw [show Bb.sz=1 from rfl];simp only [aA,aU,aY,aX];omega) ?_;rw [hlen];refine ret (_,c,[g]) trivial rfl
theorem Oq (n:Int) (w:World):Cw Bb w [aa n] [n] []:=⟨_,[],[],[],EX,EX,⟨rfl,rfl⟩,rfl,rfl⟩
theorem Aup (l:ar) (n:Int):Lh l n<=l.length:=(Qx (p:=fun x=>decide (x < n)) (xs:=l)).1
structure Bhr where
 a:aj
 c:Nat
 F:aq
theorem Bbv (l:ar) (n:Int) (a:aj) (c:Nat) (F:aq) (hl:l.length<=1000000):Fn prog 247 [ab a l.length c,aa n] [] [.ow Bb 3 (ab a l.length c) l F] (fun (_:Bhr)=>True) (fun s=>.slice s.a (Rp l n).length s.c) (fun s=>[.ow Bb 3 (.slice s.a (Rp l n).length s.c) (Rp l n) s.F]):=by
 refine enter func247 rfl ntmps247 fun w0=>?_;refine go ?_;refine Dk [0,1,4] (fun k:Nat=>[(5,aa (k:Nat))]) (fun k=>k<=l.length/\∀j (_:j < k) (hj:j < l.length),l[j] < n) (fun k=>l.length - k) 0 ⟨aE _,fun j h=>by omega⟩ fun k hk=>?_;obtain ⟨hk1,hk2⟩:=hk;refine go ?_;refine Dc rfl rfl (fun h1=>?_) (fun h1=>?_)
 ·have hh:k < l.length:=EV
  refine go ?_;refine Rm (m:=1) Ek k ?_ EZ rfl hh;rintro _ g A cs B rfl rfl hr hH;obtain ⟨rfl, -⟩:=hr w0;refine go ?_;refine P5 l[k] hH hr ?_;rw [bv];refine A1 rfl (fun h2=>?_) (fun h2=>?_)
  ·refine go ?_;refine Cb (k+1) ⟨hh,fun j hj hl=>?_⟩ EV;rcases ba (bA.1 hj) with h|rfl
   ·exact hk2 j h hl
   ·exact h2
  ·have hp:Lh l n=k:=Ac3 hk1 hk2 (fun _=>h2);refine go ?_;refine Dc rfl rfl (fun h4=>?_) (fun h4=>absurd h1 h4);refine go ?_;refine Rm (m:=1) Ek k ?_ EZ rfl hh;rintro _ g A cs B e1 - hr hH;cases e1;obtain ⟨rfl, -⟩:=hr w0;refine go ?_;refine P5 l[k] hH hr ?_;rw [bv];refine A1 rfl (fun h3=>?_) (fun h3=>?_)
   ·have e:Rp l n=l:=by unfold Rp;rw [hp,aD hh,aH (by rw [h3])]
    rw [e];exact BB
   ·have e:Rp l n=l.take k++[n]++l.drop k:=by unfold Rp;rw [hp,aD hh,aC HT];simp
    refine go ?_;refine Av fun F5=>?_;refine Azr k EV fun F6 hc1 hc2=>?_;refine Ar [] [] ?_;refine Dg 1 2 ?_;refine dt 3 ?_ (hy:=O8 (i:=k) rfl rfl rfl EV EV);refine Dg 5 8 ?_;refine dt 9 ?_;refine Apg 10 k fun a6 c6 F6=>?_;refine dM 0 6 ?_ ?_
    ·apply Kj;rfl;intro _;refine C1 Bb ?_;refine dk ?_;refine dM 4 6 ?_ ?_
     ·exact CW
     ·apply Iz;rfl;rfl;rfl;rfl;exact Ir;exact Io;intro _;exact BD
    ·exact EL
 ·have hp:Lh l n=k:=Ac3 hk1 hk2 (fun h=>by omega);have e:Rp l n=l.take k++[n]++l.drop k:=by unfold Rp;rw [hp,bn EV];simp
  refine go ?_;refine Dc rfl rfl (fun h4=>absurd h4 h1) (fun h4=>?_);refine go ?_;refine Av fun F5=>?_;refine Azr k EV fun F6 hc1 hc2=>?_;refine Ar [] [] ?_;refine Dg 1 2 ?_;refine dt 3 ?_ (hy:=O8 (i:=k) rfl rfl rfl EV EV);refine Dg 5 8 ?_;refine dt 9 ?_;refine Apg 10 k fun a6 c6 F6=>?_;refine dM 0 6 ?_ ?_
  ·apply Kj;rfl;intro _;refine C1 Bb ?_;refine dk ?_;refine dM 4 6 ?_ ?_
   ·exact CW
   ·apply Iz;rfl;rfl;rfl;rfl;exact Ir;exact Io;intro _;exact BD
  ·exact EL
theorem Ast {c:Cx} {fr:Fr} {H S:List Pc} {Φ:Gl} (x:Bf) {a:aj} {n cp:Nat} {F:aq} (hn:n=x.Ah.length) (h:T c fr (.own Ch (.agg #[aa x.Ai,ab a n cp]) x F::S) Φ) (hp:C2 H (.ow Eu 193 (ab a n cp) x.Ah F) S:=by exact Dr):T c fr H Φ:=by
 subst hn;exact Gt x h hp
theorem Agy {e:Bf} {n f:Int} (h:L0 e n < e.Ah.length):Nn e n f=⟨e.Ai,e.Ah.set (L0 e n) ⟨e.Ah[L0 e n].Ae,Rp e.Ah[L0 e n].Bg f,e.Ah[L0 e n].Cg⟩⟩:=by unfold Nn;rw [aD h]
theorem Agx {e:Bf} {n f:Int} (h:e.Ah[L0 e n]?=none) (hl:e.Ah.length < 5):Nn e n f=⟨e.Ai,e.Ah++[⟨n,[f],e.Ai+6⟩]⟩:=by unfold Nn;rw [h];simp [hl]
theorem Ac5 {e:Bf} {n f:Int} (h:e.Ah[L0 e n]?=none) (hl:¬e.Ah.length < 5):Nn e n f=e:=by unfold Nn;rw [h];simp [hl]
theorem Vo (e:Bf) (n f:Int) (v:Value) (F:aq) (hl:e.Ah.length<=1000000) (hf:∀x∈e.Ah,x.Bg.length<=1000000) (hc0:-1000000<=e.Ai) (hc1:e.Ai<=1000000):Fn prog 173 [v,aa n,aa f] [.isv Bv v e F] [] (fun (_:Value × aq)=>True) (fun s=>.tuple #[s.1,.bool (Acf e n)]) (fun s=>[.own Ch s.1 (Nn e n f) s.2]):=by
 refine enter func173 rfl ntmps173 fun w0=>?_;refine D9 ?_;rintro a1 c1 F1 rfl l1;refine go ?_;intros;refine cv (fun w st=>Xq _ e _ w (st.get (p:=.isv Bv (.agg #[aa e.Ai,ab a1 e.Ah.length c1]) e F) EX) EV (fun x hx=>bD (hf x hx) EW)) fun u FU=>?_;refine H8 ?_;rintro a2 c2 F2 rfl l2;refine go ?_;intros;refine Be (Acq e n _ F) fun _ _=>?_;rcases Q5 e n with ⟨h,e1,e2,e3⟩|⟨e1,e2,e3,e4⟩
 ·rw [e1,e3,Agy h];have hfx:=hf e.Ah[L0 e n] (aB h);refine go ?_;refine Ace (m:=3) (L0 e n) ?_ rfl h;rintro _ g A cs B k1 k2 G1 Gi G2 rfl - hc hH;refine Aac ?_;rintro a5 c5 F5 ev l5;obtain rfl:=O3 ev;refine go ?_;intros;refine Be (Bbv _ f a5 c5 F5 hfx) fun z _=>?_;refine go ?_;refine Pa ⟨e.Ah[L0 e n].Ae,Rp e.Ah[L0 e n].Bg f,e.Ah[L0 e n].Cg⟩ ?_;refine Wa _ hH rfl fun F6=>?_;refine Ast ⟨e.Ai,_⟩ bQ.symm ?_;exact CD
 ·rw [e1,e3];refine go ?_;refine A1 rfl (fun h5=>?_) (fun h5=>?_)
  ·rw [Agx e2 EV];refine go ?_;intros;refine Eh (E:=Bb) (xs:=[f]) (Oq f) ?_ EX;refine Pa ⟨n,[f],e.Ai+6⟩ ?_;apply wO;refine Ab7 Th ⟨n,[f],e.Ai+6⟩ rfl fun a3 c3 F3=>?_;refine go ?_;refine Ast ⟨e.Ai,_⟩ rfl ?_;exact CD
  ·rw [Ac5 e2 EV];refine go ?_;refine Ast e rfl ?_;exact CD
def Aa1 (e:Bf) (n:Int) (below:ar):ar:=match e.Ah[L0 e n]? with
 | some x=>below.filter fun f=>decide (f∈x.Bg)
 | none=>if e.Ah.length=5 then below else []
theorem Agu {e:Bf} {n:Int} (h:L0 e n < e.Ah.length):Px e n=⟨e.Ai,e.Ah.take (L0 e n)++e.Ah.drop (L0 e n+1)⟩:=by unfold Px;rw [aD h]
theorem Ak8 {e:Bf} {n:Int} (h:e.Ah[L0 e n]?=none):Px e n=e:=by unfold Px;rw [h]
theorem Aw6 {e:Bf} {n:Int} {l:ar} (h:L0 e n < e.Ah.length):Aa1 e n l=l.filter fun f=>decide (f∈e.Ah[L0 e n].Bg):=by unfold Aa1;rw [aD h]
theorem Bbe {e:Bf} {n:Int} {l:ar} (h:e.Ah[L0 e n]?=none):Aa1 e n l=if e.Ah.length=5 then l else []:=by unfold Aa1;rw [h]
structure Bd0 where
 k:Nat
 a:aj
 c:Nat
 F:aq
structure Bht where
 v:Value
 F:aq
 a:aj
 c:Nat
 G:aq
theorem Adx (e:Bf) (n:Int) (below:ar) (v:Value) (F:aq) (a0:aj) (c0:Nat) (F0:aq) (hl:e.Ah.length<=1000000) (hf:∀x∈e.Ah,x.Bg.length<=1000000) (hb:below.length<=1000000):Fn prog 242 [v,aa n,ab a0 below.length c0] [.isv Bv v e F,.sl Bb (ab a0 below.length c0) below F0] [] (fun (_:Bht)=>True) (fun s=>.tuple #[s.v,.slice s.a (Aa1 e n below).length s.c]) (fun s=>[.own Ch s.v (Px e n) s.F,.ow Bb 3 (.slice s.a (Aa1 e n below).length s.c) (Aa1 e n below) s.G]):=by
 refine enter func242 rfl ntmps242 fun w0=>?_;refine D9 ?_;rintro a1 c1 F1 rfl l1;refine go ?_;intros;refine cv (fun w st=>Xq _ e _ w (st.get (p:=.isv Bv (.agg #[aa e.Ai,ab a1 e.Ah.length c1]) e F) EX) EV (fun x hx=>bD (hf x hx) EW)) fun u FU=>?_;refine H8 ?_;rintro a2 c2 F2 rfl l2;refine go ?_;intros;refine Be (Acq e n _ F) fun _ _=>?_;refine C1 Bb ?_;rcases Q5 e n with ⟨h,e1,e2,e3⟩|⟨e1,e2,e3,e4⟩
 ·rw [e1,Agu h,Aw6 h];have hfx:=hf e.Ah[L0 e n] (aB h);refine go ?_;refine Rx (xs:=e.Ah) (L0 e n) ?_;rintro hi b o a5 c5 F5 e6 l5;generalize L0 e n=i at *;generalize hx:e.Ah[i]=x at *;rw [e6];refine go ?_;refine Ca [2,3,6,7,8,10] (fun s:Bd0=>[(11,aa (s.k:Nat)),(9,.slice s.a ((below.take s.k).filter fun f=>decide (f∈x.Bg)).length s.c)]) (fun s=>[.ow Bb 3 (.slice s.a ((below.take s.k).filter fun f=>decide (f∈x.Bg)).length s.c) ((below.take s.k).filter fun f=>decide (f∈x.Bg)) s.F]) (fun s=>s.k<=below.length) (fun s=>below.length - s.k) ⟨0,_,_,_⟩ (aE _) fun s hs=>?_
  obtain ⟨k,a3,c3,F3⟩:=s;dsimp only at hs ⊢;refine go ?_;refine A1 rfl (fun h6=>?_) (fun h6=>?_)
  ·have hk:k < below.length:=EV
   refine In (xs:=below) k ?_;rintro hi2 b2 o2 e7;rw [e7];have ht:below.take (k+1)=below.take k++[below[k]]:=by rw [cy,aD hk];rfl
   have hle:((below.take k).filter fun f=>decide (f∈x.Bg)).length<=k:=bD (bJ _ _) FB;refine go ?_;refine Ar [0,2,7] [] ?_;refine C8 0 1 2 3 ?_;refine C8 4 5 6 7 ?_;refine Dg 8 9 ?_;refine dN 10 ?_;refine oC ?_;refine Be (Bbu x.Bg below[k] a5 c5 F5) fun _ _=>?_;refine dk ?_;refine dd ?_;refine go ?_;refine A1 rfl (fun h7=>?_) (fun h7=>?_)
   ·have e8:(below.take (k+1)).filter (fun f=>decide (f∈x.Bg))=((below.take k).filter fun f=>decide (f∈x.Bg))++[below[k]]:=by rw [ht,bY];simp [h7]
    refine go ?_;intros;apply wO;refine Np (Oq _) Da fun a6 c6 F6=>?_;rw [<-e8];refine go ?_;refine Cb (⟨k+1,_,_,_⟩:Bd0) hk HQ
   ·have e8:(below.take (k+1)).filter (fun f=>decide (f∈x.Bg))=((below.take k).filter fun f=>decide (f∈x.Bg)):=by rw [ht,bY];simp [h7]
    refine go ?_;rw [<-e8];refine Cb (⟨k+1,_,_,_⟩:Bd0) hk HQ
  ·have hk:below.take k=below:=aW EV;rw [hk];refine go ?_;refine Adb Th rfl fun ys Fy Gy hyl hym=>?_;refine Azo i hi hyl hym fun G1 Gi G2=>?_;refine Av (E:=EC 3) (xs:=ys) fun Fr=>?_;refine Azr (E:=EC 3) (xs:=ys) i EV fun F6 hc1 hc2=>?_;refine Ar [8] [13] ?_;refine Dg 1 2 ?_;refine dt 3 ?_;refine dt 4 ?_ (hy:=O8 (i:=i) rfl rfl rfl EV EV);refine C8 6 7 8 9 ?_;refine Apg 10 (i+1) fun a7 c7 F7=>?_;refine dN 0 ?_;apply Kj;rfl;intro _;refine C1 (EC 3) ?_;refine dk ?_;refine dN 5 ?_
   refine Nm (Pv 3) (Ib 3) (fun a6 c6 F6=>?_) (hn:=GA) (h63:=GS) (hby:=GS);refine dk ?_;refine dN 11 ?_;refine Nm (Pv 3) (Ib 3) (fun a8 c8 F8=>?_) (h63:=GS) (hby:=GS);refine dk ?_;refine dt 12 ?_;refine dN 13 ?_;refine oS ?_;refine N2 ?_;refine dd ?_;refine Ar6 (E:=Eu) ?_;refine Azm (E:=Eu) (m:=3) (ys:=([]++ys.take i)++ys.drop (i+1)) (cs:=(ys.take i).flatten++(ys.drop (i+1)).flatten) (xs:=e.Ah.take i++e.Ah.drop (i+1)) ?_ rfl EX HL;refine go ?_
   refine Ast (n:=(([]++ys.take i)++ys.drop (i+1)).length) ⟨e.Ai,e.Ah.take i++e.Ah.drop (i+1)⟩ HL ?_;exact EB
 ·rw [e1,Ak8 e2,Bbe e2];refine go ?_;refine A1 rfl (fun h5=>?_) (fun h5=>?_)
  ·rw [aH EV];refine go ?_;apply wO;refine Nm Da Ek fun a4 c4 F4=>?_;refine go ?_;refine Ast e rfl ?_;exact EB
  ·rw [aC EV];refine go ?_;refine Ast e rfl ?_;exact EB
section
variable {P:Program} {n:Nat} {fr:Fr} {H:List Pc} {ty:TypeId} {x y z u:Operand}
theorem Bal {t e m i g o len cp:Nat} {kd:IntKind} {q:Int} [hS:SlC P t e m] (hx:ev fr x=some (ab (some ⟨g,o,none⟩) len cp)) (hy:ev fr y=some (.int kd q)) (hq:q=(i:Int)) (hi:i<=len) (hlc:len<=cp):Yd P n fr H (.slice t x (some y) none none) ty (ab (some ⟨g,if cp=i then o else o+i * m,none⟩) (len - i) (cp - i)):=.mk fun ac w d pos Cd gd hA _=>by
 subst hq;have he2:P.elem t=e:=JN
 have h3:(Instr.sliceAt t (ab (some ⟨g,o,none⟩) len cp) (some (.int kd (i:Int))) none none).run P w=.ok (ab (some ⟨g,if cp=i then o else o+i * m,none⟩) (len - i) (cp - i)) w:=by
  rw [run_sliceAt_slice (h:=GB),run_slice_l (ht:=GB) (h0:=EV) (h1:=EV),he2,Mw hS.s];simp only [Result.andThen,sliced,bV,Addr.add_lit,bc]
  split <;> rfl
 exact BK
theorem Ase {t e m i j g o len cp:Nat} {kd kd2:IntKind} {q r:Int} [hS:SlC P t e m] (hx:ev fr x=some (ab (some ⟨g,o,none⟩) len cp)) (hy:ev fr y=some (.int kd q)) (hz:ev fr z=some (.int kd2 r)) (hq:q=(i:Int)) (hr:r=(j:Int)) (hi:i < cp) (hij:i<=j) (hj:j<=cp):Yd P n fr H (.slice t x (some y) (some z) none) ty (ab (some ⟨g,o+i * m,none⟩) (j - i) (cp - i)):=.mk fun ac w d pos Cd gd hA _=>by
 subst hq hr;have he2:P.elem t=e:=JN
 have h3:(Instr.sliceAt t (ab (some ⟨g,o,none⟩) len cp) (some (.int kd (i:Int))) (some (.int kd2 (j:Int))) none).run P w=.ok (ab (some ⟨g,o+i * m,none⟩) (j - i) (cp - i)) w:=by
  rw [run_sliceAt_slice (h:=GB),run_slice_lh (ht:=GB) (h0:=EV) (h1:=EV) (h2:=EV),he2,Mw hS.s];simp only [Result.andThen,sliced,bV,Addr.add_lit,bc];rw [aC EV]
 simp only [execOp,cL,bV,hA.ev hx,hA.ev hy,hA.ev hz,Sem.run_bind,h3,Result.andThen_ok,Sem.run_pure]
end
section
variable {c:Cx} {fr:Fr} {H:List Pc} {k:List It} {Φ:Gl} {d:Nat} {ty:TypeId} {x y z u:Operand}
theorem Anl {t e m n cp i j l:Nat} {a:aj} {q r s:Int} [hS:SlC c.P t e m] (hd:Nat.blt d c.n=true) (hx:ev fr x=some (ab a n cp)) (hy:ev fr y=some (aa q)) (hz:ev fr z=some (aa r)) (hu:ev fr u=some (aa s)) (hq:q=(i:Int)) (hr:r=(j:Int)) (hs:s=(l:Int)) (hij:i<=j) (hjl:j<=l) (hl:l<=cp) (h:∀v,T c ((d,v)::fr) H Φ):On c fr H (some d) (.slice t x (some y) (some z) (some u)) ty Φ:=⟨fun _ _ _=>Pd fun Q ac w st g=>by
 subst hq hr hs;have he2:=Aew hS;obtain ⟨v,h3⟩:∃v,(Instr.sliceAt t (ab a n cp) (some (aa (i:Int))) (some (aa (j:Int))) (some (aa (l:Int)))).run c.P w=.ok v w:=by
  rw [run_sliceAt_slice (h:=GB),run_slice_lhm (ht:=GB) (h0:=EV) (h1:=EV) (h2:=EV) (h3:=EV),he2,Mw hS.s];exact ⟨_,rfl⟩
 have e1:∀pos Cd gd,(execOp ac.eval ⟨some d,.slice t x (some y) (some z) (some u),ty,pos,Cd,gd⟩).run c.P w=.ok (.value v) w:=by
  intro pos Cd gd;simp only [execOp,cL,bV,g.ev hx,g.ev hy,g.ev hz,g.ev hu,Sem.run_bind,h3,Result.andThen_ok,Sem.run_pure]
 rw [e1];exact (h v).h _ w st (g.put hd)⟩
theorem Ax8 {α:Type} {E:Bw α} (sc:Aar E) (one:One E) {t e m b g n cp i j q c2:Nat} {zv:Value} [hS:SlC c.P t e m] [hE:ElT c.P e zv m b] (hm:E.sz=m) {xs:List α} {F:aq} {S:List Pc}
  (hd:Nat.blt d c.n=true) (hx:ev fr x=some (ab (some ⟨g,0,none⟩) i cp)) (hy:ev fr y=some (ab (some ⟨g,q,none⟩) (n - j) c2)) (hq:j < n->q=j * m) (hij:i<=j) (hj:j<=n) (hn:n=xs.length)
  (hp:C2 H (.ow E e (ab (some ⟨g,0,none⟩) n cp) xs F) S) (h:T c ((d,ab (some ⟨g,0,none⟩) (i+(n - j)) cp)::fr) (.ow E e (ab (some ⟨g,0,none⟩) n cp) (xs.take i++xs.drop j++xs.drop (i+(n - j))) F::S) Φ) :
  On c fr H (some d) (.call { callee:=.builtin .append,args:=#[x,y],argTypes:=#[t,t] }) ty Φ:=⟨fun _ _ _=>Pd fun Q a w s ag=>by
 subst hm hn;have s1:=s.pick hp;obtain ⟨hnd,ho⟩:=s1.on (.ow E e (ab (some ⟨g,0,none⟩) xs.length cp) xs F) EX;have hF:=ho.scal sc;rcases ho with ⟨h1, -, -⟩|⟨g2,cap,cs,rest,G,h1,h2,h3,h4,h5,h6,h7⟩
 ·cases h1
 cases h1;have hG:G=[]:=IH
 subst hG h7;obtain ⟨ti,hi,hiz⟩:=cu.1 hE.i;simp only [Prod.mk.injEq] at hiz;obtain ⟨-,i2, -⟩:=hiz;have hl:=h6.len;have hle:i+(xs.length - j)<=xs.length:=EV
 have fi:=(h6.cutL i EV).1;have fj:=(h6.cutL j hj).2;have fk:=(h6.cutL (i+(xs.length - j)) hle).2;have hd1:(cs.take (i * E.sz)).length=i * E.sz:=by have:=fi.len;rw [aO (l:=xs),cW EV] at this;exact this
 have hd2:(cs.drop (j * E.sz)).length=(xs.length - j) * E.sz:=by have:=fj.len;rwa [aX (l:=xs)] at this
 have h1c:=h6.one' one;have hsm:(i+(xs.length - j)) * E.sz<=xs.length * E.sz:=cF _ hle;have hadd:(i+(xs.length - j)) * E.sz=i * E.sz+(xs.length - j) * E.sz:=cD _ _ _;have hsrc:∀r u,(cs.drop (j * E.sz))[r]?=some u->w.cell? ((⟨g,q,none⟩:Addr).add r)=some u:=fun r u hu=>by
  have hr:r < (cs.drop (j * E.sz)).length:=(cj.1 hu).1;have hlt:j < xs.length:=by
   rcases dY j xs.length with h|h
   ·exact h
   ·rw [hd2,show xs.length - j=0 by omega] at hr;simp at hr
  rw [hq hlt,Addr.add_lit,h2.cell,bx (by rw [aX] at hr;omega)];rw [dw] at hu;exact hu
 have hr:=fun ty=>run_append_room_cells (P:=c.P) w t ty e ti hS.u hi g 0 i cp ⟨g,q,none⟩ (xs.length - j) c2 (cs.drop (j * E.sz)) (by rw [hd2,i2]) hsrc (fun u hu=>h1c u (bq hu)) EV
  (fun r hr=>by rw [i2,h2.cell,aD IJ];rfl) (fun r _=>h2.frozen _)
 have e1:∀pos Cd gd,(execOp a.eval ⟨some d,.call { callee:=.builtin .append,args:=#[x,y],argTypes:=#[t,t] },ty,pos,Cd,gd⟩).run c.P w=.ok (.value (ab (some ⟨g,0,none⟩) (i+(xs.length - j)) cp)) (w.setCells g (0+i * E.sz) (cs.drop (j * E.sz))):=by
  intro pos Cd gd;simp only [execOp,resolve,invoke,builtin,Sem.run_bind,Sem.run_pure,Result.andThen_ok,cT,cH,dg,ag.ev hx,ag.ev hy,hr,i2]
 rw [e1];have R0:If w g e (cs.take (i * E.sz)++(cs.drop (i * E.sz)).take ((xs.length - j) * E.sz)++(cs.drop ((i+(xs.length - j)) * E.sz)++rest)):=by
  rw [hadd,<-cw,aM,<-aM _ _ rest,bo,<-aM,bo];exact h2
 have R1:=If.put (cs.drop (j * E.sz)) _ R0 (p:=0+i * E.sz) EV (by rw [hd2,aO,aX];omega);have hk:=Ly (g:=g) (cs.drop (j * E.sz)) w (0+i * E.sz);rw [Mq w g] at R1 hk;have hW:(Pc.ow E e (ab (some ⟨g,0,none⟩) xs.length cp) (xs.take i++xs.drop j++xs.drop (i+(xs.length - j))) [g]).P (w.setCells g (0+i * E.sz) (cs.drop (j * E.sz))):=by
  have hll:(xs.take i++xs.drop j++xs.drop (i+(xs.length - j))).length=xs.length:=by simp only [aA,aO,aX];omega
  refine ⟨EX,.inr ⟨g,cp,cs.take (i * E.sz)++cs.drop (j * E.sz)++cs.drop ((i+(xs.length - j)) * E.sz),rest,[],by rw [hll],by simpa [aM] using R1,by rw [hll];exact h3,h4,?_,?_,rfl⟩⟩
  ·rw [aA,aA,hd1,hd2,aX,hl,<-h5];omega
  ·have:=((fi.all (w.setCells g (0+i * E.sz) (cs.drop (j * E.sz)))).append (fj.all _)).append (fk.all _);exact ET
 exact h.h _ _ (St.turn (M:=[.ow E e (ab (some ⟨g,0,none⟩) xs.length cp) xs [g]]) (N:=[.ow E e (ab (some ⟨g,0,none⟩) xs.length cp) (xs.take i++xs.drop j++xs.drop (i+(xs.length - j))) [g]]) s1 GZ (by intro q hq;rw [aL] at hq;subst hq;exact hW) ⟨EX,trivial⟩ (by
   intro q hq b hb;rw [aL] at hq;subst hq;exact .inr (.inl ⟨_,aL.2 rfl,rfl,hb⟩))) (ag.put hd)⟩
end
theorem Bdx (xs:List (am)) (n i:Nat) (j:Int) (a:aj) (c:Nat) (F:aq) (hn:n=xs.length) (hi:i < xs.length) (hj:j=(i:Int)+1) (hl:xs.length<=1000000) :
  Fn prog 352 [ab a n c,aa i,aa j] [] [.ow (EC 3) 193 (ab a n c) xs F] (fun (_:aj × Nat × aq)=>True)
   (fun z=>.slice z.1 (xs.take i++xs.drop (i+1)).length z.2.1) (fun z=>[.ow (EC 3) 193 (.slice z.1 (xs.take i++xs.drop (i+1)).length z.2.1) (xs.take i++xs.drop (i+1)) z.2.2]):=by
 subst hn;refine enter func352 rfl ntmps352 fun w0=>?_;refine Alj (xs:=xs) (Ib 3) (by rintro rfl;simp at hi) ?_;rintro g rfl rfl - hc1 hc2;refine go ?_;apply wO;refine Anl (i:=i) (j:=i+1) (l:=xs.length) rfl rfl rfl rfl rfl rfl EV rfl EV EV hc1 (fun _=>?_);refine go ?_;refine A1 rfl (fun h=>absurd h EV) (fun _=>?_);refine go ?_;refine Ar [] [] ?_;refine Dg 0 1 ?_;refine dt 2 ?_ (hy:=O8 (i:=i) rfl rfl rfl EV EV);refine Dg 3 4 ?_;refine dt 5 ?_ (hy:=Bal (i:=i+1) rfl rfl EV EV hc1);refine dN 6 ?_
 refine Ax8 (m:=3) (i:=i) (j:=i+1) (q:=if c=i+1 then 0 else 0+(i+1) * 3) (g:=g) (cp:=c) (n:=xs.length) (Ib 3) (Pv 3) rfl rfl rfl rfl (fun h=>by rw [aC EV];omega) EV EV rfl EZ ?_;refine dk ?_;refine dt 7 ?_;refine dd ?_;refine go ?_;apply wO;apply oc;rfl;exact Ase (i:=i+(xs.length - (i+1))) (j:=xs.length) rfl rfl rfl rfl rfl EV EV hc1;refine go ?_;apply wO
 refine Art (xs:=xs.take i++xs.drop (i+1)++xs.drop (i+(xs.length - (i+1)))) (z0:=[aa 0,ab none 0 0,aa 0]) (n:=xs.length) (cp:=c) (i:=i+(xs.length - (i+1))) (g:=g) (Ib 3) (fun w=>⟨rfl,⟨rfl,FJ⟩,rfl⟩) EW rfl rfl EV GS EZ ?_;have hk:(xs.take i++xs.drop (i+1)).length=i+(xs.length - (i+1)):=GS
 refine Alm (xs:=(xs.take i++xs.drop (i+1)++xs.drop (i+(xs.length - (i+1)))).take (i+(xs.length - (i+1)))++List.replicate (xs.length - (i+(xs.length - (i+1)))) [aa 0,ab none 0 0,aa 0]) (i+(xs.length - (i+1))) (fun F2=>?_) GS;rw [bS (by rw [bS hk,hk]),bS hk,<-hk];refine go ?_;refine ret (_,c,F2) trivial rfl
theorem Av0 (fid:FuncId) (bd caps:am) (A:List Pc) (hA:A.all (fun p=>!p.mu)=true) (xs:ar) (a:aj) (c:Nat) (F:aq) (p:Int->Bool) (hb:Q2 prog fid=true) (hl:xs.length<=1000000000)
  (hp:∀x∈xs,∀w,Od A w->Calls prog fid (bd++[(aa x:Value)]++caps).toArray w (RB (.bool (p x)) w)) :
  Fn prog 368 [ab a xs.length c,.func (.func fid) bd.toArray caps.toArray] (.sl Bb (ab a xs.length c) xs F::A) [] (fun (_:Unit)=>True) (fun _=>aa (Rl p xs)) (fun _=>[]):=by
 refine enter func368 rfl ntmps368 (fun w0=>?_) rfl FR .nil;refine go ?_;refine Dk [0,1,4,7] (fun k:Nat=>[(8,aa (k:Nat))]) (fun k=>k<=xs.length/\∀j (_:j < k) (hj:j < xs.length),p xs[j]=false) (fun k=>xs.length - k) 0 ⟨aE _,fun j h=>by omega⟩ fun k hk=>?_;obtain ⟨hk1,hk2⟩:=hk;refine go ?_;refine A1 rfl (fun h5=>?_) (fun h5=>?_)
 ·have hh:k < xs.length:=EV
  refine go ?_;refine In (xs:=xs) k ?_;rintro hi b o e;rw [e];refine go ?_;apply wO;refine Abd rfl rfl hb Vi ?_;refine cb (fun w st=>hp xs[k] (aB hh) w (fun q hq=>st.on q FX)) ?_;cases hpk:p xs[k]
  ·refine go ?_;refine V8 ?_;refine Cb (hH:=Li _) (k+1) ⟨hh,fun j hj h=>?_⟩ EV;rcases ba (bA.1 hj) with h2|rfl
   ·exact hk2 j h2 h
   ·exact hpk
  ·refine go ?_;refine ret () trivial ?_;rw [Ok hh hk2 hpk];rfl
 ·obtain rfl:k=xs.length:=EV
  exact BT
structure Avv where
 i:Nat
 j:Nat
 zs:ar
theorem Alw (fid:FuncId) (bd caps:am) (A:List Pc) (hA:A.all (fun p=>!p.mu)=true) (xs:ar) (a:aj) (c:Nat) (F:aq) (p:Int->Bool) (hb:Q2 prog fid=true) (hl:xs.length<=1000000000)
  (hp:∀x∈xs,∀w,Od A w->Calls prog fid (bd++[(aa x:Value)]++caps).toArray w (RB (.bool (p x)) w)) :
  Fn prog 350 [ab a xs.length c,.func (.func fid) bd.toArray caps.toArray] A [.ow Bb 3 (ab a xs.length c) xs F] (fun (_:aj × Nat × aq)=>True)
   (fun z=>.slice z.1 (xs.filter fun x=>!p x).length z.2.1) (fun z=>[.ow Bb 3 (.slice z.1 (xs.filter fun x=>!p x).length z.2.1) (xs.filter fun x=>!p x) z.2.2]):=by
 refine enter func350 rfl ntmps350 (fun w0=>?_) rfl FR (.cons .nil);refine go ?_;refine cb (fun w st=>by
  obtain ⟨Fw, -,hw⟩:=(st.get (p:=.ow Bb 3 (ab a xs.length c) xs F) EX).2.read;refine (Av0 fid bd caps A hA xs a c Fw p hb hl hp).val w ?_ FR;intro q hq;rcases aG.1 hq with rfl|hq
  ·exact ⟨EW,hw⟩
  ·exact st.on q FX) ?_
 by_cases hany:xs.any p=true
 ·obtain ⟨i0,hi0,hfx,hpi,hfl⟩:=Ym hany;rw [hfx];refine Alj (xs:=xs) Ek (by rintro rfl;simp at hi0) ?_;rintro g rfl rfl - hc1 hc2;refine go ?_;refine Ca [0,1,4] (fun s:Avv=>[(5,aa (s.i:Nat)),(6,aa (s.j:Nat))]) (fun s=>[.ow Bb 3 (ab (some ⟨g,0,none⟩) xs.length c) s.zs [g]]) (fun s=>s.zs.length=xs.length/\s.j<=xs.length/\s.i < s.j/\s.zs.take s.i=(xs.take s.j).filter (fun x=>!p x)/\s.zs.drop s.j=xs.drop s.j) (fun s=>xs.length - s.j) ⟨i0,i0+1,xs⟩ ⟨rfl,hi0,Nat.lt_succ_self _,by rw [C9 hi0 (by simp [hpi]),hfl],rfl⟩ fun s hs=>?_;obtain ⟨i,j,zs⟩:=s;obtain ⟨h1,h2,h3,h4,h5⟩:=hs
  dsimp only at h1 h2 h3 h4 h5 ⊢;refine go ?_;refine A1 rfl (fun h6=>?_) (fun h6=>?_)
  ·have hj:j < xs.length:=EV
   have hjz:j < zs.length:=EV
   have hx:zs[j]=xs[j]:=by
    have a1:=bP hjz;have a2:=bP hj;rw [h5,a2] at a1;exact (List.cons.inj a1).1.symm
   have hdz:zs.drop (j+1)=xs.drop (j+1):=by
    rw [<-cw,h5,cw]
   refine go ?_;refine Rm (m:=1) Ek j ?_ EZ rfl hjz;rintro _ g2 A2 cs2 B2 e1 e2 hc3 hh;cases e1;obtain ⟨rfl, -⟩:=hc3 w0;refine go ?_;refine P5 zs[j] hh hc3 ?_;rw [bv,hx];apply wO;refine Abd rfl rfl hb Vi ?_;refine cb (fun w st=>hp xs[j] (aB hj) w (fun q hq=>st.on q FX)) ?_;cases hpj:p xs[j]
   ·refine go ?_;refine Rm (m:=1) Ek i ?_ EZ rfl EV;rintro _ g3 A3 cs3 B3 e1 e2 hc4 hh3;cases e1;obtain ⟨rfl, -⟩:=hc4 w0;refine go ?_;refine P5 xs[j] hh3 (fun w=>⟨rfl,rfl⟩) ?_;refine Cb (hH:=Li _) (⟨i+1,j+1,zs.set i xs[j]⟩:Avv) ⟨by simp [h1],hj,Nat.succ_lt_succ h3,?_,?_⟩ HQ
    ·dsimp only;rw [Gw hj (by simp [hpj]),<-h4,cy,ew EV,gv (aK _)];rfl
    ·dsimp only;rw [gy EV,hdz]
   ·refine go ?_;refine Cb (hH:=Li _) (⟨i,j+1,zs⟩:Avv) ⟨h1,hj,Nat.lt_succ_of_lt h3,?_,hdz⟩ HQ;dsimp only;rw [C9 hj (by simp [hpj]),h4]
  ·obtain rfl:j=xs.length:=EV
   have h4':zs.take i=xs.filter fun x=>!p x:=by rw [h4,bm]
   have hil:(xs.filter fun x=>!p x).length=i:=by rw [<-h4',aO];omega
   refine go ?_;apply wO;apply oc;rfl;exact Kx (i:=i) rfl rfl rfl EV EV EV;refine go ?_;apply wO;refine Art (z0:=0) (n:=xs.length) (cp:=c) (i:=i) (g:=g) Ek (fun w=>⟨rfl,rfl⟩) EW rfl rfl h3 h1.symm EZ ?_;refine go ?_;refine Alm (xs:=zs.take i++List.replicate (xs.length - i) 0) i (fun F2=>?_) (by rw [aA,aO,bw];omega);rw [bS GA,h4'];apply wO;apply oc;rfl;exact O8 (i:=i) rfl rfl rfl EV EV;refine go ?_;subst hil
   refine ret (_,c,F2) trivial rfl
 ·obtain ⟨hfx,hfl⟩:=Aa2 hany;rw [hfx,hfl];refine go ?_;refine ret (a,c,F) trivial rfl
theorem Alk {c:Cx} {fr:Fr} {H S:List Pc} {Φ:Gl} {g t:Nat} {cs:am} (h:T c fr (.cel g 0 cs::S) Φ) (h0:cs≠[]) (hp:C2 H (.row g t 0 [] cs []) S:=by exact Dr):T c fr H Φ:=.mk fun ac w s ag=>by
 have s1:=s.pick hp;exact h.h ac w (s1.conv rfl ⟨h0,Ik (s1.on (.row g t 0 [] cs []) EX)⟩ (fun b hb=>hb)) ag
theorem Ar7 {c:Cx} {fr:Fr} {H S:List Pc} {Φ:Gl} {g t o k:Nat} {A B L:am} (X cs Y:am) (h:T c fr (.row g t (o+k) (A++X) cs (Y++B)::S) Φ) (hL:L=X++cs++Y:=by rfl) (hk:X.length=k:=by rfl) (hp:C2 H (.row g t o A L B) S:=by exact Dr):T c fr H Φ:=.mk fun ac w s ag=>by
 subst hL hk;have s1:=s.pick hp;obtain ⟨hA,hr⟩:=s1.on (.row g t o A (X++cs++Y) B) EX;exact h.h ac w (s1.conv rfl ⟨by simp [hA],by simpa [aM] using hr⟩ (fun b hb=>hb)) ag
theorem Ahg {c:Cx} {fr:Fr} {H S:List Pc} {Φ:Gl} {g t o k:Nat} {A B L:am} (X cs Y:am) (h:T c fr (.row g t o A L B::S) Φ) (hL:L=X++cs++Y:=by rfl) (hk:X.length=k:=by rfl) (hp:C2 H (.row g t (o+k) (A++X) cs (Y++B)) S:=by exact Dr):T c fr H Φ:=.mk fun ac w s ag=>by
 subst hL hk;have s1:=s.pick hp;obtain ⟨hA,hr⟩:=s1.on (.row g t (o+X.length) (A++X) cs (Y++B)) EX;exact h.h ac w (s1.conv rfl ⟨IV,by simpa [aM] using hr⟩ (fun b hb=>hb)) ag
theorem Acj {p:Pc}:∀(A:List Pc),Lj (p::A) A
 | []=>.nil
 | _::r=>.cons (.there .here) (Acj r)
theorem Ao2 (e:Bf) (n f:Int) (g t o:Nat) (A B:am) (a:aj) (c:Nat) (F:aq) (hl:e.Ah.length<=1000000) (hf:∀x∈e.Ah,x.Bg.length<=1000000/\x.Bg.Pairwise (· < ·)) (hc0:-1000000<=e.Ai) (hc1:e.Ai<=1000000) :
  Fn prog 319 [Gc g o 0,aa n,aa f] [] [.row g t o A [aa e.Ai,ab a e.Ah.length c] B,.ow Eu 193 (ab a e.Ah.length c) e.Ah F] (fun (_:aj × Nat × aq)=>True) (fun _=>.bool (Acf e n)) (fun s=>[.row g t o A [aa (Nn e n f).Ai,.slice s.1 (Nn e n f).Ah.length s.2.1] B,.ow Eu 193 (.slice s.1 (Nn e n f).Ah.length s.2.1) (Nn e n f).Ah s.2.2]):=by
 refine enter func319 rfl ntmps319 fun w0=>?_;refine go ?_;refine cb (fun w st=>by
  obtain ⟨F', -,hs⟩:=(st.get (p:=.ow Eu 193 (ab a e.Ah.length c) e.Ah F) EX).2.sl Qs;exact (Akc e n _ F').val w (I4 ⟨_,rfl,_,rfl,hs⟩)) ?_
 rcases Q5 e n with ⟨h,e1,e2,e3⟩|⟨e1,e2,e3,e4⟩
 ·rw [e1,e3,Agy h];obtain ⟨hfx,hpw⟩:=hf e.Ah[L0 e n] (aB h);have hsl:∀y,(e.Ah.set (L0 e n) y).length=e.Ah.length:=fun y=>bQ;refine go ?_;refine Ace (m:=3) (L0 e n) ?_ rfl h;rintro _ g2 A2 cs B2 k1 k2 G1 Gi G2 rfl - hc hH;refine Aac ?_;rintro a5 c5 F5 ev l5;obtain rfl:=O3 ev;refine go ?_;refine cb (fun w st=>by
   obtain ⟨F', -,hs⟩:=(st.get (p:=.ow Bb 3 (.slice a5 e.Ah[L0 e n].Bg.length c5) e.Ah[L0 e n].Bg F5) EX).2.read;exact (Ba6 _ f a5 c5 F' hpw hfx).val w (I4 ⟨EW,hs⟩)) ?_
  cases hq:Awk e.Ah[L0 e n].Bg f
  ·have ep:Rp e.Ah[L0 e n].Bg f=e.Ah[L0 e n].Bg.take (Lh e.Ah[L0 e n].Bg f)++f::e.Ah[L0 e n].Bg.drop (Lh e.Ah[L0 e n].Bg f):=by unfold Rp;rw [aC (by simpa [Awk] using hq)]
   refine go ?_;intros;refine Be (Av1 e.Ah[L0 e n].Bg f (Lh e.Ah[L0 e n].Bg f) a5 c5 _ F5 (Aup _ _) hfx) fun z _=>?_;rw [<-ep];refine go ?_;refine Pa ⟨e.Ah[L0 e n].Ae,Rp e.Ah[L0 e n].Bg f,e.Ah[L0 e n].Cg⟩ ?_;refine Wa _ hH rfl fun F6=>?_;dsimp only;rw [<-hsl ⟨e.Ah[L0 e n].Ae,Rp e.Ah[L0 e n].Bg f,e.Ah[L0 e n].Cg⟩];exact BM
  ·have ep:Rp e.Ah[L0 e n].Bg f=e.Ah[L0 e n].Bg:=by unfold Rp;rw [aH (by simpa [Awk] using hq)]
   rw [ep];refine go ?_;refine Pa ⟨e.Ah[L0 e n].Ae,e.Ah[L0 e n].Bg,e.Ah[L0 e n].Cg⟩ ?_;refine Wa _ hH rfl fun F6=>?_;dsimp only;rw [<-hsl ⟨e.Ah[L0 e n].Ae,e.Ah[L0 e n].Bg,e.Ah[L0 e n].Cg⟩];exact BM
 ·rw [e1,e3];refine go ?_;refine A1 rfl (fun h5=>?_) (fun h5=>?_)
  ·rw [Agx e2 EV];refine go ?_;refine Ar [0] [18] ?_;refine C8 0 1 2 3 ?_;refine C8 4 5 6 8 ?_;refine C8 9 10 11 12 ?_;refine dN 7 ?_;apply Iz;rfl;rfl;rfl;rfl;exact Ir;exact Io;intro _;refine dk ?_;refine dt 13 ?_;refine dN 14 ?_;apply Iz;rfl;rfl;rfl;rfl;exact Ir;exact Io;intro _;refine Eh (E:=Bb) (xs:=[f]) (Oq f) ?_ EX;refine Pa ⟨n,[f],e.Ai+6⟩ ?_;refine dk ?_;refine dN 15 ?_;refine Ab7 Th ⟨n,[f],e.Ai+6⟩ rfl fun a3 c3 F3=>?_;refine dk ?_;refine Dg 16 17 ?_;refine dN 18 ?_;refine oS ?_;refine N2 ?_;refine dd ?_;refine go ?_;exact BM
  ·rw [Ac5 e2 EV];refine go ?_;exact BM
theorem Aw5 {e:Bf} {n:Int} {l:ar} (h:L0 e n < e.Ah.length):Um e n l=e.Ah[L0 e n].Bg.filter fun f=>decide (f∈l):=by unfold Um;rw [aD h]
theorem Bbc {e:Bf} {n:Int} {l:ar} (h:e.Ah[L0 e n]?=none):Um e n l=if e.Ah.length=5 then l else []:=by unfold Um;rw [h]
theorem Auy (x:Int) (gb:Nat) (l:ar) (a:aj) (c:Nat) (F:aq):FV 351 [aa x,Gc gb 0 0] [.cel gb 0 [ab a l.length c],.sl Bb (ab a l.length c) l F] (.bool (!decide (x∈l))):=by
 refine enter func351 rfl ntmps351 fun w0=>?_;refine go ?_;refine Be (Aws l x _ _ F) fun _ _=>?_;refine go ?_;refine ret () trivial ?_;rw [decide_not];rfl
structure Bhu where
 a:aj
 c:Nat
 F:aq
 a2:aj
 c2:Nat
 F2:aq
theorem Ash (e:Bf) (n:Int) (below:ar) (g t o:Nat) (A B:am) (a:aj) (c:Nat) (F:aq) (a0:aj) (c0:Nat) (F0:aq) (hl:e.Ah.length<=1000000) (hf:∀x∈e.Ah,x.Bg.length<=1000000) (hb:below.length<=1000000) :
  Fn prog 317 [Gc g o 0,aa n,ab a0 below.length c0] [.sl Bb (ab a0 below.length c0) below F0] [.row g t o A [aa e.Ai,ab a e.Ah.length c] B,.ow Eu 193 (ab a e.Ah.length c) e.Ah F] (fun (_:Bhu)=>True) (fun s=>.slice s.a2 (Um e n below).length s.c2) (fun s=>[.row g t o A [aa (Px e n).Ai,.slice s.a (Px e n).Ah.length s.c] B,.ow Eu 193 (.slice s.a (Px e n).Ah.length s.c) (Px e n).Ah s.F,.ow Bb 3 (.slice s.a2 (Um e n below).length s.c2) (Um e n below) s.F2]):=by
 refine enter func317 rfl ntmps317 fun w0=>?_;refine go ?_;intros;rename_i gb;refine cb (fun w st=>by
  obtain ⟨F', -,hs⟩:=(st.get (p:=.ow Eu 193 (ab a e.Ah.length c) e.Ah F) EX).2.sl Qs;exact (Akc e n _ F').val w (I4 ⟨_,rfl,_,rfl,hs⟩)) ?_
 refine Alk (cs:=[ab a0 below.length c0]) ?_ EX;rcases Q5 e n with ⟨h,e1,e2,e3⟩|⟨e1,e2,e3,e4⟩
 ·rw [e1,Agu h,Aw5 h];have hfx:=hf e.Ah[L0 e n] (aB h);refine go ?_;refine Adb Th rfl fun ys Fy Gy hyl hym=>?_;generalize L0 e n=i at *;generalize hx:e.Ah[i]=x at *;refine Azo i h hyl hym fun G1 Gi G2=>?_;rw [hx];refine Aac ?_;rintro a5 c5 F5 ev l5;have hyi:ys[i]=[aa x.Ae,ab a5 x.Bg.length c5,aa x.Cg]:=by simpa using ev
  refine Rm (m:=3) (Ib 3) i ?_ EZ rfl EV;rintro _ g2 A2 cs B2 rfl rfl hr hH;obtain ⟨rfl, -⟩:=hr w0;rw [hyi];refine go ?_;refine Be (Alw 351 [] [Gc gb 0 0] [.cel gb 0 [ab a0 below.length c0],.sl Bb (ab a0 below.length c0) below F0] rfl x.Bg a5 c5 F5 (fun z=>!decide (z∈below)) EY EV (fun z _ w hA=>(Auy z gb below a0 c0 F0).val w hA)) fun z _=>?_;have e9:(x.Bg.filter fun z=>!!decide (z∈below))=x.Bg.filter fun z=>decide (z∈below):=by simp only [Bool.not_not]
  rw [e9];rw [<-hyi];refine P5 ys[i] hH hr ?_;rw [bv];refine go ?_;refine Be (Bdx ys e.Ah.length i _ _ _ _ hyl.symm EV rfl EV) fun q _=>?_;refine go ?_;refine Ar6 (E:=Eu) ?_;refine Azm (E:=Eu) (m:=3) (ys:=ys.take i++ys.drop (i+1)) (cs:=(ys.take i).flatten++(ys.drop (i+1)).flatten) (xs:=e.Ah.take i++e.Ah.drop (i+1)) ?_ rfl EX HL;rw [show (ys.take i++ys.drop (i+1)).length=(e.Ah.take i++e.Ah.drop (i+1)).length by simp [hyl]];refine ret ⟨_,_,_,_,_,_⟩ trivial rfl
 ·rw [e1,Ak8 e2,Bbc e2];refine go ?_;refine A1 rfl (fun h5=>?_) (fun h5=>?_)
  ·rw [aH EV];refine go ?_;refine cn (fun w st=>Uc _ below F0 w (st.get (p:=.sl Bb (ab a0 below.length c0) below F0) EX).2 EV) fun a6 c6 F6=>?_;exact DM
  ·rw [aC EV];refine Cj Bb 3 ?_;exact DM
theorem Amm {e:Bf} (h:Ba e=true) {x:Gz} (hx:x∈e.Ah):x.Bg.Pairwise (· < ·):=by
 unfold Ba at h;simp only [aw] at h;obtain ⟨i,hi,rfl⟩:=bi hx;have:=Jr h.2 i hi;rw [Kq hi] at this;simp only [Ky,aw] at this;exact (Yv this.1.2.2.1).1
theorem Arh {e:Bf} {n:Int} {l:ar} (h:Ba e=true) (h2:Qo 1 7 l=true):Aa1 e n l=Um e n l:=by
 unfold Aa1 Um;cases hx:e.Ah[L0 e n]? with
 | none=>rfl
 | some x=>exact (Amn (Amm h (bX hx)) (Yv h2).1).symm
def Lf (e:Bf) (n:Int):ar:=match e.Ah[L0 e n]? with
 | some x=>x.Bg
 | none=>[]
def Fv (e:Bf) (n:Int):ar × Bool:=if Ba e && B8 n then (Lf e n,true) else ([],false)
theorem Ty {e:Bf} {n:Int} (h:(Ba e && B8 n)=false):Fv e n=([],false):=by unfold Fv;rw [h];rfl
theorem Ao3 (e:Bf) (n:Int) (v:Value) (F:aq):Fn prog 199 [v,aa n] [.isv Bv v e F] [] (fun (_:aj × Nat × aq)=>True) (fun s=>.tuple #[.slice s.1 (Fv e n).1.length s.2.1,.bool (Fv e n).2]) (fun s=>[.ow Bb 3 (.slice s.1 (Fv e n).1.length s.2.1) (Fv e n).1 s.2.2]):=by
 refine enter func199 rfl ntmps199 fun w0=>?_;refine Cj Bb 3 ?_;refine D9 ?_;rintro a1 c1 F1 rfl l1;refine go ?_;intros;refine cb (fun w st=>Ue _ e _ w (st.get (p:=.isv Bv (.agg #[aa e.Ai,ab a1 e.Ah.length c1]) e F) EX)) ?_;cases g1:Ba e
 ·skip
  rw [Ty (by simp [g1])];refine go ?_;exact BM
 obtain ⟨hck,hl5,hf7⟩:=Un g1;refine go ?_;refine ce (fun w s=>Ja n _) ?_;cases g2:B8 n
 ·skip
  rw [Ty (by simp [g1,g2])];refine go ?_;exact BM
 refine go ?_;refine Be (Akc e n _ F) fun _ _=>?_;rw [show Fv e n=(Lf e n,true) by unfold Fv;rw [g1,g2];rfl];rcases Q5 e n with ⟨h,e1,e2,e3⟩|⟨e1,e2,e3,e4⟩
 ·have hfx:=hf7 e.Ah[L0 e n] (aB h);rw [e1,show Lf e n=e.Ah[L0 e n].Bg by unfold Lf;rw [aD h]];refine Rx (xs:=e.Ah) (L0 e n) ?_;rintro hi b o a5 c5 F5 e6 l5;rw [e6];refine go ?_;refine cn (fun w st=>Uc _ e.Ah[L0 e n].Bg F5 w (st.get (p:=.sl Bb (.slice a5 e.Ah[L0 e n].Bg.length c5) e.Ah[L0 e n].Bg F5) EX).2 EV) fun a6 c6 F6=>?_;refine go ?_;exact BM
 ·rw [e1,show Lf e n=[] by unfold Lf;rw [e2]];refine go ?_;exact BM
theorem Aha (e:Bf) (n:Int) (v:Value) (F:aq):Fn prog 140 [v,aa n] [.isv Bv v e F] [] (fun (_:aj × Nat × aq)=>True) (fun s=>.tuple #[.slice s.1 (Fv e n).1.length s.2.1,.bool (Fv e n).2]) (fun s=>[.ow Bb 3 (.slice s.1 (Fv e n).1.length s.2.1) (Fv e n).1 s.2.2]):=by
 refine enter func140 rfl ntmps140 fun w0=>?_;refine D9 ?_;rintro a1 c1 F1 rfl l1;refine go ?_;intros;refine cb (fun w st=>Ai9 _ e _ w (st.get (p:=.isv Bv (.agg #[aa e.Ai,ab a1 e.Ah.length c1]) e F) EX)) ?_;cases g1:Ba e
 ·skip
  rw [Ty (by simp [g1])];refine go ?_;intros;refine C1 Bb ?_;exact BM
 obtain ⟨hck,hl5,hf7⟩:=Un g1;refine go ?_;refine ce (fun w s=>Nw n _) ?_;cases g2:B8 n
 ·skip
  rw [Ty (by simp [g1,g2])];refine go ?_;intros;refine C1 Bb ?_;exact BM
 refine go ?_;refine Be (Acq e n _ F) fun _ _=>?_;rw [show Fv e n=(Lf e n,true) by unfold Fv;rw [g1,g2];rfl];rcases Q5 e n with ⟨h,e1,e2,e3⟩|⟨e1,e2,e3,e4⟩
 ·have hfx:=hf7 e.Ah[L0 e n] (aB h);rw [e1,show Lf e n=e.Ah[L0 e n].Bg by unfold Lf;rw [aD h]];refine Rx (xs:=e.Ah) (L0 e n) ?_;rintro hi b o a5 c5 F5 e6 l5;rw [e6];refine go ?_;refine cn (fun w st=>Yp _ e.Ah[L0 e n].Bg F5 w (st.get (p:=.sl Bb (.slice a5 e.Ah[L0 e n].Bg.length c5) e.Ah[L0 e n].Bg F5) EX).2 EV) fun a6 c6 F6=>?_;refine go ?_;exact BM
 ·rw [e1,show Lf e n=[] by unfold Lf;rw [e2]];refine go ?_;intros;refine C1 Bb ?_;exact BM
theorem Aq1 (v v2:Value) (e:Bf) (F F2:aq):FV 76 [v,v2] [.isv Bv v e F,.isv Bv v2 e F2] (.bool true):=by
 refine enter func76 rfl ntmps76 fun w0=>?_;refine D9 (v:=v) (x:=e) (F:=F) ?_;rintro a1 c1 F3 rfl l1;unfold maxLen at l1;refine D9 (v:=v2) (x:=e) (F:=F2) ?_;rintro a2 c2 F4 rfl l2;refine go ?_;intros;refine Dc rfl rfl (fun h1=>?_) (fun h1=>?_)
 ·exact absurd rfl h1
 refine go ?_;refine A1 rfl (fun h2=>?_) (fun h2=>?_)
 ·exact absurd rfl h2
 refine go ?_;refine Dk [2,3,4] (fun k:Nat=>[(5,aa (k:Nat))]) (fun k=>k<=e.Ah.length) (fun k=>e.Ah.length - k) 0 (aE _) fun k hk=>?_;refine go ?_;refine A1 rfl (fun h3=>?_) (fun h3=>?_)
 ·have hk3:k < e.Ah.length:=EV
  refine Rx (a:=a1) (xs:=e.Ah) k ?_;rintro hi b o a5 c5 F5 e6 l5;rw [e6];refine Rx (a:=a2) (xs:=e.Ah) k ?_;rintro hi2 b2 o2 a7 c7 F7 e8 l7;rw [e8];refine go ?_;refine Ar [0,2,4,5] [] ?_;refine C8 0 1 2 3 ?_;refine C8 4 5 6 7 ?_;refine Dg 8 9 ?_;refine dM 10 11 ?_ ?_
  ·apply Ci;rfl;intro _;refine dk ?_;refine dN 11 ?_;apply Ci;rfl;intro _;refine dk ?_;refine dN 12 ?_;refine oS ?_;refine dk ?_;refine dN 13 ?_;refine oS ?_;refine dk ?_;refine dd ?_;refine go ?_;refine Dc rfl rfl (fun h4=>?_) (fun h4=>?_)
   ·exact absurd rfl h4
   refine go ?_;refine Dc rfl rfl (fun h5=>?_) (fun h5=>?_)
   ·exact absurd rfl h5
   refine go ?_;refine Be (Alo _ _ e.Ah[k].Bg F5 F7) fun _ _=>?_;refine go ?_;refine Cb (k+1) EV EV
  ·apply Ci;rfl;intro _;refine dk ?_;refine dN 10 ?_;apply Ci;rfl;intro _;refine dk ?_;refine dN 12 ?_;refine oS ?_;refine dk ?_;refine dN 13 ?_;refine oS ?_;refine dk ?_;refine dd ?_;refine go ?_;refine Dc rfl rfl (fun h4=>?_) (fun h4=>?_)
   ·exact absurd rfl h4
   refine go ?_;refine Dc rfl rfl (fun h5=>?_) (fun h5=>?_)
   ·exact absurd rfl h5
   refine go ?_;refine Be (Alo _ _ e.Ah[k].Bg F5 F7) fun _ _=>?_;refine go ?_;refine Cb (k+1) EV EV
 ·exact AA
structure Q0 where
 Ad:ar
def Wh:Bw Q0 where
 sz:=1
 Kz w cs x F:=∃v1,cs=[v1]/\Sl Bb w v1 x.Ad F
 len h:=GQ
 lt h:=GP
 frame h hF:=FP
end Go.Proofs.YtkoldibamfjghaaGreatDoor
namespace Go.Proofs.YtkoldibamfjghaaGreatDoor

open Go.RowKit
end Go.Proofs.YtkoldibamfjghaaGreatDoor
namespace Go.Proofs.YtkoldibamfjghaaGreatDoor
open Go.RowKit
structure Dt where
 Ap:Q0
 Ab:Cs
 Af:List Bf
 Ac:List A9
 down:List (List As)
 up:List (List As)
def Oi:Bw Dt where
 sz:=11
 Kz w cs x F:=∃v1 v2 v3 v4 v5 v6 v7 F1 F2 F3 F4 F5 F6 F7,cs=[v1,aa x.Ab.Aa.Am,aa x.Ab.Aa.size,v2,aa x.Ab.Ai,aa x.Ab.quiet,v3,v4,v5,v6,v7]/\Sl Bb w v1 x.Ap.Ad F1/\Sl A8 w v2 x.Ab.Aa.Ak F2/\Sl Bx w v3 x.Ab.holds F3/\Sl Bv w v4 x.Af F4/\Sl Bz w v5 x.Ac F5/\Sl (Oc Al EW) w v6 x.down F6/\Sl (Oc Al EW) w v7 x.up F7/\F=F1++F2++F3++F4++F5++F6++F7
 len h:=IZ
 lt h:=by
  obtain ⟨v1,v2,v3,v4,v5,v6,v7,F1,F2,F3,F4,F5,F6,F7,rfl,h1,h2,h3,h4,h5,h6,h7,rfl⟩:=h;intro b hb;simp only [aJ] at hb;rcases hb with (((((hb|hb)|hb)|hb)|hb)|hb)|hb
  ·exact h1.lt EW b hb
  ·exact h2.lt EW b hb
  ·exact h3.lt EW b hb
  ·exact h4.lt EW b hb
  ·exact h5.lt EW b hb
  ·exact h6.lt EW b hb
  ·exact h7.lt EW b hb
 frame h hF:=FK
def Ab5:Bw Dt where
 sz:=11
 Kz w cs x F:=∃v1 v2 v3 v4 v5 v6 v7 F1 F2 F3 F4 F5 F6 F7,cs=[v1,aa x.Ab.Aa.Am,aa x.Ab.Aa.size,v2,aa x.Ab.Ai,aa x.Ab.quiet,v3,v4,v5,v6,v7]/\Ow Bb 3 w v1 x.Ap.Ad F1/\Ow A8 9 w v2 x.Ab.Aa.Ak F2/\Ow Bx 191 w v3 x.Ab.holds F3/\Ow Ch 122 w v4 x.Af F4/\Ow B9 76 w v5 x.Ac F5/\Ow (Kl Al 141) 125 w v6 x.down F6/\Ow (Kl Al 141) 125 w v7 x.up F7/\F=F1++F2++F3++F4++F5++F6++F7
 len h:=IZ
 lt h:=by
  obtain ⟨v1,v2,v3,v4,v5,v6,v7,F1,F2,F3,F4,F5,F6,F7,rfl,h1,h2,h3,h4,h5,h6,h7,rfl⟩:=h;intro b hb;simp only [aJ] at hb;rcases hb with (((((hb|hb)|hb)|hb)|hb)|hb)|hb
  ·exact h1.lt b hb
  ·exact h2.lt b hb
  ·exact h3.lt b hb
  ·exact h4.lt b hb
  ·exact h5.lt b hb
  ·exact h6.lt b hb
  ·exact h7.lt b hb
 frame h hF:=FK
theorem Ye:Mu Ab5 Oi:=⟨rfl,fun h=>by
 obtain ⟨v1,v2,v3,v4,v5,v6,v7,F1,F2,F3,F4,F5,F6,F7,rfl,h1,h2,h3,h4,h5,h6,h7,rfl⟩:=h;obtain ⟨G1,g1,k1⟩:=h1.sl (Mu.refl _);obtain ⟨G2,g2,k2⟩:=h2.sl (Mu.refl _);obtain ⟨G3,g3,k3⟩:=h3.sl (Mu.refl _);obtain ⟨G4,g4,k4⟩:=h4.sl Kh;obtain ⟨G5,g5,k5⟩:=h5.sl Qy;obtain ⟨G6,g6,k6⟩:=h6.sl (P2 (Mu.refl _) EW _);obtain ⟨G7,g7,k7⟩:=h7.sl (P2 (Mu.refl _) EW _);refine ⟨G1++G2++G3++G4++G5++G6++G7,?_,v1,v2,v3,v4,v5,v6,v7,G1,G2,G3,G4,G5,G6,G7,rfl,k1,k2,k3,k4,k5,k6,k7,rfl⟩;intro b hb;simp only [aJ] at hb ⊢;rcases hb with (((((hb|hb)|hb)|hb)|hb)|hb)|hb
 ·simp [g1 b hb]
 ·simp [g2 b hb]
 ·simp [g3 b hb]
 ·simp [g4 b hb]
 ·simp [g5 b hb]
 ·simp [g6 b hb]
 ·simp [g7 b hb]⟩
-- markNet: a nested struct with several slices is not written here
end Go.Proofs.YtkoldibamfjghaaGreatDoor
