/- Part 5 of the proof: 34 texts, one behind the other. -/
import Derived.Test.YtkoldibamfjghaaGreatDoorM4
open _root_.Go.Proofs.Tryz
set_option maxRecDepth 100000
set_option maxHeartbeats 8000000
set_option linter.all false
set_option linter.unusedVariables false
set_option linter.unusedSimpArgs false
namespace Go.Proofs.YtkoldibamfjghaaGreatDoor
theorem AR{p:Prop}(h:p:=by apply Cm;rfl;intro _;refine dk ?_;refine dN 12 ?_;refine oS ?_;refine dk ?_;refine dN 13 ?_;refine oS ?_;refine dk ?_;refine dd ?_;refine Bk ((_,_):Nat × Nat) trivial):p:=h
theorem BA{p:Prop}(h:p:=by refine Dh 3 4 ?_;refine ds 5 ?_;refine ds 6 ?_;refine ds 7 ?_;refine ds 8 ?_;refine ds 9 ?_;refine ds 10 ?_;refine ds 11 ?_;refine ds 12 ?_;refine ds 13 ?_;refine ds 14 ?_;refine ds 15 ?_;refine ds 16 ?_;refine Dh 17 18 ?_;refine dd ?_;exact AA):p:=h
theorem BG{p:Prop}(h:p:=by have h9:=hpk;unfold Bo Pe at h9;simp only [aw,aF] at h9;unfold maxLen;omega):p:=h
theorem BN{p:Prop}(h:p:=by have hz:n.up[i]=[]:=bv.1 (by omega);rw [show C4 n s=none by unfold C4;rw [aC (by omega),hq,aJ (by omega)],ay h0,show n.up.set i (n.up[i].drop 1)=n.up by rw [hz,gh];rw [<-hz,bx]];refine go ?_;intros;refine ret (⟨a1,c1,F1,a2,c2,F2,a3,c3,F3,a4,c4,F4,a5,c5,F5,a6,c6,F6,a7,c7,J⟩,⟨0,none,0,[]⟩) trivial rfl):p:=h
theorem BY{p:Prop}(h:p:=by refine go ?_;refine ret () trivial ?_;rw [show E8 1 s.Cq 6=true by unfold E8;simp;omega];rfl):p:=h
theorem CH{p:Prop}(h:p:=by refine dN 10 ?_;refine oS ?_;refine dk ?_;refine dt 11 ?_;refine dd ?_;refine go ?_;intros;apply wO;refine Nb (Dd (Dp W p).1 (Afi hW)) Ho fun a9 c9 F9=>?_;refine go ?_;refine ret ⟨a,c,z.1,z.2.1,_,a9,c9,F9⟩ trivial rfl):p:=h
theorem CX{p:Prop}(h:p:=by have:=(Md (s:=s) hg).1;rw [hq] at this;unfold Ff at this;simp only [aw,aF] at this;exact this.1):p:=h
theorem DH{p:Prop}(h:p:=by refine ret ⟨_,_,_,_,_,[],_,_,_⟩ trivial rfl):p:=h
theorem DP{p:Prop}(h:p:=by refine go ?_;refine ret () trivial ?_;rw [ci,cX];rfl):p:=h
theorem DQ{p:Prop}(h:p:=by refine go ?_;refine ret () trivial ?_;rw [ay h2];rfl):p:=h
theorem DR{p:Prop}(h:p:=by refine go ?_;refine ret () trivial ?_;rw [av h2];rfl):p:=h
theorem DU{p:Prop}(h:p:=by refine go ?_;refine Ca ⟨z.k+1,z.a,z.c,z.F⟩ (by show z.k+1<=t.Ac.length;omega) (by show t.Ac.length - (z.k+1) < t.Ac.length - z.k;omega)):p:=h
theorem EO{p:Prop}(h:p:=by refine go ?_;refine ret (⟨a1,c1,F1,a2,c2,F2,a3,c3,F3,a4,c4,F4,a5,c5,F5,a6,c6,F6,a7,c7,F7⟩,⟨0,none,0,[]⟩) trivial rfl):p:=h
theorem EQ{p:Prop}(h:p:=by refine go ?_;refine ret (⟨x1,w1,K1,x2,w2,K2,x3,w3,K3,x4,w4,K4,x5,w5,K5,x6,w6,K6,x7,w7,K7⟩,⟨0,ea,ec,eF⟩) trivial rfl):p:=h
theorem ES{p:Prop}(h:p:=by refine Ca ⟨z.k+1,a9,c9,F9⟩ (by show z.k+1<=t.Ac.length;omega) (by show t.Ac.length - (z.k+1) < t.Ac.length - z.k;omega)):p:=h
theorem EW{p:Prop}(h:p:=by refine ret (⟨some ⟨gp,0,none⟩,c1,[gp],a2,c2,F2,z.a2,z.c2,z.F,a4,c4,F4,a5,c5,F5,a6,c6,J6,a7,c7,F7⟩:NV) trivial rfl):p:=h
theorem GC{p:Prop}(h:p:=by show n.Al.Ac.length - (k+1) < n.Al.Ac.length - k;omega):p:=h
theorem GG{p:Prop}(h:p:=by dsimp only;rw [hnx];exact hsE):p:=h
theorem GH{p:Prop}(h:p:=by dsimp only;rw [hnx];exact frE):p:=h
theorem II{p:Prop}(h:p:=by unfold Gm;rw [hu,aJ rfl,hi,ba]):p:=h
theorem IK{p:Prop}(h:p:=by unfold C4;rw [aC (by omega),hq,aJ (by omega)]):p:=h
theorem JH{p:Prop}(h:p:=by show k+1+1<=_;omega):p:=h
theorem JP{p:Prop}(h:p:=by show n.Al.Ac.length<=1000000;omega):p:=h
theorem JV{p:Prop}(h:p:=by rw [hlf];decide):p:=h
theorem JY{p:Prop}(h:p:=by unfold Gm;split <;> rfl):p:=h
end Go.Proofs.YtkoldibamfjghaaGreatDoor
namespace Go.Proofs.YtkoldibamfjghaaGreatDoor
open Go.RowKit
theorem Aw7 {t a b:Int} (ha:0<=a/\a<=65535) (hb:0<=b/\b<=65535) (h:gp t a=gp t b):a=b:=by unfold gp at h;omega
def srt (t:Int) (hs:List Iz):Prop:=hs.Pairwise fun a b=>gp t a.Ae < gp t b.Ae
theorem En {x:Cr}:Ck x=true↔D8 x.Aa=true/\Kq x.Ai=true/\E8 0 x.quiet 3=true/\(∀h∈x.holds,Bz h.Ae=true/\I5 x.Aa h.Ae=true/\E8 (x.Ai+1) h.Co (x.Ai+3)=true)/\srt x.Aa.Am x.holds:=by
 unfold Ck;simp only [aw,aW,cP];constructor
 ·rintro ⟨⟨⟨h1,h2⟩,h3⟩,h4⟩;refine ⟨h1,h2,h3,fun h hh=>?_,?_⟩
  ·obtain ⟨i,hi,rfl⟩:=bi hh;have:=h4 i hi;rw [Pi hi] at this;simp only [aw] at this;exact ⟨this.1.1.1,this.1.1.2,this.1.2⟩
  ·have step:∀i (hi:i+1 < x.holds.length),gp x.Aa.Am x.holds[i].Ae < gp x.Aa.Am x.holds[i+1].Ae:=fun i hi=>by
    have:=h4 (i+1) hi;rw [Pi hi] at this;simp only [aw,bZ,aF,bA,bQ] at this;have h:=this.2;rcases h with h|h
    ·omega
    ·simpa using h
   refine bh.2 fun i j hi hj hij=>?_;obtain ⟨d,rfl⟩:∃d,j=i+1+d:=⟨j - i - 1,EZ⟩;clear hij
   induction d with
   | zero=>exact step i hj
   | succ d ih=>exact gz (ih EZ) (step (i+1+d) hj)
 ·rintro ⟨h1,h2,h3,h4,h5⟩;refine ⟨⟨⟨h1,h2⟩,h3⟩,fun i hi=>?_⟩;rw [Pi hi];obtain ⟨a,b,c⟩:=h4 x.holds[i] (aB hi);rw [a,b,c];simp only [bV,bZ,aF,bA,bQ];rcases cy i with h0|h0
  ·exact .inl h0
  ·have:=bh.1 h5 (i - 1) i EZ hi EZ;right;omega
def Fv (t:Int) (hs:List Iz) (n:Int):Nat:=(hs.takeWhile fun h=>decide (gp t h.Ae < gp t n)).length
def Of (t:Int) (hs:List Iz) (n:Int):Bool:=match hs[Fv t hs n]? with|some h=>decide (h.Ae=n)|none=>false
def onB (hs:List Iz) (n:Int):Bool:=hs.any fun h=>decide (h.Ae=n)
def Ld (hs:List Iz) (k:Nat) (h:Iz):List Iz:=hs.take k++h::hs.drop k
def Aar (W:Aw) (n:Int):As:=⟨4,n,W.Am,Li W,⟨#[]⟩⟩
def Nd (x:Cr) (n:Int):Cr:=if I5 x.Aa n && !Of x.Aa.Am x.holds n then ⟨x.Aa,x.Ai,x.quiet,Ld x.holds (Fv x.Aa.Am x.holds n) ⟨n,x.Ai+3⟩⟩ else Xz x x.Aa
def Nk (x:Cr) (p:As):List As:=if I5 x.Aa p.Ae then (if Of x.Aa.Am x.holds p.Ae then [Aar x.Aa p.Ae] else [Aar x.Aa p.Ae,(Dp x.Aa p).1]) else [Rm x.Aa]
def Me (x:Cr) (n:Int):Cr:=if I5 x.Aa n && !Of x.Aa.Am x.holds n then ⟨x.Aa,x.Ai,x.quiet,Ld x.holds (Fv x.Aa.Am x.holds n) ⟨n,x.Ai+3⟩⟩ else x
theorem Zv {x:Cr} (hg:Ck x=true):Ii x.Aa x.Ai x.holds=x.holds:=by
 obtain ⟨-, -, -,h4, -⟩:=En.1 hg;unfold Ii;refine dy.2 fun h hh=>?_;obtain ⟨a,b,c⟩:=h4 h hh;unfold E8 at c;simp only [aw,aF] at c;rw [b,av EZ];rfl
theorem Ayy {x:Cr} (hg:Ck x=true) (n:Int):Nd x n=Me x n:=by
 unfold Nd Me Xz;rw [Zv hg]
theorem X8 (t:Int) (hs:List Iz) (n:Int):Fv t hs n<=hs.length:=Qs.1
theorem Azy {t n:Int} {hs:List Iz} (hn:0<=n/\n<=65535) (hser:∀h∈hs,Bz h.Ae=true) (hs':srt t hs):Of t hs n=onB hs n:=by
 obtain ⟨h1,h2,h3⟩:=Qs (p:=fun h:Iz=>decide (gp t h.Ae < gp t n)) (xs:=hs);unfold Of onB;have hle:=X8 t hs n;rw [cG,cJ];constructor
 ·intro h
  split at h
  ·rename_i z hz;exact ⟨z,cg hz,h⟩
  ·cases h
 ·rintro ⟨z,hz,he⟩;simp only [aF] at he;obtain ⟨i,hi,rfl⟩:=bi hz;have hk:Fv t hs n=i:=by
   refine Xu EZ (fun j hj h=>?_) (fun h=>?_)
   ·have:=bh.1 hs' j i h hi hj;simp only [aF];rw [<-he];exact this
   ·simp only [bQ];rw [he];omega
  rw [hk,aD hi];simpa using he
theorem Bcq {t n:Int} {hs:List Iz} (u:Int) (hn:0<=n/\n<=65535) (hser:∀h∈hs,Bz h.Ae=true) (hs':srt t hs) (ht:Of t hs n=false):srt t (Ld hs (Fv t hs n) ⟨n,u⟩):=by
 obtain ⟨h1,h2,h3⟩:=Qs (p:=fun h:Iz=>decide (gp t h.Ae < gp t n)) (xs:=hs);have hle:=X8 t hs n;have hon:onB hs n=false:=by rw [<-Azy hn hser hs'];exact ht
 have hne:∀h∈hs,gp t h.Ae≠gp t n:=fun h hh e=>by
  have:=Aw7 (A9.1 (hser h hh)) hn e;have h0:onB hs n=true:=cJ.2 ⟨h,hh,by simp [this]⟩;rw [hon] at h0;cases h0
 unfold Ld srt;rw [dJ];refine ⟨hs'.sublist (fC _ _),?_,?_⟩
 ·rw [di];refine ⟨fun b hb=>?_,hs'.sublist (fA _ _)⟩;obtain ⟨j,hj,rfl⟩:=bi hb;rw [db];rw [aX] at hj;have hk:Fv t hs n < hs.length:=EZ
  have h0:=h3 hk;simp only [bQ,Int.not_lt] at h0;have h00:gp t n<=gp t (hs[Fv t hs n]'hk).Ae:=h0;have hd:=hne _ (aB hk);rcases cy j with e|e
  ·subst e;show gp t n < gp t (hs[Fv t hs n+0]).Ae;simp only [bR];omega
  ·have h5:=bh.1 hs' (Fv t hs n) (Fv t hs n+j) hk EZ EZ;show gp t n < _;omega
 ·intro a ha b hb;obtain ⟨i,hi,rfl⟩:=bi ha;rw [aP] at hi;rw [List.getElem_take];have ha2:=h2 i (by show i < Fv t hs n;omega) EZ;simp only [aF] at ha2;rcases aH.1 hb with rfl|hb
  ·exact ha2
  ·obtain ⟨j,hj,rfl⟩:=bi hb;rw [db];rw [aX] at hj;exact bh.1 hs' i _ EZ EZ EZ
theorem Aw6 {x:Cr} {n:Int} (hg:Ck x=true) (hn:0<=n/\n<=65535):Ck (Me x n)=true:=by
 unfold Me
 split
 ·rename_i h;simp only [aw,bA] at h;obtain ⟨hh,ht⟩:=h;obtain ⟨h1,h2,h3,h4,h5⟩:=En.1 hg;refine En.2 ⟨h1,h2,h3,fun z hz=>?_,Bcq _ hn (fun z hz=>(h4 z hz).1) h5 ht⟩;have:z∈x.holds\/z=⟨n,x.Ai+3⟩:=by
   unfold Ld at hz;simp only [aK,aH] at hz;rcases hz with h|h|h
   ·exact .inl (bO h)
   ·exact .inr h
   ·exact .inl (bu h)
  rcases this with h|rfl
  ·exact h4 z h
  ·exact ⟨A9.2 hn,hh,by unfold E8;simp⟩
 ·exact hg
theorem Atp {x:Cr} (hg:Ck x=true) (hc:x.Ai < 9999):Ck (My x)=true:=by
 obtain ⟨h1,h2,h3,h4,h5⟩:=En.1 hg;have hk:=Akp h2;refine En.2 ⟨h1,?_,?_,fun z hz=>?_,h5.sublist (eX)⟩
 ·unfold My Kq E8;simp;omega
 ·unfold E8 at h3;simp only [aw,aF] at h3;unfold My Rn E8;dsimp only
  split <;> simp <;> omega
 ·unfold My Uq at hz;simp only [bP] at hz;obtain ⟨z1,z2⟩:=hz;obtain ⟨a,b,c⟩:=h4 z z1;refine ⟨a,b,?_⟩;unfold E8 at c ⊢;simp only [aw,aF,bA,bQ] at c z2 ⊢;show x.Ai+1+1<=z.Co/\z.Co<=x.Ai+1+3;omega
theorem Af4 {x:Cr} {W:Aw} (k:Nat) (q:Int) (hg:Ck x=true) (hw:D8 W=true) (hq:E8 0 q 3=true) (hk:k<=6) (ht:W.Am=Cc x.Aa.Am k):Ck ⟨W,x.Ai,q,Nq W x.holds⟩=true:=by
 obtain ⟨h1,h2,h3,h4,h5⟩:=En.1 hg;obtain ⟨-,⟨z0,z1⟩,hl, -⟩:=Ds.1 hw;have key:∀n,I5 W n=true->gp x.Aa.Am n=gp W.Am n+k:=fun n hn=>by
  unfold I5 at hn;simp only [aF] at hn;rw [ht] at hn ⊢;have:=Le (Cc x.Aa.Am k) n;unfold gp Cc at *;omega
 refine En.2 ⟨hw,h2,hq,fun z hz=>?_,?_⟩
 ·unfold Nq at hz;simp only [bP] at hz;obtain ⟨a,b,c⟩:=h4 z hz.1;exact ⟨a,hz.2,c⟩
 ·unfold Nq srt;show List.Pairwise (fun a b=>gp W.Am a.Ae < gp W.Am b.Ae) (x.holds.filter fun h=>I5 W h.Ae);have hp:List.Pairwise (fun a b=>gp x.Aa.Am a.Ae < gp x.Aa.Am b.Ae) (x.holds.filter fun h=>I5 W h.Ae):=h5.sublist (eX);refine List.Pairwise.imp_of_mem (fun {a b} ha hb h=>?_) hp;simp only [bP] at ha hb;have e1:=key _ ha.2;have e2:=key _ hb.2;omega
theorem Ato {x:Cr} {s:au} (hg:Ck x=true) (hs:Pe s=true):Ck (Q9 x s)=true:=by
 have hw:=(En.1 hg).1;obtain ⟨-,hw2, -⟩:=Aqe (x:=x.Aa) (s:=s) (by unfold Z6;rw [hw,hs];rfl);obtain ⟨⟨t0,t1⟩, -⟩:=Ds.1 hw;by_cases h:(x.Aa.Ak.length:Int)=x.Aa.size
 ·refine Af4 1 0 hg hw2 FA EZ ?_;show (De x.Aa).Am=_;unfold De;rw [aJ h];rfl
 ·refine Af4 0 0 hg hw2 FA EZ ?_;show (De x.Aa).Am=_;unfold De Cc;rw [aC h];omega
def Pk (n:Du) (i:Nat):Bh:=n.Af.getD i ⟨0,[]⟩
def Px (n:Du) (i:Nat):A1:=n.Ad.getD i Bc7
def Y3 (n:Du) (i:Nat):ar:=Ij n.Al.Ac ((i:Nat):Int)
def Aek (n:Du) (i:Nat) (p:As):ar:=if p.Cq=2 then Uj (Pk n i) p.Ae (Y3 n i) else Y3 n i
def C8 (n:Du) (i:Nat) (p:As):Du × ai :=
 if D5 n.Al.Ac ((i:Nat):Int) then (⟨n.Al,n.Ab,n.Af,n.Ad.set i (Dl (Px n i) p (M0 i)),n.down,n.up⟩,T6 i (Id (Px n i) p))
 else (⟨n.Al,n.Ab,if p.Cq=2 then n.Af.set i (Pq (Pk n i) p.Ae) else n.Af,n.Ad,Dr n.down (Aek n i p) [p],n.up⟩,[])
def Yu (n:Du) (i:Nat):Nat:=(n.Al.Ac.getD i 0).toNat
def Zl (p:As):As:=⟨4,p.Ae,p.Am,p.E7,⟨#[]⟩⟩
def P4 (n:Du) (i:Nat) (p:As):Du :=
 if Yu n i=0 then ⟨n.Al,Me n.Ab p.Ae,n.Af,n.Ad,Dr n.down [((i:Nat):Int)] (Nk n.Ab p),n.up⟩
 else ⟨n.Al,n.Ab,n.Af.set (Yu n i) (Nj (Pk n (Yu n i)) p.Ae ((i:Nat):Int)),n.Ad,Dr n.down [((i:Nat):Int)] [Zl p],if Acb (Pk n (Yu n i)) p.Ae then n.up.modify (Yu n i) fun q=>Hg q [p] else n.up⟩
def Nf (n:Du) (i:Nat):Du × ai :=
 if D5 n.Al.Ac ((i:Nat):Int) then (⟨n.Al,n.Ab,n.Af,n.Ad.set i (C1 (Px n i) (M0 i)),n.down,n.up.modify i fun q=>Hg q (E9 (Px n i))⟩,T6 i (Hh (Px n i)))
 else (⟨n.Al,n.Ab,n.Af.set i (Eo (Pk n i)),n.Ad,n.down,n.up⟩,[])
def Bgp (n:Du):Du:=⟨n.Al,My n.Ab,n.Af,n.Ad,Dr n.down (Y3 n 0) (Ng n.Ab.Aa n.Ab.quiet),n.up⟩
def Bd (n:Du):Nat->Du × ai
 | 0=>(Bgp n,[])
 | k+1=>((Nf (Bd n k).1 (k+1)).1,(Bd n k).2++(Nf (Bd n k).1 (k+1)).2)
def Gh (n:Du):Du × ai:=Bd n (n.Al.Ac.length - 1)
def Ag7 (n:Du) (s:au):Du:=⟨n.Al,Q9 n.Ab s,n.Af,n.Ad,Dr n.down (Y3 n 0) [Dw n.Ab.Aa s],n.up⟩
def Qg (n:Du) (i:Nat):Du:=⟨n.Al,n.Ab,n.Af,n.Ad,n.down.modify i (·.drop 1),n.up⟩
def Oe (n:Du) (i:Nat):Du:=⟨n.Al,n.Ab,n.Af,n.Ad,n.down,n.up.modify i (·.drop 1)⟩
structure GN (ck:Nat->Int) (n:Du):Prop where
 t:Hj n.Al=true
 s:Ck n.Ab=true
 l:Lj n=true
 a:∀i (h1:i < n.Af.length) (h2:i < n.Ad.length) (h3:i < n.down.length) (h4:i < n.up.length),Qj n.Al.Ac (ck i) i n.Af[i] n.Ad[i] n.down[i] n.up[i]=true
theorem Ax {n:Du}:At n=true↔GN (fun _=>n.Ab.Ai) n:=by
 rw [Mj];constructor
 ·rintro ⟨h1,h2,h3,h4⟩;obtain ⟨q1,q2,q3,q4⟩:=Bg.1 h3;exact ⟨h1,h2,h3,fun i a b c d=>by rw [<-Ug a b c d];exact h4 i EZ⟩
 ·rintro ⟨h1,h2,h3,h4⟩;obtain ⟨q1,q2,q3,q4⟩:=Bg.1 h3;exact ⟨h1,h2,h3,fun i hi=>by rw [Ug EZ EZ EZ EZ];exact h4 i _ _ _ _⟩
def Aeq (ck:Nat->Int) (i:Nat) (c:Int):Nat->Int:=fun j=>if j=i then c else ck j
structure RN (par:ar) (clk:Int) (i:Nat) (e:Bh) (r:A1) (d u:List As):Prop where
 hd:Ff d=true
 hu:Ff u=true
 hk:upQ u=true
 hz:i=0->Mn e=true/\Tk r=true/\d.length=0/\u.length=0
 hf:i≠0->D5 par ((i:Nat):Int)=true->Mn e=true/\Bp r=true/\r.Ai=clk
 hn:i≠0->D5 par ((i:Nat):Int)=false->Ba e=true/\e.Ai=clk/\Tk r=true
theorem Ny {par:ar} {clk:Int} {i:Nat} {e:Bh} {r:A1} {d u:List As}:Qj par clk i e r d u=true↔RN par clk i e r d u:=by
 unfold Qj;constructor
 ·intro h;simp only [aw] at h;obtain ⟨⟨⟨h1,h2⟩,h3⟩,h4⟩:=h;refine ⟨h1,h2,h3,fun e=>?_,fun e l=>?_,fun e l=>?_⟩
  ·rw [aJ e] at h4;simp only [aw,aF] at h4;exact ⟨h4.1.1.1,h4.1.1.2,h4.1.2,h4.2⟩
  ·rw [aC e,aJ l] at h4;simp only [aw,aF] at h4;exact ⟨h4.1.1,h4.1.2,h4.2⟩
  ·rw [aC e,aC (by rw [l];decide)] at h4;simp only [aw,aF] at h4;exact ⟨h4.1.1,h4.1.2,h4.2⟩
 ·intro h;rw [h.hd,h.hu,h.hk,bV,bV,bV];by_cases e:i=0
  ·rw [aJ e];obtain ⟨a,b,c,d⟩:=h.hz e;rw [a,b,av c,av d];rfl
  ·rw [aC e];cases l:D5 par ((i:Nat):Int)
   ·obtain ⟨a,b,c⟩:=h.hn e l;rw [aC FA,a,av b,c];rfl
   ·obtain ⟨a,b,c⟩:=h.hf e l;rw [aJ rfl,a,b,av c];rfl
theorem GN.rn {ck:Nat->Int} {n:Du} (h:GN ck n) {i:Nat} (hi:i < n.Al.Ac.length):∃(h1:i < n.Af.length) (h2:i < n.Ad.length) (h3:i < n.down.length) (h4:i < n.up.length),RN n.Al.Ac (ck i) i n.Af[i] n.Ad[i] n.down[i] n.up[i]:=by
 obtain ⟨q1,q2,q3,q4⟩:=Bg.1 h.l;exact ⟨EZ,EZ,EZ,EZ,Ny.1 (h.a i _ _ _ _)⟩
theorem GN.mk' {ck:Nat->Int} {n:Du} (h1:Hj n.Al=true) (h2:Ck n.Ab=true) (h3:Lj n=true) (h4:∀i (h1:i < n.Af.length) (h2:i < n.Ad.length) (h3:i < n.down.length) (h4:i < n.up.length),RN n.Al.Ac (ck i) i n.Af[i] n.Ad[i] n.down[i] n.up[i]):GN ck n :=
 ⟨h1,h2,h3,fun i a b c d=>Ny.2 (h4 i a b c d)⟩
theorem GN.src {ck:Nat->Int} {n:Du} {s:Cr} (h:GN ck n) (hs:Ck s=true):GN ck ⟨n.Al,s,n.Af,n.Ad,n.down,n.up⟩:=⟨h.t,hs,h.l,h.a⟩
theorem GN.el {ck:Nat->Int} {n:Du} {i:Nat} {e:Bh} (h:GN ck n) (h0:i≠0) (hl:D5 n.Al.Ac ((i:Nat):Int)=false) (he:Ba e=true):GN (Aeq ck i e.Ai) ⟨n.Al,n.Ab,n.Af.set i e,n.Ad,n.down,n.up⟩:=by
 obtain ⟨q1,q2,q3,q4⟩:=Bg.1 h.l;refine .mk' h.t h.s (Bg.2 ⟨by simpa using q1,q2,q3,q4⟩) fun j h1 h2 h3 h4=>?_;have h1':j < n.Af.length:=HV
 have r:=Ny.1 (h.a j h1' h2 h3 h4);refine ⟨r.hd,r.hu,r.hk,fun e0=>?_,fun e0 l=>?_,fun e0 l=>?_⟩
 ·have:=r.hz e0
  rwa [de EZ]
 ·have hne:i≠j:=fun e1=>by subst e1;rw [hl] at l;cases l
  have:=r.hf e0 l;rw [de hne];unfold Aeq;rw [aC (Ne.symm hne)];exact this
 ·have:=r.hn e0 l;by_cases e1:i=j
  ·subst e1;rw [eJ];unfold Aeq;rw [aJ rfl];exact ⟨he,rfl,this.2.2⟩
  ·rw [de e1];unfold Aeq;rw [aC (Ne.symm e1)];exact this
theorem GN.rc {ck:Nat->Int} {n:Du} {i:Nat} {x:A1} (h:GN ck n) (h0:i≠0) (hl:D5 n.Al.Ac ((i:Nat):Int)=true) (he:Bp x=true):GN (Aeq ck i x.Ai) ⟨n.Al,n.Ab,n.Af,n.Ad.set i x,n.down,n.up⟩:=by
 obtain ⟨q1,q2,q3,q4⟩:=Bg.1 h.l;refine .mk' h.t h.s (Bg.2 ⟨q1,by simpa using q2,q3,q4⟩) fun j h1 h2 h3 h4=>?_;have h2':j < n.Ad.length:=HK
 have r:=Ny.1 (h.a j h1 h2' h3 h4);refine ⟨r.hd,r.hu,r.hk,fun e0=>?_,fun e0 l=>?_,fun e0 l=>?_⟩
 ·have:=r.hz e0
  rwa [de EZ]
 ·have:=r.hf e0 l;by_cases e1:i=j
  ·subst e1;rw [eJ];unfold Aeq;rw [aJ rfl];exact ⟨this.1,he,rfl⟩
  ·rw [de e1];unfold Aeq;rw [aC (Ne.symm e1)];exact this
 ·have hne:i≠j:=fun e1=>by subst e1;rw [hl] at l;cases l
  have:=r.hn e0 l;rw [de hne];unfold Aeq;rw [aC (Ne.symm hne)];exact this
theorem Ar6 {q ps:List As} (hq:upQ q=true) (hp:∀p∈ps,p.Cq=3):upQ (Hg q ps)=true:=by
 unfold upQ Hg at *;rw [dV,hq,bV,aW];exact fun p h=>av (hp p (bO h))
theorem GN.dn {ck:Nat->Int} {n:Du} (h:GN ck n) (i:Nat) (f:List As->List As) (h0:i=0->f []=[]) (hf:∀q,Ff q=true->Ff (f q)=true):GN ck ⟨n.Al,n.Ab,n.Af,n.Ad,n.down.modify i f,n.up⟩:=by
 obtain ⟨q1,q2,q3,q4⟩:=Bg.1 h.l;refine .mk' h.t h.s (Bg.2 ⟨q1,q2,by simpa using q3,q4⟩) fun j h1 h2 h3 h4=>?_;have h3':j < n.down.length:=HX
 have r:=Ny.1 (h.a j h1 h2 h3' h4);by_cases e1:i=j
 ·subst e1;simp only [fQ];refine ⟨hf _ r.hd,r.hu,r.hk,fun e0=>?_,r.hf,r.hn⟩;obtain ⟨a,b,c,d⟩:=r.hz e0;refine ⟨a,b,?_,d⟩;rw [bv.1 c,h0 e0];rfl
 ·simp only [gx,aC e1];exact r
theorem GN.un {ck:Nat->Int} {n:Du} (h:GN ck n) (i:Nat) (f:List As->List As) (h0:i=0->f []=[]) (hf:∀q,Ff q=true->upQ q=true->Ff (f q)=true/\upQ (f q)=true):GN ck ⟨n.Al,n.Ab,n.Af,n.Ad,n.down,n.up.modify i f⟩:=by
 obtain ⟨q1,q2,q3,q4⟩:=Bg.1 h.l;refine .mk' h.t h.s (Bg.2 ⟨q1,q2,q3,by simpa using q4⟩) fun j h1 h2 h3 h4=>?_;have h4':j < n.up.length:=by simpa using h4
 have r:=Ny.1 (h.a j h1 h2 h3 h4');by_cases e1:i=j
 ·subst e1;simp only [fQ];refine ⟨r.hd,(hf _ r.hu r.hk).1,(hf _ r.hu r.hk).2,fun e0=>?_,r.hf,r.hn⟩;obtain ⟨a,b,c,d⟩:=r.hz e0;refine ⟨a,b,c,?_⟩;rw [bv.1 d,h0 e0];rfl
 ·simp only [gx,aC e1];exact r
theorem GN.sp {ck:Nat->Int} {ps:List As} (hp:∀p∈ps,Bo p=true):∀{nodes:ar} {n:Du},GN ck n->(∀x∈nodes,x.toNat≠0)->GN ck ⟨n.Al,n.Ab,n.Af,n.Ad,Dr n.down nodes ps,n.up⟩
 | [],_,h,_=>h
 | x::r,n,h,hx=>GN.sp hp (nodes:=r) (n:=⟨n.Al,n.Ab,n.Af,n.Ad,n.down.modify x.toNat fun q=>Hg q ps,n.up⟩) (h.dn x.toNat _ (fun e=>absurd e (hx x FB)) fun q hq=>Ac0 hq hp) fun y hy=>hx y KS
theorem Af2 {q:List As} (h:Ff q=true):Ff (q.drop 1)=true:=by
 unfold Ff at *;simp only [aw,aF,aW] at h ⊢;exact ⟨JW,fun p hp=>h.2 p (bu hp)⟩
theorem Az7 {q:List As} (h:upQ q=true):upQ (q.drop 1)=true:=by
 unfold upQ at *;simp only [aW] at h ⊢;exact fun p hp=>h p (bu hp)
theorem GN.pd {ck:Nat->Int} {n:Du} (h:GN ck n) (i:Nat):GN ck (Qg n i):=h.dn i _ (fun _=>rfl) fun _=>Af2
theorem GN.pu {ck:Nat->Int} {n:Du} (h:GN ck n) (i:Nat):GN ck (Oe n i):=h.un i _ (fun _=>rfl) fun _ a b=>⟨Af2 a,Az7 b⟩
def Vv (l:List Ic):Prop:=∀s∈l,s.Dn.size<=8
theorem Ajq {s:au} (h:s.size<=8):(Agu s).size<=9:=by
 unfold Agu;have:(⟨#[43]⟩:au).size=1:=rfl;rw [aE];omega
theorem Aqr {l:List Ic} (h:Vv l):(Gg l).size<=9:=by
 unfold Gg;cases l with
 | nil=>decide
 | cons s r =>
  dsimp only
  split
  ·exact Ajq (h s FB)
  ·decide
theorem Ayu:∀(l:List Ic) (n:Int),Vv l->∀e∈(rel n l).2.2,e.size<=9
 | [],_,_,e,he=>by simp [rel] at he
 | s::r,n,h,e,he=>by
  unfold rel at he
  split at he
  ·rcases aH.1 he with rfl|he
   ·exact Ajq (h s FB)
   ·exact Ayu r _ (fun x hx=>h x IE) e he
  ·simp at he
theorem Asa {w:Aj} (h:Vv w.Ap):∀e∈Q8 w,e.size<=9:=Ayu w.Ap w.next h
theorem Aro:∀(k:Nat) (w:Aj),Vv w.Ap->(∀e∈N5 k w,e.size<=9)/\Vv (Iy k w).Ap
 | 0,w,h=>⟨fun e he=>by simp [N5] at he,h⟩
 | k+1,w,h=>by
  have ih:=Aro k (Yw w) fun s hs=>h s (bu hs);refine ⟨fun e he=>?_,ih.2⟩;unfold N5 at he;rcases aH.1 he with rfl|he
  ·exact Aqr h
  ·exact ih.1 e he
theorem Aaa {w:Aj} (h:Cv w=true):Vv w.Ap:=fun s hs=>by
 obtain ⟨n0,n1,hl,hit⟩:=Rt h;exact hit s hs
theorem Anv {w:Aj} {t:Int} (h:Vv w.Ap):∀e∈Jc w t,e.size<=9:=fun e he=>by
 have hg:=Aro (Ev w.next t) w h;unfold Jc at he;rcases aK.1 he with he|he
 ·exact hg.1 e he
 ·exact Asa hg.2 e he
theorem Aup {w:Aj} {t:Int} (h:Cv w=true):(Jc w t).length<=40000:=by
 have h1:=(Uu (t:=t) h).2.2.1;have h2:Ev w.next t<=32767:=by
  unfold Ev
  split
  ·rename_i hb;unfold Tl E8 at hb;simp only [aw,aF] at hb;omega
  ·omega
 omega
theorem Bcd {x:Aj} {k:Nat} {s:Ic} (h:Vv x.Ap) (hs:s.Dn.size<=8):Vv (L0 x k s):=fun y hy=>by
 unfold L0 at hy;rcases bE hy with hy|rfl
 ·unfold Mc at hy;rcases aK.1 hy with hy|hy
  ·exact h y hy
  ·rw [List.eq_of_mem_replicate hy];decide
 ·exact hs
theorem Bbi {r:A1} {p:As} (hg:Lu r) (hp:Bo p=true):∀e∈Id r p,e.size<=1000000:=fun e he=>by
 have hd:p.data.size<=8:=by
  unfold Bo Pe at hp;simp only [aw,aF] at hp;omega
 have hst:=(Qn hg hp).1;have htk:=(Tj hg hp).1;unfold Id at he
 split at he
 ·unfold Mk at he;rcases aK.1 he with he|he
  ·unfold Kt at he
   split at he
   ·simp at he
   ·unfold Lp at he
    split at he
    ·simp at he
    ·have:=Asa (w:=Yv (Ec r p) p.Ae p.data) (Bcd (s:=⟨true,p.data⟩) (Aaa hst) hd) e he;omega
  ·unfold Oo at he
   split at he
   ·split at he
    ·have:=Anv (Aaa htk) e he;omega
    ·rw [aM] at he;subst he;decide
   ·simp at he
 ·simp at he
theorem Ac9 {r:A1} (hg:Lu r):(∀e∈Hh r,e.size<=1000000)/\(Hh r).length<=40000:=by
 unfold Hh
 split
 ·exact ⟨fun e he=>by simp at he,FB⟩
 ·exact ⟨fun e he=>by have:=Anv (Aaa hg.w) e he;omega,Aup hg.w⟩
theorem Agw {w:World} {t:TypeId} {a:aj} {c:Nat} {l:ar} {F:aq} (h:(Pc.ow Bc t (ab a l.length c) l F).P w):∃F',(Pc.isv Sq (.agg #[ab a l.length c]) ⟨l⟩ F').P w:=by
 obtain ⟨F', -,hs⟩:=h.2.read;exact ⟨F',_,rfl,_,rfl,hs⟩
theorem Zk (t:Pv) (node:Int) (v:Value) (F:aq) (hl:t.Ac.length<=1000000):Fn prog 190 [v,aa node] [.isv Sq v t F] [] (fun (_:KiS)=>True) (fun z=>.slice z.a (Ij t.Ac node).length z.c) (fun z=>[.ow Bc 3 (.slice z.a (Ij t.Ac node).length z.c) (Ij t.Ac node) z.F]):=by
 refine enter func190 rfl ntmps190 fun w0=>?_;refine Nv ?_;rintro a1 c1 F1 rfl l1;refine Cf Bc 3 ?_;refine go ?_;intros;refine Bx [1,4,9,10] (fun z:KiS=>[(5,.slice z.a (J9 t.Ac node z.k).length z.c),(11,aa (z.k:Nat))]) (fun z=>[.ow Bc 3 (.slice z.a (J9 t.Ac node z.k).length z.c) (J9 t.Ac node z.k) z.F]) (fun z=>z.k<=t.Ac.length) (fun z=>t.Ac.length - z.k) ⟨0,_,_,_⟩ (aG _) fun z hz=>?_;have hkl:=Aga t.Ac node z.k;refine go ?_;refine A4 rfl (fun h1=>?_) (fun h1=>?_)
 ·have hh:z.k < t.Ac.length:=EZ
  refine Hy (xs:=t.Ac) z.k ?_;rintro hi b o e1;rw [e1];refine go ?_;refine A4 rfl (fun h2=>?_) (fun h2=>?_)
  ·refine Io ?_;intros;apply wO;refine Nb (N7 _) C6 fun a9 c9 F9=>?_;refine go ?_;rw [<-Apw hh h2];exact ES
  ·rw [<-Atx hh h2];exact DU
 ·rw [show J9 t.Ac node z.k=Ij t.Ac node by unfold Ij;rw [show z.k=t.Ac.length by omega]];exact CB
theorem Af5 {r:A1} {p:As} (hg:Lu r) (hp:Bo p=true):∀e∈Id r p,e.size<=1000000:=Bbi hg hp
theorem Arq:∀(l:ar) (lo:Int),l.Pairwise (· < ·)->(∀z∈l,lo<=z/\z<=7)->(l.length:Int)<=max 0 (8 - lo)
 | [],_,_,_=>by simp;omega
 | x::r,lo,hp,hb=>by
  rw [di] at hp;have:=Arq r (x+1) hp.2 fun z hz=>⟨by have:=hp.1 z hz;omega,(hb z IW).2⟩;have:=hb x FB;rw [aU];omega
theorem O5 {e:Bh} (hg:Ba e=true) {x:Ha} (hx:x∈e.Ah):x.Bj.length<=7:=by
 have h:=(O8.1 ((Hb.1 hg).2.2.1 x hx)).2.2.1;have:=Arq x.Bj 1 h.1 h.2;omega
theorem Ab7 {i:Nat}:1<=M0 i/\M0 i<=8:=by unfold M0;omega
theorem Gp {n:Du} {i:Nat} (h:i < n.Ad.length):Px n i=n.Ad[i]:=Pl h _
theorem Jq {n:Du} {i:Nat} (h:i < n.Af.length):Pk n i=n.Af[i]:=Pl h _
theorem As7 (n:Du) (i:Nat) (p:As) (g:Nat) (a1:aj) (c1:Nat) (F1:aq) (a2:aj) (c2:Nat) (F2:aq) (a3:aj) (c3:Nat) (F3:aq) (a4:aj) (c4:Nat) (F4:aq) (a5:aj) (c5:Nat) (F5:aq) (a6:aj) (c6:Nat) (F6:aq) (a7:aj) (c7:Nat) (F7:aq) (FT:aq) (hl:Lj n=true) (hi:i < n.Al.Ac.length) (h8:Lv n.Al.Ac) (hr:D5 n.Al.Ac (i:Nat)=true->Bp (Px n i)=true) (he:D5 n.Al.Ac (i:Nat)=false->Ba (Pk n i)=true) (hp:Bo p=true) (hps:p.data.size<=maxLen) :
  Fn prog 265 [Ga g 0 0,aa (i:Nat),.agg #[aa (p).Cq,aa (p).Ae,aa (p).Am,aa (p).E7,af (p).data]] [E4 FT] [.row g 37 0 [] [ab a1 n.Al.Ac.length c1,aa n.Ab.Aa.Am,aa n.Ab.Aa.size,ab a2 n.Ab.Aa.Ak.length c2,aa n.Ab.Ai,aa n.Ab.quiet,ab a3 n.Ab.holds.length c3,ab a4 n.Af.length c4,ab a5 n.Ad.length c5,ab a6 n.down.length c6,ab a7 n.up.length c7] [],.ow Bc 3 (ab a1 n.Al.Ac.length c1) n.Al.Ac F1,.ow A8 9 (ab a2 n.Ab.Aa.Ak.length c2) n.Ab.Aa.Ak F2,.ow Bw 191 (ab a3 n.Ab.holds.length c3) n.Ab.holds F3,.ow Ce 122 (ab a4 n.Af.length c4) n.Af F4,.ow B9 76 (ab a5 n.Ad.length c5) n.Ad F5,.ow (Ki An 141) 125 (ab a6 n.down.length c6) n.down F6,.ow (Ki An 141) 125 (ab a7 n.up.length c7) n.up F7] (fun (_:NV × KA)=>True) (fun z=>.slice z.2.a (C8 n i p).2.length z.2.c) (fun z=>[.row g 37 0 [] [ab z.1.a1 n.Al.Ac.length z.1.c1,aa (C8 n i p).1.Ab.Aa.Am,aa (C8 n i p).1.Ab.Aa.size,.slice z.1.a2 (C8 n i p).1.Ab.Aa.Ak.length z.1.c2,aa (C8 n i p).1.Ab.Ai,aa (C8 n i p).1.Ab.quiet,.slice z.1.a3 (C8 n i p).1.Ab.holds.length z.1.c3,ab z.1.a4 n.Af.length z.1.c4,ab z.1.a5 n.Ad.length z.1.c5,ab z.1.a6 n.down.length z.1.c6,ab z.1.a7 n.up.length z.1.c7] [],.ow Bc 3 (ab z.1.a1 n.Al.Ac.length z.1.c1) (C8 n i p).1.Al.Ac z.1.F1,.ow A8 9 (.slice z.1.a2 (C8 n i p).1.Ab.Aa.Ak.length z.1.c2) (C8 n i p).1.Ab.Aa.Ak z.1.F2,.ow Bw 191 (.slice z.1.a3 (C8 n i p).1.Ab.holds.length z.1.c3) (C8 n i p).1.Ab.holds z.1.F3,.ow Ce 122 (ab z.1.a4 n.Af.length z.1.c4) (C8 n i p).1.Af z.1.F4,.ow B9 76 (ab z.1.a5 n.Ad.length z.1.c5) (C8 n i p).1.Ad z.1.F5,.ow (Ki An 141) 125 (ab z.1.a6 n.down.length z.1.c6) (C8 n i p).1.down z.1.F6,.ow (Ki An 141) 125 (ab z.1.a7 n.up.length z.1.c7) (C8 n i p).1.up z.1.F7,.ow A8 9 (.slice z.2.a (C8 n i p).2.length z.2.c) (C8 n i p).2 z.2.F]):=by
 obtain ⟨q1,q2,q3,q4⟩:=Bg.1 hl;have hn8:=h8.n1;obtain ⟨d0,d1_⟩:=Ab7 (i:=i);refine enter func265 rfl ntmps265 fun w0=>?_;refine go ?_;intros;refine cfr (fun w st=>by obtain ⟨Fq,hq⟩:=Agw (st.get (p:=.ow Bc 3 (ab a1 n.Al.Ac.length c1) n.Al.Ac F1) FD);exact ⟨_,Iw hq,rfl,W9 n.Al i _ Fq⟩) (fun _ _=>?_);refine Ot ?_;cases hlf:D5 n.Al.Ac (i:Nat)
 rotate_left
 ·have hir:i < n.Ad.length:=EZ
  have hgr:=Ej.1 (Gp hir▸hr hlf);have hev:=(Ul (d:=M0 i) hgr hp d0 d1_).2;rw [show C8 n i p=(⟨n.Al,n.Ab,n.Af,n.Ad.set i (Dl n.Ad[i] p (M0 i)),n.down,n.up⟩,T6 i (Id n.Ad[i] p)) by unfold C8;rw [aJ hlf,Gp hir]];refine go ?_;refine Aca (xs:=n.Ad) (m:=5) i ?_ rfl hir;rintro _ g5 A5 cs B5 k1 k2 J1 Ji J2 rfl - hc5 hH5;refine Im ?_;rintro b1 d1 G1 b2 d2 G2 ev l1 l2;obtain rfl:=Pw ev;refine Ar [5,6] [] ?_;refine Df 0 1 2 3 ?_;refine Df 4 5 6 7 ?_;refine dt 8 ?_;refine dN 9 ?_;refine oC ?_;refine Bf (Ail i EZ) fun _ _=>?_;refine dk ?_;refine dN 10 ?_;refine oC ?_
  refine Bf (Bau n.Ad[i] p (M0 i) g5 76 (0+i * 5) A5 B5 b1 d1 G1 b2 d2 G2 hgr hp d0 d1_) fun s _=>?_;refine dk ?_;refine dN 11 ?_;refine oC ?_;refine cfr (fun w st=>by obtain ⟨Fq, -,hq⟩:=(st.get (p:=.ow A8 9 (.slice s.ae (Id n.Ad[i] p).length s.ce) (Id n.Ad[i] p) s.Fe) FD).2.read;exact ⟨[.sl A8 (.slice s.ae (Id n.Ad[i] p).length s.ce) (Id n.Ad[i] p) Fq,E4 FT],Sz ⟨FA,hq⟩ (st.get (p:=E4 FT) FD),rfl,Az1 i _ _ _ Fq FT EZ EZ (Af5 hgr hp)⟩) (fun u _=>?_);refine Ot ?_;refine dk ?_;refine dt 12 ?_;refine dd ?_;refine go ?_;refine Kk (Dl n.Ad[i] p (M0 i)) ?_
  refine V0 _ hH5 rfl fun J5=>?_;refine ret (⟨a1,c1,F1,a2,c2,F2,a3,c3,F3,a4,c4,F4,_,c5,J5,a6,c6,F6,a7,c7,F7⟩,⟨0,_,_,_⟩) trivial rfl
 ·have hir:i < n.Af.length:=EZ
  have hge:Ba n.Af[i]=true:=Jq hir▸he hlf;have hel:=(Hb.1 hge).2.1;have hkl:=Ur n.Al.Ac ((i:Nat):Int);have hkx:∀x∈Ij n.Al.Ac ((i:Nat):Int),0<=x/\x.toNat < n.down.length:=fun x hx=>by have:=Lh h8 hx;omega
  refine go ?_;refine cfr (fun w st=>by obtain ⟨Fq,hq⟩:=Agw (st.get (p:=.ow Bc 3 (ab a1 n.Al.Ac.length c1) n.Al.Ac F1) FD);exact ⟨_,Iw hq,rfl,Zk n.Al ((i:Nat):Int) _ Fq JP⟩) (fun u _=>?_);refine Ot ?_;refine Av (E:=Bc) (xs:=Ij n.Al.Ac ((i:Nat):Int)) fun Fk=>?_;refine Cf A8 9 ?_;refine go ?_;refine A4 rfl (fun hk=>?_) (fun hk=>?_)
  ·rw [show C8 n i p=(⟨n.Al,n.Ab,n.Af.set i (Pq n.Af[i] p.Ae),n.Ad,Dr n.down (Uj n.Af[i] p.Ae (Ij n.Al.Ac ((i:Nat):Int))) [p],n.up⟩,[]) by unfold C8 Aek Y3;rw [aC JV,aJ hk,aJ hk,Jq hir]];refine go ?_;refine Aca (xs:=n.Af) (m:=2) i ?_ rfl hir;rintro _ g5 A5 cs B5 k1 k2 J1 Ji J2 rfl - hc5 hH5;refine H2 ?_;rintro b1 d1 G1 ev l1;obtain rfl:=Pw ev;refine Ar [6,7] [] ?_;refine Df 0 1 2 3 ?_;refine Df 4 5 6 7 ?_;refine dt 8 ?_;refine dN 9 ?_;refine oC ?_
   refine Bf (Asr n.Af[i] p.Ae (Ij n.Al.Ac ((i:Nat):Int)) g5 122 (0+i * 2) A5 B5 b1 d1 G1 u.a u.c Fk EZ (fun x hx=>by have:=O5 hge hx;omega) EZ) fun s _=>?_;refine dk ?_;refine dt 10 ?_;refine dd ?_;refine Gw (Pq n.Af[i] p.Ae) ?_;refine V0 _ hH5 rfl fun J5=>?_;refine Av (E:=Bc) (xs:=Uj n.Af[i] p.Ae (Ij n.Al.Ac ((i:Nat):Int))) fun Fk2=>?_;refine Io ?_;intros;refine Eh (E:=An) (xs:=[p]) (Dd p hps) ?_ FB;refine Av (E:=An) (xs:=[p]) fun Fp=>?_;refine go ?_
   refine Bf (Zn n.down (Uj n.Af[i] p.Ae (Ij n.Al.Ac ((i:Nat):Int))) [p] g _ _ _ _ _ _ _ _ _ _ a6 _ c6 F6 _ _ Fk2 _ _ Fp rfl (fun x hx=>hkx x (Aau x hx))) fun J6 _=>?_;refine go ?_;refine ret (⟨a1,c1,F1,a2,c2,F2,a3,c3,F3,_,c4,J5,a5,c5,F5,a6,c6,J6,a7,c7,F7⟩,⟨0,none,0,[]⟩) trivial rfl
  ·rw [show C8 n i p=(⟨n.Al,n.Ab,n.Af,n.Ad,Dr n.down (Ij n.Al.Ac ((i:Nat):Int)) [p],n.up⟩,[]) by unfold C8 Aek Y3;rw [aC JV,aC hk,aC hk]];refine Io ?_;intros;refine Eh (E:=An) (xs:=[p]) (Dd p hps) ?_ FB;refine Av (E:=An) (xs:=[p]) fun Fp=>?_;refine go ?_;refine Bf (Zn n.down (Ij n.Al.Ac ((i:Nat):Int)) [p] g _ _ _ _ _ _ _ _ _ _ a6 _ c6 F6 _ _ Fk _ _ Fp rfl hkx) fun J6 _=>?_;refine go ?_;refine ret (⟨a1,c1,F1,a2,c2,F2,a3,c3,F3,a4,c4,F4,a5,c5,F5,a6,c6,J6,a7,c7,F7⟩,⟨0,none,0,[]⟩) trivial rfl
theorem U2 (y:Iz) (w:World):Cz Bw w [aa y.Ae,aa y.Co] [y] []:=⟨_,[],[],[],FB,FB,⟨rfl,rfl⟩,rfl,rfl⟩
theorem Ast (xs:List Iz) (y:Iz) (i:Nat) (a:aj) (c vb:Nat) (F:aq) (hi:i<=xs.length) (hl:xs.length<=1000000) :
  Fn prog 354 [ab a xs.length c,aa i,ab (some ⟨vb,0,none⟩) 1 1] [] [.ow Bw 191 (ab a xs.length c) xs F,.row vb 191 0 [] [aa y.Ae,aa y.Co] []] (fun (_:aj × Nat × aq)=>True)
   (fun z=>.slice z.1 (xs.take i++y::xs.drop i).length z.2.1) (fun z=>[.ow Bw 191 (.slice z.1 (xs.take i++y::xs.drop i).length z.2.1) (xs.take i++y::xs.drop i) z.2.2]):=by
 have hone:∀w':World,∀cs:am,Cz Bw w' cs xs []->∀u∈cs,u.oneCell'=true:=fun w' cs h=>h.one' Is;have hy:=U2 y;have h1y:∀u∈([aa y.Ae,aa y.Co]:am),u.oneCell'=true:=HN
 refine enter func354 rfl ntmps354 fun w0=>?_;refine Azp (E:=Bw) fun hc1 hc2=>?_;refine go ?_;apply wO;refine Ak8 rfl rfl rfl rfl hi (fun _=>?_) hc1;refine go ?_;refine A4 rfl (fun h1=>?_) (fun h1=>?_)
 ·have hin:i=xs.length:=EZ
  subst hin;have e:xs.take xs.length++y::xs.drop xs.length=xs++[y]:=FB
  refine go ?_;apply wO;refine Nb hy Is fun a2 c2 F2=>?_;rw [e];exact DJ
 ·have hlt:i < xs.length:=EZ
  refine Als (xs:=xs) Ks (by rintro rfl;simp at hlt) ?_;rintro g cs rest rfl - - - hcl hcr hfl;rw [show Bw.sz=2 from rfl] at hcl hcr;have h1c:=hone w0 cs (hfl w0);obtain ⟨A,B,hcs,hA,hB⟩:∃A B,cs=A++B/\A=cs.take (i * 2)/\B=cs.drop (i * 2):=⟨_,_,(bo _ _).symm,rfl,rfl⟩;have hAl:A.length=i * 2:=by rw [hA,aP];omega
  have hBl:B.length=(xs.length - i) * 2:=by rw [hB,aX];omega
  have hins:∀w,Cz Bw w (A++[aa y.Ae,aa y.Co]++B) (xs.take i++y::xs.drop i) []:=fun w=>by rw [hA,hB];exact (hfl w).insL (hy w) i hi
  have h1A:∀u∈A,u.oneCell'=true:=fun u hu=>h1c u HZ;have h1B:∀u∈B,u.oneCell'=true:=fun u hu=>h1c u HZ;have hlen:(xs.take i++y::xs.drop i).length=xs.length+1:=FF
  clear hA hB hfl hone;subst hcs;have eA:A=((A++B++rest).drop 0).take (i * 2):=by rw [dw,aN,bT hAl]
  have eB:B=((A++B++rest).drop (0+i * 2)).take ((xs.length - i) * 2):=by rw [cO,aN,dC hAl,bT hBl]
  rw [hlen];refine go ?_;apply wO;apply oc;rfl;exact Arb rfl;refine go ?_;refine A4 rfl (fun h2=>?_) (fun h2=>?_)
  ·refine go ?_;apply wO;apply oc;rfl;exact O0 (i:=i) rfl rfl rfl EZ EZ;refine go ?_;apply wO;refine Ap8 (k:=xs.length+1 - i) (olds:=A) rfl rfl rfl EZ (Mt (m:=i * 2) (.head _) eA) EZ FA EZ EZ EZ EZ fun g' cp' Z rest' h3 h4 h5 h6=>?_;rw [show i+(xs.length+1 - i)=xs.length+1 by omega] at h3 ⊢;obtain ⟨Z1,Z2,rfl,hZ1,hZ2⟩:∃Z1 Z2,Z=Z1++Z2/\Z1.length=2/\Z2.length=B.length:=⟨Z.take 2,Z.drop 2,(bo _ _).symm,GE,JW⟩;refine go ?_
   apply wO;apply oc;rfl;exact Ku (i:=i) rfl rfl rfl EZ EZ EZ;refine go ?_;apply wO;refine Wh (cs:=[aa y.Ae,aa y.Co]) (L':=A++[aa y.Ae,aa y.Co]++(Z2++rest')) rfl rfl rfl (Mt (L:=[aa y.Ae,aa y.Co]) (o:=0) (m:=2) FD rfl) .here (Aei (M:=Z1) HB EZ (by simpa using hZ1)) (by show 2=min 1 (xs.length+1 - i) * 2;omega) FZ h1y ?_;refine go ?_;refine Ar [] [] ?_;refine Df 0 1 2 3 ?_
   refine dt 4 ?_ (hy:=Ku (i:=i+1) rfl rfl EZ EZ EZ EZ);refine Dh 5 6 ?_;refine dt 7 ?_ (hy:=Ku (i:=i) rfl rfl EZ EZ EZ EZ);refine dN 8 ?_
   refine Wh (cs:=B) (L':=A++[aa y.Ae,aa y.Co]++B++rest') rfl rfl rfl (Mt FD eB) .here (Aei (P:=A++[aa y.Ae,aa y.Co]) (M:=Z2) HB FZ hZ2) HA FZ h1B ?_;refine dk ?_;refine dd ?_
   refine Ac7 (cs:=A++[aa y.Ae,aa y.Co]++B) (rest:=rest') (xs:=xs.take i++y::xs.drop i) cp' rfl hins EZ h4 (by rw [show Bw.sz=2 from rfl];simp only [aA,aU,aY] at h6 ⊢;omega) ?_;rw [hlen];refine go ?_;refine ret (_,cp',[g']) trivial rfl
  ·have hcx:xs.length+1<=c:=EZ
   obtain ⟨X,Y,hXY,hX,hY⟩:=Aqs (B:=B) (R:=rest) 2 EZ;refine go ?_;apply wO;apply oc;rfl;exact O0 (i:=xs.length+1) rfl rfl EZ EZ EZ;refine go ?_;apply wO;apply oc;rfl;exact Ku (i:=i+1) rfl rfl EZ EZ EZ EZ;refine Io ?_;intros;apply wO
   refine Ayb rfl Wk (ovl (tS:=30) (tR:=4) (run_callFunc_extern func371 FC FC FC (e:=Extern.SlicesOverlaps.overlaps #[30,30] #[4]) FC) (.there .here) (.head _) HC) ?_;refine go ?_;refine Ar [] [] ?_;refine Df 0 1 2 3 ?_;refine dt 4 ?_ (hy:=Ku (i:=i+1) rfl rfl EZ EZ EZ EZ);refine Dh 5 6 ?_;refine dt 7 ?_ (hy:=Ku (i:=i) rfl rfl EZ EZ EZ EZ);refine dN 8 ?_
   refine Wh (cs:=B) (L':=A++X++B++rest.drop 2) rfl rfl rfl (Mt FD eB) .here (Aei (P:=A++X) (M:=Y) KJ HR hY) GX HR h1B ?_;refine dk ?_;refine dd ?_;refine go ?_;apply wO;apply oc;rfl;exact Ku (i:=i) rfl rfl rfl EZ EZ EZ;refine go ?_;apply wO
   refine Wh (cs:=[aa y.Ae,aa y.Co]) (L':=A++[aa y.Ae,aa y.Co]++(B++rest.drop 2)) rfl rfl rfl (Mt (L:=[aa y.Ae,aa y.Co]) (o:=0) (m:=2) FD rfl) .here (Aei (M:=X) HB EZ (by simpa using hX)) (by show 2=min 1 (xs.length+1 - i) * 2;omega) FZ h1y ?_;refine go ?_
   refine Ac7 (L:=A++[aa y.Ae,aa y.Co]++(B++rest.drop 2)) (cs:=A++[aa y.Ae,aa y.Co]++B) (rest:=rest.drop 2) (xs:=xs.take i++y::xs.drop i) c HB hins EZ EZ (by rw [show Bw.sz=2 from rfl];simp only [aA,aU,aY,aX];omega) ?_;rw [hlen];refine ret (_,c,[g]) trivial rfl
instance:IntC prog 146 .u64:=⟨underlying146⟩
theorem Apb (fid:FuncId) (caps:am) (A:List Pc) (hA:A.all (fun p=>!p.mu)=true) (xs:List Iz) (a:aj) (c:Nat) (F:aq) (tv:Value) (f:Iz->Int) (hm:∀i j (_:i<=j) (hj:j < xs.length),f xs[j] < 0->f (xs[i]'EZ) < 0) (hb:Qx prog fid=true) (hl:xs.length<=1000000)
  (hp:∀x∈xs,∀w,Ob A w->Calls prog fid ([.agg #[aa x.Ae,aa x.Co],tv]++caps).toArray w (RB (aa (f x)) w)) :
  Fn prog 369 [ab a xs.length c,tv,.func (.func fid) #[] caps.toArray] (.sl Bw (ab a xs.length c) xs F::A) [] (fun (_:Unit)=>True) (fun _=>.tuple #[aa ((xs.takeWhile fun x=>decide (f x < 0)).length:Nat),.bool (Bbj f xs[(xs.takeWhile fun x=>decide (f x < 0)).length]?)]) (fun _=>[]):=by
 refine enter func369 rfl ntmps369 (fun w0=>?_) rfl GA .nil;refine go ?_;refine Em [0,1,2,6,7,8] (fun s:Nat × Nat=>[(9,aa (s.1:Nat)),(10,aa (s.2:Nat))]) (fun s=>s.1<=s.2/\s.2<=xs.length/\(∀j (_:j < s.1) (h:j < xs.length),f xs[j] < 0)/\(∀j (_:s.2<=j) (h:j < xs.length),¬f xs[j] < 0)) (fun s=>s.2 - s.1) (0,xs.length) ⟨aG _,aL _,fun j h=>by omega,fun j h1 h2=>by omega⟩ fun s hs=>?_;obtain ⟨i,j⟩:=s;obtain ⟨h1,h2,h3,h4⟩:=hs;dsimp only at h1 h2 h3 h4 ⊢;refine go ?_;refine A4 rfl (fun h5=>?_) (fun h5=>?_)
 ·have hh:(i+j) / 2 < xs.length:=EZ
  have e2:((i:Int)+(j:Int)) / 2=(((i+j) / 2:Nat):Int):=EZ
  refine go ?_;apply wO;apply oc;rfl;exact Ahs rfl EZ EZ;refine go ?_;apply wO;apply oc;rfl;exact Alz rfl;rw [e2];apply wO;apply oc;rfl;exact Ao4 rfl EZ EZ;generalize hq:(i+j) / 2=q at hh;refine go ?_;refine Wt (xs:=xs) q ?_;rintro hi b o e;rw [e];refine go ?_;apply wO;refine Ae0 rfl rfl hb Wk ?_;refine cb (fun w st=>hp xs[q] (aB hh) w (fun p hp=>st.on p HH)) ?_;refine go ?_;refine A4 rfl (fun h6=>?_) (fun h6=>?_)
  ·exact DD
  ·exact DE
 ·have hij:i=j:=EZ
  subst hij;have hk:(xs.takeWhile fun x=>decide (f x < 0)).length=i:=Xu h2 (fun j hj h=>av (h3 j hj h)) (fun h=>ay (h4 i (aL _) h));rw [hk];refine go ?_;refine D6 rfl rfl (fun h6=>?_) (fun h6=>?_)
  ·have hh:i < xs.length:=EZ
   rw [aD hh];refine go ?_;refine Wt (xs:=xs) i ?_;exact DI
  ·rw [br EZ];exact AA
theorem Afi {W:Aw} {p:As} (hg:D8 W=true):(Dp W p).1.data.size<=maxLen:=by
 unfold Dp
 split
 ·rename_i h;unfold J8 at h;simp only [aw] at h;have hk:=Aa0 h.2;show (Zu W p.Ae).size<=maxLen;rw [Uo hk];have:=aW.1 (Ds.1 hg).2.2.2 _ (aB hk);unfold Pe at this;simp only [aw,aF] at this;unfold maxLen;omega
 ·decide
theorem Avb {t n:Int} {hs:List Iz} (hser:∀h∈hs,Bz h.Ae=true) (hn:0<=n/\n<=65535):(hs.takeWhile fun x=>decide (gp t x.Ae - gp t n < 0)).length=Fv t hs n /\
  Bbj (fun x:Iz=>gp t x.Ae - gp t n) hs[(hs.takeWhile fun x=>decide (gp t x.Ae - gp t n < 0)).length]?=Of t hs n:=by
 have e:(fun x:Iz=>decide (gp t x.Ae - gp t n < 0))=fun h=>decide (gp t h.Ae < gp t n):=by
  funext x;rw [dK];omega
 have e1:(hs.takeWhile fun x=>decide (gp t x.Ae - gp t n < 0)).length=Fv t hs n:=by unfold Fv;rw [e]
 refine ⟨e1,?_⟩;rw [e1];unfold Of;cases hq:hs[Fv t hs n]? with
 | none=>rfl
 | some z =>
  show decide (gp t z.Ae - gp t n=0)=decide (z.Ae=n);rw [dK];have hz:=A9.1 (hser z (cg hq));exact ⟨fun h=>Aw7 (t:=t) hz hn EZ,fun h=>by rw [h];omega⟩
theorem Bf8 (h:Iz) (n t:Int) (gb g o:Nat) (v1 v2 v3 v4 v5:Value) (t0:0<=t) (t1:t<=65535) (n0:0<=n) (n1:n<=65535) (m0:0<=h.Ae) (m1:h.Ae<=65535) :
  FV 370 [.agg #[aa h.Ae,aa h.Co],aa n,Ga gb 0 0] [.cel gb 0 [Ga g o 0],.cel g o [aa t,v1,v2,v3,v4,v5]] (aa (gp t h.Ae - gp t n)):=by
 have b1:=Le t h.Ae;have b2:=Le t n;refine enter func370 rfl ntmps370 fun w0=>?_;refine go ?_;intros;refine Ar [0,1,2] [] ?_;refine Df 0 1 2 3 ?_;refine Df 4 5 6 8 ?_;refine Df 9 10 11 12 ?_;refine dt 13 ?_;refine dN 7 ?_;refine oC ?_;refine ce (fun w s=>O6 _ _ _ EZ EZ EZ EZ) ?_;refine dk ?_;refine dN 14 ?_;refine oC ?_;refine ce (fun w s=>O6 _ _ _ EZ EZ EZ EZ) ?_;refine dk ?_;refine Dh 15 16 ?_;exact CI
theorem Apo (W:Aw) (hs:List Iz) (n:Int) (g t o:Nat) (A B:am) (a a2:aj) (c c2:Nat) (cl q:Int) (F2:aq) (t0:0<=W.Am) (t1:W.Am<=65535) (n0:0<=n) (n1:n<=65535) (hser:∀h∈hs,Bz h.Ae=true) (hsr:srt W.Am hs) (hl:hs.length<=1000000) :
  Fn prog 353 [Ga g o 0,aa n] [] [.row g t o A [aa W.Am,aa W.size,ab a W.Ak.length c,aa cl,aa q,ab a2 hs.length c2] B,.ow Bw 191 (ab a2 hs.length c2) hs F2] (fun (_:Unit)=>True) (fun _=>.tuple #[aa (Fv W.Am hs n:Nat),.bool (Of W.Am hs n)]) (fun _=>[.row g t o A [aa W.Am,aa W.size,ab a W.Ak.length c,aa cl,aa q,ab a2 hs.length c2] B,.ow Bw 191 (ab a2 hs.length c2) hs F2]):=by
 have hs1:=Avb (t:=W.Am) hser ⟨n0,n1⟩;refine enter func353 rfl ntmps353 fun w0=>?_;refine go ?_;intros;rename_i gb;refine cb (fun w st=>by
  have r1:=st.get (p:=.row gb 280 0 [] [Ga g o 0] []) FB;have r2:=st.get (p:=.row g t o A [aa W.Am,aa W.size,ab a W.Ak.length c,aa cl,aa q,ab a2 hs.length c2] B) FB;obtain ⟨Fw, -,hw⟩:=(st.get (p:=.ow Bw 191 (ab a2 hs.length c2) hs F2) FB).2.read
  refine (Apb 370 [Ga gb 0 0] [.cel gb 0 [Ga g o 0],.cel g o [aa W.Am,aa W.size,ab a W.Ak.length c,aa cl,aa q,ab a2 hs.length c2]] rfl hs a2 c2 Fw (aa n) (fun h=>gp W.Am h.Ae - gp W.Am n) (fun i j hij hj h=>?_) FC hl fun x hx w' hA=>?_).val w ?_
  ·rcases bc hij with h2|rfl
   ·have:=bh.1 hsr i j EZ hj h2;omega
   ·exact h
  ·obtain ⟨m0,m1⟩:=A9.1 (hser x hx);exact (Bf8 x n W.Am gb g o _ _ _ _ _ t0 t1 n0 n1 m0 m1).val w' hA
  ·intro p hp;simp only [aH,aT,bm] at hp;rcases hp with rfl|rfl|rfl
   ·exact ⟨FA,hw⟩
   ·exact ⟨FB,If r1⟩
   ·exact ⟨FB,If r2⟩) ?_
 rw [hs1.2];rw [hs1.1];exact AA
structure ReS where
 a:aj
 c:Nat
 a2:aj
 c2:Nat
 F:aq
 ae:aj
 ce:Nat
 Fe:aq
theorem Afg (W:Aw) (hs:List Iz) (p:As) (g t o:Nat) (A B:am) (a a2:aj) (c c2:Nat) (cl q:Int) (F F2:aq) (hg:Ck ⟨W,cl,q,hs⟩=true) (n0:0<=p.Ae) (n1:p.Ae<=65535) (hps:p.data.size<=maxLen) :
  Fn prog 318 [Ga g o 0,.agg #[aa p.Cq,aa p.Ae,aa p.Am,aa p.E7,af p.data]] [] [.row g t o A [aa W.Am,aa W.size,ab a W.Ak.length c,aa cl,aa q,ab a2 hs.length c2] B,.ow Bw 191 (ab a2 hs.length c2) hs F2,.ow A8 9 (ab a W.Ak.length c) W.Ak F] (fun (_:ReS)=>True)
   (fun z=>.slice z.ae (Nk ⟨W,cl,q,hs⟩ p).length z.ce) (fun z=>[.row g t o A [aa W.Am,aa W.size,ab a W.Ak.length c,aa cl,aa q,.slice z.a2 (Me ⟨W,cl,q,hs⟩ p.Ae).holds.length z.c2] B,.ow Bw 191 (.slice z.a2 (Me ⟨W,cl,q,hs⟩ p.Ae).holds.length z.c2) (Me ⟨W,cl,q,hs⟩ p.Ae).holds z.F,.ow A8 9 (ab a W.Ak.length c) W.Ak F,.ow An 141 (.slice z.ae (Nk ⟨W,cl,q,hs⟩ p).length z.ce) (Nk ⟨W,cl,q,hs⟩ p) z.Fe]):=by
 obtain ⟨gw,hl,t0,t1,k0,k1,hm,hn,hu,hbb⟩:=J3 hg;have hsr:=(En.1 hg).2.2.2.2;dsimp only at gw hl t0 t1 k0 k1 hm hn hu hbb hsr;have hl2:hs.length<=1000000:=EZ
 have hW:D8 W=true:=gw;refine enter func318 rfl ntmps318 fun w0=>?_;cases hb:I5 W p.Ae
 ·have e1:Me ⟨W,cl,q,hs⟩ p.Ae=⟨W,cl,q,hs⟩:=by unfold Me;dsimp only;rw [hb];rfl
  have e2:Nk ⟨W,cl,q,hs⟩ p=[Rm W]:=by unfold Nk;dsimp only;rw [hb];rfl
  rw [e1,e2];refine go ?_;intros;refine Ar [0,1] [] ?_;refine Df 0 1 2 3 ?_;refine Dh 4 5 ?_;refine dN 6 ?_;refine oC ?_;refine cb (fun w st=>by obtain ⟨Fw, -,hw⟩:=(st.get (p:=.ow A8 9 (ab a W.Ak.length c) W.Ak F) FB).2.read;exact (W8 W p.Ae (.agg #[aa W.Am,aa W.size,ab a W.Ak.length c]) Fw t0 t1 n0 n1).val w (Iw ⟨_,rfl,_,rfl,hw⟩)) ?_;rw [hb];refine dk ?_;refine dt 7 ?_;refine dd ?_;refine go ?_;refine Bf (Aon W.Am W.size a W.Ak.length c t0 t1 EZ) fun _ _=>?_;refine go ?_;intros
  refine Eh (xs:=[Rm W]) (Dd _ GZ) ?_ FB;refine ret ⟨a,c,a2,c2,F2,_,_,_⟩ trivial rfl
 refine go ?_;intros;refine Ar [0,1] [] ?_;refine Df 0 1 2 3 ?_;refine Dh 4 5 ?_;refine dN 6 ?_;refine oC ?_;refine cb (fun w st=>by obtain ⟨Fw, -,hw⟩:=(st.get (p:=.ow A8 9 (ab a W.Ak.length c) W.Ak F) FB).2.read;exact (W8 W p.Ae (.agg #[aa W.Am,aa W.size,ab a W.Ak.length c]) Fw t0 t1 n0 n1).val w (Iw ⟨_,rfl,_,rfl,hw⟩)) ?_;rw [hb];refine dk ?_;refine dt 7 ?_;refine dd ?_;refine go ?_;refine Ar [0,1] [] ?_;refine Df 0 1 2 3 ?_;refine Df 4 5 6 7 ?_;refine Dh 8 9 ?_;refine dt 10 ?_;refine dN 11 ?_;refine oC ?_;refine cb (fun w _=>In _ _ _ _ _ w t0 t1 EZ) ?_
 refine dk ?_;refine dt 12 ?_;refine dN 13 ?_;apply Iq;rfl;rfl;rfl;rfl;exact Ik;exact Ih;intro _;refine dk ?_;refine dt 14 ?_;refine dd ?_;refine Io ?_;intros;refine Eh (xs:=[Aar W p.Ae]) (Dd _ GZ) ?_ FB;refine go ?_;refine Bf (Apo W hs p.Ae g t o A B a a2 c c2 cl q F2 t0 t1 n0 n1 hn hsr hl2) fun _ _=>?_;cases ht:Of W.Am hs p.Ae
 ·have e1:Me ⟨W,cl,q,hs⟩ p.Ae=⟨W,cl,q,Ld hs (Fv W.Am hs p.Ae) ⟨p.Ae,cl+3⟩⟩:=by unfold Me;dsimp only;rw [hb,ht];rfl
  have e2:Nk ⟨W,cl,q,hs⟩ p=[Aar W p.Ae]++[(Dp W p).1]:=by unfold Nk;dsimp only;rw [hb,ht];rfl
  rw [e1,e2];refine go ?_;refine Ar [0,3] [18] ?_;refine Df 0 1 2 3 ?_;refine Df 4 5 6 7 ?_;refine Df 8 9 10 11 ?_;refine Dh 12 13 ?_;refine dN 14 ?_;apply Iq;rfl;rfl;rfl;rfl;exact Ik;exact Ih;intro _;refine dk ?_;refine dN 15 ?_;refine oC ?_;refine Bf (Ast hs ⟨p.Ae,cl+3⟩ (Fv W.Am hs p.Ae) a2 c2 _ F2 (X8 _ _ _) hl2) fun z _=>?_;refine dk ?_;refine Dh 16 17 ?_;refine dN 18 ?_;refine oS ?_;refine Nm ?_;refine dd ?_;refine go ?_;refine Ar [1,3] [] ?_;refine Df 0 1 2 3 ?_;refine dt 4 ?_;refine dM 5 9 ?_ ?_
  ·refine oC ?_;refine cb (fun w st=>by obtain ⟨Fw, -,hw⟩:=(st.get (p:=.ow A8 9 (ab a W.Ak.length c) W.Ak F) FB).2.read;exact (Ae9 W p (.agg #[aa W.Am,aa W.size,ab a W.Ak.length c]) Fw hps).val w (Iw ⟨_,rfl,_,rfl,hw⟩)) ?_;refine dk ?_;refine Dh 6 7 ?_;refine dt 8 ?_;refine dN 9 ?_;apply Cm;rfl;intro _;refine dk ?_;exact CH
  ·apply Cm;rfl;intro _;refine dk ?_;refine dN 5 ?_;refine oC ?_;refine cb (fun w st=>by obtain ⟨Fw, -,hw⟩:=(st.get (p:=.ow A8 9 (ab a W.Ak.length c) W.Ak F) FB).2.read;exact (Ae9 W p (.agg #[aa W.Am,aa W.size,ab a W.Ak.length c]) Fw hps).val w (Iw ⟨_,rfl,_,rfl,hw⟩)) ?_;refine dk ?_;refine Dh 6 7 ?_;refine dt 8 ?_;exact CH
 ·have e1:Me ⟨W,cl,q,hs⟩ p.Ae=⟨W,cl,q,hs⟩:=by unfold Me;dsimp only;rw [hb,ht];rfl
  have e2:Nk ⟨W,cl,q,hs⟩ p=[Aar W p.Ae]:=by unfold Nk;dsimp only;rw [hb,ht];rfl
  rw [e1,e2];refine go ?_;refine ret ⟨a,c,a2,c2,F2,_,_,_⟩ trivial rfl
theorem Bex (x:Cr) (n:Int):(Me x n).Aa=x.Aa:=by unfold Me;split <;> rfl
theorem Bev (x:Cr) (n:Int):(Me x n).Ai=x.Ai:=by unfold Me;split <;> rfl
theorem Bew (x:Cr) (n:Int):(Me x n).quiet=x.quiet:=by unfold Me;split <;> rfl
theorem Ar4 {n:Du} {i k:Nat} (hg:Lv n.Al.Ac) (hi:i < n.Al.Ac.length) (h0:i≠0) (h:Yu n i=k):n.Al.Ac[i]=((k:Nat):Int)/\k < i/\D5 n.Al.Ac ((k:Nat):Int)=false:=by
 have h1:=hg.p i hi EZ;have e:n.Al.Ac.getD i 0=n.Al.Ac[i]:=Pl hi 0;unfold Yu at h;rw [e] at h;have e2:n.Al.Ac[i]=((k:Nat):Int):=EZ
 refine ⟨e2,EZ,?_⟩;unfold D5;rw [<-e2,av (aB hi)];rfl
theorem Az8 (n:Du) (i:Nat) (p:As) (g:Nat) (a1:aj) (c1:Nat) (F1:aq) (a2:aj) (c2:Nat) (F2:aq) (a3:aj) (c3:Nat) (F3:aq) (a4:aj) (c4:Nat) (F4:aq) (a5:aj) (c5:Nat) (F5:aq) (a6:aj) (c6:Nat) (F6:aq) (a7:aj) (c7:Nat) (F7:aq) (hl:Lj n=true) (h0:i≠0) (hi:i < n.Al.Ac.length) (h8:Lv n.Al.Ac) (hsrc:Ck n.Ab=true) (he:∀k,k≠0->k < n.Al.Ac.length->D5 n.Al.Ac (k:Nat)=false->Ba (Pk n k)=true) (hp:Bo p=true) (hps:p.data.size<=maxLen) :
  Fn prog 266 [Ga g 0 0,aa (i:Nat),.agg #[aa (p).Cq,aa (p).Ae,aa (p).Am,aa (p).E7,af (p).data]] [] [.row g 37 0 [] [ab a1 n.Al.Ac.length c1,aa n.Ab.Aa.Am,aa n.Ab.Aa.size,ab a2 n.Ab.Aa.Ak.length c2,aa n.Ab.Ai,aa n.Ab.quiet,ab a3 n.Ab.holds.length c3,ab a4 n.Af.length c4,ab a5 n.Ad.length c5,ab a6 n.down.length c6,ab a7 n.up.length c7] [],.ow Bc 3 (ab a1 n.Al.Ac.length c1) n.Al.Ac F1,.ow A8 9 (ab a2 n.Ab.Aa.Ak.length c2) n.Ab.Aa.Ak F2,.ow Bw 191 (ab a3 n.Ab.holds.length c3) n.Ab.holds F3,.ow Ce 122 (ab a4 n.Af.length c4) n.Af F4,.ow B9 76 (ab a5 n.Ad.length c5) n.Ad F5,.ow (Ki An 141) 125 (ab a6 n.down.length c6) n.down F6,.ow (Ki An 141) 125 (ab a7 n.up.length c7) n.up F7] (fun (_:NV)=>True) (fun _=>.tuple #[]) (fun z=>[.row g 37 0 [] [ab z.a1 n.Al.Ac.length z.c1,aa (P4 n i p).Ab.Aa.Am,aa (P4 n i p).Ab.Aa.size,.slice z.a2 (P4 n i p).Ab.Aa.Ak.length z.c2,aa (P4 n i p).Ab.Ai,aa (P4 n i p).Ab.quiet,.slice z.a3 (P4 n i p).Ab.holds.length z.c3,ab z.a4 n.Af.length z.c4,ab z.a5 n.Ad.length z.c5,ab z.a6 n.down.length z.c6,ab z.a7 n.up.length z.c7] [],.ow Bc 3 (ab z.a1 n.Al.Ac.length z.c1) (P4 n i p).Al.Ac z.F1,.ow A8 9 (.slice z.a2 (P4 n i p).Ab.Aa.Ak.length z.c2) (P4 n i p).Ab.Aa.Ak z.F2,.ow Bw 191 (.slice z.a3 (P4 n i p).Ab.holds.length z.c3) (P4 n i p).Ab.holds z.F3,.ow Ce 122 (ab z.a4 n.Af.length z.c4) (P4 n i p).Af z.F4,.ow B9 76 (ab z.a5 n.Ad.length z.c5) (P4 n i p).Ad z.F5,.ow (Ki An 141) 125 (ab z.a6 n.down.length z.c6) (P4 n i p).down z.F6,.ow (Ki An 141) 125 (ab z.a7 n.up.length z.c7) (P4 n i p).up z.F7]):=by
 obtain ⟨q1,q2,q3,q4⟩:=Bg.1 hl;have hn8:=h8.n1;obtain ⟨n0,n1⟩:=Kn hp;have hone:∀x∈[((i:Nat):Int)],0<=x/\x.toNat < n.down.length:=fun x hx=>by
  rw [aM] at hx;subst hx;omega
 obtain ⟨k,hk⟩:∃k,Yu n i=k:=⟨_,rfl⟩;obtain ⟨e1,e2,e3⟩:=Ar4 h8 hi h0 hk;refine enter func266 rfl ntmps266 fun w0=>?_;refine Rf (xs:=n.Al.Ac) (m:=1) Ek i ?_ FE rfl hi;rintro _ gp A0 cs B0 rfl rfl hr hH;obtain ⟨rfl, -⟩:=hr w0;rw [e1];refine go ?_;intros;refine Pz ((k:Nat):Int) hH (fun w=>⟨rfl,rfl⟩) ?_;rw [show n.Al.Ac.set i ((k:Nat):Int)=n.Al.Ac by rw [<-e1,bx]];refine A4 rfl (fun h5=>?_) (fun h5=>?_)
 ·obtain rfl:k=0:=EZ
  rw [show P4 n i p=⟨n.Al,Me n.Ab p.Ae,n.Af,n.Ad,Dr n.down [((i:Nat):Int)] (Nk n.Ab p),n.up⟩ by unfold P4;rw [aJ hk]];dsimp only;rw [Bex,Bev,Bew];refine go ?_;refine Ash [ab (some ⟨gp,0,none⟩) n.Al.Ac.length c1] [aa n.Ab.Aa.Am,aa n.Ab.Aa.size,ab a2 n.Ab.Aa.Ak.length c2,aa n.Ab.Ai,aa n.Ab.quiet,ab a3 n.Ab.holds.length c3] [ab a4 n.Af.length c4,ab a5 n.Ad.length c5,ab a6 n.down.length c6,ab a7 n.up.length c7] ?_;refine Ar [2] [] ?_;refine Df 0 1 3 4 ?_;refine Dh 5 6 ?_;refine dM 2 7 ?_ ?_
  ·apply Iq;rfl;rfl;rfl;rfl;exact Ik;exact Ih;intro _;refine Eh (E:=Bc) (xs:=[((i:Nat):Int)]) (N7 _) ?_ FB;refine Av (E:=Bc) (xs:=[((i:Nat):Int)]) fun Fo=>?_;refine dk ?_;refine dN 7 ?_;refine oC ?_;refine Bf (Afg n.Ab.Aa n.Ab.holds p g 37 (0+1) _ _ a2 a3 c2 c3 n.Ab.Ai n.Ab.quiet F2 F3 hsrc n0 n1 hps) fun z _=>?_
   refine Ahi [ab (some ⟨gp,0,none⟩) n.Al.Ac.length c1] [aa n.Ab.Aa.Am,aa n.Ab.Aa.size,ab a2 n.Ab.Aa.Ak.length c2,aa n.Ab.Ai,aa n.Ab.quiet,.slice z.a2 (Me n.Ab p.Ae).holds.length z.c2] [ab a4 n.Af.length c4,ab a5 n.Ad.length c5,ab a6 n.down.length c6,ab a7 n.up.length c7] ?_;refine Av (E:=An) (xs:=Nk n.Ab p) fun Fq=>?_;refine dk ?_;refine dN 8 ?_;refine oC ?_;refine Bf (Zn n.down [((i:Nat):Int)] (Nk n.Ab p) g _ _ _ _ _ _ _ _ _ _ a6 _ c6 F6 _ _ Fo _ _ Fq rfl hone) fun J6 _=>?_;refine dk ?_;refine dd ?_;refine go ?_
   exact EW
  ·refine oC ?_;refine Bf (Afg n.Ab.Aa n.Ab.holds p g 37 (0+1) _ _ a2 a3 c2 c3 n.Ab.Ai n.Ab.quiet F2 F3 hsrc n0 n1 hps) fun z _=>?_;refine Ahi [ab (some ⟨gp,0,none⟩) n.Al.Ac.length c1] [aa n.Ab.Aa.Am,aa n.Ab.Aa.size,ab a2 n.Ab.Aa.Ak.length c2,aa n.Ab.Ai,aa n.Ab.quiet,.slice z.a2 (Me n.Ab p.Ae).holds.length z.c2] [ab a4 n.Af.length c4,ab a5 n.Ad.length c5,ab a6 n.down.length c6,ab a7 n.up.length c7] ?_;refine Av (E:=An) (xs:=Nk n.Ab p) fun Fq=>?_;refine dk ?_;refine dN 2 ?_;apply Iq;rfl;rfl;rfl;rfl;exact Ik;exact Ih;intro _
   refine Eh (E:=Bc) (xs:=[((i:Nat):Int)]) (N7 _) ?_ FB;refine Av (E:=Bc) (xs:=[((i:Nat):Int)]) fun Fo=>?_;refine dk ?_;refine dN 8 ?_;refine oC ?_;refine Bf (Zn n.down [((i:Nat):Int)] (Nk n.Ab p) g _ _ _ _ _ _ _ _ _ _ a6 _ c6 F6 _ _ Fo _ _ Fq rfl hone) fun J6 _=>?_;refine dk ?_;refine dd ?_;refine go ?_;exact EW
 have h6:k≠0:=EZ
 have hkl:k < n.Af.length:=EZ
 have hku:k < n.up.length:=EZ
 have hge:Ba n.Af[k]=true:=Jq hkl▸he k h6 EZ e3;have hel:=(Hb.1 hge).2.1;obtain ⟨hc0,hc1⟩:=Mb.1 (Hb.1 hge).1;rw [show P4 n i p=⟨n.Al,n.Ab,n.Af.set k (Nj n.Af[k] p.Ae ((i:Nat):Int)),n.Ad,Dr n.down [((i:Nat):Int)] [Zl p],if Acb n.Af[k] p.Ae then n.up.modify k fun q=>Hg q [p] else n.up⟩ by unfold P4;rw [aC EZ,hk,Jq hkl]];refine go ?_;refine Aca (xs:=n.Af) (m:=2) k ?_ rfl hkl;rintro _ g5 A5 cs B5 k1 k2 J1 Ji J2 rfl - hc5 hH5;refine H2 ?_;rintro b1 d1 G1 ev l1;obtain rfl:=Pw ev;refine Ar [5,6] [] ?_;refine Df 0 1 2 3 ?_;refine Df 4 5 6 7 ?_;refine dt 8 ?_;refine dN 9 ?_
 refine oC ?_;refine Bf (Ao8 n.Af[k] p.Ae ((i:Nat):Int) g5 122 (0+k * 2) A5 B5 b1 d1 G1 EZ (fun x hx=>⟨by have:=O5 hge hx;omega,Amu hge hx⟩) EZ EZ) fun s _=>?_;refine dk ?_;refine dt 10 ?_;refine dd ?_;refine Gw (Nj n.Af[k] p.Ae ((i:Nat):Int)) ?_;refine V0 _ hH5 rfl fun J5=>?_;refine Io ?_;intros;refine Eh (E:=Bc) (xs:=[((i:Nat):Int)]) (N7 _) ?_ FB;refine Av (E:=Bc) (xs:=[((i:Nat):Int)]) fun Fo=>?_;refine Eh (E:=An) (xs:=[Zl p]) (Dd (Zl p) (aG _)) ?_ FB;refine Av (E:=An) (xs:=[Zl p]) fun Fp=>?_;refine go ?_
 refine Bf (Zn n.down [((i:Nat):Int)] [Zl p] g _ _ _ _ _ _ _ _ _ _ a6 _ c6 F6 _ _ Fo _ _ Fp rfl hone) fun J6 _=>?_;cases hf:Acb n.Af[k] p.Ae
 ·rw [aC FA];refine go ?_;refine Vz ?_;refine ret (⟨some ⟨gp,0,none⟩,c1,[gp],a2,c2,F2,a3,c3,F3,_,c4,J5,a5,c5,F5,a6,c6,J6,a7,c7,F7⟩:NV) trivial rfl
 ·rw [aJ rfl,show (n.up.modify k fun q=>Hg q [p])=n.up.set k (Uz n.up[k] p) by rw [H8 hku,Ayo]];refine go ?_;refine Ar [0,6] [] ?_;refine Df 0 1 2 3 ?_;refine Dh 4 5 ?_;refine dN 6 ?_;refine oC ?_;refine Bf (Acw n.up k p a7 _ c7 F7 rfl hku hps) fun J7 _=>?_;refine dk ?_;refine dd ?_;refine go ?_;refine Vz ?_;refine ret (⟨some ⟨gp,0,none⟩,c1,[gp],a2,c2,F2,a3,c3,F3,_,c4,J5,a5,c5,F5,a6,c6,J6,a7,c7,J7⟩:NV) trivial rfl
def Axx (es:List Ha) (ck:Int):List Ha:=es.filter fun x=>!decide (x.Co<=ck)
theorem Aww (x:Ha) (ck:Int) (gb g o:Nat) (u q:Value) (G:aq):FV 311 [u,Ga gb 0 0] [.isv Dz u x G,.cel gb 0 [Ga g o 0],.cel g o [aa ck,q]] (.bool (decide (x.Co<=ck))):=by
 refine enter func311 rfl ntmps311 fun w0=>?_;refine Ajo ?_;rintro a1 c1 F1 rfl l1;refine go ?_;intros;refine Ar [0,3,4] [] ?_;refine Df 0 1 2 3 ?_;refine Df 4 5 6 7 ?_;exact CI
theorem Awx (es:List Ha) (ck:Int) (gb tb g t o:Nat) (A B:am) (a:aj) (c:Nat) (F:aq) :
  Fn prog 310 [ab a es.length c,.func (.func 311) #[] #[Ga gb 0 0]] [] [.ow Et 193 (ab a es.length c) es F,.row gb tb 0 [] [Ga g o 0] [],.row g t o A [aa ck,ab a es.length c] B] (fun (_:aj × Nat × aq)=>True)
   (fun z=>.slice z.1 (Axx es ck).length z.2.1) (fun z=>[.ow Et 193 (.slice z.1 (Axx es ck).length z.2.1) (Axx es ck) z.2.2,.row gb tb 0 [] [Ga g o 0] [],.row g t o A [aa ck,ab a es.length c] B]):=by
 refine Apq rfl fun w ⟨hnd,ho⟩ _ hk=>?_;refine (Abw _ (Vc FC) #[Ga gb 0 0] _ es F (fun x=>decide (x.Co<=ck)) w ho hnd fun k hk2 wr u G hK hu=>?_).mono ?_
 ·have hr:=hk wr hK;have r1:=hr (.row gb tb 0 [] [Ga g o 0] []) FB;have r2:=hr (.row g t o A [aa ck,ab a es.length c] B) FB;refine (Aww es[k] ck gb g o u (ab a es.length c) G).val wr ?_;intro p hp;simp only [aH,aT,bm] at hp;rcases hp with rfl|rfl|rfl
  ·exact hu
  ·exact ⟨FB,If r1⟩
  ·exact ⟨FB,If r2⟩
 ·rintro e w' ⟨v',F',rfl,h1,h2,h3,h4⟩;exact CQ
theorem Bap (e:Bh) (g t o:Nat) (A B:am) (a:aj) (c:Nat) (F:aq) (h0:-1000000<=e.Ai) (h1:e.Ai<=1000000) :
  Fn prog 260 [Ga g o 0] [] [.row g t o A [aa e.Ai,ab a e.Ah.length c] B,.ow Et 193 (ab a e.Ah.length c) e.Ah F] (fun (_:aj × Nat × aq)=>True)
   (fun _=>.tuple #[]) (fun z=>[.row g t o A [aa (Eo e).Ai,.slice z.1 (Eo e).Ah.length z.2.1] B,.ow Et 193 (.slice z.1 (Eo e).Ah.length z.2.1) (Eo e).Ah z.2.2]):=by
 refine enter func260 rfl ntmps260 fun w0=>?_;refine go ?_;intros;refine Ar [0,1] [9] ?_;refine Df 0 1 2 3 ?_;refine Dh 4 5 ?_;refine dN 6 ?_;refine oC ?_;refine Bf (Awx e.Ah (e.Ai+1) _ _ g t o A B a c F) fun z _=>?_;refine dk ?_;refine Dh 7 8 ?_;refine dN 9 ?_;refine oS ?_;refine Nm ?_;refine dd ?_;refine Vz ?_;exact BL
theorem Apu {e:Bh} (h:Ba e=true) (hc:e.Ai < 9999):Ba (Eo e)=true:=by
 obtain ⟨h1,h2,h3,h4⟩:=Hb.1 h;have h5:=Mb.1 h1;unfold Eo;refine Hb.2 ⟨Mb.2 ⟨by show 0<=e.Ai+1;omega,by show e.Ai+1<=9999;omega⟩,bG (bJ _ _) h2,fun x hx=>?_,h4.filter _⟩;obtain ⟨hx1,hx2⟩:=bP.1 hx;obtain ⟨a,b,c,d,f⟩:=O8.1 (h3 x hx1);simp only [bA,bQ] at hx2;exact O8.2 ⟨a,b,c,by show e.Ai+1+1<=x.Co;omega,by show x.Co<=e.Ai+1+6;omega⟩
theorem Auo {k n t l:Int} {s:au} (hk:1<=k/\k<=5) (hn:Bz n=true) (ht:Bz t=true) (hl:Bz l=true) (hg:gp t l<=32767) (hs:Pe s=true) (he:s=⟨#[]⟩\/k<=2):Bo ⟨k,n,t,l,s⟩=true:=by
 unfold Bo E8;simp only [aw,bZ,aF];refine ⟨⟨⟨⟨⟨⟨hk,hn⟩,ht⟩,hl⟩,hs⟩,hg⟩,?_⟩;rcases he with h|h
 ·exact .inl (.inl h)
 ·by_cases h1:k=1
  ·exact .inl (.inr h1)
  ·exact .inr EZ
theorem Aez:Pe ⟨#[]⟩=true:=by decide
theorem Ak4 {x:Aw} (h:D8 x=true):Bz x.Am=true/\Bz (Li x)=true/\gp x.Am (Li x)<=32767:=by
 obtain ⟨⟨t0,t1⟩,⟨s0,s1⟩,hl, -⟩:=Ds.1 h;refine ⟨A9.2 ⟨t0,t1⟩,Pf _ _,?_⟩;unfold Li gp Cc;omega
theorem Aj3 {x:Aw} (h:D8 x=true):Bo (Rm x)=true:=by
 obtain ⟨a,b,c⟩:=Ak4 h;exact Auo FA a a b c Aez (.inl rfl)
theorem Aq1 {x:Aw} {q:Int} (h:D8 x=true):∀p∈Ng x q,Bo p=true:=fun p hp=>by
 unfold Ng at hp
 split at hp
 ·simp at hp
 ·rw [aM] at hp;subst hp;exact Aj3 h
theorem Awe {x:Aw} {n:Int} (h:D8 x=true) (hn:Bz n=true) (hh:I5 x n=true):Bo (Amd x n)=true:=by
 obtain ⟨a,b,c⟩:=Ak4 h;have hi:=(Ds.1 h).2.2.2;have hl:=Aa0 hh;exact Auo FA hn a b c (by rw [Uo hl];exact aW.1 hi _ (aB hl)) (.inr FA)
theorem Aii {x:Aw} {n:Int} (h:D8 x=true) (hn:Bz n=true):Bo (Aar x n)=true:=by
 obtain ⟨a,b,c⟩:=Ak4 h;exact Auo FA hn a b c Aez (.inl rfl)
theorem Au2 {x:Cr} {p:As} (h:D8 x.Aa=true) (hp:Bo p=true) (hk:p.Cq=3):∀r∈Nk x p,Bo r=true:=fun r hr=>by
 have hn:=A9.2 (Kn hp);unfold Nk at hr
 split at hr
 ·rename_i hh
  split at hr
  ·rw [aM] at hr;subst hr;exact Aii h hn
  ·simp only [aH,aT,bm] at hr;rcases hr with rfl|rfl
   ·exact Aii h hn
   ·rw [show Dp x.Aa p=(Amd x.Aa p.Ae,true) by unfold Dp J8;rw [h,hp,hh,av hk];rfl];exact Awe h hn hh
 ·rw [aM] at hr;subst hr;exact Aj3 h
theorem Auu {x:Aw} {s:au} (h:D8 x=true) (hs:Pe s=true):Bo (Dw x s)=true:=by
 obtain ⟨⟨t0,t1⟩,⟨s0,s1⟩,hl, -⟩:=Ds.1 h;have hr:=Ql t0 t1;have hrl:(De x).Ak.length<=6:=by
  unfold De
  split
  ·show (x.Ak.drop 1).length<=6;rw [aX];omega
  ·omega
 refine Auo FA (Pf _ _) (A9.2 hr) (Pf _ _) ?_ hs (.inr FA);unfold gp Cc;omega
theorem Awp {p:As} (h:Bo p=true):Bo (Zl p)=true:=by
 unfold Bo at h;simp only [aw,aF] at h;exact Auo FA h.1.1.1.1.1.2 h.1.1.1.1.2 h.1.1.1.2 h.1.2 Aez (.inl rfl)
theorem Aea {r:A1} (h:Lu r):∀p∈E9 r,Bo p=true/\p.Cq=3:=fun p hp=>by
 unfold E9 at hp;obtain ⟨k,hk,rfl⟩:=bL.1 hp;obtain ⟨q,hq,hs⟩:=ed.1 hk;obtain ⟨-, -,q2, -⟩:=Dj.1 h.q;have hn:=(Er.1 (q2 q hq)).n;have hw:=Rt h.w;have e:k=q.Ae:=by
  unfold P3 at hs
  split at hs
  ·cases hs
  ·split at hs
   ·cases hs
   ·split at hs
    ·exact (Option.some.inj hs).symm
    ·cases hs
 subst e;have hx:=A9.2 ⟨hw.n0,hw.n1⟩;exact ⟨Auo FA hn hx hx (by unfold gp;omega) Aez (.inl rfl),rfl⟩
theorem GN.ck {ck ck':Nat->Int} {n:Du} (h:GN ck n) (he:∀i,i≠0->i < n.Al.Ac.length->ck i=ck' i):GN ck' n:=by
 obtain ⟨q1,q2,q3,q4⟩:=Bg.1 h.l;refine .mk' h.t h.s h.l fun i h1 h2 h3 h4=>?_;have r:=Ny.1 (h.a i h1 h2 h3 h4);exact ⟨r.hd,r.hu,r.hk,r.hz,fun e0 l=>by rw [<-he i e0 EZ];exact r.hf e0 l,fun e0 l=>by rw [<-he i e0 EZ];exact r.hn e0 l⟩
theorem Aex {l:ar} (hg:Lv l) (i:Nat):∀x∈Ij l ((i:Nat):Int),x.toNat≠0:=fun x hx=>by have:=Lh hg hx;omega
theorem Aqz {ck:Nat->Int} {n:Du} {i:Nat} (h:GN ck n) (h0:i≠0) (hi:i < n.Al.Ac.length) (hc:ck i < 9999):GN (Aeq ck i (ck i+1)) (Nf n i).1:=by
 obtain ⟨h1,h2,h3,h4,r⟩:=h.rn hi;obtain ⟨d0,d1⟩:1<=M0 i/\M0 i<=8:=by unfold M0;omega
 unfold Nf;cases hl:D5 n.Al.Ac ((i:Nat):Int)
 ·rw [aC FA];obtain ⟨he,e2,e3⟩:=r.hn h0 hl;have e:Pk n i=n.Af[i]:=by unfold Pk;rw [bn,aD h1];rfl
  have:=h.el h0 hl (Apu (e:=n.Af[i]) he EZ);rw [show (Eo n.Af[i]).Ai=ck i+1 by rw [<-e2];rfl] at this;rw [e];exact this
 ·rw [aJ rfl];obtain ⟨he,e2,e3⟩:=r.hf h0 hl;have e:Px n i=n.Ad[i]:=by unfold Px;rw [bn,aD h2];rfl
  have hg:=Ej.1 e2;have ht:=Avi hg EZ d0 d1;have:=h.rc h0 hl (Ej.2 ht);rw [show (C1 n.Ad[i] (M0 i)).Ai=ck i+1 by unfold C1;split <;> (show n.Ad[i].Ai+1=_;rw [e3])] at this;rw [e];exact this.un i _ (fun e=>absurd e h0) fun q a b=>⟨Ac0 a fun p hp=>(Aea hg p hp).1,Ar6 b fun p hp=>(Aea hg p hp).2⟩
theorem Ahk (n:Du) (i:Nat):(Nf n i).1.Al=n.Al/\(Nf n i).1.Ab=n.Ab:=by unfold Nf;split <;> exact ⟨rfl,rfl⟩
def ckT (c:Int) (k:Nat):Nat->Int:=fun j=>if j<=k then c+1 else c
theorem Pa {n:Du} (hg:At n=true) (hc:n.Ab.Ai < 9999):∀k,k+1<=n.Al.Ac.length->GN (ckT n.Ab.Ai k) (Bd n k).1/\(Bd n k).1.Al=n.Al/\(Bd n k).1.Ab=My n.Ab
 | 0,_=>by
  have h:=Ax.1 hg;have ht:=Gf h.t;refine ⟨?_,rfl,rfl⟩;have h2:=((h.src (Atp h.s hc)).sp (Aq1 (q:=n.Ab.quiet) (En.1 h.s).1) (Aex ht 0)).ck (ck':=ckT n.Ab.Ai 0) fun i h0 _=>by unfold ckT;rw [aC EZ]
  exact h2
 | k+1,hk=>by
  obtain ⟨h1,h2,h3⟩:=Pa hg hc k EZ;obtain ⟨t1,t2⟩:=Ahk (Bd n k).1 (k+1);have e:ckT n.Ab.Ai k (k+1)=n.Ab.Ai:=by unfold ckT;rw [aC EZ]
  have:=Aqz h1 (i:=k+1) EZ (by rw [h2];omega) (by rw [e];exact hc);refine ⟨this.ck fun i h0 hi=>?_,t1.trans h2,t2.trans h3⟩;rw [e];unfold Aeq ckT;by_cases c1:i=k+1
  ·rw [aJ c1,aJ EZ]
  ·rw [aC c1];by_cases c2:i<=k
   ·rw [aJ c2,aJ EZ]
   ·rw [aC c2,aC EZ]
theorem Aq0 {n:Du} (hg:At n=true) (hc:n.Ab.Ai < 9999):At (Gh n).1=true:=by
 have h:=Ax.1 hg;have ht:=Gf h.t;have:=ht.n0;obtain ⟨h1,h2,h3⟩:=Pa hg hc (n.Al.Ac.length - 1) EZ;refine Ax.2 ?_;show GN (fun _=>(Bd n (n.Al.Ac.length - 1)).1.Ab.Ai) _;rw [h3];exact h1.ck fun i h0 hi=>by rw [h2] at hi;unfold ckT;rw [aJ EZ];rfl
theorem Ay2 {g t o k:Nat} {A B X cs Y:am} (hk:X.length=k) {w:World}:(Pc.row g t (o+k) (A++X) cs (Y++B)).P w↔(Pc.row g t o A (X++cs++Y) B).P w:=by
 show ((A++X).length=o+k/\Ib w g t (A++X++cs++(Y++B)))↔(A.length=o/\Ib w g t (A++(X++cs++Y)++B));rw [aA,hk];have e:A++X++cs++(Y++B)=A++(X++cs++Y)++B:=HB
 rw [e];exact ⟨fun h=>⟨EZ,h.2⟩,fun h=>⟨EZ,h.2⟩⟩
theorem Aw9 {p q:Pc} {R:List Pc} {w:World} (h:p.P w->q.P w) (hH:Ob (p::R) w):Ob (q::R) w:=fun x hx=>by
 rcases aH.1 hx with rfl|hx
 ·exact h (hH p FB)
 ·exact hH x IE
theorem Azc {p q:Pc} {R:List Pc} (hm:p.mu=q.mu) (hF:p.F=q.F) (hS:Sc (p::R)):Sc (q::R):=⟨fun x hx hmu b hb=>hS.1 x hx (by rw [hm];exact hmu) b (by rw [hF];exact hb),hS.2⟩
theorem Aw3 {P:Program} {f:FuncId} {args:am} {A M':List Pc} {g t o k:Nat} {A' B X cs Y L:am} {σ:Type} {C:σ->Prop} {v:σ->Value} {cs' L':σ->am} {N':σ->List Pc}
  (h:Fn P f args A (.row g t (o+k) (A'++X) cs (Y++B)::M') C v (fun s=>.row g t (o+k) (A'++X) (cs' s) (Y++B)::N' s)) (hk:X.length=k) (hL:L=X++cs++Y) (hL':∀s,L' s=X++cs' s++Y) :
  Fn P f args A (.row g t o A' L B::M') C v (fun s=>.row g t o A' (L' s) B::N' s):=fun w hH hS=>by
 subst hL;refine (h w (Aw9 (Ay2 hk).2 hH) (Azc rfl rfl hS)).mono ?_;rintro e w' ⟨s,hC,he,h1,h2,h3,h4⟩;refine ⟨s,hC,he,?_,Azc rfl rfl h2,?_,?_⟩
 ·show Ob (.row g t o A' (L' s) B::N' s) w';rw [hL' s];exact Aw9 (Ay2 hk).1 h1
 ·simpa [fp,Pc.mu,Pc.F] using h3
 ·intro p hp b hb;have hp':∃q∈(Pc.row g t (o+k) (A'++X) (cs' s) (Y++B)::N' s),q.mu=p.mu/\b∈q.F:=by
   rcases aH.1 hp with rfl|hp
   ·exact ⟨_,.head _,rfl,hb⟩
   ·exact ⟨p,.tail _ hp,rfl,hb⟩
  obtain ⟨q,hq,hm,hbq⟩:=hp';rcases h4 q hq b hbq with h|⟨x,hx,hbx⟩|⟨hm2,x,hx,hbx⟩
  ·exact .inl h
  ·refine .inr (.inl ?_);rcases aH.1 hx with rfl|hx
   ·exact ⟨_,.head _,hbx⟩
   ·exact ⟨x,.tail _ hx,hbx⟩
  ·exact .inr (.inr ⟨by rw [<-hm];exact hm2,x,hx,hbx⟩)
structure TkN where
 k:Nat
 z:NV
 a:aj
 c:Nat
 F:aq
theorem Bas (n:Du) (g:Nat) (a1:aj) (c1:Nat) (F1:aq) (a2:aj) (c2:Nat) (F2:aq) (a3:aj) (c3:Nat) (F3:aq) (a4:aj) (c4:Nat) (F4:aq) (a5:aj) (c5:Nat) (F5:aq) (a6:aj) (c6:Nat) (F6:aq) (a7:aj) (c7:Nat) (F7:aq) (FT:aq) (hg:At n=true) (hc:n.Ab.Ai < 9999) :
  Fn prog 192 [Ga g 0 0] [E4 FT] [.row g 37 0 [] [ab a1 n.Al.Ac.length c1,aa n.Ab.Aa.Am,aa n.Ab.Aa.size,ab a2 n.Ab.Aa.Ak.length c2,aa n.Ab.Ai,aa n.Ab.quiet,ab a3 n.Ab.holds.length c3,ab a4 n.Af.length c4,ab a5 n.Ad.length c5,ab a6 n.down.length c6,ab a7 n.up.length c7] [],.ow Bc 3 (ab a1 n.Al.Ac.length c1) n.Al.Ac F1,.ow A8 9 (ab a2 n.Ab.Aa.Ak.length c2) n.Ab.Aa.Ak F2,.ow Bw 191 (ab a3 n.Ab.holds.length c3) n.Ab.holds F3,.ow Ce 122 (ab a4 n.Af.length c4) n.Af F4,.ow B9 76 (ab a5 n.Ad.length c5) n.Ad F5,.ow (Ki An 141) 125 (ab a6 n.down.length c6) n.down F6,.ow (Ki An 141) 125 (ab a7 n.up.length c7) n.up F7] (fun (_:NV × KA)=>True) (fun z=>.slice z.2.a (Gh n).2.length z.2.c) (fun z=>[.row g 37 0 [] [ab z.1.a1 n.Al.Ac.length z.1.c1,aa (Gh n).1.Ab.Aa.Am,aa (Gh n).1.Ab.Aa.size,.slice z.1.a2 (Gh n).1.Ab.Aa.Ak.length z.1.c2,aa (Gh n).1.Ab.Ai,aa (Gh n).1.Ab.quiet,.slice z.1.a3 (Gh n).1.Ab.holds.length z.1.c3,ab z.1.a4 n.Af.length z.1.c4,ab z.1.a5 n.Ad.length z.1.c5,ab z.1.a6 n.down.length z.1.c6,ab z.1.a7 n.up.length z.1.c7] [],.ow Bc 3 (ab z.1.a1 n.Al.Ac.length z.1.c1) (Gh n).1.Al.Ac z.1.F1,.ow A8 9 (.slice z.1.a2 (Gh n).1.Ab.Aa.Ak.length z.1.c2) (Gh n).1.Ab.Aa.Ak z.1.F2,.ow Bw 191 (.slice z.1.a3 (Gh n).1.Ab.holds.length z.1.c3) (Gh n).1.Ab.holds z.1.F3,.ow Ce 122 (ab z.1.a4 n.Af.length z.1.c4) (Gh n).1.Af z.1.F4,.ow B9 76 (ab z.1.a5 n.Ad.length z.1.c5) (Gh n).1.Ad z.1.F5,.ow (Ki An 141) 125 (ab z.1.a6 n.down.length z.1.c6) (Gh n).1.down z.1.F6,.ow (Ki An 141) 125 (ab z.1.a7 n.up.length z.1.c7) (Gh n).1.up z.1.F7,.ow A8 9 (.slice z.2.a (Gh n).2.length z.2.c) (Gh n).2 z.2.F]):=by
 have hG:=Ax.1 hg;have h8:=Gf hG.t;have hn8:=h8.n1;have hn2:=h8.n0;obtain ⟨q1,q2,q3,q4⟩:=Bg.1 hG.l;have hS:=J3 hG.s;obtain ⟨hq0,hq3⟩:=Aoc hG.s;have hkl:=Ur n.Al.Ac 0;have hkx:∀x∈Ij n.Al.Ac 0,0<=x/\x.toNat < n.down.length:=fun x hx=>by have:=Lh (i:=0) h8 hx;omega
 refine enter func192 rfl ntmps192 fun w0=>?_;refine go ?_;refine dsI [.cel g 0 [ab a1 n.Al.Ac.length c1]] [] ?_;refine dtI 0 (fun w h=>Iw (H4 (h (.row g _ 0 [] _ []) FD))) ?_;refine dtI 1 (fun w h=>Iw (H4 (h (.row g _ 0 [] _ []) FD))) ?_;refine dtI 2 (fun w h=>Iw (H4 (h (.row g _ 0 [] _ []) FD))) ?_;refine dtI 3 (fun w h=>Iw (H4 (h (.row g _ 0 [] _ []) FD))) ?_;refine dtI 4 (fun w h=>Iw (H4 (h (.row g _ 0 [] _ []) FD))) ?_;refine dtI 6 (fun w h=>Iw (H4 (h (.row g _ 0 [] _ []) FD))) ?_
 refine dtI 7 (fun w h=>Iw (H4 (h (.row g _ 0 [] _ []) FD))) ?_;refine dtI 8 (fun w h=>Iw (H4 (h (.row g _ 0 [] _ []) FD))) ?_;refine dN 5 ?_;refine oC ?_;refine cfr (fun w st=>by obtain ⟨Fq,hq⟩:=Agw (st.get (p:=.ow Bc 3 (ab a1 n.Al.Ac.length c1) n.Al.Ac F1) FD);exact ⟨_,Iw hq,rfl,Zk n.Al 0 _ Fq JP⟩) (fun u _=>?_);refine Ot ?_;refine Av (E:=Bc) (xs:=Ij n.Al.Ac 0) fun Fk=>?_;refine dkI (fun w h=>Iw (H4 (h (.row g _ 0 [] _ []) FD))) ?_;refine dN 9 ?_;refine oC ?_
 refine Bf (Aw3 (X:=[ab a1 n.Al.Ac.length c1]) (cs:=[aa n.Ab.Aa.Am,aa n.Ab.Aa.size,ab a2 n.Ab.Aa.Ak.length c2,aa n.Ab.Ai,aa n.Ab.quiet,ab a3 n.Ab.holds.length c3]) (Y:=[ab a4 n.Af.length c4,ab a5 n.Ad.length c5,ab a6 n.down.length c6,ab a7 n.up.length c7]) (L:=[ab a1 n.Al.Ac.length c1,aa n.Ab.Aa.Am,aa n.Ab.Aa.size,ab a2 n.Ab.Aa.Ak.length c2,aa n.Ab.Ai,aa n.Ab.quiet,ab a3 n.Ab.holds.length c3,ab a4 n.Af.length c4,ab a5 n.Ad.length c5,ab a6 n.down.length c6,ab a7 n.up.length c7]) (L':=fun z:TiS=>[ab a1 n.Al.Ac.length c1,aa n.Ab.Aa.Am,aa n.Ab.Aa.size,ab a2 n.Ab.Aa.Ak.length c2,aa (n.Ab.Ai+1),aa (Rn n.Ab.quiet),.slice z.a2 (Uq (n.Ab.Ai+1) n.Ab.holds).length z.c2,ab a4 n.Af.length c4,ab a5 n.Ad.length c5,ab a6 n.down.length c6,ab a7 n.up.length c7]) (cs':=fun z:TiS=>[aa n.Ab.Aa.Am,aa n.Ab.Aa.size,ab a2 n.Ab.Aa.Ak.length c2,aa (n.Ab.Ai+1),aa (Rn n.Ab.quiet),.slice z.a2 (Uq (n.Ab.Ai+1) n.Ab.holds).length z.c2]) (Bay n.Ab.Aa n.Ab.holds g 37 (0+1) _ _ a2 a3 c2 c3 n.Ab.Ai n.Ab.quiet F3 hS.t0 hS.t1 hS.l hS.k0 hS.k1 hq0 hq3) rfl rfl (fun _=>rfl)) fun z _=>?_
 refine Av (E:=An) (xs:=Ng n.Ab.Aa n.Ab.quiet) fun Fp=>?_;refine dkI (fun w h=>Iw (H4 (h (.row g _ 0 [] _ []) FD))) ?_;refine dN 10 ?_;refine oC ?_;refine Bf (Zn n.down (Ij n.Al.Ac 0) (Ng n.Ab.Aa n.Ab.quiet) g _ _ _ _ _ _ _ _ _ _ a6 _ c6 F6 _ _ Fk _ _ Fp rfl hkx) fun J6 _=>?_;refine dkI (fun w h=>Iw (H4 (h (.row g _ 0 [] _ []) FD))) ?_;refine dd ?_;refine Cf A8 9 ?_;rw [show Dr n.down (Ij n.Al.Ac 0) (Ng n.Ab.Aa n.Ab.quiet)=(Bd n 0).1.down from rfl];refine go ?_
 refine Bx [0,2] (fun s:TkN=>[(3,.slice s.a (Bd n s.k).2.length s.c),(4,aa ((s.k+1:Nat):Int))]) (fun s=>[.row g 37 0 [] [ab s.z.a1 n.Al.Ac.length s.z.c1,aa (Bd n s.k).1.Ab.Aa.Am,aa (Bd n s.k).1.Ab.Aa.size,.slice s.z.a2 (Bd n s.k).1.Ab.Aa.Ak.length s.z.c2,aa (Bd n s.k).1.Ab.Ai,aa (Bd n s.k).1.Ab.quiet,.slice s.z.a3 (Bd n s.k).1.Ab.holds.length s.z.c3,ab s.z.a4 n.Af.length s.z.c4,ab s.z.a5 n.Ad.length s.z.c5,ab s.z.a6 n.down.length s.z.c6,ab s.z.a7 n.up.length s.z.c7] [],.ow Bc 3 (ab s.z.a1 n.Al.Ac.length s.z.c1) (Bd n s.k).1.Al.Ac s.z.F1,.ow A8 9 (.slice s.z.a2 (Bd n s.k).1.Ab.Aa.Ak.length s.z.c2) (Bd n s.k).1.Ab.Aa.Ak s.z.F2,.ow Bw 191 (.slice s.z.a3 (Bd n s.k).1.Ab.holds.length s.z.c3) (Bd n s.k).1.Ab.holds s.z.F3,.ow Ce 122 (ab s.z.a4 n.Af.length s.z.c4) (Bd n s.k).1.Af s.z.F4,.ow B9 76 (ab s.z.a5 n.Ad.length s.z.c5) (Bd n s.k).1.Ad s.z.F5,.ow (Ki An 141) 125 (ab s.z.a6 n.down.length s.z.c6) (Bd n s.k).1.down s.z.F6,.ow (Ki An 141) 125 (ab s.z.a7 n.up.length s.z.c7) (Bd n s.k).1.up s.z.F7,.ow A8 9 (.slice s.a (Bd n s.k).2.length s.c) (Bd n s.k).2 s.F]) (fun s=>s.k+1<=n.Al.Ac.length/\(Bd n s.k).2.length<=40000 * s.k) (fun s=>n.Al.Ac.length - s.k) ⟨0,⟨a1,c1,F1,a2,c2,F2,z.a2,z.c2,z.F,a4,c4,F4,a5,c5,F5,a6,c6,J6,a7,c7,F7⟩,none,0,[]⟩ ⟨by show 0+1<=_;omega,aL _⟩ fun s hs0=>?_
 obtain ⟨k,⟨x1,w1,K1,x2,w2,K2,x3,w3,K3,x4,w4,K4,x5,w5,K5,x6,w6,K6,x7,w7,K7⟩,ea,ec,eF⟩:=s;obtain ⟨hk,hel⟩:=hs0;dsimp only at hk hel ⊢;obtain ⟨hGN,hT,hSrc⟩:=Pa hg hc k EZ;obtain ⟨r1,r2,r3,r4⟩:=Bg.1 hGN.l;rw [hT] at r1 r2 r3 r4;rw [hT,hSrc];refine go ?_;refine A4 rfl (fun h1=>?_) (fun h1=>?_)
 ·have hj:k+1 < n.Al.Ac.length:=EZ
  obtain ⟨i1,i2,i3,i4,hrn⟩:=hGN.rn (i:=k+1) (by rw [hT];exact hj);rw [hT] at hrn;obtain ⟨d0,d1_⟩:=Ab7 (i:=k+1);refine go ?_;refine cfr (fun w st=>by obtain ⟨Fq,hq⟩:=Agw (st.get (p:=.ow Bc 3 (ab x1 n.Al.Ac.length w1) n.Al.Ac K1) FD);exact ⟨_,Iw hq,rfl,W9 n.Al ((k+1:Nat):Int) _ Fq⟩) (fun _ _=>?_);refine Ot ?_;cases hlf:D5 n.Al.Ac ((k+1:Nat):Int)
  ·obtain ⟨hge,hck, -⟩:=hrn.hn EZ hlf;obtain ⟨hc0,hc1⟩:=Mb.1 (Hb.1 hge).1;have hnx:Bd n (k+1)=(⟨n.Al,My n.Ab,(Bd n k).1.Af.set (k+1) (Eo (Bd n k).1.Af[k+1]),(Bd n k).1.Ad,(Bd n k).1.down,(Bd n k).1.up⟩,(Bd n k).2++[]):=by
    show ((Nf (Bd n k).1 (k+1)).1,(Bd n k).2++(Nf (Bd n k).1 (k+1)).2)=_;unfold Nf;rw [hT,hlf,aC FA,Jq i1,hSrc]
   rw [bg] at hnx;refine Aca (xs:=(Bd n k).1.Af) (m:=2) (k+1) ?_ rfl i1;rintro _ g5 A5 cs B5 k1 k2 J1 Ji J2 e5 - hc5 hH5;rw [e5];refine H2 ?_;rintro b1 d1 G1 ev l1;obtain rfl:=Pw ev;refine go ?_;refine Bf (Bap (Bd n k).1.Af[k+1] g5 122 (0+(k+1) * 2) A5 B5 b1 d1 G1 EZ EZ) fun s9 _=>?_;refine Gw (Eo (Bd n k).1.Af[k+1]) ?_;refine V0 _ hH5 rfl fun J5=>?_;refine go ?_
   refine Ca ⟨k+1,⟨x1,w1,K1,x2,w2,K2,x3,w3,K3,_,w4,J5,x5,w5,K5,x6,w6,K6,x7,w7,K7⟩,ea,ec,eF⟩ ⟨JH,by rw [hnx];dsimp only;omega⟩ GC GH GG
  ·obtain ⟨-,hgr0,hck⟩:=hrn.hf EZ hlf;have hgr:=Ej.1 hgr0;obtain ⟨hsm,hfew⟩:=Ac9 hgr;have hnx:Bd n (k+1)=(⟨n.Al,My n.Ab,(Bd n k).1.Af,(Bd n k).1.Ad.set (k+1) (C1 (Bd n k).1.Ad[k+1] (M0 (k+1))),(Bd n k).1.down,Q7 (Bd n k).1.up (k+1) (E9 (Bd n k).1.Ad[k+1])⟩,(Bd n k).2++T6 (k+1) (Hh (Bd n k).1.Ad[k+1])):=by
    show ((Nf (Bd n k).1 (k+1)).1,(Bd n k).2++(Nf (Bd n k).1 (k+1)).2)=_;unfold Nf;rw [hT,hlf,aJ rfl,Gp i2,hSrc];rfl
   have htl:(T6 (k+1) (Hh (Bd n k).1.Ad[k+1])).length=(Hh (Bd n k).1.Ad[k+1]).length:=bf ..;generalize hR:(Bd n k).1.Ad[k+1]=R at *;refine go ?_;refine Aca (xs:=(Bd n k).1.Ad) (m:=5) (k+1) ?_ rfl i2;rintro _ g5 A5 cs B5 k1 k2 J1 Ji J2 e5 - hc5 hH5;rw [e5,hR];refine Im ?_;rintro b1 d1 G1 b2 d2 G2 ev l1 l2;obtain rfl:=Pw ev;refine Ar [5] [] ?_;refine Df 0 1 2 3 ?_;refine Dh 4 5 ?_;refine dt 6 ?_;refine dN 7 ?_;refine oC ?_;refine Bf (Ail (k+1) EZ) fun _ _=>?_;refine dk ?_;refine dN 8 ?_;refine oC ?_
   refine Bf (Baw R (M0 (k+1)) g5 76 (0+(k+1) * 5) A5 B5 b1 d1 G1 b2 d2 G2 hgr EZ EZ) fun s9 _=>?_;refine dk ?_;refine Df 9 10 11 12 ?_;refine dt 13 ?_;refine dd ?_;refine Kk (C1 R (M0 (k+1))) ?_;refine V0 _ hH5 rfl fun J5=>?_;refine Av (E:=An) (xs:=E9 R) fun Fp=>?_;refine Alp (E:=An) (fun p:As=>p.data.size<=maxLen) (fun w cs x F h=>by obtain ⟨_,h,_⟩:=h;exact h) ?_;intro hz;refine Abn (E:=An) (xs:=E9 R) ?_;rintro pa pc e9 hp1 hp2;clear e9;refine go ?_;rw [show (Bd n k).1.up=Q7 (Bd n k).1.up (k+1) ((E9 R).take 0) by rw [ff,Ajs]]
   refine Bx [0,2,3,4,6,56,57] (fun y:KF=>[(58,aa (y.k:Nat))]) (fun y=>[.ow (Ki An 141) 125 (ab x7 n.up.length w7) (Q7 (Bd n k).1.up (k+1) ((E9 R).take y.k)) y.F]) (fun y=>y.k<=(E9 R).length) (fun y=>(E9 R).length - y.k) ⟨0,K7⟩ (aG _) fun y hy0=>?_;have hpl:=Ajr (Bd n k).1.up (k+1) ((E9 R).take y.k);refine go ?_;refine A4 rfl (fun h2=>?_) (fun h2=>?_)
   ·have hm:y.k < (E9 R).length:=EZ
    refine Qw (xs:=E9 R) y.k ?_;rintro hi3 b3 o3 e3 s3;rw [e3];refine go ?_;intros;refine Ar [0,6] [] ?_;refine Df 0 1 2 3 ?_;refine Dh 4 5 ?_;refine dN 6 ?_;refine oC ?_;refine Bf (Acw (Q7 (Bd n k).1.up (k+1) ((E9 R).take y.k)) (k+1) (E9 R)[y.k] x7 _ w7 y.F EZ EZ s3) fun f1 _=>?_;rw [Agv i4 hm];refine dk ?_;refine dd ?_;refine go ?_;refine Ca ⟨y.k+1,f1⟩ hm (by show (E9 R).length - (y.k+1) < (E9 R).length - y.k;omega)
   ·rw [show (E9 R).take y.k=E9 R from aV EZ];refine go ?_;refine cfr (fun w st=>by obtain ⟨Fq, -,hq⟩:=(st.get (p:=.ow A8 9 (.slice s9.a4 (Hh R).length s9.c4) (Hh R) s9.F4) FD).2.read;exact ⟨[.sl A8 (.slice s9.a4 (Hh R).length s9.c4) (Hh R) Fq,E4 FT],Sz ⟨FA,hq⟩ (st.get (p:=E4 FT) FD),rfl,Az1 (k+1) _ _ _ Fq FT EZ EZ hsm⟩) (fun u9 _=>?_);refine Ot ?_;refine Av (E:=A8) (xs:=T6 (k+1) (Hh R)) fun F8=>?_;apply wO;refine Ni (E:=A8) (xs:=(Bd n k).2) (ys:=T6 (k+1) (Hh R)) Do Hv fun a9 c9 F9=>?_;refine go ?_
    refine Ca ⟨k+1,⟨x1,w1,K1,x2,w2,K2,x3,w3,K3,x4,w4,K4,_,w5,J5,x6,w6,K6,x7,w7,y.F⟩,a9,c9,F9⟩ ⟨JH,by rw [hnx];dsimp only;rw [aA,htl];omega⟩ GC GH GG
 ·have hke:n.Al.Ac.length - 1=k:=EZ
  rw [show Gh n=Bd n k by unfold Gh;rw [hke],hT,hSrc];exact EQ
structure Jf where
 Cq:Int
 node:Int
 data:au
def Dq (s:Jf):Bool:=if s.Cq=1 then decide (s.node=0) && Pe s.data else if s.Cq=4 then decide (s.node=0) && decide (s.data=⟨#[]⟩) else E8 1 s.Cq 6 && Oi s.node && decide (s.data=⟨#[]⟩)
def Wo (s:Jf):Bool:=decide (s.Cq=5) || decide (s.Cq=6)
def T5 (n:Du) (s:Jf):List As:=(if Wo s then n.up else n.down).getD s.node.toNat []
def Gm (n:Du) (s:Jf):Du:=if Wo s then Oe n s.node.toNat else Qg n s.node.toNat
def C4 (n:Du) (s:Jf):Option (Du × ai) :=
 if (n.Al.Ac.length:Int)<=s.node then none
 else if (T5 n s).length=0 then none
 else if s.Cq=2 then some (C8 (Gm n s) s.node.toNat (M8 (T5 n s)))
 else if s.Cq=5 then some (P4 (Gm n s) s.node.toNat (M8 (T5 n s)),[])
 else some (Gm n s,[])
def Bm (n:Du) (s:Jf):Option (Du × ai) :=
 if s.Cq=1 then some (Ag7 n s.data,[])
 else if s.Cq=4 then (if n.Ab.Ai=9999 then none else some (Gh n))
 else C4 n s
def Hq (n:Du) (r:Option (Du × ai)):Du:=match r with|some x=>x.1|none=>n
def Uy (r:Option (Du × ai)):ai:=match r with|some x=>x.2|none=>[]
theorem Au7 {n:Du} {s:au} (h:At n=true) (hs:Pe s=true):At (Ag7 n s)=true:=by
 have hg:=Ax.1 h;have ht:=Gf hg.t;exact Ax.2 (((hg.src (Ato hg.s hs)).sp (fun p hp=>by rw [aM] at hp;subst hp;exact Auu (En.1 hg.s).1 hs) (Aex ht 0)))
theorem Add {ck:Nat->Int} {i:Nat} {c:Int} (h:ck i=c):Aeq ck i c=ck:=by
 funext j;unfold Aeq;by_cases e:j=i
 ·rw [aJ e,e,h]
 ·rw [aC e]
theorem Atc {e:Bh} {n:Int} {l:ar}:∀x∈Uj e n l,x∈l:=Aau
theorem Am3 (r:A1) (p:As) (d:Int):(Dl r p d).Ai=r.Ai:=by
 unfold Dl
 split
 ·rfl
 ·split <;> rfl
theorem Aqi (e:Bh) (n f:Int):(Nj e n f).Ai=e.Ai:=by
 unfold Nj
 split
 ·rfl
 ·split <;> rfl
theorem Aqh (e:Bh) (n:Int):(Pq e n).Ai=e.Ai:=by unfold Pq;split <;> rfl
theorem Apj {n:Du} {i:Nat} {p:As} (h:At n=true) (h0:i≠0) (hi:i < n.Al.Ac.length) (hp:Bo p=true):At (C8 n i p).1=true:=by
 have hg:=Ax.1 h;have ht:=Gf hg.t;obtain ⟨h1,h2,h3,h4,r⟩:=hg.rn hi;have d0:1<=M0 i/\M0 i<=8:=by unfold M0;omega
 have ee:Pk n i=n.Af[i]:=by unfold Pk;rw [bn,aD h1];rfl
 have er:Px n i=n.Ad[i]:=by unfold Px;rw [bn,aD h2];rfl
 have hps:∀q∈[p],Bo q=true:=fun q hq=>by rw [aM] at hq;rw [hq];exact hp
 unfold C8;cases hl:D5 n.Al.Ac ((i:Nat):Int)
 ·rw [aC FA];obtain ⟨he,e2, -⟩:=r.hn h0 hl;by_cases hk:p.Cq=2
  ·have:=(hg.el h0 hl (Atm (n:=p.Ae) he)).sp hps (nodes:=Uj n.Af[i] p.Ae (Y3 n i)) (fun x hx=>Aex ht i x (Atc x hx));rw [Add (show (fun _=>n.Ab.Ai) i=(Pq n.Af[i] p.Ae).Ai by rw [Aqh,e2])] at this;unfold Aek;rw [aJ hk,aJ hk,ee];exact Ax.2 this
  ·unfold Aek;rw [aC hk,aC hk];exact Ax.2 (hg.sp hps (Aex ht i))
 ·rw [aJ rfl,er];obtain ⟨-,e2,e3⟩:=r.hf h0 hl;have:=hg.rc h0 hl (Ej.2 (Ul (d:=M0 i) (Ej.1 e2) hp d0.1 d0.2).1);rw [Add (show (fun _=>n.Ab.Ai) i=(Dl n.Ad[i] p (M0 i)).Ai by rw [Am3,e3])] at this;exact Ax.2 this
theorem Bcy {n:Du} {i:Nat} {p:As} (h:At n=true) (h0:i≠0) (hi:i < n.Al.Ac.length) (hp:Bo p=true) (hk:p.Cq=3):At (P4 n i p)=true:=by
 have hg:=Ax.1 h;have ht:=Gf hg.t;have hone:∀x∈[((i:Nat):Int)],x.toNat≠0:=fun x hx=>by rw [aM] at hx;subst hx;omega
 have h1:=ht.p i hi EZ;have e:n.Al.Ac.getD i 0=n.Al.Ac[i]:=by rw [bn,aD hi];rfl
 obtain ⟨k,hkk⟩:∃k,Yu n i=k:=⟨_,rfl⟩;have hk2:n.Al.Ac[i]=((k:Nat):Int):=by unfold Yu at hkk;rw [e] at hkk;omega
 unfold P4;rw [hkk];by_cases hz:k=0
 ·rw [aJ hz];have:=(hg.src (Aw6 (n:=p.Ae) hg.s (Kn hp))).sp (Au2 (En.1 hg.s).1 hp hk) hone;refine Ax.2 ?_;rw [show (Me n.Ab p.Ae).Ai=n.Ab.Ai by unfold Me;split <;> rfl];exact this
 ·rw [aC hz];have hkl:k < n.Al.Ac.length:=EZ
  obtain ⟨r1,r2,r3,r4,r⟩:=hg.rn hkl;have ee:Pk n k=n.Af[k]:=by unfold Pk;rw [bn,aD r1];rfl
  have hl:D5 n.Al.Ac ((k:Nat):Int)=false:=by
   unfold D5;rw [<-hk2,av (aB hi)];rfl
  obtain ⟨he,e2, -⟩:=r.hn hz hl;rw [ee];have hf:Oi ((i:Nat):Int)=true:=M5.2 ⟨EZ,by have:=ht.n1;omega⟩;have:=(hg.el hz hl (Atn he (A9.2 (Kn hp)) hf)).sp (nodes:=[((i:Nat):Int)]) (ps:=[Zl p]) (fun q hq=>by rw [aM] at hq;rw [hq];exact Awp hp) hone;rw [Add (show (fun _=>n.Ab.Ai) k=(Nj n.Af[k] p.Ae ((i:Nat):Int)).Ai by rw [Aqi,e2])] at this;refine Ax.2 ?_
  split
  ·exact this.un k _ (fun e=>absurd e hz) fun q a b=>⟨Ac0 a fun x hx=>by rw [aM] at hx;rw [hx];exact hp,Ar6 b fun x hx=>by rw [aM] at hx;rw [hx];exact hk⟩
  ·exact this
theorem Md {n:Du} {s:Jf} (h:At n=true):Ff (T5 n s)=true/\(Wo s=true->upQ (T5 n s)=true):=by
 have hg:=Ax.1 h;obtain ⟨q1,q2,q3,q4⟩:=Bg.1 hg.l;unfold T5;by_cases hi:s.node.toNat < n.Al.Ac.length
 ·obtain ⟨h1,h2,h3,h4,r⟩:=hg.rn hi;cases Wo s
  ·rw [aC FA,Pl h3];exact ⟨r.hd,fun e=>by cases e⟩
  ·rw [aJ rfl,Pl h4];exact ⟨r.hu,fun _=>r.hk⟩
 ·have e:((if Wo s then n.up else n.down).getD s.node.toNat [])=[]:=by
   rw [bn,br (by split <;> omega)];rfl
  rw [e];exact ⟨rfl,fun _=>rfl⟩
theorem Ll {n:Du} {s:Jf} (h:At n=true):At (Gm n s)=true:=by
 have hg:=Ax.1 h;unfold Gm
 split
 ·exact Ax.2 (hg.pu _)
 ·exact Ax.2 (hg.pd _)
theorem Ok {q:List As} (h:0 < q.length):M8 q∈q:=by rw [Xl h];exact aB _
theorem M3 {q:List As} (h:Ff q=true) {p:As} (hp:p∈q):Bo p=true:=by
 unfold Ff at h;rw [aw] at h;exact aW.1 h.2 p hp
theorem Bcx {q:List As} (h:upQ q=true) {p:As} (hp:p∈q):p.Cq=3:=du (aW.1 h p hp)
theorem Aou {n:Du} {s:Jf} {r:Du × ai} (h:At n=true) (hn:Oi s.node=true) (hr:C4 n s=some r):At r.1=true:=by
 have hf:=M5.1 hn;have hpg:=Ll (s:=s) h;have hq:=Md (s:=s) h;have htl:(Gm n s).Al=n.Al:=JY
 unfold C4 at hr
 split at hr
 ·cases hr
 ·rename_i h1
  split at hr
  ·cases hr
  ·rename_i h2;have hm:=Ok (q:=T5 n s) EZ;have hpk:=M3 hq.1 hm;have hi:s.node.toNat < (Gm n s).Al.Ac.length:=by rw [htl];omega
   split at hr
   ·cases hr;exact Apj hpg EZ hi hpk
   ·split at hr
    ·rename_i h5;cases hr;exact Bcy hpg EZ hi hpk (Bcx (hq.2 (by unfold Wo;rw [av h5];rfl)) hm)
    ·cases hr;exact hpg
theorem Xs {x:Cr} (h:Ck x=true):0<=x.Ai/\x.Ai<=9999:=by
 unfold Ck at h;simp only [aw] at h;exact Mb.1 h.1.1.2
theorem Mh {n:Du} {s:Jf} {r:Du × ai} (h:At n=true) (hs:Dq s=true) (hr:Bm n s=some r):At r.1=true:=by
 unfold Bm at hr;unfold Dq at hs
 split at hr
 ·rename_i h1;rw [aJ h1,aw] at hs;cases hr;exact Au7 h hs.2
 ·rename_i h1
  split at hr
  ·rename_i h4
   split at hr
   ·cases hr
   ·rename_i hc;cases hr;have:=Xs (Ax.1 h).s;exact Aq0 h EZ
  ·rename_i h4;rw [aC h1,aC h4] at hs;simp only [aw] at hs;exact Aou h hs.1.2 hr
section
variable {c:Cx} {fr:Fr} {H:List Pc} {Φ:Gl}
end
theorem Bcr (n:Du) (s:Jf) (g:Nat) (a1:aj) (c1:Nat) (F1:aq) (a2:aj) (c2:Nat) (F2:aq) (a3:aj) (c3:Nat) (F3:aq) (a4:aj) (c4:Nat) (F4:aq) (a5:aj) (c5:Nat) (F5:aq) (a6:aj) (c6:Nat) (F6:aq) (a7:aj) (c7:Nat) (F7:aq) (FT:aq) (hg:At n=true) (hf:Oi s.node=true) :
  Fn prog 193 [Ga g 0 0,.agg #[aa s.Cq,aa s.node,af s.data]] [E4 FT] [.row g 37 0 [] [ab a1 n.Al.Ac.length c1,aa n.Ab.Aa.Am,aa n.Ab.Aa.size,ab a2 n.Ab.Aa.Ak.length c2,aa n.Ab.Ai,aa n.Ab.quiet,ab a3 n.Ab.holds.length c3,ab a4 n.Af.length c4,ab a5 n.Ad.length c5,ab a6 n.down.length c6,ab a7 n.up.length c7] [],.ow Bc 3 (ab a1 n.Al.Ac.length c1) n.Al.Ac F1,.ow A8 9 (ab a2 n.Ab.Aa.Ak.length c2) n.Ab.Aa.Ak F2,.ow Bw 191 (ab a3 n.Ab.holds.length c3) n.Ab.holds F3,.ow Ce 122 (ab a4 n.Af.length c4) n.Af F4,.ow B9 76 (ab a5 n.Ad.length c5) n.Ad F5,.ow (Ki An 141) 125 (ab a6 n.down.length c6) n.down F6,.ow (Ki An 141) 125 (ab a7 n.up.length c7) n.up F7] (fun (_:NV × KA)=>True) (fun z=>.tuple #[.slice z.2.a (Uy (C4 n s)).length z.2.c,.bool (C4 n s).isSome]) (fun z=>[.row g 37 0 [] [ab z.1.a1 n.Al.Ac.length z.1.c1,aa (Hq n (C4 n s)).Ab.Aa.Am,aa (Hq n (C4 n s)).Ab.Aa.size,.slice z.1.a2 (Hq n (C4 n s)).Ab.Aa.Ak.length z.1.c2,aa (Hq n (C4 n s)).Ab.Ai,aa (Hq n (C4 n s)).Ab.quiet,.slice z.1.a3 (Hq n (C4 n s)).Ab.holds.length z.1.c3,ab z.1.a4 n.Af.length z.1.c4,ab z.1.a5 n.Ad.length z.1.c5,ab z.1.a6 n.down.length z.1.c6,ab z.1.a7 n.up.length z.1.c7] [],.ow Bc 3 (ab z.1.a1 n.Al.Ac.length z.1.c1) (Hq n (C4 n s)).Al.Ac z.1.F1,.ow A8 9 (.slice z.1.a2 (Hq n (C4 n s)).Ab.Aa.Ak.length z.1.c2) (Hq n (C4 n s)).Ab.Aa.Ak z.1.F2,.ow Bw 191 (.slice z.1.a3 (Hq n (C4 n s)).Ab.holds.length z.1.c3) (Hq n (C4 n s)).Ab.holds z.1.F3,.ow Ce 122 (ab z.1.a4 n.Af.length z.1.c4) (Hq n (C4 n s)).Af z.1.F4,.ow B9 76 (ab z.1.a5 n.Ad.length z.1.c5) (Hq n (C4 n s)).Ad z.1.F5,.ow (Ki An 141) 125 (ab z.1.a6 n.down.length z.1.c6) (Hq n (C4 n s)).down z.1.F6,.ow (Ki An 141) 125 (ab z.1.a7 n.up.length z.1.c7) (Hq n (C4 n s)).up z.1.F7,.ow A8 9 (.slice z.2.a (Uy (C4 n s)).length z.2.c) (Uy (C4 n s)) z.2.F]):=by
 have hG:=Ax.1 hg;have h8:=Gf hG.t;have hn8:=h8.n1;obtain ⟨q1,q2,q3,q4⟩:=Bg.1 hG.l;obtain ⟨f1,f2⟩:=M5.1 hf;obtain ⟨i,hi⟩:∃i:Nat,s.node=((i:Nat):Int):=⟨s.node.toNat,EZ⟩;have i0:i≠0:=EZ
 refine enter func193 rfl ntmps193 fun w0=>?_;refine Cf A8 9 ?_;rw [hi];refine go ?_;intros;refine Ar [0,2] [] ?_;refine Df 0 1 2 3 ?_;refine Df 4 5 6 7 ?_;refine dt 8 ?_;refine dd ?_;refine go ?_;refine A4 rfl (fun h1=>?_) (fun h1=>?_)
 ·rw [show C4 n s=none by unfold C4;rw [aJ EZ]];exact EO
 have hil:i < n.Al.Ac.length:=EZ
 by_cases k5:s.Cq=5
 ·have hu:Wo s=true:=by unfold Wo;rw [av k5];rfl
  have hq:T5 n s=n.up[i]:=by unfold T5;rw [hu,aJ rfl,hi,ba];exact Pl EZ []
  have hpo:Gm n s=Oe n i:=II
  have h6:n.up[i].length<=6:=by
   exact CX
  refine go ?_;refine D6 rfl rfl (fun g5=>?_) (fun g5=>?_)
  rotate_left
  ·exact absurd k5 g5
  refine go ?_;refine Bf (Agm n.up i a7 _ c7 F7 rfl EZ h6) fun J _=>?_;by_cases h0:0 < n.up[i].length
  rotate_left
  ·exact BN
  have hmem:=Ok h0;have hpk:Bo (M8 n.up[i])=true:=M3 (hq▸(Md (s:=s) hg).1) hmem;have hpz:(M8 n.up[i]).data.size<=maxLen:=by
   exact BG
  rw [av h0,show n.up.set i (n.up[i].drop 1)=(Oe n i).up from (H8 EZ).symm];have hgm:At (Oe n i)=true:=hpo▸Ll hg;have hGm:=Ax.1 hgm;have hlm:n.up.length=(Oe n i).up.length:=(dA ..).symm;generalize hP:M8 n.up[i]=P at *;have htk:C4 n s=some (P4 (Oe n i) i P,[]):=by
   unfold C4;rw [aC EZ,hq,aC EZ,hpo,hP,hi,ba];rw [aC EZ,aJ k5]
  rw [htk];refine go ?_;intros;refine A4 rfl (fun k2=>?_) (fun k2=>?_)
  ·exact absurd k2 EZ
  refine go ?_;refine A4 rfl (fun m5=>?_) (fun m5=>?_)
  rotate_left
  ·exact absurd k5 m5
  refine go ?_;rw [hlm];refine cf (Az8 (Oe n i) i P g a1 c1 F1 a2 c2 F2 a3 c3 F3 a4 c4 F4 a5 c5 F5 a6 c6 F6 a7 c7 J hGm.l i0 hil (Gf hGm.t) hGm.s (fun k hk hkl hl=>?_) hpk hpz) fun z _=>?_
  rotate_left
  ·refine Ot ?_;refine go ?_;refine ret (z,⟨0,none,0,[]⟩) trivial rfl
  ·obtain ⟨x1,x2,x3,x4,r⟩:=hGm.rn (i:=k) hkl;rw [Jq x1];exact (r.hn hk hl).1
 by_cases k6:s.Cq=6
 ·have hu:Wo s=true:=by unfold Wo;rw [av k6,gB]
  have hq:T5 n s=n.up[i]:=by unfold T5;rw [hu,aJ rfl,hi,ba];exact Pl EZ []
  have hpo:Gm n s=Oe n i:=II
  have h6:n.up[i].length<=6:=by
   exact CX
  refine go ?_;refine D6 rfl rfl (fun g5=>?_) (fun g5=>?_)
  ·exact absurd g5 EZ
  refine go ?_;refine A4 rfl (fun g6=>?_) (fun g6=>?_)
  rotate_left
  ·exact absurd k6 g6
  refine go ?_;refine Bf (Agm n.up i a7 _ c7 F7 rfl EZ h6) fun J _=>?_;by_cases h0:0 < n.up[i].length
  rotate_left
  ·exact BN
  have hmem:=Ok h0;have hpk:Bo (M8 n.up[i])=true:=M3 (hq▸(Md (s:=s) hg).1) hmem;have hpz:(M8 n.up[i]).data.size<=maxLen:=by
   exact BG
  rw [av h0,show n.up.set i (n.up[i].drop 1)=(Oe n i).up from (H8 EZ).symm];have hgm:At (Oe n i)=true:=hpo▸Ll hg;have hGm:=Ax.1 hgm;have hlm:n.up.length=(Oe n i).up.length:=(dA ..).symm;generalize hP:M8 n.up[i]=P at *;have htk:C4 n s=some (Oe n i,[]):=by
   unfold C4;rw [aC EZ,hq,aC EZ,hpo,hP,hi,ba];rw [aC EZ,aC EZ]
  rw [htk];refine go ?_;intros;refine A4 rfl (fun k2=>?_) (fun k2=>?_)
  ·exact absurd k2 EZ
  refine go ?_;refine A4 rfl (fun m5=>?_) (fun m5=>?_)
  ·exact absurd m5 EZ
  refine go ?_;refine ret (⟨a1,c1,F1,a2,c2,F2,a3,c3,F3,a4,c4,F4,a5,c5,F5,a6,c6,F6,a7,c7,J⟩,⟨0,none,0,[]⟩) trivial rfl
 ·have hu:Wo s=false:=by unfold Wo;rw [ay k5,ay k6];rfl
  have hq:T5 n s=n.down[i]:=by unfold T5;rw [hu,aC FA,hi,ba];exact Pl EZ []
  have hpo:Gm n s=Qg n i:=by unfold Gm;rw [hu,aC FA,hi,ba]
  have h6:n.down[i].length<=6:=by
   exact CX
  refine go ?_;refine D6 rfl rfl (fun g5=>?_) (fun g5=>?_)
  ·exact absurd g5 k5
  refine go ?_;refine A4 rfl (fun g6=>?_) (fun g6=>?_)
  ·exact absurd g6 k6
  refine go ?_;refine Bf (Agm n.down i a6 _ c6 F6 rfl EZ h6) fun J _=>?_;by_cases h0:0 < n.down[i].length
  rotate_left
  ·have hz:n.down[i]=[]:=bv.1 EZ;rw [show C4 n s=none by unfold C4;rw [aC EZ,hq,aJ EZ],ay h0,show n.down.set i (n.down[i].drop 1)=n.down by rw [hz,gh];rw [<-hz,bx]];refine go ?_;intros;refine ret (⟨a1,c1,F1,a2,c2,F2,a3,c3,F3,a4,c4,F4,a5,c5,F5,a6,c6,J,a7,c7,F7⟩,⟨0,none,0,[]⟩) trivial rfl
  have hmem:=Ok h0;have hpk:Bo (M8 n.down[i])=true:=M3 (hq▸(Md (s:=s) hg).1) hmem;have hpz:(M8 n.down[i]).data.size<=maxLen:=by
   exact BG
  rw [av h0,show n.down.set i (n.down[i].drop 1)=(Qg n i).down from (H8 EZ).symm];have hgm:At (Qg n i)=true:=hpo▸Ll hg;have hGm:=Ax.1 hgm;have hlm:n.down.length=(Qg n i).down.length:=(dA ..).symm;generalize hP:M8 n.down[i]=P at *;have htk:C4 n s=if s.Cq=2 then some (C8 (Qg n i) i P) else some (Qg n i,[]):=by
   unfold C4;rw [aC EZ,hq,aC EZ,hpo,hP,hi,ba]
   split
   ·rfl
   ·first|rfl|rw [aC k5]
  rw [htk];refine go ?_;intros;refine A4 rfl (fun k2=>?_) (fun k2=>?_)
  ·rw [aJ k2];refine go ?_;rw [hlm];refine cf (As7 (Qg n i) i P g a1 c1 F1 a2 c2 F2 a3 c3 F3 a4 c4 F4 a5 c5 F5 a6 c6 J a7 c7 F7 FT hGm.l hil (Gf hGm.t) (fun hl=>?_) (fun hl=>?_) hpk hpz) fun z _=>?_
   rotate_left
   rotate_left
   ·refine Ot ?_;refine go ?_;refine ret (z.1,z.2) trivial rfl
   ·obtain ⟨x1,x2,x3,x4,r⟩:=hGm.rn (i:=i) hil;rw [Gp x2];exact (r.hf i0 hl).2.1
   ·obtain ⟨x1,x2,x3,x4,r⟩:=hGm.rn (i:=i) hil;rw [Jq x1];exact (r.hn i0 hl).1
  ·rw [aC k2];refine go ?_;refine A4 rfl (fun m5=>?_) (fun m5=>?_)
   ·exact absurd m5 k5
   refine go ?_;refine ret (⟨a1,c1,F1,a2,c2,F2,a3,c3,F3,a4,c4,F4,a5,c5,F5,a6,c6,J,a7,c7,F7⟩,⟨0,none,0,[]⟩) trivial rfl
theorem Be4 (n:Du) (s:Jf) (g:Nat) (a1:aj) (c1:Nat) (F1:aq) (a2:aj) (c2:Nat) (F2:aq) (a3:aj) (c3:Nat) (F3:aq) (a4:aj) (c4:Nat) (F4:aq) (a5:aj) (c5:Nat) (F5:aq) (a6:aj) (c6:Nat) (F6:aq) (a7:aj) (c7:Nat) (F7:aq) (FT:aq) (hg:At n=true) (hs:Dq s=true) (hss:s.data.size<=maxLen) :
  Fn prog 111 [Ga g 0 0,.agg #[aa s.Cq,aa s.node,af s.data]] [E4 FT] [.row g 37 0 [] [ab a1 n.Al.Ac.length c1,aa n.Ab.Aa.Am,aa n.Ab.Aa.size,ab a2 n.Ab.Aa.Ak.length c2,aa n.Ab.Ai,aa n.Ab.quiet,ab a3 n.Ab.holds.length c3,ab a4 n.Af.length c4,ab a5 n.Ad.length c5,ab a6 n.down.length c6,ab a7 n.up.length c7] [],.ow Bc 3 (ab a1 n.Al.Ac.length c1) n.Al.Ac F1,.ow A8 9 (ab a2 n.Ab.Aa.Ak.length c2) n.Ab.Aa.Ak F2,.ow Bw 191 (ab a3 n.Ab.holds.length c3) n.Ab.holds F3,.ow Ce 122 (ab a4 n.Af.length c4) n.Af F4,.ow B9 76 (ab a5 n.Ad.length c5) n.Ad F5,.ow (Ki An 141) 125 (ab a6 n.down.length c6) n.down F6,.ow (Ki An 141) 125 (ab a7 n.up.length c7) n.up F7] (fun (_:NV × KA)=>True) (fun z=>.tuple #[.slice z.2.a (Uy (Bm n s)).length z.2.c,.bool (Bm n s).isSome]) (fun z=>[.row g 37 0 [] [ab z.1.a1 n.Al.Ac.length z.1.c1,aa (Hq n (Bm n s)).Ab.Aa.Am,aa (Hq n (Bm n s)).Ab.Aa.size,.slice z.1.a2 (Hq n (Bm n s)).Ab.Aa.Ak.length z.1.c2,aa (Hq n (Bm n s)).Ab.Ai,aa (Hq n (Bm n s)).Ab.quiet,.slice z.1.a3 (Hq n (Bm n s)).Ab.holds.length z.1.c3,ab z.1.a4 n.Af.length z.1.c4,ab z.1.a5 n.Ad.length z.1.c5,ab z.1.a6 n.down.length z.1.c6,ab z.1.a7 n.up.length z.1.c7] [],.ow Bc 3 (ab z.1.a1 n.Al.Ac.length z.1.c1) (Hq n (Bm n s)).Al.Ac z.1.F1,.ow A8 9 (.slice z.1.a2 (Hq n (Bm n s)).Ab.Aa.Ak.length z.1.c2) (Hq n (Bm n s)).Ab.Aa.Ak z.1.F2,.ow Bw 191 (.slice z.1.a3 (Hq n (Bm n s)).Ab.holds.length z.1.c3) (Hq n (Bm n s)).Ab.holds z.1.F3,.ow Ce 122 (ab z.1.a4 n.Af.length z.1.c4) (Hq n (Bm n s)).Af z.1.F4,.ow B9 76 (ab z.1.a5 n.Ad.length z.1.c5) (Hq n (Bm n s)).Ad z.1.F5,.ow (Ki An 141) 125 (ab z.1.a6 n.down.length z.1.c6) (Hq n (Bm n s)).down z.1.F6,.ow (Ki An 141) 125 (ab z.1.a7 n.up.length z.1.c7) (Hq n (Bm n s)).up z.1.F7,.ow A8 9 (.slice z.2.a (Uy (Bm n s)).length z.2.c) (Uy (Bm n s)) z.2.F]):=by
 have hG:=Ax.1 hg;have h8:=Gf hG.t;have hn8:=h8.n1;have hn2:=h8.n0;obtain ⟨q1,q2,q3,q4⟩:=Bg.1 hG.l;have hS:=J3 hG.s;obtain ⟨-,⟨hz1, -⟩, -, -⟩:=Ds.1 hS.w;have hkl:=Ur n.Al.Ac 0;have hkx:∀x∈Ij n.Al.Ac 0,0<=x/\x.toNat < n.down.length:=fun x hx=>by have:=Lh (i:=0) h8 hx;omega
 refine enter func111 rfl ntmps111 fun w0=>?_;refine Cf A8 9 ?_;refine go ?_;intros;rename_i gs;refine A4 rfl (fun h1=>?_) (fun h1=>?_)
 ·rw [show Bm n s=some (Ag7 n s.data,[]) by unfold Bm;rw [aJ h1]];refine go ?_;refine dsI [.cel g 0 [ab a1 n.Al.Ac.length c1],.row gs 97 0 [] [aa s.Cq,aa s.node,af s.data] []] [] ?_;refine dtI 0 (fun w h=>Sz (H4 (h (.row g _ 0 [] _ []) FD)) (h _ FD)) ?_;refine dtI 1 (fun w h=>Sz (H4 (h (.row g _ 0 [] _ []) FD)) (h _ FD)) ?_;refine dtI 2 (fun w h=>Sz (H4 (h (.row g _ 0 [] _ []) FD)) (h _ FD)) ?_;refine dtI 3 (fun w h=>Sz (H4 (h (.row g _ 0 [] _ []) FD)) (h _ FD)) ?_
  refine dtI 4 (fun w h=>Sz (H4 (h (.row g _ 0 [] _ []) FD)) (h _ FD)) ?_;refine dtI 6 (fun w h=>Sz (H4 (h (.row g _ 0 [] _ []) FD)) (h _ FD)) ?_;refine dtI 7 (fun w h=>Sz (H4 (h (.row g _ 0 [] _ []) FD)) (h _ FD)) ?_;refine dtI 8 (fun w h=>Sz (H4 (h (.row g _ 0 [] _ []) FD)) (h _ FD)) ?_;refine dtI 9 (fun w h=>Sz (H4 (h (.row g _ 0 [] _ []) FD)) (h _ FD)) ?_;refine dtI 10 (fun w h=>Sz (H4 (h (.row g _ 0 [] _ []) FD)) (h _ FD)) ?_;refine dN 5 ?_;refine oC ?_
  refine cfr (fun w st=>by obtain ⟨Fq,hq⟩:=Agw (st.get (p:=.ow Bc 3 (ab a1 n.Al.Ac.length c1) n.Al.Ac F1) FD);exact ⟨_,Iw hq,rfl,Zk n.Al 0 _ Fq JP⟩) (fun u _=>?_);refine Ot ?_;refine Av (E:=Bc) (xs:=Ij n.Al.Ac 0) fun Fk=>?_;refine dkI (fun w h=>Sz (H4 (h (.row g _ 0 [] _ []) FD)) (h _ FD)) ?_;refine dN 11 ?_;refine oC ?_
  refine Bf (Aw3 (X:=[ab a1 n.Al.Ac.length c1]) (cs:=[aa n.Ab.Aa.Am,aa n.Ab.Aa.size,ab a2 n.Ab.Aa.Ak.length c2,aa n.Ab.Ai,aa n.Ab.quiet,ab a3 n.Ab.holds.length c3]) (Y:=[ab a4 n.Af.length c4,ab a5 n.Ad.length c5,ab a6 n.down.length c6,ab a7 n.up.length c7]) (L:=[ab a1 n.Al.Ac.length c1,aa n.Ab.Aa.Am,aa n.Ab.Aa.size,ab a2 n.Ab.Aa.Ak.length c2,aa n.Ab.Ai,aa n.Ab.quiet,ab a3 n.Ab.holds.length c3,ab a4 n.Af.length c4,ab a5 n.Ad.length c5,ab a6 n.down.length c6,ab a7 n.up.length c7]) (L':=fun z:SeS=>[ab a1 n.Al.Ac.length c1,aa (Di n.Ab.Aa s.data).Am,aa (Di n.Ab.Aa s.data).size,.slice z.a (Di n.Ab.Aa s.data).Ak.length z.c,aa n.Ab.Ai,aa 0,.slice z.a2 (Nq (Di n.Ab.Aa s.data) n.Ab.holds).length z.c2,ab a4 n.Af.length c4,ab a5 n.Ad.length c5,ab a6 n.down.length c6,ab a7 n.up.length c7]) (cs':=fun z:SeS=>[aa (Di n.Ab.Aa s.data).Am,aa (Di n.Ab.Aa s.data).size,.slice z.a (Di n.Ab.Aa s.data).Ak.length z.c,aa n.Ab.Ai,aa 0,.slice z.a2 (Nq (Di n.Ab.Aa s.data) n.Ab.holds).length z.c2]) (Bax n.Ab.Aa s.data n.Ab.holds g 37 (0+1) _ _ a2 a3 c2 c3 n.Ab.Ai n.Ab.quiet F2 F3 hS.l hS.t0 hS.t1 hss hz1 hS.n) rfl rfl (fun _=>rfl)) fun z _=>?_
  refine dkI (fun w h=>Sz (H4 (h (.row g _ 0 [] _ []) FD)) (h _ FD)) ?_;refine dN 12 ?_;apply Iq;rfl;rfl;rfl;rfl;exact Ik;exact Ih;intro _;refine Eh (E:=An) (xs:=[Dw n.Ab.Aa s.data]) (Dd (Dw n.Ab.Aa s.data) hss) ?_ FB;refine Av (E:=An) (xs:=[Dw n.Ab.Aa s.data]) fun Fp=>?_;refine dkI (fun w h=>Sz (H4 (h (.row g _ 0 [] _ []) FD)) (h _ FD)) ?_;refine dN 13 ?_;refine oC ?_;refine Bf (Zn n.down (Ij n.Al.Ac 0) [Dw n.Ab.Aa s.data] g _ _ _ _ _ _ _ _ _ _ a6 _ c6 F6 _ _ Fk _ _ Fp rfl hkx) fun J6 _=>?_
  refine dkI (fun w h=>Sz (H4 (h (.row g _ 0 [] _ []) FD)) (h _ FD)) ?_;refine dd ?_;refine go ?_;refine ret (⟨a1,c1,F1,z.a,z.c,z.F,z.a2,z.c2,z.F2,a4,c4,F4,a5,c5,F5,a6,c6,J6,a7,c7,F7⟩,⟨0,none,0,[]⟩) trivial rfl
 refine go ?_;refine A4 rfl (fun h4=>?_) (fun h4=>?_)
 ·refine go ?_;refine A4 rfl (fun hc=>?_) (fun hc=>?_)
  ·rw [show Bm n s=none by unfold Bm;rw [aC h1,aJ h4,aJ hc]];exact EO
  ·rw [show Bm n s=some (Gh n) by unfold Bm;rw [aC h1,aJ h4,aC hc]];have hck:=Xs hG.s;refine go ?_;refine Bf (Bas n g a1 c1 F1 a2 c2 F2 a3 c3 F3 a4 c4 F4 a5 c5 F5 a6 c6 F6 a7 c7 F7 FT hg EZ) fun z _=>?_;refine go ?_;refine ret (z.1,z.2) trivial rfl
 ·rw [show Bm n s=C4 n s by unfold Bm;rw [aC h1,aC h4]];have hf:Oi s.node=true:=by
   unfold Dq at hs;rw [aC h1,aC h4] at hs;simp only [aw] at hs;exact hs.1.2
  refine go ?_;refine Bf (Bcr n s g a1 c1 F1 a2 c2 F2 a3 c3 F3 a4 c4 F4 a5 c5 F5 a6 c6 F6 a7 c7 F7 FT hg hf) fun z _=>?_;refine go ?_;refine ret (z.1,z.2) trivial rfl
theorem Ahu (s:Jf) (hss:s.data.size<=maxLen):FV 110 [.agg #[aa s.Cq,aa s.node,af s.data]] [] (.bool (Dq s)):=by
 refine enter func110 rfl ntmps110 fun w0=>?_;refine go ?_;intros;refine A4 rfl (fun h1=>?_) (fun h1=>?_)
 ·rw [show Dq s=(decide (s.node=0) && Pe s.data) by unfold Dq;rw [aJ h1]];refine go ?_;refine D6 rfl rfl (fun h2=>?_) (fun h2=>?_)
  ·refine go ?_;refine cb (fun w st=>Aa1 s.data w hss) ?_;exact DR
  ·exact DQ
 refine go ?_;refine A4 rfl (fun h4=>?_) (fun h4=>?_)
 ·rw [show Dq s=(decide (s.node=0) && decide (s.data=⟨#[]⟩)) by unfold Dq;rw [aC h1,aJ h4]];refine go ?_;refine D6 rfl rfl (fun h2=>?_) (fun h2=>?_)
  ·exact DR
  ·exact DQ
 rw [show Dq s=(E8 1 s.Cq 6 && Oi s.node && decide (s.data=⟨#[]⟩)) by unfold Dq;rw [aC h1,aC h4]];refine go ?_;refine A4 rfl (fun k2=>?_) (fun k2=>?_)
 ·refine go ?_;refine A4 rfl (fun _=>?_) (fun hx=>absurd k2 hx);refine go ?_;refine ce (fun w st=>Um s.node _) ?_;cases g5:Oi s.node
  ·exact DP
  ·exact BY
 ·refine go ?_;refine A4 rfl (fun k3=>?_) (fun k3=>?_)
  ·refine go ?_;refine A4 rfl (fun _=>?_) (fun hx=>absurd k3 hx);refine go ?_;refine ce (fun w st=>Um s.node _) ?_;cases g5:Oi s.node
   ·exact DP
   ·exact BY
  ·refine go ?_;refine A4 rfl (fun k5=>?_) (fun k5=>?_)
   ·refine go ?_;refine A4 rfl (fun _=>?_) (fun hx=>absurd k5 hx);refine go ?_;refine ce (fun w st=>Um s.node _) ?_;cases g5:Oi s.node
    ·exact DP
    ·exact BY
   ·refine go ?_;refine A4 rfl (fun k6=>?_) (fun k6=>?_)
    ·refine go ?_;refine ce (fun w st=>Um s.node _) ?_;cases g5:Oi s.node
     ·exact DP
     ·exact BY
    ·refine go ?_;refine ret () trivial ?_;rw [show E8 1 s.Cq 6=false by unfold E8;simp;omega];rfl
def Sb:Du:=⟨⟨[]⟩,Ban,[],[],[],[]⟩
theorem Hz {n:Du} (h:At n=true):(∀x∈n.Af,Ba x=true)/\(∀x∈n.Ad,Bp x=true)/\(∀q∈n.down,Ff q=true)/\∀q∈n.up,Ff q=true:=by
 have hG:=Ax.1 h;obtain ⟨q1,q2,q3,q4⟩:=Bg.1 hG.l;refine ⟨fun x hx=>?_,fun x hx=>?_,fun x hx=>?_,fun x hx=>?_⟩
 all_goals
  obtain ⟨i,hi,rfl⟩:=bi hx;obtain ⟨h1,h2,h3,h4,r⟩:=hG.rn (i:=i) EZ
 ·by_cases e:i=0
  ·exact Vf (r.hz e).1
  ·cases l:D5 n.Al.Ac ((i:Nat):Int)
   ·exact (r.hn e l).1
   ·exact Vf (r.hf e l).1
 ·by_cases e:i=0
  ·exact Vg (r.hz e).2.1
  ·cases l:D5 n.Al.Ac ((i:Nat):Int)
   ·exact Vg (r.hn e l).2.2
   ·exact (r.hf e l).2.1
 ·exact r.hd
 ·exact r.hu
theorem C7 {q:List As} (h:Ff q=true):q.length<=6/\∀p∈q,Bo p=true:=by
 unfold Ff at h;simpa [aW] using h
theorem M6 {n:Du} (h:At n=true):P5 n:=by
 have hG:=Ax.1 h;have h8:=(Gf hG.t).n1;obtain ⟨q1,q2,q3,q4⟩:=Bg.1 hG.l;have hS:=J3 hG.s;have hl:=hS.l;have hm:=hS.m;obtain ⟨e1,e2,e3,e4⟩:=Hz h;refine ⟨EZ,EZ,EZ,EZ,fun x hx=>?_,fun x hx y hy=>?_,EZ,fun x hx=>⟨?_,?_⟩,EZ,fun q hq=>?_,EZ,fun q hq=>?_⟩
 ·have:=(Hb.1 (e1 x hx)).2.1;omega
 ·have:=(Uk (e1 x hx)).2.2 y hy;omega
 ·have:=(Ko (Ej.1 (e2 x hx)).w).1;omega
 ·have:=(Dj.1 (Ej.1 (e2 x hx)).q).2.1;omega
 ·have:=(C7 (e3 q hq)).1;omega
 ·have:=(C7 (e4 q hq)).1;omega
theorem Aeb (n:Du):∀k,(Bd n k).1.Al=n.Al
 | 0=>rfl
 | k+1=>(Ahk _ _).1.trans (Aeb n k)
theorem So {n:Du} {s:Jf} {r:Du × ai} (hr:Bm n s=some r):r.1.Al=n.Al:=by
 have hd:∀(n:Du) i p,(C8 n i p).1.Al=n.Al:=fun n i p=>by unfold C8;split <;> rfl
 have hu:∀(n:Du) i p,(P4 n i p).Al=n.Al:=fun n i p=>by unfold P4;split <;> rfl
 have hp:(Gm n s).Al=n.Al:=JY
 unfold Bm C4 at hr
 split at hr
 ·cases hr;rfl
 split at hr
 ·split at hr
  ·cases hr
  ·cases hr;exact Aeb n _
 split at hr
 ·cases hr
 split at hr
 ·cases hr
 split at hr
 ·cases hr;exact (hd _ _ _).trans hp
 split at hr
 ·cases hr;exact (hu _ _ _).trans hp
 ·cases hr;exact hp
theorem Bbv {n m:Du} (h1:At n=true) (h2:At m=true) (h:m.Al=n.Al):n.Al.Ac.length=m.Al.Ac.length/\n.Af.length=m.Af.length/\n.Ad.length=m.Ad.length/\n.down.length=m.down.length/\n.up.length=m.up.length:=by
 obtain ⟨p1,p2,p3,p4⟩:=Bg.1 (Ax.1 h1).l;obtain ⟨q1,q2,q3,q4⟩:=Bg.1 (Ax.1 h2).l;rw [h] at q1 q2 q3 q4;exact ⟨by rw [h],EZ,EZ,EZ,EZ⟩
def Bi (n:Du) (s:Jf):Du × ai × Bool:=if At n && Dq s then (match Bm n s with
 | some r=>(r.1,r.2,true)
 | none=>(Sb,[],false)) else (Sb,[],false)
def okQ (up:Bool) (p:As):Bool:=Bo p && (!up || decide (p.Cq=3))
theorem Ar2 (up:Bool) (l:List As):(l.all (okQ up) && decide (l.length<=6))=(Ff l && (!up || upQ l)):=by
 have h:l.all (okQ up)=(l.all Bo && (!up || upQ l)):=by
  unfold upQ okQ
  induction l with
  | nil=>cases up <;> rfl
  | cons p l ih =>
   simp only [dQ,ih];cases Bo p <;> cases up <;> cases decide (p.Cq=3) <;> cases l.all Bo <;> simp
 rw [h];unfold Ff;cases decide (l.length<=6) <;> cases l.all Bo <;> simp
theorem Ayf {up:Bool} {l:List As} {k:Nat} (h:k < l.length) (hp:okQ up l[k]=false):(Ff l && (!up || upQ l))=false:=by
 rw [<-Ar2,show l.all (okQ up)=false from cS.2 ⟨l[k],aB h,HH⟩];rfl
theorem Age (l:List As) (up:Bool) (a:aj) (c:Nat) (F:aq) (hl:l.length<=9223372036854775807):FV 207 [ab a l.length c,.bool up] [.sl An (ab a l.length c) l F] (.bool (Ff l && (!up || upQ l))):=by
 refine enter func207 rfl ntmps207 fun w0=>?_;refine go ?_;refine Em [0,1,4] (fun k:Nat=>[(5,aa (k:Nat))]) (fun k=>k<=l.length/\∀j,j < k->∀h:j < l.length,okQ up l[j]=true) (fun k=>l.length - k) 0 ⟨aG _,fun j h=>by omega⟩ fun k hk=>?_;obtain ⟨hk1,hk2⟩:=hk;refine go ?_;refine A4 rfl (fun h1=>?_) (fun h1=>?_)
 ·have hh:k < l.length:=EZ
  refine Qw (xs:=l) k ?_;rintro hi b o e1 s1;rw [e1];refine go ?_;refine Bf (Ani l[k] s1) fun _ _=>?_;cases g:Bo l[k]
  ·rw [Ayf hh (by unfold okQ;rw [g];rfl)];exact AA
  cases up
  ·refine go ?_;refine Ca (k+1) ⟨hh,fun j hj h=>?_⟩ GS;rcases bc (bC.1 hj) with h'|rfl
   ·exact hk2 j h' h
   ·unfold okQ;rw [g];rfl
  ·refine go ?_;refine A4 rfl (fun h3=>?_) (fun h3=>?_)
   ·rw [Ayf hh (by unfold okQ;rw [g,ay h3];rfl)];exact AA
   ·refine go ?_;refine Ca (k+1) ⟨hh,fun j hj h=>?_⟩ GS;rcases bc (bC.1 hj) with h'|rfl
    ·exact hk2 j h' h
    ·unfold okQ;rw [g,av EZ];rfl
 ·obtain rfl:k=l.length:=EZ
  refine go ?_;refine ret () trivial ?_;rw [<-Ar2,show l.all (okQ up)=true from aW.2 fun p hp=>by obtain ⟨j,hj,rfl⟩:=bi hp;exact hk2 j hj hj,bV];by_cases h6:l.length<=6
  ·rw [av h6,av EZ];rfl
  ·rw [ay h6,ay EZ];rfl
theorem Wf (e:Bh) (v:Value) (F:aq):FV 153 [v] [.isv Bv v e F] (.bool (Mn e)):=by
 refine enter func153 rfl ntmps153 fun w0=>?_;refine Ew ?_;rintro a1 c1 F1 rfl l1;refine go ?_;intros;refine D6 rfl rfl (fun h1=>?_) (fun h1=>?_)
 ·refine go ?_;refine ret () trivial ?_;unfold Mn;rw [av h1,bV];by_cases h:e.Ah.length=0
  ·rw [av h,av EZ];rfl
  ·rw [ay h,ay EZ];rfl
 ·refine go ?_;refine ret () trivial ?_;unfold Mn;rw [ay h1];rfl
theorem Beh (p:As) (hs:p.data.size<=maxLen):FV 222 [.agg #[aa (p).Cq,aa (p).Ae,aa (p).Am,aa (p).E7,af (p).data]] [] (.bool (!Bo p)):=by
 refine enter func222 rfl ntmps222 fun w0=>?_;refine go ?_;intros;refine Bf (Wc p hs) fun _ _=>?_;exact AA
theorem Ai5 (l:List As) (a:aj) (c:Nat) (F:aq):FV 150 [ab a l.length c] [.sl An (ab a l.length c) l F] (.bool (Ff l)):=by
 refine enter func150 rfl ntmps150 fun w0=>?_;refine Alp (E:=An) (fun p:As=>p.data.size<=maxLen) (fun w cs x F h=>by obtain ⟨_,h,_⟩:=h;exact h) ?_;intro hz;refine go ?_;refine D6 rfl rfl (fun h1=>?_) (fun h1=>?_)
 ·refine go ?_;refine cb (fun w st=>(Arc 222 [] [] [] rfl l a c F (fun p=>!Bo p) FC EZ (fun p hp w _=>(Beh p (hz p hp)).val w (by intro q hq;cases hq))).val w (Iw (st.get (p:=.sl _ _ _ _) FD))) ?_;refine go ?_;refine ret () trivial ?_;unfold Ff;rw [av (show l.length<=6 by omega),ej];simp;rfl
 ·refine go ?_;refine ret () trivial ?_;unfold Ff;rw [ay (show ¬l.length<=6 by omega)];rfl
theorem Un (r:A1) (v:Value) (F:aq):FV 154 [v] [.isv B8 v r F] (.bool (Tk r)):=by
 have key:∀b:Bool,(b=(!r.Be && decide (r.Ai=0) && (decide (r.Aa.next=0) && decide (r.Aa.Ap.length=0) && decide (r.Ao.length=0))))->b=Tk r:=fun b h=>h;refine enter func154 rfl ntmps154 fun w0=>?_;refine Hf ?_;rintro a1 c1 F1 a2 c2 F2 rfl l1 l2;unfold maxLen at l1 l2;cases hs:r.Be <;> rw [hs] at key
 ·refine go ?_;intros;refine D6 rfl rfl (fun h1=>?_) (fun h1=>?_)
  ·refine go ?_;refine D6 rfl rfl (fun h2=>?_) (fun h2=>?_)
   ·refine go ?_;refine D6 rfl rfl (fun h3=>?_) (fun h3=>?_)
    ·refine go ?_;refine ret () trivial ?_;rw [<-key (decide ((r.Ao.length:Int)=0)) (by simp [h1,h2,show r.Aa.Ap.length=0 by omega])];rfl
    ·refine go ?_;refine ret () trivial ?_;rw [<-key false (by simp [show ¬r.Aa.Ap=[] from fun e=>h3 (by rw [e];rfl)])];rfl
   ·refine go ?_;refine ret () trivial ?_;rw [<-key false (by simp [h2])];rfl
  ·refine go ?_;refine ret () trivial ?_;rw [<-key false (by simp [h1])];rfl
 ·refine go ?_;intros;refine ret () trivial ?_;rw [<-key false FB];rfl
theorem Beg (p:As):FV 152 [.agg #[aa (p).Cq,aa (p).Ae,aa (p).Am,aa (p).E7,af (p).data]] [] (.bool (!decide (p.Cq=3))):=by
 refine enter func152 rfl ntmps152 fun w0=>?_;refine go ?_;intros;refine ret () trivial ?_;rw [<-decide_not];rfl
theorem Bcw (l:List As):(l.any fun p=>!decide (p.Cq=3)) = !upQ l:=by
 unfold upQ;rw [eu]
theorem Art {α:Type} (l:List α):decide ((l.length:Int)=0)=decide (l.length=0):=by
 by_cases h:l.length=0
 ·rw [av h,av EZ]
 ·rw [ay h,ay EZ]
theorem Ay0 {par:ar} {clk:Int} {i:Nat} {e:Bh} {r:A1} {d u:List As} (h:(Ff d && Ff u && upQ u)=false):Qj par clk i e r d u=false:=by unfold Qj;rw [h];rfl
theorem Bey {par:ar} {clk:Int} {i:Nat} {e:Bh} {r:A1} {d u:List As} (h:(Ff d && Ff u && upQ u)=true):Qj par clk i e r d u=(if i=0 then Mn e && Tk r && decide (d.length=0) && decide (u.length=0)
  else if D5 par i then Mn e && Bp r && decide (r.Ai=clk) else Ba e && decide (e.Ai=clk) && Tk r):=by unfold Qj;rw [h,bV]
theorem Ah2 (n:Du) (i:Nat) (v:Value) (F:aq) (hl:Lj n=true) (hi:i < n.Al.Ac.length):FV 81 [v,aa (i:Nat)] [.isv Pb v n F] (.bool (Ss n i)):=by
 obtain ⟨q1,q2,q3,q4⟩:=Bg.1 hl;rw [Ug EZ EZ EZ EZ];refine enter func81 rfl ntmps81 fun w0=>?_;refine Fm ?_;rintro a1 c1 F1 a2 c2 F2 a3 c3 F3 a4 c4 F4 a5 c5 F5 a6 c6 F6 a7 c7 F7 rfl l1 l2 l3 l4 l5 l6 l7;unfold maxLen at l1 l2 l3 l4 l5 l6 l7;refine Ir n.Al ?_;refine P6 (xs:=n.Af) i ?_;rintro hi4 b4 o4 a8 c8 F8 rfl l8;refine Gc n.Af[i] ?_;refine I8 (xs:=n.Ad) i ?_;rintro hi5 b5 o5 a9 c9 F9 a10 c10 F10 rfl l9 l10;refine Ep n.Ad[i] ?_;refine Oc (E:=An) (hz:=FA) (xs:=n.down) i ?_;rintro hi6 b6 o6 a11 c11 F11 rfl l11
 refine Oc (E:=An) (hz:=FA) (xs:=n.up) i ?_;rintro hi7 b7 o7 a12 c12 F12 rfl l12;unfold maxLen at l8 l9 l10 l11 l12;refine go ?_;intros;refine D0 [1,2,4] [0,1,2,3,4,5,6,7,8,9,10,11,12,13,14,15,16,17,18,19,20] (fun z:Nat × Nat=>[(5,Ga z.1 0 0),(6,Ga z.2 0 0)]) (fun z=>[.row z.1 122 0 [] [aa n.Af[i].Ai,.slice a8 n.Af[i].Ah.length c8] [],.row z.2 76 0 [] [.bool n.Ad[i].Be,aa n.Ad[i].Ai,aa n.Ad[i].Aa.next,.slice a9 n.Ad[i].Aa.Ap.length c9,.slice a10 n.Ad[i].Ao.length c10] []]) (fun _=>True) ?_ fun z _=>?_
 ·refine Ar [0,6,10] [] ?_;refine Df 0 1 2 3 ?_;refine Df 4 5 6 7 ?_;refine Dh 8 9 ?_;refine dM 10 11 ?_ ?_
  ·apply Cm;rfl;intro _;refine dk ?_;refine dN 11 ?_;exact AR
  ·apply Cm;rfl;intro _;refine dk ?_;refine dN 10 ?_;exact AR
 refine go ?_;refine Bf (Ai5 n.down[i] _ _ F11) fun _ _=>?_;cases g1:Ff n.down[i]
 ·rw [Ay0 (by rw [g1];rfl)];exact AA
 refine go ?_;refine Bf (Ai5 n.up[i] _ _ F12) fun _ _=>?_;cases g2:Ff n.up[i]
 ·rw [Ay0 (by rw [g1,g2];rfl)];exact AA
 have u6:n.up[i].length<=6:=by
  unfold Ff at g2;simp only [aw,aF] at g2;exact g2.1
 refine go ?_;refine cb (fun w st=>(Arc 152 [] [] [] rfl n.up[i] a12 c12 F12 (fun p=>!decide (p.Cq=3)) FC EZ (fun p hp w _=>(Beg p).val w (by intro q hq;cases hq))).val w (Iw (st.get (p:=.sl _ _ _ _) FD))) ?_;rw [Bcw];cases g3:upQ n.up[i]
 ·rw [Ay0 (by rw [g1,g2,g3];rfl)];exact AA
 rw [Bey (by rw [g1,g2,g3];rfl)];refine go ?_;refine A4 rfl (fun h0=>?_) (fun h0=>?_)
 ·obtain rfl:i=0:=EZ
  rw [aJ rfl];refine go ?_;refine Bf (Wf n.Af[0] _ F8) fun _ _=>?_;cases g4:Mn n.Af[0]
  ·exact AA
  refine go ?_;refine Bf (Un n.Ad[0] _ (F9++F10)) fun _ _=>?_;cases g5:Tk n.Ad[0]
  ·exact AA
  refine go ?_;refine D6 rfl rfl (fun h6=>?_) (fun h6=>?_)
  ·refine go ?_;refine ret () trivial ?_;rw [<-Art n.down[0],<-Art n.up[0],av h6];rfl
  ·refine go ?_;refine ret () trivial ?_;rw [<-Art n.down[0],ay h6];rfl
 rw [aC EZ];refine go ?_;refine Bf (W9 n.Al i _ F1) fun _ _=>?_;cases g6:D5 n.Al.Ac i
 ·rw [aC FA];refine go ?_;refine cb (fun w st=>Ub _ n.Af[i] F8 w (st.get (p:=.isv _ _ _ _) FD)) ?_;cases g4:Ba n.Af[i]
  ·exact AA
  refine go ?_;refine D6 rfl rfl (fun h7=>?_) (fun h7=>?_)
  ·refine go ?_;refine Bf (Un n.Ad[i] _ (F9++F10)) fun _ _=>?_;refine go ?_;refine ret () trivial ?_;rw [av h7];rfl
  ·refine go ?_;refine ret () trivial ?_;rw [ay h7];rfl
 ·rw [aJ rfl];refine go ?_;refine Bf (Wf n.Af[i] _ F8) fun _ _=>?_;cases g4:Mn n.Af[i]
  ·exact AA
  refine go ?_;refine Bf (Tp n.Ad[i] _ (F9++F10)) fun _ _=>?_;cases g5:Bp n.Ad[i]
  ·exact AA
  exact AA
theorem Aak (n:Du) (v:Value) (F:aq):FV 42 [v] [.isv Pb v n F] (.bool (At n)):=by
 refine enter func42 rfl ntmps42 fun w0=>?_;refine Fm ?_;rintro a1 c1 F1 a2 c2 F2 a3 c3 F3 a4 c4 F4 a5 c5 F5 a6 c6 F6 a7 c7 F7 rfl l1 l2 l3 l4 l5 l6 l7;unfold maxLen at l1 l2 l3 l4 l5 l6 l7;refine Ir n.Al ?_;refine Fb n.Ab ?_;refine go ?_;intros;refine Bf (Ahv n.Al _ F1) fun _ _=>?_;cases g1:Hj n.Al
 ·rw [show At n=false by unfold At;rw [g1];rfl];exact AA
 refine go ?_;refine Bf (Aef n.Ab _ (F2++F3)) fun _ _=>?_;cases g2:Ck n.Ab
 ·rw [show At n=false by unfold At;rw [g1,g2];rfl];exact AA
 refine go ?_;refine D6 rfl rfl (fun m0=>?_) (fun m0=>?_)
 ·rw [show At n=false by
   have:Lj n=false:=by
    cases hl:Lj n
    ·rfl
    ·obtain ⟨q1,q2,q3,q4⟩:=Bg.1 hl;exact absurd EZ m0
   unfold At;rw [this];simp]
  exact AA
 refine go ?_;refine D6 rfl rfl (fun m1=>?_) (fun m1=>?_)
 ·rw [show At n=false by
   have:Lj n=false:=by
    cases hl:Lj n
    ·rfl
    ·obtain ⟨q1,q2,q3,q4⟩:=Bg.1 hl;exact absurd EZ m1
   unfold At;rw [this];simp]
  exact AA
 refine go ?_;refine D6 rfl rfl (fun m2=>?_) (fun m2=>?_)
 ·rw [show At n=false by
   have:Lj n=false:=by
    cases hl:Lj n
    ·rfl
    ·obtain ⟨q1,q2,q3,q4⟩:=Bg.1 hl;exact absurd EZ m2
   unfold At;rw [this];simp]
  exact AA
 refine go ?_;refine A4 rfl (fun m3=>?_) (fun m3=>?_)
 ·rw [show At n=false by
   have:Lj n=false:=by
    cases hl:Lj n
    ·rfl
    ·obtain ⟨q1,q2,q3,q4⟩:=Bg.1 hl;exact absurd EZ m3
   unfold At;rw [this];simp]
  exact AA
 have q1:n.Af.length=n.Al.Ac.length:=EZ
 have q2:n.Ad.length=n.Al.Ac.length:=EZ
 have q3:n.down.length=n.Al.Ac.length:=EZ
 have q4:n.up.length=n.Al.Ac.length:=EZ
 have hl:=Bg.2 ⟨q1,q2,q3,q4⟩;refine go ?_;refine Em [1,2,47] (fun k:Nat=>[(48,aa (k:Nat))]) (fun k=>k<=n.Al.Ac.length/\∀j,j < k->Ss n j=true) (fun k=>n.Al.Ac.length - k) 0 ⟨aG _,fun j h=>by omega⟩ fun k hk=>?_;obtain ⟨hk1,hk2⟩:=hk;refine go ?_;refine A4 rfl (fun h1=>?_) (fun h1=>?_)
 ·have hh:k < n.Al.Ac.length:=EZ
  refine go ?_;refine Bf (Ah2 n k _ F hl hh) fun _ _=>?_;cases g:Ss n k
  ·rw [Af1 hh g];exact AA
  refine go ?_;refine Ca (k+1) ⟨hh,fun j hj=>?_⟩ GC;rcases bc (bC.1 hj) with h|rfl
  ·exact hk2 j h
  ·exact g
 ·obtain rfl:k=n.Al.Ac.length:=EZ
  refine go ?_;refine ret () trivial ?_;rw [Mj.2 ⟨g1,g2,hl,hk2⟩];rfl
theorem Asc {par:ar} {clk:Int} {i:Nat} {e:Bh} {r:A1} {d u:List As} (h:(Ba e && Bp r && Ff d && (Ff u && upQ u))=false):Qj par clk i e r d u=false:=by rw [<-Ac2];unfold Ag4;rw [h];rfl
theorem Bez {par:ar} {clk:Int} {i:Nat} {e:Bh} {r:A1} {d u:List As} (h:(Ba e && Bp r && Ff d && (Ff u && upQ u))=true):Qj par clk i e r d u=(if i=0 then Mn e && (!r.Be && decide (r.Ai=0)) && decide (d.length+u.length=0)
  else if D5 par i then Mn e && decide (r.Ai=clk) else (!r.Be && decide (r.Ai=0)) && decide (e.Ai=clk)):=by rw [<-Ac2];unfold Ag4;rw [h,bV]
theorem Bbq (n:Du) (i:Nat) (v:Value) (F:aq) (hl:Lj n=true) (hi:i < n.Al.Ac.length) (hg:Lv n.Al.Ac):FV 120 [v,aa (i:Nat)] [.isv Pb v n F] (.bool (Ss n i)):=by
 obtain ⟨q1,q2,q3,q4⟩:=Bg.1 hl;rw [Ug EZ EZ EZ EZ];refine enter func120 rfl ntmps120 fun w0=>?_;refine Fm ?_;rintro a1 c1 F1 a2 c2 F2 a3 c3 F3 a4 c4 F4 a5 c5 F5 a6 c6 F6 a7 c7 F7 rfl l1 l2 l3 l4 l5 l6 l7;unfold maxLen at l1 l2 l3 l4 l5 l6 l7;refine Ir n.Al ?_;refine P6 (xs:=n.Af) i ?_;rintro hi4 b4 o4 a8 c8 F8 rfl l8;refine Gc n.Af[i] ?_;refine I8 (xs:=n.Ad) i ?_;rintro hi5 b5 o5 a9 c9 F9 a10 c10 F10 rfl l9 l10;refine Ep n.Ad[i] ?_;refine Oc (E:=An) (hz:=FA) (xs:=n.down) i ?_;rintro hi6 b6 o6 a11 c11 F11 rfl l11
 refine Oc (E:=An) (hz:=FA) (xs:=n.up) i ?_;rintro hi7 b7 o7 a12 c12 F12 rfl l12;unfold maxLen at l8 l9 l10 l11 l12;refine go ?_;intros;refine D0 [1,2,4] [0,1,2,3,4,5,6,7,8,9,10,11,12,13,14,15,16,17,18,19,20] (fun z:Nat × Nat=>[(5,Ga z.1 0 0),(6,Ga z.2 0 0)]) (fun z=>[.row z.1 122 0 [] [aa n.Af[i].Ai,.slice a8 n.Af[i].Ah.length c8] [],.row z.2 76 0 [] [.bool n.Ad[i].Be,aa n.Ad[i].Ai,aa n.Ad[i].Aa.next,.slice a9 n.Ad[i].Aa.Ap.length c9,.slice a10 n.Ad[i].Ao.length c10] []]) (fun _=>True) ?_ fun z _=>?_
 ·refine Ar [0,6,10] [] ?_;refine Df 0 1 2 3 ?_;refine Df 4 5 6 7 ?_;refine Dh 8 9 ?_;refine dM 10 11 ?_ ?_
  ·apply Cm;rfl;intro _;refine dk ?_;refine dN 11 ?_;exact AR
  ·apply Cm;rfl;intro _;refine dk ?_;refine dN 10 ?_;exact AR
 refine go ?_;refine cb (fun w st=>Ajc _ n.Af[i] F8 w (st.get (p:=.isv _ _ _ _) FD)) ?_;cases g1:Ba n.Af[i]
 ·rw [Asc (by rw [g1];rfl)];exact AA
 refine go ?_;refine Bf (Ajb n.Ad[i] _ (F9++F10)) fun _ _=>?_;cases g2:Bp n.Ad[i]
 ·rw [Asc (by rw [g1,g2];rfl)];exact AA
 refine go ?_;refine Bf (Age n.down[i] false _ _ F11 EZ) fun _ _=>?_;rw [show (Ff n.down[i] && (!false || upQ n.down[i]))=Ff n.down[i] by simp];cases g3:Ff n.down[i]
 ·rw [Asc (by rw [g1,g2,g3];rfl)];exact AA
 refine go ?_;refine Bf (Age n.up[i] true _ _ F12 EZ) fun _ _=>?_;rw [show (Ff n.up[i] && (!true || upQ n.up[i]))=(Ff n.up[i] && upQ n.up[i]) by simp];cases g4:(Ff n.up[i] && upQ n.up[i])
 ·rw [Asc (by rw [g1,g2,g3,g4];rfl)];exact AA
 rw [Bez (by rw [g1,g2,g3,g4];rfl)]
 repeat (first|apply Og|(apply wO;apply oc;rfl;exact ydE)|apply U5|apply Ys|(apply Aq7;rfl;rfl)|(apply Aq6;rfl;rfl;rfl;rfl)|(apply Aq8;rfl;rfl;rfl)|(apply c_t;rfl)|(apply c_f;rfl)|apply Ww|apply Tq|apply Agl)
 refine D0 [1,2,4,5,6] [0,1,2,3,4,5,6,7,8,9,10,11,12,13,14,15,16,17,18,19,20,21,22] (fun _:Unit=>[(7,.bool (Mn n.Af[i]))]) (fun _=>[]) (fun _=>True) ?_ fun _ _=>?_
 ·refine go ?_;refine D6 rfl rfl (fun h1=>?_) (fun h1=>?_)
  ·refine go ?_;rw [show decide ((n.Af[i].Ah.length:Int)=0)=Mn n.Af[i] by unfold Mn;rw [av h1,Art];rfl];refine Bk () trivial
  ·refine go ?_;rw [show false=Mn n.Af[i] by unfold Mn;rw [ay h1];rfl];refine Bk () trivial
 repeat (first|apply Og|(apply wO;apply oc;rfl;exact ydE)|apply U5|apply Ys|(apply Aq7;rfl;rfl)|(apply Aq6;rfl;rfl;rfl;rfl)|(apply Aq8;rfl;rfl;rfl)|(apply c_t;rfl)|(apply c_f;rfl)|apply Ww|apply Tq|apply Agl)
 refine D0 [1,2,4,5,6,7] [0,1,2,3,4,5,6,7,8,9,10,11,12,13,14,15,16,17,18,19,20,21,22] (fun _:Unit=>[(8,.bool (!n.Ad[i].Be && decide (n.Ad[i].Ai=0)))]) (fun _=>[]) (fun _=>True) ?_ fun _ _=>?_
 ·cases hs:n.Ad[i].Be
  ·exact CP
  ·exact CP
 refine Ot ?_;generalize hzr:(!n.Ad[i].Be && decide (n.Ad[i].Ai=0))=zr;refine go ?_;refine A4 rfl (fun h0=>?_) (fun h0=>?_)
 ·obtain rfl:i=0:=EZ
  rw [aJ rfl];have hd6:(n.down[0].length:Int)+(n.up[0].length:Int)<=12:=by
   unfold Ff at g3 g4;simp only [aw,aF] at g3 g4;omega
  cases hze:Mn n.Af[0] <;> cases zr
  ·refine go ?_;refine Ar [2,3,5] [] ?_;refine Dh 0 1 ?_;refine ds 2 ?_;exact BA
  ·refine go ?_;refine Ar [2,3,5] [] ?_;refine Dh 0 1 ?_;refine ds 2 ?_;exact BA
  ·refine go ?_;refine Ar [2,3,5] [] ?_;refine Dh 0 1 ?_;refine C5 2 ?_;exact BA
  ·refine go ?_;refine Ar [2,3,5] [] ?_;refine Dh 0 1 ?_;refine C5 2 ?_;refine Dh 3 4 ?_;refine C5 5 ?_;refine C5 6 ?_;refine C5 7 ?_;refine C5 8 ?_;refine C5 9 ?_;refine C5 10 ?_;refine C5 11 ?_;refine C5 12 ?_;refine C5 13 ?_;refine C5 14 ?_;refine C5 15 ?_;refine C5 16 ?_;refine Dh 17 18 ?_;refine dd ?_;refine go ?_;refine ret () trivial ?_;rw [show decide ((n.down[0].length:Int)+(n.up[0].length:Int)=0)=decide (n.down[0].length+n.up[0].length=0) by congr 1;rw [eq_iff_iff];omega];rfl
 rw [aC EZ];refine go ?_;refine Bf (N1 n.Al i _ F1 hg EZ) fun _ _=>?_;cases g6:D5 n.Al.Ac i
 ·rw [aC FA];cases zr
  ·exact AA
  ·exact AA
 ·rw [aJ rfl];cases hze:Mn n.Af[i]
  ·exact AA
  ·exact AA
theorem Acm (n:Du) (v:Value) (F:aq):FV 59 [v] [.isv Pb v n F] (.bool (At n)):=by
 refine enter func59 rfl ntmps59 fun w0=>?_;refine Fm ?_;rintro a1 c1 F1 a2 c2 F2 a3 c3 F3 a4 c4 F4 a5 c5 F5 a6 c6 F6 a7 c7 F7 rfl l1 l2 l3 l4 l5 l6 l7;unfold maxLen at l1 l2 l3 l4 l5 l6 l7;refine Ir n.Al ?_;refine Fb n.Ab ?_;refine go ?_;intros;refine Bf (Agf n.Al _ F1) fun _ _=>?_;cases g1:Hj n.Al
 ·rw [show At n=false by unfold At;rw [g1];rfl];exact AA
 refine go ?_;refine Bf (Aja n.Ab _ (F2++F3)) fun _ _=>?_;cases g2:Ck n.Ab
 ·rw [show At n=false by unfold At;rw [g1,g2];rfl];exact AA
 refine go ?_;refine D6 rfl rfl (fun m0=>?_) (fun m0=>?_)
 ·rw [show At n=false by
   have:Lj n=false:=by
    cases hl:Lj n
    ·rfl
    ·obtain ⟨q1,q2,q3,q4⟩:=Bg.1 hl;exact absurd EZ m0
   unfold At;rw [this];simp]
  exact AA
 refine go ?_;refine D6 rfl rfl (fun m1=>?_) (fun m1=>?_)
 ·rw [show At n=false by
   have:Lj n=false:=by
    cases hl:Lj n
    ·rfl
    ·obtain ⟨q1,q2,q3,q4⟩:=Bg.1 hl;exact absurd EZ m1
   unfold At;rw [this];simp]
  exact AA
 refine go ?_;refine D6 rfl rfl (fun m2=>?_) (fun m2=>?_)
 ·rw [show At n=false by
   have:Lj n=false:=by
    cases hl:Lj n
    ·rfl
    ·obtain ⟨q1,q2,q3,q4⟩:=Bg.1 hl;exact absurd EZ m2
   unfold At;rw [this];simp]
  exact AA
 refine go ?_;refine A4 rfl (fun m3=>?_) (fun m3=>?_)
 ·rw [show At n=false by
   have:Lj n=false:=by
    cases hl:Lj n
    ·rfl
    ·obtain ⟨q1,q2,q3,q4⟩:=Bg.1 hl;exact absurd EZ m3
   unfold At;rw [this];simp]
  exact AA
 have q1:n.Af.length=n.Al.Ac.length:=EZ
 have q2:n.Ad.length=n.Al.Ac.length:=EZ
 have q3:n.down.length=n.Al.Ac.length:=EZ
 have q4:n.up.length=n.Al.Ac.length:=EZ
 have hl:=Bg.2 ⟨q1,q2,q3,q4⟩;refine go ?_;refine Em [1,2,3] (fun k:Nat=>[(4,aa (k:Nat))]) (fun k=>k<=n.Al.Ac.length/\∀j,j < k->Ss n j=true) (fun k=>n.Al.Ac.length - k) 0 ⟨aG _,fun j h=>by omega⟩ fun k hk=>?_;obtain ⟨hk1,hk2⟩:=hk;refine go ?_;refine A4 rfl (fun h1=>?_) (fun h1=>?_)
 ·have hh:k < n.Al.Ac.length:=EZ
  refine go ?_;refine Bf (Bbq n k _ F hl hh (Gf g1)) fun _ _=>?_;cases g:Ss n k
  ·rw [Af1 hh g];exact AA
  refine go ?_;refine Ca (k+1) ⟨hh,fun j hj=>?_⟩ GC;rcases bc (bC.1 hj) with h|rfl
  ·exact hk2 j h
  ·exact g
 ·obtain rfl:k=n.Al.Ac.length:=EZ
  refine go ?_;refine ret () trivial ?_;rw [Mj.2 ⟨g1,g2,hl,hk2⟩];rfl
structure StZ where
 cs:am
 F:aq
 a:aj
 c:Nat
 Fe:aq
theorem Aow {n:Du} (hg:At n=true) (hc:n.Ab.Ai < 9999):∀k,k+1<=n.Al.Ac.length->(Bd n k).2.length<=40000 * k
 | 0,_=>aL _
 | k+1,hk=>by
  have h:=Aow hg hc k EZ;obtain ⟨hGN,hT,hSrc⟩:=Pa hg hc k EZ;obtain ⟨i1,i2,i3,i4,hrn⟩:=hGN.rn (i:=k+1) (by rw [hT];omega);show ((Bd n k).2++(Nf (Bd n k).1 (k+1)).2).length<=_;rw [aA];have:(Nf (Bd n k).1 (k+1)).2.length<=40000:=by
   unfold Nf
   split
   ·rename_i hl;have hgr:=Ej.1 (hrn.hf EZ hl).2.1;obtain ⟨-,hfew⟩:=Ac9 hgr;rw [Gp i2];show ((Hh _).map _).length<=_;rw [bf];omega
   ·exact aG _
  omega
theorem Aoq {n:Du} {s:Jf} {r:Du × ai} (hg:At n=true) (hs:Dq s=true) (hr:Bm n s=some r):r.2.length<=400000:=by
 have hG:=Ax.1 hg;have h8:=Gf hG.t;have hn8:=h8.n1;have hn2:=h8.n0;have hck:=Xs hG.s;have hr0:=hr;unfold Bm at hr
 split at hr
 ·cases hr;exact aG _
 split at hr
 ·split at hr
  ·cases hr
  ·cases hr;have:=Aow hg EZ (n.Al.Ac.length - 1) EZ;show (Bd n (n.Al.Ac.length - 1)).2.length<=_;omega
 unfold C4 at hr
 split at hr
 ·cases hr
 split at hr
 ·cases hr
 split at hr
 ·rename_i h1 h4 hlt h0 hk;cases hr;have hgp:=Ll (s:=s) hg;have hGp:=Ax.1 hgp;have hf:Oi s.node=true:=by
   have:=hs;unfold Dq at this;rw [aC h1,aC h4] at this;simp only [aw] at this;exact this.1.2
  obtain ⟨f1,f2⟩:=M5.1 hf;have hpt:(Gm n s).Al=n.Al:=JY
  obtain ⟨i1,i2,i3,i4,hrn⟩:=hGp.rn (i:=s.node.toNat) (by rw [hpt];omega);unfold C8
  split
  ·rename_i hl;have hgr:=Ej.1 (hrn.hf EZ hl).2.1;obtain ⟨d0,d1⟩:=Ab7 (i:=s.node.toNat);have hp:Bo (M8 (T5 n s))=true:=M3 (Md (s:=s) hg).1 (Ok EZ);have:=(Ul hgr hp d0 d1).2;rw [Gp i2];show ((Id _ _).map _).length<=_;rw [bf];omega
  ·exact aG _
 split at hr
 ·cases hr;exact aG _
 ·cases hr;exact aG _
abbrev NE:=Du × ai
def I4 (i:Nat):Jf:=⟨2,(i:Int),⟨#[]⟩⟩
def Ly (i:Nat):Jf:=⟨5,(i:Int),⟨#[]⟩⟩
def Mu (x:NE) (s:Jf):NE:=(Hq x.1 (Bm x.1 s),x.2++Uy (Bm x.1 s))
def Arz (x:NE) (i:Nat):NE:=Mu (Mu x (I4 i)) (Ly i)
def Hp (x:NE):Nat->NE
 | 0=>x
 | k+1=>Arz (Hp x k) (k+1)
def Vu (x:NE):NE:=Hp x (x.1.Al.Ac.length - 1)
def Qe (x:NE):Nat->Bool
 | 0=>false
 | k+1=>Qe x k || (Bm (Hp x k).1 (I4 (k+1))).isSome || (Bm (Mu (Hp x k) (I4 (k+1))).1 (Ly (k+1))).isSome
def qd (l:List (List As)):Nat:=(l.map List.length).sum
def Xm (n:Du):Nat:=qd n.down+qd n.up
def vd (i:Nat):Nat:=8 ^ (7 - i)
def vu (i:Nat):Nat:=524289 * i
def wN (n:Du):Nat:=L9 vd 0 n.down+L9 vu 0 n.up
def Sv:Nat->NE->NE
 | 0,x=>x
 | f+1,x=>if Xm x.1=0 then x else Sv f (Vu x)
def drE (x:NE):NE:=Sv (wN x.1) x
def P9 (n:Du):NE:=drE (n,[])
theorem Bab (i:Nat):0 < vd i:=Nat.pow_pos FA
theorem Bdq {i:Nat} (h:1<=i):vd i<=262144:=bG (dI (n:=8) FA (show 7 - i<=6 by omega)) FA
theorem Baa {nodes:ar} {i:Nat} (hl:nodes.length<=7) (h:∀x∈nodes,i < x.toNat/\x.toNat<=7):Aae vd nodes+1<=vd i:=by
 cases nodes with
 | nil=>exact Bab i
 | cons x r =>
  obtain ⟨a,b⟩:=h x FB;have h1:=Akc vd (8 ^ (6 - i)) (x::r) fun y hy=>by
   have:=h y hy;exact dI FA EZ
  have h2:=cI (8 ^ (6 - i)) hl;have h3:0 < 8 ^ (6 - i):=Nat.pow_pos FA;have h4:vd i=8 ^ (6 - i) * 8:=by unfold vd;rw [<-dZ];congr 1;omega
  omega
theorem Bdr {i p:Nat} (h0:1<=i) (h:p < i):2 * vd i+vu p+1<=vu i:=by
 have h1:=Bdq h0;unfold vu;omega
theorem Axm {l:ar} (hg:Lv l) (i:Nat):(Ij l (i:Int)).length<=7:=by
 have h0:=hg.n0;have h1:=hg.n1;rw [<-Ai7 (Qb hg.z (dB i)) (k:=l.length - 1) EZ];have:=Ai8 l (i:Int) (l.length - 1);omega
theorem Amt {e:Bh} (he:Ba e=true) {n:Int} {l:ar} (hl:l.length<=7):(Uj e n l).length<=7:=by
 unfold Uj
 split
 ·rename_i x hx;exact bG (bJ _ _) ((Uk he).2.2 x (cg hx))
 ·split
  ·exact hl
  ·exact aG _
theorem Bbc {n:Du} (hg:At n=true) (i:Nat) (p:As):(Aek n i p).length<=7/\∀x∈Aek n i p,i < x.toNat/\x.toNat<=7:=by
 have hG:=Ax.1 hg;have h8:=Gf hG.t;have hn8:=h8.n1;have hk:=Axm h8 i;have hb:∀x∈Y3 n i,i < x.toNat/\x.toNat<=7:=fun x hx=>by
  have:=Lh h8 hx;omega
 unfold Aek
 split
 ·refine ⟨?_,fun x hx=>hb x (Aau x hx)⟩;by_cases hi:i < n.Af.length
  ·have ee:Pk n i=n.Af[i]:=by unfold Pk;rw [bn,aD hi];rfl
   rw [ee];exact Amt ((Hz hg).1 _ (aB hi)) hk
  ·have ee:Pk n i=⟨0,[]⟩:=by unfold Pk;rw [bn,br EZ];rfl
   rw [ee];exact Amt FA hk
 ·exact ⟨hk,hb⟩
theorem Bba {n:Du} (hg:At n=true) (i:Nat) (p:As):wN (C8 n i p).1+1<=wN n+vd i:=by
 have h0:=Bab i;unfold C8
 split
 ·show wN n+1<=_;omega
 ·obtain ⟨h1,h2⟩:=Bbc hg i p;have h3:=Baa h1 h2;have h4:=T0 vd [p] (Aek n i p) n.down;show L9 vd 0 (Dr n.down (Aek n i p) [p])+L9 vu 0 n.up+1<=L9 vd 0 n.down+L9 vu 0 n.up+vd i;simp only [dH,gF] at h4;omega
theorem Ayx (x:Cr) (p:As):(Nk x p).length<=2:=by
 unfold Nk
 split
 ·split
  ·exact (by decide:1<=2)
  ·exact (by decide:2<=2)
 ·exact (by decide:1<=2)
theorem Bhv {n:Du} (hg:At n=true) {i:Nat} (h0:1<=i) (hi:i < n.Al.Ac.length) (p:As):wN (P4 n i p)+1<=wN n+vu i:=by
 have hG:=Ax.1 hg;have h8:=Gf hG.t;have hn8:=h8.n1;have hv:=Bdq h0;have hone:Aae vd [((i:Nat):Int)]=vd i:=by show vd ((i:Nat):Int).toNat+0=_;rfl
 unfold P4
 split
 ·have h4:=T0 vd (Nk n.Ab p) [((i:Nat):Int)] n.down;have h5:=cI (vd i) (Ayx n.Ab p);rw [hone] at h4;have h6:=Bdr (p:=0) h0 EZ;show L9 vd 0 (Dr n.down [((i:Nat):Int)] (Nk n.Ab p))+L9 vu 0 n.up+1<=L9 vd 0 n.down+L9 vu 0 n.up+vu i;omega
 ·rename_i hp;have hlt:Yu n i < i:=by
   have:=h8.p i hi EZ;unfold Yu;rw [bn,aD hi];show (n.Al.Ac[i]).toNat < i;omega
  have h4:=T0 vd [Zl p] [((i:Nat):Int)] n.down;rw [hone] at h4;simp only [dH,gF] at h4;have h6:=Bdr h0 hlt;have h7:=Ao3 vu n.up (Yu n i) [p];simp only [dH,gF] at h7;show L9 vd 0 (Dr n.down [((i:Nat):Int)] [Zl p])+L9 vu 0 (if Acb (Pk n (Yu n i)) p.Ae then n.up.modify (Yu n i) fun q=>Hg q [p] else n.up)+1<=L9 vd 0 n.down+L9 vu 0 n.up+vu i
  split <;> omega
theorem Bdl (f:Nat->Nat) {l:List (List As)} {i:Nat} (hi:i < l.length) (h0:¬(l.getD i []).length=0):L9 f 0 (l.modify i (·.drop 1))+f i=L9 f 0 l:=by
 rw [Pl hi] at h0;rw [H8 hi];exact Bah f l i hi EZ
theorem Yl {n:Du} {i:Nat} (hi:i < n.Al.Ac.length):Bm n (I4 i)=if (n.down.getD i []).length=0 then none else some (C8 (Qg n i) i (M8 (n.down.getD i []))):=by
 unfold Bm;rw [aC (by show ¬(2:Int)=1;decide),aC (by show ¬(2:Int)=4;decide)];unfold C4;rw [aC (by show ¬((n.Al.Ac.length:Int)<=(i:Int));omega)];rfl
theorem Vw {n:Du} {i:Nat} (hi:i < n.Al.Ac.length):Bm n (Ly i)=if (n.up.getD i []).length=0 then none else some (P4 (Oe n i) i (M8 (n.up.getD i [])),[]):=by
 unfold Bm;rw [aC (by show ¬(5:Int)=1;decide),aC (by show ¬(5:Int)=4;decide)];unfold C4;rw [aC (by show ¬((n.Al.Ac.length:Int)<=(i:Int));omega)];rfl
theorem Bb5 {i:Nat} (h0:1<=i) (h:i<=7):Dq (I4 i)=true:=by
 unfold Dq;rw [aC (by show ¬(2:Int)=1;decide),aC (by show ¬(2:Int)=4;decide)];have:Oi (I4 i).node=true:=M5.2 (by show 1<=((i:Nat):Int)/\((i:Nat):Int)<=7;omega);rw [this];rfl
theorem Ayh {i:Nat} (h0:1<=i) (h:i<=7):Dq (Ly i)=true:=by
 unfold Dq;rw [aC (by show ¬(5:Int)=1;decide),aC (by show ¬(5:Int)=4;decide)];have:Oi (Ly i).node=true:=M5.2 (by show 1<=((i:Nat):Int)/\((i:Nat):Int)<=7;omega);rw [this];rfl
theorem As6 {n:Du} (hg:At n=true) {i:Nat} {p:As} (hp:Bo p=true) (h0:1<=i) (hi:i < n.Al.Ac.length):(C8 n i p).2.length<=24:=by
 obtain ⟨i1,i2,i3,i4,hrn⟩:=(Ax.1 hg).rn hi;unfold C8
 split
 ·rename_i hl;have hgr:=Ej.1 (hrn.hf EZ hl).2.1;obtain ⟨d0,d1⟩:=Ab7 (i:=i);have:=(Ul hgr hp d0 d1).2;rw [Gp i2];show ((Id _ _).map _).length<=_;rw [bf];exact this
 ·exact aG _
theorem Bf2 (n:Du) (i:Nat) (p:As):(C8 n i p).1.Ab=n.Ab:=by unfold C8;split <;> rfl
theorem Bf3 (n:Du) (i:Nat) (p:As):(P4 n i p).Ab.Ai=n.Ab.Ai:=by
 unfold P4
 split
 ·show (Me n.Ab p.Ae).Ai=_;unfold Me
  split <;> rfl
 ·rfl
structure U8 (x y:NE):Prop where
 g:At y.1=true
 t:y.1.Al=x.1.Al
 c:y.1.Ab.Ai=x.1.Ab.Ai
 e:y.2.length+24 * wN y.1<=x.2.length+24 * wN x.1
 w:wN y.1<=wN x.1
theorem U8.refl {x:NE} (h:At x.1=true):U8 x x:=⟨h,rfl,rfl,aL _,aL _⟩
theorem U8.trans {x y z:NE} (h:U8 x y) (k:U8 y z):U8 x z:=⟨k.g,k.t.trans h.t,k.c.trans h.c,bG k.e h.e,bG k.w h.w⟩
theorem Jt {x:NE} {s:Jf} (h:Bm x.1 s=none):Mu x s=x:=by
 unfold Mu;rw [h];show (x.1,x.2++[])=x;rw [bg]
theorem Yn {x:NE} {s:Jf} {r:NE} (h:Bm x.1 s=some r):Mu x s=(r.1,x.2++r.2):=by
 unfold Mu;rw [h];rfl
theorem Aoy {x:NE} (hg:At x.1=true) {i:Nat} (h0:1<=i) (hi:i < x.1.Al.Ac.length):U8 x (Mu x (I4 i))/\((Bm x.1 (I4 i)).isSome=true->wN (Mu x (I4 i)).1 < wN x.1):=by
 have hG:=Ax.1 hg;have hn8:=(Gf hG.t).n1;obtain ⟨q1,q2,q3,q4⟩:=Bg.1 hG.l;cases e:Bm x.1 (I4 i) with
 | none =>
  rw [Jt e];exact ⟨.refl hg,fun h=>by cases h⟩
 | some r =>
  have hr:=Mh hg (Bb5 h0 EZ) e;have ht:=So e;rw [Yn e];rw [Yl hi] at e
  split at e
  ·cases e
  ·rename_i hq;cases e;have hp:=GN.pd (Ax.1 hg) i;have hpg:At (Qg x.1 i)=true:=Ax.2 hp;have h1:=Bba hpg i (M8 (x.1.down.getD i []));have h2:wN (Qg x.1 i)+vd i=wN x.1:=by
    have:=Bdl vd (l:=x.1.down) (i:=i) EZ hq;show L9 vd 0 (x.1.down.modify i (·.drop 1))+L9 vu 0 x.1.up+vd i=L9 vd 0 x.1.down+L9 vu 0 x.1.up;omega
   have hpk:Bo (M8 (x.1.down.getD i []))=true:=M3 (Md (s:=I4 i) hg).1 (Ok (by show 0 < (x.1.down.getD i []).length;omega));have h3:=As6 hpg hpk h0 hi;have hlt:wN (C8 (Qg x.1 i) i (M8 (x.1.down.getD i []))).1 < wN x.1:=EZ
   refine ⟨⟨hr,ht,by rw [Bf2];rfl,?_,Nat.le_of_lt hlt⟩,fun _=>hlt⟩;show (x.2++_).length+24 * wN (C8 (Qg x.1 i) i (M8 (x.1.down.getD i []))).1<=_;rw [aA];omega
theorem Az3 {x:NE} (hg:At x.1=true) {i:Nat} (h0:1<=i) (hi:i < x.1.Al.Ac.length):U8 x (Mu x (Ly i))/\((Bm x.1 (Ly i)).isSome=true->wN (Mu x (Ly i)).1 < wN x.1)/\(Mu x (Ly i)).2=x.2:=by
 have hG:=Ax.1 hg;have hn8:=(Gf hG.t).n1;obtain ⟨q1,q2,q3,q4⟩:=Bg.1 hG.l;cases e:Bm x.1 (Ly i) with
 | none =>
  rw [Jt e];exact ⟨.refl hg,fun h=>(by cases h),rfl⟩
 | some r =>
  have hr:=Mh hg (Ayh h0 EZ) e;have ht:=So e;rw [Yn e];rw [Vw hi] at e
  split at e
  ·cases e
  ·rename_i hq;cases e;have hp:=GN.pu (Ax.1 hg) i;have hpg:At (Oe x.1 i)=true:=Ax.2 hp;have h1:=Bhv hpg h0 hi (M8 (x.1.up.getD i []));have h2:wN (Oe x.1 i)+vu i=wN x.1:=by
    have:=Bdl vu (l:=x.1.up) (i:=i) EZ hq;show L9 vd 0 x.1.down+L9 vu 0 (x.1.up.modify i (·.drop 1))+vu i=L9 vd 0 x.1.down+L9 vu 0 x.1.up;omega
   have hlt:wN (P4 (Oe x.1 i) i (M8 (x.1.up.getD i []))) < wN x.1:=EZ
   refine ⟨⟨hr,ht,by rw [Bf3];rfl,?_,Nat.le_of_lt hlt⟩,fun _=>hlt,bg _⟩;show (x.2++[]).length+24 * wN (P4 (Oe x.1 i) i (M8 (x.1.up.getD i [])))<=_;rw [bg];omega
theorem Oy {x:NE} (hg:At x.1=true):∀k,k+1<=x.1.Al.Ac.length->U8 x (Hp x k)/\(Qe x k=true->wN (Hp x k).1 < wN x.1)/\(Qe x k=false->Hp x k=x/\∀i,1<=i->i<=k->Bm x.1 (I4 i)=none/\Bm x.1 (Ly i)=none)
 | 0,_=>⟨.refl hg,fun h=>(by cases h),fun _=>⟨rfl,fun i a b=>by omega⟩⟩
 | k+1,hk=>by
  obtain ⟨f1,m1,z1⟩:=Oy hg k EZ;have hk1:k+1 < (Hp x k).1.Al.Ac.length:=by rw [f1.t];omega
  obtain ⟨f2,m2⟩:=Aoy f1.g EZ hk1;have hk2:k+1 < (Mu (Hp x k) (I4 (k+1))).1.Al.Ac.length:=by rw [f2.t];exact hk1
  obtain ⟨f3,m3,e3⟩:=Az3 f2.g EZ hk2;have w2:=f2.w;have w3:=f3.w;have w1:=f1.w;refine ⟨(f1.trans f2).trans f3,fun h=>?_,fun h=>?_⟩
  ·show wN (Mu (Mu (Hp x k) (I4 (k+1))) (Ly (k+1))).1 < _;unfold Qe at h;rw [bZ,bZ] at h;rcases h with (h|h)|h
   ·have:=m1 h;omega
   ·have:=m2 h;omega
   ·have:=m3 h;omega
  ·unfold Qe at h;rw [dv,dv] at h;obtain ⟨⟨h1,h2⟩,h3⟩:=h;obtain ⟨e1,z⟩:=z1 h1;have n2:Bm (Hp x k).1 (I4 (k+1))=none:=HK
   have n3:Bm (Mu (Hp x k) (I4 (k+1))).1 (Ly (k+1))=none:=HX
   have e2:=Jt n2;rw [e2] at n3;refine ⟨?_,fun i a b=>?_⟩
   ·show Mu (Mu (Hp x k) (I4 (k+1))) (Ly (k+1))=x;rw [e2,Jt n3,e1]
   ·by_cases hi:i=k+1
    ·subst hi;rw [e1] at n2 n3;exact ⟨n2,n3⟩
    ·exact z i a EZ
theorem Aa9:∀{l:List (List As)},qd l=0↔∀q∈l,q=[]
 | []=>by simp [qd]
 | x::r=>by
  have ih:=Aa9 (l:=r);show x.length+qd r=0↔_;rw [Nat.add_eq_zero_iff,bv,ih];simp
theorem Aax {l:List (List As)} {i:Nat} (h:qd l=0):(l.getD i []).length=0:=by
 rw [bn];cases e:l[i]? with
 | none=>rfl
 | some q=>rw [Aa9.1 h q (cg e)];rfl
theorem Aa7 {n:Du} (hg:At n=true):(n.down.getD 0 []).length=0/\(n.up.getD 0 []).length=0:=by
 have hG:=Ax.1 hg;have h2:=(Gf hG.t).n0;obtain ⟨h1,h2,h3,h4,r⟩:=hG.rn (i:=0) EZ;obtain ⟨-, -,a,b⟩:=r.hz rfl;rw [Pl h3,Pl h4];exact ⟨a,b⟩
theorem Bce {n:Du} (hg:At n=true) (h:∀i,1<=i->i < n.Al.Ac.length->Bm n (I4 i)=none/\Bm n (Ly i)=none):Xm n=0:=by
 have hG:=Ax.1 hg;obtain ⟨q1,q2,q3,q4⟩:=Bg.1 hG.l;obtain ⟨z1,z2⟩:=Aa7 hg;have hd:qd n.down=0:=Aa9.2 fun q hq=>by
  obtain ⟨i,hi,rfl⟩:=bi hq;rw [<-bv,<-Pl hi []];by_cases e:i=0
  ·rw [e];exact z1
  ·have:=(h i EZ EZ).1;rw [Yl EZ] at this
   split at this
   ·assumption
   ·cases this
 have hu:qd n.up=0:=Aa9.2 fun q hq=>by
  obtain ⟨i,hi,rfl⟩:=bi hq;rw [<-bv,<-Pl hi []];by_cases e:i=0
  ·rw [e];exact z2
  ·have:=(h i EZ EZ).2;rw [Vw EZ] at this
   split at this
   ·assumption
   ·cases this
 unfold Xm;omega
theorem Agk {x:NE} (hg:At x.1=true):Qe x (x.1.Al.Ac.length - 1)=false↔Xm x.1=0:=by
 have h2:=(Gf (Ax.1 hg).t).n0;constructor
 ·intro h;obtain ⟨-,hz⟩:=(Oy hg (x.1.Al.Ac.length - 1) EZ).2.2 h;exact Bce hg fun i a b=>hz i a EZ
 ·intro h;have hd:qd x.1.down=0:=by unfold Xm at h;omega
  have hu:qd x.1.up=0:=by unfold Xm at h;omega
  have:∀k,k+1<=x.1.Al.Ac.length->Qe x k=false:=by
   intro k
   induction k with
   | zero=>intro _;rfl
   | succ k ih =>
    intro hk;have h1:=ih EZ;have e1:=((Oy hg k EZ).2.2 h1).1;unfold Qe;have n1:Bm x.1 (I4 (k+1))=none:=by rw [Yl EZ,aJ (Aax hd)]
    have n2:Bm x.1 (Ly (k+1))=none:=by rw [Vw EZ,aJ (Aax hu)]
    rw [h1,e1,Jt n1,n1,n2];rfl
  exact this _ EZ
theorem Aqn {x:NE} (hg:At x.1=true) (h:Xm x.1=0):Vu x=x:=by
 have h2:=(Gf (Ax.1 hg).t).n0;exact ((Oy hg (x.1.Al.Ac.length - 1) EZ).2.2 ((Agk hg).2 h)).1
theorem Mm {x:NE} (hg:At x.1=true):U8 x (Vu x)/\(¬Xm x.1=0->wN (Vu x).1 < wN x.1):=by
 have h2:=(Gf (Ax.1 hg).t).n0;obtain ⟨a,b, -⟩:=Oy hg (x.1.Al.Ac.length - 1) EZ;refine ⟨a,fun h=>b ?_⟩;cases e:Qe x (x.1.Al.Ac.length - 1)
 ·exact absurd ((Agk hg).1 e) h
 ·rfl
theorem Qz {f:Nat} {x:NE} (h:Xm x.1=0):Sv f x=x:=by
 cases f
 ·rfl
 ·unfold Sv;rw [aJ h]
theorem Adk:∀(f g:Nat) {x:NE},At x.1=true->wN x.1<=f->wN x.1<=g->Sv f x=Sv g x
 | 0,g,x,hg,h,_=>by
  have hz:Xm x.1=0:=by
   by_cases h0:Xm x.1=0
   ·exact h0
   ·have:=(Mm hg).2 h0;omega
  rw [Qz hz,Qz hz]
 | f+1,g,x,hg,h,h2=>by
  by_cases hz:Xm x.1=0
  ·rw [Qz hz,Qz hz]
  ·obtain ⟨hf,hw⟩:=Mm hg;have hw:=hw hz;obtain ⟨m,rfl⟩:∃m,g=m+1:=⟨g - 1,EZ⟩;unfold Sv;rw [aC hz,aC hz];exact Adk f m hf.g EZ EZ
theorem Ah0 {f:Nat} {x:NE} (hg:At x.1=true) (h:wN x.1<=f):Sv f x=Sv (wN x.1) x:=Adk _ _ hg h (aL _)
theorem Aas {x:NE} (h:Xm x.1=0):drE x=x:=Qz h
theorem Afq {x:NE} (hg:At x.1=true) (h:¬Xm x.1=0):drE x=drE (Vu x):=by
 obtain ⟨hf,hw⟩:=Mm hg;have hw:=hw h;obtain ⟨m,hm⟩:∃m,wN x.1=m+1:=⟨wN x.1 - 1,EZ⟩;unfold drE;rw [hm];show (if Xm x.1=0 then x else Sv m (Vu x))=_;rw [aC h,Ah0 hf.g EZ]
theorem Afp {x:NE} (hg:At x.1=true):U8 x (drE x)/\Xm (drE x).1=0:=by
 obtain ⟨k,hk⟩:∃k,wN x.1<=k:=⟨_,aL _⟩
 induction k generalizing x with
 | zero =>
  have hz:Xm x.1=0:=by
   by_cases h:Xm x.1=0
   ·exact h
   ·have:=(Mm hg).2 h;omega
  rw [Aas hz];exact ⟨.refl hg,hz⟩
 | succ k ih =>
  by_cases h:Xm x.1=0
  ·rw [Aas h];exact ⟨.refl hg,h⟩
  ·obtain ⟨hf,hw⟩:=Mm hg;have hw:=hw h;rw [Afq hg h];obtain ⟨a,b⟩:=ih hf.g EZ;exact ⟨hf.trans a,b⟩
theorem Alx (f:Nat->Nat) (B:Nat):∀(l:List (List As)) (k:Nat),(∀q∈l,q.length<=6)->(∀i,k<=i->i < k+l.length->f i<=B)->L9 f k l<=l.length * (6 * B)
 | [],_,_,_=>aG _
 | x::r,k,h,hB=>by
  have ih:=Alx f B r (k+1) (fun q hq=>h q GB) fun i a b=>hB i EZ (by simp only [aU];omega);have h1:=Nat.mul_le_mul (h x FB) (hB k (aL _) (by simp only [aU];omega));show x.length * f k+L9 f (k+1) r<=(r.length+1) * (6 * B);rw [gC];omega
theorem Bae {n:Du} (hg:At n=true):wN n<=280000000:=by
 have hG:=Ax.1 hg;have h8:=(Gf hG.t).n1;obtain ⟨q1,q2,q3,q4⟩:=Bg.1 hG.l;obtain ⟨-, -,e3,e4⟩:=Hz hg;have h1:=Alx vd 2097152 n.down 0 (fun q hq=>(C7 (e3 q hq)).1) fun i _ _=>bG (dI (n:=8) FA (show 7 - i<=7 by omega)) FA;have h2:=Alx vu 3670023 n.up 0 (fun q hq=>(C7 (e4 q hq)).1) fun i _ _=>by unfold vu;omega
 have h3:=cI (6 * 2097152) (show n.down.length<=8 by omega);have h4:=cI (6 * 3670023) (show n.up.length<=8 by omega);unfold wN;omega
theorem Arj {n:Du} (hg:At n=true):(P9 n).2.length<=6720000000:=by
 have h:=(Afp (x:=(n,[])) hg).1.e;have:=Bae hg;show (drE (n,[])).2.length<=_;simp only [aY] at h;omega
def kst (m i:Nat):Jf:=⟨if m=0 then 2 else 5,(i:Int),⟨#[]⟩⟩
def Sy (y:NE) (i:Nat):Nat->NE
 | 0=>y
 | m+1=>Mu (Sy y i m) (kst m i)
def Adp (b:Bool) (y:NE) (i:Nat):Nat->Bool
 | 0=>b
 | m+1=>Adp b y i m || (Bm (Sy y i m).1 (kst m i)).isSome
theorem Abd (x:NE) (k:Nat):Hp x (k+1)=Sy (Hp x k) (k+1) 2:=rfl
theorem Anu (x:NE) (k:Nat):Qe x (k+1)=Adp (Qe x k) (Hp x k) (k+1) 2:=rfl
theorem Bhr {m i:Nat} (h0:1<=i) (h:i<=7) (hm:m < 2):Dq (kst m i)=true:=by
 rcases (show m=0\/m=1 by omega) with rfl|rfl
 ·exact Bb5 h0 h
 ·exact Ayh h0 h
theorem Atq {y:NE} (hg:At y.1=true) {i:Nat} (h0:1<=i) (hi:i < y.1.Al.Ac.length):∀m,m<=2->U8 y (Sy y i m)
 | 0,_=>.refl hg
 | 1,_=>(Aoy hg h0 hi).1
 | 2,_=>by
  have f1:=(Aoy hg h0 hi).1;exact f1.trans (Az3 f1.g h0 (by rw [f1.t];exact hi)).1
 | m+3,h=>by omega
def Eu (x:NE):Nat->NE
 | 0=>x
 | k+1=>Arz (Eu x k) k
theorem Be6 {x:NE} (hg:At x.1=true) {i:Nat} (hi:i < x.1.Al.Ac.length):U8 x (Mu x (I4 i)):=by
 by_cases h0:i=0
 ·subst h0;rw [Jt (by rw [Yl hi,aJ (Aa7 hg).1])];exact .refl hg
 ·exact (Aoy hg EZ hi).1
theorem Be7 {x:NE} (hg:At x.1=true) {i:Nat} (hi:i < x.1.Al.Ac.length):U8 x (Mu x (Ly i))/\(Mu x (Ly i)).2=x.2:=by
 by_cases h0:i=0
 ·subst h0;rw [Jt (by rw [Vw hi,aJ (Aa7 hg).2])];exact ⟨.refl hg,rfl⟩
 ·have:=Az3 hg EZ hi;exact ⟨this.1,this.2.2⟩
theorem Ad6 {x:NE} (hg:At x.1=true):∀k,k<=x.1.Al.Ac.length->U8 x (Eu x k)
 | 0,_=>.refl hg
 | k+1,hk=>by
  have f1:=Ad6 hg k EZ;have f2:=Be6 f1.g (i:=k) (by rw [f1.t];omega);have f3:=(Be7 f2.g (i:=k) (by rw [f2.t,f1.t];omega)).1;exact (f1.trans f2).trans f3
theorem Ajx {x:NE} (hg:At x.1=true):∀k,Eu x (k+1)=Hp x k
 | 0=>by
  have h2:=(Gf (Ax.1 hg).t).n0;show Mu (Mu x (I4 0)) (Ly 0)=x;rw [Jt (x:=x) (s:=I4 0) (by rw [Yl EZ,aJ (Aa7 hg).1]),Jt (by rw [Vw EZ,aJ (Aa7 hg).2])]
 | k+1=>by
  show Arz (Eu x (k+1)) (k+1)=Arz (Hp x k) (k+1);rw [Ajx hg k]
theorem Aqm {x:NE} (hg:At x.1=true):Eu x x.1.Al.Ac.length=Vu x:=by
 have h2:=(Gf (Ax.1 hg).t).n0;obtain ⟨m,hm⟩:∃m,x.1.Al.Ac.length=m+1:=⟨x.1.Al.Ac.length - 1,EZ⟩;unfold Vu;rw [hm,Ajx hg,dX]
theorem N3 {l:List (List As)} (h:∀q∈l,q.length<=6):∀k,qd (l.take k)<=6 * k:=by
 induction l with
 | nil=>intro k;rw [List.take_nil];exact aG _
 | cons q r ih =>
  intro k;cases k with
  | zero=>exact aL _
  | succ k =>
   have:=ih (fun q hq=>h q GB) k;have:=h q FB;show q.length+qd (r.take k)<=_;omega
theorem Alb {l:List (List As)} {k:Nat} (hk:k < l.length):qd (l.take (k+1))=qd (l.take k)+l[k].length:=by
 unfold qd;rw [aO hk,bD,List.sum_append];simp
theorem Axw (a b:Int):FV 331 [aa a,aa b] [] (aa (min a b)):=by
 refine enter func331 rfl ntmps331 fun w0=>?_;refine go ?_;refine A4 rfl (fun h=>?_) (fun h=>?_)
 ·refine go ?_;rw [show min a b=a by omega];exact BC
 ·refine go ?_;rw [show min a b=b by omega];exact BC
theorem At6 (r:A1) (p:As) (d:Int) (v:Value) (F:aq) (hg:Lu r) (hp:Bo p=true) (d0:1<=d) (d1:d<=8) :
  Fn prog 293 [v,.agg #[aa p.Cq,aa p.Ae,aa p.Am,aa p.E7,af p.data],aa d] [.isv B8 v r F] [] (fun (_:NwS)=>True) (fun s=>.tuple #[.agg #[.bool ((Ky r p d)).Be,aa ((Ky r p d)).Ai,aa ((Ky r p d)).Aa.next,.slice s.a1 ((Ky r p d)).Aa.Ap.length s.c1,.slice s.a2 ((Ky r p d)).Ao.length s.c2],.slice s.ae (Mk r p).length s.ce])
   (fun s=>[.isv B8 (.agg #[.bool ((Ky r p d)).Be,aa ((Ky r p d)).Ai,aa ((Ky r p d)).Aa.next,.slice s.a1 ((Ky r p d)).Aa.Ap.length s.c1,.slice s.a2 ((Ky r p d)).Ao.length s.c2]) (Ky r p d) s.F1,.ow A8 9 (.slice s.ae (Mk r p).length s.ce) (Mk r p) s.Fe]):=by
 have k0:=hg.k0;have k1:=hg.k1;obtain ⟨-,q1,q2, -⟩:=Dj.1 hg.q;have hser:∀q∈r.Ao,Bz q.Ae=true:=fun q hq=>(Xp hg hq).1;obtain ⟨hsg, -⟩:=Qn hg hp;obtain ⟨htg, -,htl⟩:=Tj hg hp;obtain ⟨hng,hnq, -,hnl⟩:=Yg hg hp d0 d1 EZ;obtain ⟨s0_,s1_⟩:=Ie hsg;obtain ⟨w0_,w1_⟩:=Ie htg;obtain ⟨v0_,v1_⟩:=Ie hng;obtain ⟨hw8,hit⟩:=Ko hsg;obtain ⟨hu8,hiu⟩:=Ko htg;obtain ⟨n0,n1⟩:=Kn hp;have hrw:=(Ko hg.w).1;have hp2:=hp;unfold Bo at hp2;simp only [aw] at hp2;obtain ⟨t0_,t1_⟩:=A9.1 hp2.1.1.1.1.2;obtain ⟨l0_,l1_⟩:=A9.1 hp2.1.1.1.2;have hps:p.data.size<=8:=Up hp2.1.1.2
 refine enter func293 rfl ntmps293 fun w0=>?_;refine Hf (v:=v) (x:=r) (F:=F) ?_;rintro a1 c1 F1 a2 c2 F2 rfl - -;refine go ?_;intros;refine Bf (S9 r _ F EZ EZ) fun u _=>?_;refine Im ?_;rintro a5 c5 F5 a6 c6 F6 e6 - -;rw [e6];refine Av (E:=Cw) fun G5=>?_;refine Av (E:=Ay) fun G6=>?_;refine go ?_;intros;rename_i g3 g4 g6 g8 g9;refine Cy A8 ?_
 refine D0 [2,4,6,8,9] [0,2,4,5] (fun _:aq=>[]) (fun s=>[.row g8 76 0 [] [.bool true,aa r.Ai,aa (Ec r p).next,.slice a5 (Ec r p).Ap.length c5,ab a6 r.Ao.length c6] [],.isv Br (.agg #[aa (Ec r p).next,.slice a5 (Ec r p).Ap.length c5]) (Ec r p) s]) (fun _=>True) ?_ fun G7 _=>?_
 ·cases hs:r.Be
  ·by_cases hk:p.Cq=5
   ·have e:Ec r p=⟨p.E7,r.Aa.Ap⟩:=by unfold Ec;rw [hs,aJ hk];rfl
    rw [e];refine go ?_;refine A4 rfl (fun _=>?_) (fun h=>absurd hk h);refine Cb (a1:=a5) ⟨p.E7,r.Aa.Ap⟩ ?_;refine go ?_;refine Bk G5 trivial
   ·have e:Ec r p=⟨p.Ae,r.Aa.Ap⟩:=by unfold Ec;rw [hs,aC hk];rfl
    rw [e];refine go ?_;refine A4 rfl (fun h=>absurd h hk) (fun _=>?_);refine Cb (a1:=a5) ⟨p.Ae,r.Aa.Ap⟩ ?_;refine go ?_;refine Bk G5 trivial
  ·have e:Ec r p=r.Aa:=by unfold Ec;rw [hs];rfl
   rw [e];refine Cb (a1:=a5) r.Aa ?_;refine go ?_;refine Bk G5 trivial
 repeat (first|apply Ww|apply Ys|apply Og)
 refine Ba8 [2,4,6,8] [3,4,5] (fun s:SkS=>[(9,.slice s.ae (Kt r p).length s.ce)]) (fun s=>[.row g8 76 0 [] [.bool true,aa r.Ai,aa (Fj r p).next,.slice s.a (Fj r p).Ap.length s.c,ab a6 r.Ao.length c6] [],.isv Br (.agg #[aa (Fj r p).next,.slice s.a (Fj r p).Ap.length s.c]) (Fj r p) s.F,.ow A8 9 (.slice s.ae (Kt r p).length s.ce) (Kt r p) s.Fe]) (fun _=>True) ?_ fun s _=>?_
 ·by_cases hk:p.Cq=5
  ·have e1:Fj r p=Ec r p:=by unfold Fj;rw [aJ hk]
   have e2:Kt r p=[]:=by unfold Kt;rw [aJ hk]
   rw [e1,e2];refine go ?_;rw [ay (show ¬ ¬p.Cq=5 from fun h=>h hk)];refine go ?_;refine Bk (⟨a5,c5,G7,_,_,_⟩:SkS) trivial
  ·have e1:Fj r p=Lx (Ec r p) p.Ae p.data:=by unfold Fj;rw [aC hk]
   have e2:Kt r p=Lp (Ec r p) p.Ae p.data:=by unfold Kt;rw [aC hk]
   rw [e1,e2];refine go ?_;rw [av (show ¬p.Cq=5 from hk)];refine go ?_;refine Bf (Apy (Ec r p) p.Ae _ G7 s0_ s1_ n0 n1 hw8) fun _ _=>?_;cases hok:M9 (Ec r p) p.Ae
   ·have e:(Gs (Ec r p) p.Ae || !decide (gp (Ec r p).next p.Ae < 8))=true:=by unfold M9 at hok;simp only [dv] at hok;rw [hok.1,hok.2];rfl
    have e3:Lx (Ec r p) p.Ae p.data=Ec r p:=by unfold Lx;rw [aJ e]
    have e4:Lp (Ec r p) p.Ae p.data=[]:=by unfold Lp;rw [aJ e]
    rw [e3,e4];refine go ?_;refine Bk (⟨a5,c5,G7,_,_,_⟩:SkS) trivial
   ·refine go ?_;refine Bf (Atz (Ec r p) p.Ae p.data _ G7 s0_ s1_ n0 n1 hw8 hit hps hok) fun y hy=>?_;obtain ⟨hy1,hy2⟩:=hy;have hyl:y.es.length<=8:=by rw [hy2,<-e2];exact htl
    refine Av (E:=A8) (xs:=y.es) fun G8=>?_;refine go ?_;intros;apply wO;refine Ni (ys:=y.es) Do Hv fun a9 c9 F9=>?_;rw [aZ];rw [<-hy1,<-hy2];refine go ?_;refine Bk (⟨y.a,y.c,y.F,_,_,_⟩:SkS) trivial
 obtain ⟨a3,c3,F3,ae,cE,Fe⟩:=s;dsimp only;refine go ?_;refine ce (fun w s=>Qd _ _ _ EZ EZ) ?_;refine go ?_;refine D0 [2,4,6,8] [3,4,5] (fun s:SkS=>[(9,.slice s.ae (Mk r p).length s.ce)]) (fun s=>[.row g8 76 0 [] [.bool true,aa r.Ai,aa (Cs r p).next,.slice s.a (Cs r p).Ap.length s.c,ab a6 r.Ao.length c6] [],.isv Br (.agg #[aa (Cs r p).next,.slice s.a (Cs r p).Ap.length s.c]) (Cs r p) s.F,.ow A8 9 (.slice s.ae (Mk r p).length s.ce) (Mk r p) s.Fe]) (fun _=>True) ?_ fun s _=>?_
 ·cases hb:Tl (Fj r p).next p.Am
  ·have e1:Cs r p=Fj r p:=by show N9 _ _=_;unfold N9;rw [hb];rfl
   have e2:Mk r p=Kt r p:=by unfold Mk Oo;rw [hb];simp
   rw [e1,e2];refine go ?_;refine Bk (⟨a3,c3,F3,_,_,_⟩:SkS) trivial
  refine go ?_;refine ce (fun w s=>Jk _ _ _ EZ EZ) ?_;refine go ?_;refine A4 rfl (fun h4=>?_) (fun h4=>?_)
  ·have e1:Cs r p=Jd (Fj r p) p.Am:=by show N9 _ _=_;unfold N9;rw [hb,aJ rfl,aJ h4]
   have e2:Mk r p=Kt r p++Jc (Fj r p) p.Am:=by unfold Mk Oo;rw [hb,aJ rfl,aJ h4]
   have hl2:=hnl;rw [e2,aA] at hl2;refine go ?_;refine Bf (Ts (Fj r p) p.Am _ F3 w0_ w1_ t0_ t1_ hu8 hiu) fun y hy=>?_;obtain ⟨hy1,hy2⟩:=hy;have hyl:y.es.length<=24:=by rw [hy2];show (Jc (Fj r p) p.Am).length<=24;omega
   refine Av (E:=A8) (xs:=y.es) fun G8=>?_;refine go ?_;intros;apply wO;refine Ni (ys:=y.es) Do Hv fun a9 c9 F9=>?_;rw [e1,e2,show Jd (Fj r p) p.Am=y.y from hy1.symm,show Jc (Fj r p) p.Am=y.es from hy2.symm];refine go ?_;refine Bk (⟨y.a,y.c,y.F,_,_,_⟩:SkS) trivial
  ·have e1:Cs r p=⟨p.Am,[]⟩:=by show N9 _ _=_;unfold N9;rw [hb,aJ rfl,aC h4]
   have e2:Mk r p=Kt r p++[⟨#[33]⟩]:=by unfold Mk Oo;rw [hb,aJ rfl,aC h4]
   rw [e1,e2];refine go ?_;intros;apply wO;refine Nb (Tu ⟨#[33]⟩ FA) Do fun a9 c9 F9=>?_;refine Ci Cw FA ?_;refine Cb (a1:=none) ⟨p.Am,[]⟩ ?_;refine go ?_;refine Bk (⟨none,0,_,_,_,_⟩:SkS) trivial
 obtain ⟨a7,c7,F7,ae,cE,Fe⟩:=s;dsimp only;refine go ?_;refine Bf (Adt r.Ao (Cs r p) a6 c6 G6 _ F7 EZ hser v0_ v1_) fun z _=>?_;refine go ?_;refine ce (fun w s=>Qd _ _ _ EZ EZ) ?_;have hNq8:=(Dj.1 hnq).2.1;cases hb:Tl (Cs r p).next p.E7
 ·have e1:Ky r p d=⟨true,r.Ai,Cs r p,Eg r.Ao (Cs r p)⟩:=by unfold Ky Ph;rw [hb];rfl
  rw [e1];refine go ?_;refine Av (E:=Ay) (xs:=Eg r.Ao (Cs r p)) fun F8=>?_;refine Cu (x:=Cs r p) ?_;rintro b1 dd1 G1 e5 m1;simp only [Value.agg.injEq,Array.mk.injEq,List.cons.injEq,Value.slice.injEq,cQ,cR] at e5;obtain ⟨rfl,rfl⟩:=e5;refine Ep ⟨true,r.Ai,Cs r p,Eg r.Ao (Cs r p)⟩ ?_;exact DH
 obtain ⟨k,hk⟩:∃k,k=Zh (Cs r p) p.E7:=⟨_,rfl⟩;have hk8:k<=8:=by rw [hk];exact Se _ _
 have hgb:=Le (Cs r p).next p.E7
 have hkm:((k:Nat):Int)=min (gp (Cs r p).next p.E7) 8:=by rw [hk];unfold Zh;omega
 obtain ⟨N,hN⟩:∃N,N=N6 (Cs r p) k:=⟨_,rfl⟩;have hNl:N.length<=8:=by have:=Acv (Cs r p) k;rw [hN];omega
 have e1:Ky r p d=⟨true,r.Ai,Cs r p,Kz (Cs r p).next (r.Ai+d) (Eg r.Ao (Cs r p)) N⟩:=by unfold Ky Ph;rw [hb,aJ rfl,hN,hk]
 rw [e1];have Wm:=I7 (Cs r p).next (min (gp (Cs r p).next p.E7) 8)
 have hgp:gp (Cs r p).next (Cc (Cs r p).next (min (gp (Cs r p).next p.E7) 8))=(k:Nat):=by rw [<-hkm];unfold gp Cc;omega
 refine go ?_;refine ce (fun w s=>Jk _ _ _ EZ EZ) ?_;refine go ?_;refine Bf (Axw _ _) fun _ _=>?_;refine go ?_;refine ce (fun w s=>Ht _ _ _ EZ EZ) ?_;refine go ?_;refine Bf (Akz (Cs r p) _ k _ F7 v0_ v1_ EZ EZ hgp) fun m _=>?_;rw [<-hN];refine Av (E:=Bc) (xs:=N) fun GN=>?_;refine Av (E:=Ay) (xs:=Eg r.Ao (Cs r p)) fun F8=>?_;refine go ?_
 refine Bx [2,6,8,9,14,16] (fun s:AwS=>[(17,aa (s.i:Nat))]) (fun s=>[.row g8 76 0 [] [.bool true,aa r.Ai,aa (Cs r p).next,.slice a7 (Cs r p).Ap.length c7,.slice s.a (Kz (Cs r p).next (r.Ai+d) (Eg r.Ao (Cs r p)) (N.take s.i)).length s.c] [],.sl Ay (.slice s.a (Kz (Cs r p).next (r.Ai+d) (Eg r.Ao (Cs r p)) (N.take s.i)).length s.c) (Kz (Cs r p).next (r.Ai+d) (Eg r.Ao (Cs r p)) (N.take s.i)) s.F]) (fun s=>s.i<=N.length) (fun s=>N.length - s.i) ⟨0,z.1,z.2.1,F8⟩ (aG _) fun s hs=>?_;obtain ⟨i,a3,c3,F3⟩:=s;dsimp only at hs ⊢
 have hall:=Qv (w:=Cs r p) (u:=r.Ai+d) EZ EZ (N.take i) (Eg r.Ao (Cs r p)) (fun n hn=>by
  have:=Q5 (w:=Cs r p) (n:=n) hk8 (by rw [<-hN];exact bO hn);exact ⟨this.1,this.2.2⟩) hnq O7
 have hLs:∀h:i < N.length,Kz (Cs r p).next (r.Ai+d) (Eg r.Ao (Cs r p)) (N.take (i+1))=Uc (Cs r p).next (Kz (Cs r p).next (r.Ai+d) (Eg r.Ao (Cs r p)) (N.take i)) N[i] (r.Ai+d):=fun h=>Adi h
 generalize hLd:Kz (Cs r p).next (r.Ai+d) (Eg r.Ao (Cs r p)) (N.take i)=L at *
 have hLq:=hall.1;have hL8:=(Dj.1 hLq).2.1;refine go ?_;refine A4 rfl (fun h4=>?_) (fun h4=>?_)
 ·have hi:i < N.length:=EZ
  have hni:=Q5 (w:=Cs r p) (n:=N[i]) hk8 (by rw [<-hN];exact aB hi);refine Hy (xs:=N) i ?_;rintro hi2 b o2 e;rw [e];refine go ?_;refine Ar [0,1] [12] ?_;refine Df 0 1 2 3 ?_;refine Df 4 5 6 7 ?_;refine Dh 8 9 ?_;refine dN 10 ?_;refine oC ?_;refine Bf (Axn L (Cs r p).next N[i] r.Ai d a3 c3 F3 hLq hni.1 k0 k1 d0 d1) fun u _=>?_;rw [<-hLs hi];refine dk ?_;refine dt 11 ?_;refine dN 12 ?_;refine oS ?_;refine Nm ?_;refine dd ?_;refine Av (E:=Ay) fun F9=>?_;refine go ?_;exact CN
 have hi:i=N.length:=EZ
 subst hi;rw [bl] at hLd;rw [hLd];refine go ?_;refine Cu (x:=Cs r p) ?_;rintro b1 dd1 G1 e5 m1;simp only [Value.agg.injEq,Array.mk.injEq,List.cons.injEq,Value.slice.injEq,cQ,cR] at e5;obtain ⟨rfl,rfl⟩:=e5;refine Ep ⟨true,r.Ai,Cs r p,L⟩ ?_;exact DH
theorem Acj (r:A1) (p:As) (d:Int) (v:Value) (F:aq) (hg:Lu r) (hp:Bo p=true) (d0:1<=d) (d1:d<=8) :
  Fn prog 241 [v,.agg #[aa p.Cq,aa p.Ae,aa p.Am,aa p.E7,af p.data],aa d] [.isv B8 v r F] [] (fun (_:NwS)=>True) (fun s=>.tuple #[.agg #[.bool ((Dl r p d)).Be,aa ((Dl r p d)).Ai,aa ((Dl r p d)).Aa.next,.slice s.a1 ((Dl r p d)).Aa.Ap.length s.c1,.slice s.a2 ((Dl r p d)).Ao.length s.c2],.slice s.ae (Id r p).length s.ce])
   (fun s=>[.isv B8 (.agg #[.bool ((Dl r p d)).Be,aa ((Dl r p d)).Ai,aa ((Dl r p d)).Aa.next,.slice s.a1 ((Dl r p d)).Aa.Ap.length s.c1,.slice s.a2 ((Dl r p d)).Ao.length s.c2]) (Dl r p d) s.F1,.ow A8 9 (.slice s.ae (Id r p).length s.ce) (Id r p) s.Fe]):=by
 have k0:=hg.k0;have k1:=hg.k1;have hrw:=(Ko hg.w).1;obtain ⟨-,q1,q2, -⟩:=Dj.1 hg.q;obtain ⟨n0,n1⟩:=Kn hp;have hkd:1<=p.Cq/\p.Cq<=5:=by unfold Bo E8 at hp;simp only [aw,aF] at hp;exact hp.1.1.1.1.1.1
 refine enter func241 rfl ntmps241 fun w0=>?_;refine Hf (v:=v) (x:=r) (F:=F) ?_;rintro a1 c1 F1 a2 c2 F2 rfl - -;refine go ?_;intros;by_cases hk4:p.Cq=4
 ·have hn:Ls p=false:=by unfold Ls;simp [hk4]
  have eE:Id r p=[]:=by unfold Id;rw [hn];rfl
  rw [av hk4];cases hs:r.Be
  ·have eR:Dl r p d=r:=by unfold Dl;rw [hn,hs];simp
   refine go ?_;rw [av hk4];refine go ?_;refine Bf (S9 r _ F EZ EZ) fun u _=>?_;refine Im ?_;rintro a5 c5 F5 a6 c6 F6 e6 - -;rw [e6];refine Av (E:=Cw) fun G5=>?_;refine Av (E:=Ay) fun G6=>?_;refine go ?_;intros;refine Cy A8 ?_;refine Ep (a1:=a5) r ?_;rw [eR,eE];rw [hs];exact DH
  ·have eR:Dl r p d=Amm r p:=by unfold Dl;rw [hn,hs,av hk4];rfl
   refine go ?_;refine Bf (S9 r _ F EZ EZ) fun u _=>?_;refine Im ?_;rintro a5 c5 F5 a6 c6 F6 e6 - -;rw [e6];refine Av (E:=Cw) fun G5=>?_;refine go ?_;intros;refine Bf (Ak1 r.Ao r.Aa.next p.Ae r.Ai a2 c2 F2 hg.q (A9.2 ⟨n0,n1⟩) k0 k1) fun y _=>?_;refine Av (E:=Ay) (xs:=Qy r.Aa.next r.Ao p.Ae (r.Ai+4)) fun G6=>?_;refine go ?_;intros;refine Cy A8 ?_;refine Ep (a1:=a5) (Amm r p) ?_;rw [eR,eE];exact DH
 rw [ay hk4];refine go ?_;rw [ay hk4];refine go ?_;by_cases hk3:p.Cq=3
 ·have hn:Ls p=false:=by unfold Ls;simp [hk3]
  have eE:Id r p=[]:=by unfold Id;rw [hn];rfl
  have eR:Dl r p d=r:=by unfold Dl;rw [hn,ay hk4];rfl
  rw [av hk3];refine go ?_;refine Bf (S9 r _ F EZ EZ) fun u _=>?_;refine Im ?_;rintro a5 c5 F5 a6 c6 F6 e6 - -;rw [e6];refine Av (E:=Cw) fun G5=>?_;refine Av (E:=Ay) fun G6=>?_;refine go ?_;intros;refine Cy A8 ?_;refine Ep (a1:=a5) r ?_;rw [eR,eE];exact DH
 have hn:Ls p=true:=by
  unfold Ls;have:p.Cq=1\/p.Cq=2\/p.Cq=5:=EZ
  rcases this with h|h|h <;> simp [h]
 have eE:Id r p=Mk r p:=by unfold Id;rw [hn];rfl
 have eR:Dl r p d=Ky r p d:=by unfold Dl;rw [hn];rfl
 rw [ay hk3,eE,eR];refine go ?_;refine Bf (At6 r p d _ F hg hp d0 d1) fun s _=>?_;refine go ?_;refine ret ⟨s.a1,s.c1,s.F1,s.a2,s.c2,[],s.ae,s.ce,_⟩ trivial rfl
end Go.Proofs.YtkoldibamfjghaaGreatDoor
namespace Go.Proofs.YtkoldibamfjghaaGreatDoor

open Go.RowKit
end Go.Proofs.YtkoldibamfjghaaGreatDoor
namespace Go.Proofs.YtkoldibamfjghaaGreatDoor
open Go.RowKit
def Aep (x:A1):Bool:=x.Be && decide ((x.Ao.length:Int)=0) && decide ((x.Aa.Ap.length:Int)=0)
theorem Adq (x:A1) (v:Value) (F:aq):FV 267 [v] [.isv B8 v x F] (.bool (Aep x)):=by
 refine enter func267 rfl ntmps267 fun w0=>?_;refine Hf (v:=v) (x:=x) (F:=F) ?_;rintro a1 c1 F1 a2 c2 F2 rfl l1 l2;unfold maxLen at l1 l2;refine go ?_;intros;cases hs:x.Be
 ·refine go ?_;refine ret () trivial ?_;unfold Aep;rw [hs];rfl
 refine go ?_;refine D6 rfl rfl (fun h1=>?_) (fun h1=>?_)
 rotate_left
 ·refine go ?_;refine ret () trivial ?_;unfold Aep;rw [hs,ay h1];rfl
 refine go ?_;refine ret () trivial ?_;unfold Aep;rw [hs,av h1];rfl
def Po (l:ar) (k:Nat):ar:=((List.range k).filter fun i=>D5 l ((i:Nat):Int)).map fun (i:Nat)=>((i:Nat):Int)
def Tm (l:ar):ar:=Po l l.length
theorem Z4 (l:ar) (k:Nat):Po l (k+1)=Po l k++if D5 l (k:Int)=true then [(k:Int)] else []:=by
 unfold Po;rw [dm,bW,bD]
 split <;> simp_all
theorem Aul {l:ar} {k:Nat} (h:D5 l (k:Int)=true):Po l (k+1)=Po l k++[(k:Int)]:=by rw [Z4,aJ h]
theorem Anr {l:ar} {k:Nat} (h:D5 l (k:Int)=false):Po l (k+1)=Po l k:=by rw [Z4,aC (by rw [h];decide),bg]
theorem Yf (l:ar) (k:Nat):(Po l k).length<=k:=by
 unfold Po;rw [bf];exact bG (bJ _ _) FB
theorem Arv {l:ar} {x:Int} {k:Nat} (h:x∈Po l k):∃i,i < k/\x=((i:Nat):Int)/\D5 l x=true:=by
 unfold Po at h;obtain ⟨i,hi,rfl⟩:=bL.1 h;obtain ⟨h1,h2⟩:=bP.1 hi;exact ⟨i,cP.1 h1,rfl,h2⟩
def Z3 (l:ar) (k:Nat):ar:=((List.range k).filter fun i=>D5 l ((i+1:Nat):Int)).map fun (i:Nat)=>((i+1:Nat):Int)
theorem Acs (l:ar) (k:Nat):Z3 l (k+1)=Z3 l k++if D5 l ((k+1:Nat):Int)=true then [((k+1:Nat):Int)] else []:=by
 unfold Z3;rw [dm,bW,bD]
 split <;> simp_all
theorem Ax0 {l:ar} {k:Nat} (h:D5 l ((k+1:Nat):Int)=true):Z3 l (k+1)=Z3 l k++[((k+1:Nat):Int)]:=by rw [Acs,aJ h]
theorem Bbx {l:ar} {k:Nat} (h:D5 l ((k+1:Nat):Int)=false):Z3 l (k+1)=Z3 l k:=by rw [Acs,aC (by rw [h];decide),bg]
theorem Axz (l:ar) (k:Nat):(Z3 l k).length<=k:=by
 unfold Z3;rw [bf];exact bG (bJ _ _) FB
theorem Asb {l:ar} (hg:Lv l):D5 l ((0:Nat):Int)=false:=by
 have h1:=hg.n0;have h2:=hg.p 1 EZ EZ;have h3:(((0:Nat):Int))∈l:=by
  have:l[1]=((0:Nat):Int):=EZ
  rw [<-this];exact aB _
 unfold D5;rw [av h3];rfl
theorem Aru {l:ar} (hg:Lv l):∀k,Po l (k+1)=Z3 l k
 | 0=>by rw [Anr (Asb hg)];rfl
 | k+1=>by rw [Z4,Aru hg k,Acs]
theorem Axy {l:ar} (hg:Lv l) {k:Nat} (hk:k+1=l.length):Z3 l k=Tm l:=by
 rw [<-Aru hg];unfold Tm;rw [hk]
theorem Ak6 {l:ar} {k:Nat} (h:k < (Tm l).length):∃i,i < l.length/\(Tm l)[k]=((i:Nat):Int)/\D5 l ((i:Nat):Int)=true:=by
 obtain ⟨i,hi,e,hl⟩:=Arv (aB h);exact ⟨i,hi,e,e▸hl⟩
theorem Azm {n:Du} {s:Jf} (hg:At n=true) (hs:Dq s=true) {y:NE} (e:Bm n s=some y):Bi n s=(y.1,y.2,true):=by
 unfold Bi;rw [hg,hs,e];rfl
theorem Ave {n:Du} {s:Jf} (e:Bm n s=none):(Bi n s).2.2=false:=by
 unfold Bi;rw [e];cases At n <;> cases Dq s <;> rfl
theorem Vx {n:Du} {s:Jf} (h:(Bi n s).2.2=true):At (Bi n s).1=true:=by
 cases g:At n
 ·exact absurd h (by unfold Bi;rw [g];cases Dq s <;> exact Bool.false_ne_true)
 cases k:Dq s
 ·exact absurd h (by unfold Bi;rw [g,k];exact Bool.false_ne_true)
 cases e:Bm n s with
 | none=>rw [Ave e] at h;cases h
 | some y=>rw [Azm g k e];exact Mh g k e
theorem Awt {n:Du} (hg:At n=true):At (P9 n).1=true/\Xm (P9 n).1=0:=⟨(Afp (x:=(n,[])) hg).1.g,(Afp (x:=(n,[])) hg).2⟩
def Qi (n:Du):Int × Int × Bool:=if At n then (((qd n.down:Nat):Int),((qd n.up:Nat):Int),true) else (0,0,false)
def Acd (n:Du) (i:Nat):Bool:=Aep (Px n i) && decide ((Px n i).Aa.next=Cc n.Ab.Aa.Am n.Ab.Aa.Ak.length)
def Yy (n:Du):Bool:=decide (Xm n=0) && (Tm n.Al.Ac).all fun x=>Acd n x.toNat
def Gb (n:Du):Bool × Bool:=if At n then (Yy n,true) else (false,false)
theorem Ayr {l:List (List As)} (h:∀i (hi:i < l.length),l[i].length=0):qd l=0:=by
 refine Aa9.2 fun q hq=>?_;obtain ⟨i,hi,rfl⟩:=bi hq;exact bv.1 (h i hi)
theorem Ax1 {l:ar} {i:Nat} (hi:i < l.length) (h:D5 l ((i:Nat):Int)=true):((i:Nat):Int)∈Tm l:=by
 unfold Tm Po;exact bL.2 ⟨i,bP.2 ⟨cP.2 hi,h⟩,rfl⟩
theorem Azn {n:Du} (h:¬Xm n=0):Yy n=false:=by unfold Yy;rw [ay h];rfl
theorem Ahh {n:Du} {i:Nat} (hi:i < n.Al.Ac.length) (h:D5 n.Al.Ac ((i:Nat):Int)=true) (hb:Acd n i=false):Yy n=false:=by
 unfold Yy;rw [Bool.and_eq_false_iff];right;rw [cS];exact ⟨_,Ax1 hi h,by rw [show ((i:Nat):Int).toNat=i from rfl,hb];decide⟩
theorem Aor {n:Du} (h:Xm n=0) (hl:∀i,i < n.Al.Ac.length->D5 n.Al.Ac ((i:Nat):Int)=true->Acd n i=true):Yy n=true:=by
 unfold Yy;rw [av h,bV,aW];intro x hx;obtain ⟨i,hi,rfl,h2⟩:=Arv hx;exact hl i hi h2
def Xb:au:=⟨#[33]⟩
def SlI (S:ai) (k:Nat) (l:List Ic):Prop:=∀(j:Nat) s,l[j]?=some s->s.Wm=true->S[k+j]?=some s.Dn
def EvI (S:ai) (b:Nat) (es:ai):Prop:=∀(i:Nat) e,es[i]?=some e->e=Ans\/∃t,S[b+i]?=some t/\e=Agu t
section
variable {S:ai} {f:Int} {k b:Nat}
theorem EvI.nil:EvI S b []:=fun i e h=>by simp at h
theorem EvI.app {x y:ai} (h:EvI S b x) (h2:EvI S (b+x.length) y):EvI S b (x++y):=fun i e he=>by
 by_cases hi:i < x.length
 ·rw [bB hi] at he;exact h i e he
 ·rw [bX EZ] at he;have:=h2 _ e he
  rwa [show b+x.length+(i - x.length)=b+i by omega] at this
theorem SlI.drop {l:List Ic} (h:SlI S k l) (m:Nat):SlI S (k+m) (l.drop m):=fun j s hs hv=>by
 rw [dD] at hs;have:=h _ s hs hv
 rwa [show k+(m+j)=k+m+j by omega] at this
theorem SlI.nil:SlI S k []:=fun j s h=>by simp at h
theorem EvI.mono {S2:ai} {es:ai} (h:EvI S b es):EvI (S++S2) b es:=fun i e he=>by
 rcases h i e he with h|⟨t,h,e2⟩
 ·exact .inl h
 ·exact .inr ⟨t,by rw [bB (co.1 h).1];exact h,e2⟩
theorem SlI.mono {S2:ai} {l:List Ic} (h:SlI S k l):SlI (S++S2) k l:=fun j s hs hv=>by
 have:=h j s hs hv;rw [bB (co.1 this).1];exact this
structure PkI (S:ai) (f:Int) (p:As):Prop where
 t:Ls p=true->∃i:Nat,i<=S.length/\p.Am=Cc f i
 l:Ls p=true->∃i:Nat,i<=S.length/\p.E7=Cc f i
 n:Ls p=true->p.Cq≠5->∃i:Nat,S[i]?=some p.data/\p.Ae=Cc f i
theorem PkI.mono {S2:ai} {p:As} (h:PkI S f p):PkI (S++S2) f p :=
 ⟨fun hn=>by obtain ⟨i,a,e⟩:=h.t hn;exact ⟨i,IN,e⟩,fun hn=>by obtain ⟨i,a,e⟩:=h.l hn;exact ⟨i,IN,e⟩,
  fun hn h5=>by obtain ⟨i,a,e⟩:=h.n hn h5;exact ⟨i,by rw [bB (co.1 a).1];exact a,e⟩⟩
structure WnI (S:ai) (f:Int) (w:Aj) (es:ai) (k:Nat):Prop where
 le:k<=S.length
 n:w.next=Cc f k
 s:SlI S k w.Ap
 e:Xb∈es\/∃b,b+es.length=k/\EvI S b es
theorem WnI.on {w w2:Aj} {es e2:ai} (h:WnI S f w es k) (h1:EvI S k e2) (h2:k+e2.length<=S.length) (h3:w2.next=Cc f ((k+e2.length:Nat):Int)) (h4:SlI S (k+e2.length) w2.Ap):WnI S f w2 (es++e2) (k+e2.length) :=
 ⟨h2,h3,h4,by
  rcases h.e with h|⟨b,hb,he⟩
  ·exact .inl (cK _ h)
  ·exact .inr ⟨b,IN,he.app (by rw [hb];exact h1)⟩⟩
theorem WnI.mono {S2:ai} {w:Aj} {es:ai} (h:WnI S f w es k):WnI (S++S2) f w es k :=
 ⟨by rw [aA];have:=h.le;omega,h.n,h.s.mono,by
  rcases h.e with h|⟨b,hb,he⟩
  ·exact .inl h
  ·exact .inr ⟨b,hb,he.mono⟩⟩
structure RcI (S:ai) (f:Int) (r:A1) (es:ai):Prop where
 z:r.Be=false->es=[]
 w:r.Be=true->∃k,WnI S f r.Aa es k/\∀q∈r.Ao,∃j:Nat,j < S.length/\q.Ae=Cc f j
theorem RcI.mono {S2:ai} {r:A1} {es:ai} (h:RcI S f r es):RcI (S++S2) f r es :=
 ⟨h.z,fun hs=>by obtain ⟨k,a,c⟩:=h.w hs;exact ⟨k,a.mono,fun q hq=>by obtain ⟨j,hj,e⟩:=c q hq;exact ⟨j,IN,e⟩⟩⟩
end
def Mf (f z:Int):Cr × Bool:=if Ck ⟨⟨f,z,[]⟩,0,0,[]⟩ then (⟨⟨f,z,[]⟩,0,0,[]⟩,true) else (Ban,false)
theorem Wi (f z:Int):Fn prog 161 [aa f,aa z] [] [] (fun (_:aq)=>True) (fun _=>.tuple #[.agg #[aa (Mf f z).1.Aa.Am,aa (Mf f z).1.Aa.size,ab none 0 0,aa (Mf f z).1.Ai,aa (Mf f z).1.quiet,ab none 0 0],.bool (Mf f z).2]) (fun s=>[.isv Ex (.agg #[aa (Mf f z).1.Aa.Am,aa (Mf f z).1.Aa.size,ab none 0 0,aa (Mf f z).1.Ai,aa (Mf f z).1.quiet,ab none 0 0]) (Mf f z).1 s]):=by
 refine enter func161 rfl ntmps161 fun w0=>?_;refine Ci A8 FA ?_;refine Ci Bw FA ?_;refine Fb Ban ?_;refine Ci A8 FA ?_;refine Ci Bw FA ?_;refine Fb ⟨⟨f,z,[]⟩,0,0,[]⟩ ?_;refine go ?_;intros;refine cb (fun w st=>(Aja ⟨⟨f,z,[]⟩,0,0,[]⟩ _ ([]++[])).val w (Iw (st.get (p:=.isv _ _ _ _) FD))) ?_;cases g1:Ck ⟨⟨f,z,[]⟩,0,0,[]⟩
 ·rw [show Mf f z=(Ban,false) by unfold Mf;rw [g1];rfl];refine go ?_;refine ret ([]++[]) trivial rfl
 rw [show Mf f z=(⟨⟨f,z,[]⟩,0,0,[]⟩,true) by unfold Mf;rw [g1];rfl];refine go ?_;refine ret ([]++[]) trivial rfl
end Go.Proofs.YtkoldibamfjghaaGreatDoor
namespace Go.Proofs.YtkoldibamfjghaaGreatDoor

open Go.RowKit
end Go.Proofs.YtkoldibamfjghaaGreatDoor
