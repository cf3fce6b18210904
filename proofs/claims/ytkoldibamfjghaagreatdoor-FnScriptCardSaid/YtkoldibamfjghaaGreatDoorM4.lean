/- Part 4 of the proof: 50 texts, one behind the other. -/
import Derived.BigQuiet
import Derived.Deep.RegionLaw
import Derived.Test.YtkoldibamfjghaaGreatDoorShelf
import Derived.Lib.RowBridge
import Derived.Test.YtkoldibamfjghaaGreatDoorM3
open _root_.Go.Proofs.Tryz
set_option maxRecDepth 100000
set_option maxHeartbeats 8000000
set_option linter.all false
set_option linter.unusedVariables false
set_option linter.unusedSimpArgs false
namespace Go.Proofs.YtkoldibamfjghaaGreatDoor
theorem AC{p:Prop}(h:p:=by refine dk ?_;refine dN 7 ?_;refine Nb (N7 n) C6 (fun a3 c3 F3=>?_) (h63:=by exact Jl) (hby:=by exact Jl);refine dk ?_;refine dN 11 ?_;refine Ni C6 Ek (fun a4 c4 F4=>?_) (h63:=by exact Jl) (hby:=by exact Jl);refine dk ?_;refine dt 12 ?_;refine dd ?_;rw [e];refine go ?_;refine ret ⟨_,_,_⟩ trivial rfl):p:=h
theorem AK{p:Prop}(h:p:=by refine dk ?_;refine dN 7 ?_;refine Nb (Ry ⟨n,1,ck+d,0⟩) Db fun a8 c8 F8=>?_;refine dk ?_;refine dN 11 ?_;refine Ni (ys:=l.drop (El base l n)) Db Dy (h63:=by simp;omega) (hby:=by simp;omega) fun a9 c9 F9=>?_;refine dk ?_;refine dt 12 ?_;refine dd ?_;rw [hAdd];refine go ?_;refine ret ⟨_,_,_⟩ trivial rfl):p:=h
theorem AN{p:Prop}(h:p:=by refine dk ?_;refine dt 5 ?_;refine dd ?_;refine go ?_;refine Eh (xs:=[Rm x.Aa]) (Dd _ (by show (⟨#[]⟩:au).size<=maxLen;decide)) ?_ (by simp);refine ret ⟨_,_,_,_,_,_,_,_⟩ trivial rfl):p:=h
theorem AZ{p:Prop}(h:p:=by refine go ?_;refine ret ⟨_,_,_⟩ trivial rfl):p:=h
theorem BD{p:Prop}(h:p:=by refine dk ?_;refine dN 4 ?_;refine Ni C6 Ek (fun a2 c2 F2=>?_) (hn:=by rw [aP];omega) (h63:=by exact Jl) (hby:=by exact Jl);exact AC):p:=h
theorem BH{p:Prop}(h:p:=by refine go ?_;refine Bf (Akj r p d g t o A B a1 c1 F1 a2 c2 F2 hg hp d0 d1) fun s _=>?_;refine go ?_;refine ret ⟨s.a1,s.c1,s.F1,s.a2,s.c2,s.F2,s.ae,s.ce,s.Fe⟩ trivial rfl):p:=h
theorem BI{p:Prop}(h:p:=by rw [show Mz x=⟨x.Aa,x.Ai+1,x.quiet+1,Ii x.Aa (x.Ai+1) x.holds⟩ from by unfold Mz Rn;rw [aJ (by omega)],show Ng x.Aa x.quiet=[] from aJ (by omega)];refine go ?_;intros;refine Cy An ?_;refine Av (E:=Bw) fun F9=>?_;refine Fb ⟨x.Aa,x.Ai+1,x.quiet+1,Ii x.Aa (x.Ai+1) x.holds⟩ (a1:=a5) ?_;refine ret ⟨_,_,_,_,_,_,_,_⟩ trivial rfl):p:=h
theorem BX{p:Prop}(h:p:=by refine dk ?_;refine dN 8 ?_;refine oC ?_;refine Bf (Ts r.Aa (Dk (C9 r)) _ FW w0_ w1_ hs0 hs1 hw8 hit) fun y hy=>?_;refine dk ?_;refine Dh 9 10 ?_;refine dt 11 ?_;refine dN 13 ?_;refine oS ?_;refine dk ?_;refine dt 14 ?_;refine dd ?_;refine Bk (⟨_,y⟩:GvS) hy):p:=h
theorem CC{p:Prop}(h:p:=by refine dk ?_;refine dN 11 ?_;refine Ni (E:=A8) (xs:=[]) (ys:=x.Ak.drop k) Do Hv fun a7 c7 F7=>?_;rw [aZ];refine dk ?_;refine dt 12 ?_;refine dN 13 ?_;refine oS ?_;refine dk ?_;refine dd ?_;refine go ?_;refine ret ⟨a7,c7,F7⟩ trivial rfl):p:=h
theorem CM{p:Prop}(h:p:=by refine Ca (⟨k+1,_,_,_⟩:PkS) (by show k+1<=l.length;omega) (by show l.length - (k+1) < l.length - k;omega)):p:=h
theorem CN{p:Prop}(h:p:=by refine Ca (⟨i+1,_,_,_⟩:AwS) (by show i+1<=N.length;omega) (by show N.length - (i+1) < N.length - i;omega)):p:=h
theorem CP{p:Prop}(h:p:=by refine go ?_;refine Bk () trivial):p:=h
theorem CV{p:Prop}(h:p:=by refine dk ?_;refine dN 7 ?_;refine Ni Iu Ia fun a5 c5 F5=>?_;rw [aZ];refine dk ?_;refine dt 8 ?_;refine dN 10 ?_;refine oS ?_;refine dk ?_;refine dd ?_;refine Bk (⟨_,_,_,_⟩:Bat) trivial):p:=h
theorem CW{p:Prop}(h:p:=by refine Ni C6 Ek (fun a2 c2 F2=>?_) (hn:=by rw [aP];omega) (h63:=by exact Jl) (hby:=by exact Jl);refine dk ?_;refine dN 6 ?_;apply Iq;rfl;rfl;rfl;rfl;exact Ik;exact Ih;intro _;exact AC):p:=h
theorem DD{p:Prop}(h:p:=by refine go ?_;refine Vy ?_;refine Ca (hH:=Lb _) (q+1,j) ⟨by show q+1<=j;omega,h2,fun k hk h=>hm k q (by have:k < q+1:=hk;omega) hh h6,h4⟩ (by show j - (q+1) < j - i;omega)):p:=h
theorem DE{p:Prop}(h:p:=by refine go ?_;refine Vy ?_;refine Ca (hH:=Lb _) (i,q) ⟨by show i<=q;omega,by show q<=xs.length;omega,h3,fun k hk h hn=>h6 (hm q k hk h hn)⟩ (by show q - i < j - i;omega)):p:=h
theorem DI{p:Prop}(h:p:=by rintro hi b o e;rw [e];refine go ?_;apply wO;refine Ae0 rfl rfl hb Wk ?_;refine cb (fun w st=>hp xs[i] (aB hh) w (fun p hp=>st.on p (by simp [hp]))) ?_;exact AA):p:=h
theorem DM{p:Prop}(h:p:=by refine go ?_;refine ret ⟨_,_,_,_,_,_⟩ trivial rfl):p:=h
theorem DN{p:Prop}(h:p:=by refine go ?_;refine Ca ⟨z.k+1,z.a,z.c,z.F⟩ (by show z.k+1+1<=t.Ac.length;omega) (by show t.Ac.length - (z.k+1) < t.Ac.length - z.k;omega)):p:=h
theorem EF{p:Prop}(h:p:=by refine ret ⟨_,_,_,_,_⟩ trivial rfl):p:=h
theorem EH{p:Prop}(h:p:=by refine go ?_;refine ret () trivial ?_;show Value.bool _=Value.bool _;congr 1;unfold Bo;rw [g1,g2,g3,g4,g5,av h6,ay h7,ay h8];rfl):p:=h
theorem EM{p:Prop}(h:p:=by refine Ca ⟨z.k+1,a9,c9,F9⟩ (by show z.k+1+1<=t.Ac.length;omega) (by show t.Ac.length - (z.k+1) < t.Ac.length - z.k;omega)):p:=h
theorem EP{p:Prop}(h:p:=by apply Iq;rfl;rfl;rfl;rfl;exact Ik;exact Ih;intro _;refine dk ?_;refine dN 0 ?_;apply Kg;rfl;intro _;refine Cy Bc ?_;exact BD):p:=h
theorem ER{p:Prop}(h:p:=by refine go ?_;refine ret () trivial ?_;show Value.bool _=Value.bool _;congr 1;unfold Bo;rw [g1,g2,g3,g4,g5,av h6,av h8];simp):p:=h
theorem ET{p:Prop}(h:p:=by refine go ?_;refine ret () trivial ?_;show Value.bool _=Value.bool _;congr 1;unfold Bo;rw [g1,g2,g3,g4,g5,av h6,av h7];rfl):p:=h
theorem EV{p:Prop}(h:p:=by rw [<-Uh ho];refine go ?_;rw [show l.length=(Qy base l n (ck+4)).length from hcl.symm];refine ret ⟨_,_,_⟩ trivial rfl):p:=h
theorem FZ{p:Prop}(h:p:=by simp only [aA,aU,aY];omega):p:=h
theorem GS{p:Prop}(h:p:=by show l.length - (k+1) < l.length - k;omega):p:=h
theorem GX{p:Prop}(h:p:=by rw [hBl];congr 1;show _=min (xs.length+1 - i) (xs.length+1 - (i+1));omega):p:=h
theorem GZ{p:Prop}(h:p:=by show (⟨#[]⟩:au).size<=maxLen;decide):p:=h
theorem HA{p:Prop}(h:p:=by rw [hBl];congr 1;show _=min (xs.length - i) (xs.length+1 - (i+1));omega):p:=h
theorem HB{p:Prop}(h:p:=by simp [aN]):p:=h
theorem HC{p:Prop}(h:p:=by intro e;have:=congrArg List.length e;simp only [aA,aY] at this;omega):p:=h
theorem HN{p:Prop}(h:p:=by intro u hu;simp at hu;rcases hu with rfl|rfl|rfl|rfl <;> rfl):p:=h
theorem HP{p:Prop}(h:p:=by simp [hyl]):p:=h
theorem HR{p:Prop}(h:p:=by simp only [aA];omega):p:=h
theorem HZ{p:Prop}(h:p:=by rw [hcs];simp [hu]):p:=h
theorem KC{p:Prop}(h:p:=by show hs.length - (k+1) < _;omega):p:=h
theorem KJ{p:Prop}(h:p:=by rw [aN A B rest,hXY];simp [aN]):p:=h
end Go.Proofs.YtkoldibamfjghaaGreatDoor
namespace Go.Proofs.YtkoldibamfjghaaGreatDoor
open Go.RowKit
theorem Bdj {t a b:Int} (ha:Bz a=true) (hb:Bz b=true) (h:gp t a=gp t b):a=b:=by
 obtain ⟨a0,a1⟩:=A9.1 ha;obtain ⟨b0,b1⟩:=A9.1 hb;unfold gp at h;omega
def El (base:Int) (l:List Az) (n:Int):Nat:=(l.takeWhile fun r=>decide (gp base r.Ae < gp base n)).length
def Mv (base:Int) (l:List Az) (n:Int):Bool:=match l[El base l n]? with|some r=>decide (r.Ae=n)|none=>false
def Bgf (n u:Int):Az:=⟨n,1,u,0⟩
def Wn (base:Int) (l:List Az) (n u:Int):List Az:=l.take (El base l n)++Bgf n u::l.drop (El base l n)
def Uc (base:Int) (l:List Az) (n u:Int):List Az:=if Mv base l n || !decide (gp base n < 8) then l else Wn base l n u
def Qy (base:Int) (l:List Az) (n u:Int):List Az:=match l[El base l n]? with|some r=>if r.Ae=n then l.set (El base l n) ⟨n,3,u,r.Ee⟩ else l|none=>l
theorem Sr (base:Int) (l:List Az) (n:Int):El base l n<=l.length:=Qs.1
theorem Ud {base:Int} {l:List Az} {n:Int} (h:El base l n < l.length):Mv base l n=decide (l[El base l n].Ae=n):=by unfold Mv;rw [aD h]
theorem Aic {base:Int} {l:List Az} {n:Int} (h:¬El base l n < l.length):Mv base l n=false:=by unfold Mv;rw [br EZ]
theorem Ue {base:Int} {l:List Az} {n:Int} (h:Mv base l n=true):El base l n < l.length:=by
 by_cases h2:El base l n < l.length
 ·exact h2
 ·rw [Aic h2] at h;cases h
theorem Wx {base:Int} {l:List Az} {n u:Int} (h:Mv base l n=false):Qy base l n u=l:=by
 unfold Qy;unfold Mv at h;cases hq:l[El base l n]? with
 | none=>rfl
 | some r=>rw [hq] at h;dsimp only at h ⊢;rw [aC FJ]
theorem Uh {base:Int} {l:List Az} {n u:Int} (h:Mv base l n=true):Qy base l n u=l.set (El base l n) ⟨n,3,u,(l[El base l n]'(Ue h)).Ee⟩:=by
 have h2:=Ue h;rw [Ud h2] at h;unfold Qy;rw [aD h2];dsimp only;rw [aJ FJ]
theorem Aih (base:Int) (l:List Az) (n u:Int):(Qy base l n u).length=l.length:=by
 cases h:Mv base l n
 ·rw [Wx h]
 ·rw [Uh h,bU]
theorem Bd0 {base n:Int} {l:List Az} (hq:Lz l base=true) (hn:Bz n=true) (h:Mv base l n=false):∀r∈l,gp base r.Ae≠gp base n:=by
 obtain ⟨-, -,h3,h4⟩:=Dj.1 hq;obtain ⟨t1,t2,t3⟩:=Qs (p:=fun r:Az=>decide (gp base r.Ae < gp base n)) (xs:=l);intro r hr e;obtain ⟨i,hi,rfl⟩:=bi hr;have e2:=Bdj (Er.1 (h3 _ hr)).n hn e;have hk:El base l n=i:=Xu EZ (fun j hj h=>by
  have:=bh.1 h4 j i h hi hj;simp only [aF];omega) (fun h=>by simp only [bQ];omega)
 rw [Ud EZ] at h;simp only [hk] at h;simp [e2] at h
theorem Beq {base:Int} {l:List Az} (hp:l.Pairwise fun a b=>gp base a.Ae < gp base b.Ae) (h8:∀q∈l,gp base q.Ae < 8):l.length<=8:=by
 have key:∀i (h:i < l.length),(i:Int)<=gp base l[i].Ae:=by
  intro i
  induction i with
  | zero=>intro h;exact (Le _ _).1
  | succ i ih =>
   intro h;have a:=ih EZ;have b:=bh.1 hp i (i+1) EZ h EZ;omega
 by_cases h:l.length<=8
 ·exact h
 ·have a:=key 8 EZ;have b:=h8 _ (aB (show 8 < l.length by omega));omega
theorem Axc (base:Int) (l:List Az) (n u:Int):(Wn base l n u).length=l.length+1:=by
 have:=Sr base l n;unfold Wn;rw [aA,aU,aP,aX];omega
theorem Ai4 {base n u:Int} {l:List Az} (hq:Lz l base=true) (hn:Bz n=true) (h8:gp base n < 8) (u0:0<=u) (u1:u<=10007) (h:Mv base l n=false):Lz (Wn base l n u) base=true:=by
 have hne:=Bd0 hq hn h;obtain ⟨h1,h2,h3,h4⟩:=Dj.1 hq;obtain ⟨t1,t2,t3⟩:=Qs (p:=fun r:Az=>decide (gp base r.Ae < gp base n)) (xs:=l);have hle:=Sr base l n;have hok:∀r∈Wn base l n u,Mw base r=true:=by
  intro r hr;unfold Wn at hr;rcases aK.1 hr with h|h
  ·exact h3 r (bO h)
  ·rcases aH.1 h with rfl|h
   ·exact Er.2 ⟨hn,h8,by show (1:Int)<=1;decide,by show (1:Int)<=3;decide,u0,u1,by show (0:Int)<=0;decide,by show (0:Int)<=3;decide⟩
   ·exact h3 r (bu h)
 have hpw:(Wn base l n u).Pairwise fun a b=>gp base a.Ae < gp base b.Ae:=by
  unfold Wn;rw [dJ];refine ⟨h4.sublist (fC _ _),?_,?_⟩
  ·rw [di];refine ⟨fun b hb=>?_,h4.sublist (fA _ _)⟩;obtain ⟨j,hj,rfl⟩:=bi hb;rw [db];rw [aX] at hj;have hk:El base l n < l.length:=EZ
   have h0:=t3 hk;simp only [bQ,Int.not_lt] at h0;have h00:gp base n<=gp base (l[El base l n]'hk).Ae:=h0;have hd:=hne _ (aB hk);show gp base n < _;rcases cy j with e|e
   ·subst e;simp only [bR];omega
   ·have h5:=bh.1 h4 (El base l n) (El base l n+j) hk EZ EZ;omega
  ·intro a ha b hb;obtain ⟨i,hi,rfl⟩:=bi ha;rw [aP] at hi;rw [List.getElem_take];have ha2:=t2 i (by show i < El base l n;omega) EZ;simp only [aF] at ha2;rcases aH.1 hb with rfl|hb
   ·exact ha2
   ·obtain ⟨j,hj,rfl⟩:=bi hb;rw [db];rw [aX] at hj;exact bh.1 h4 i (El base l n+j) EZ EZ EZ
 exact Dj.2 ⟨h1,Beq hpw fun q hq=>(Er.1 (hok q hq)).g,hok,hpw⟩
theorem Asy {base n u:Int} {l:List Az} (hq:Lz l base=true) (hn:Bz n=true) (u0:0<=u) (u1:u<=10007):Lz (Uc base l n u) base=true:=by
 unfold Uc
 split
 ·exact hq
 ·rename_i h;simp only [bZ,bA,not_or,Bool.not_eq_false,Bool.not_eq_true,aF] at h;exact Ai4 hq hn h.2 u0 u1 h.1
theorem Ax2 {base n u:Int} {l:List Az} {q:Az} (h:q∈Uc base l n u):q∈l\/q.Ae=n:=by
 unfold Uc Wn at h
 split at h
 ·exact .inl h
 ·rcases aK.1 h with h|h
  ·exact .inl (bO h)
  ·rcases aH.1 h with rfl|h
   ·exact .inr rfl
   ·exact .inl (bu h)
theorem Apg {base n u:Int} {l:List Az} (hq:Lz l base=true) (u0:0<=u) (u1:u<=10007):Lz (Qy base l n u) base=true:=by
 cases h:Mv base l n
 ·rw [Wx h];exact hq
 obtain ⟨h1,h2,h3,h4⟩:=Dj.1 hq;have hk:=Ue h;have hn:l[El base l n].Ae=n:=by rw [Ud hk] at h;simpa using h
 have ho:=Er.1 (h3 _ (aB hk));rw [Uh h];have hnum:∀i (h:i < (l.set (El base l n) ⟨n,3,u,l[El base l n].Ee⟩).length),(l.set (El base l n) ⟨n,3,u,l[El base l n].Ee⟩)[i].Ae=(l[i]'FJ).Ae:=fun i h=>by
  rw [fM]
  split
  ·rename_i e;subst e;exact hn.symm
  ·rfl
 refine Dj.2 ⟨h1,HK,fun r hr=>?_,?_⟩
 ·have gn:=ho.n;have gg:=ho.g;rw [hn] at gn gg;rcases bE hr with h|rfl
  ·exact h3 r h
  ·exact Er.2 ⟨gn,gg,by show (1:Int)<=3;decide,by show (3:Int)<=3;decide,u0,u1,ho.t0,ho.t1⟩
 ·refine bh.2 fun i j hi hj hij=>?_;rw [hnum i hi,hnum j hj];exact bh.1 h4 i j _ _ hij
theorem Aum {base n u:Int} {l:List Az} {q:Az} (h:q∈Qy base l n u):∃r∈l,r.Ae=q.Ae:=by
 cases h2:Mv base l n
 ·rw [Wx h2] at h;exact ⟨q,h,rfl⟩
 have hk:=Ue h2;have hn:l[El base l n].Ae=n:=by rw [Ud hk] at h2;simpa using h2
 rw [Uh h2] at h;rcases bE h with h|rfl
 ·exact ⟨q,h,rfl⟩
 ·exact ⟨_,aB hk,hn⟩
def Ec (r:A1) (p:As):Aj:=if r.Be then r.Aa else ⟨if p.Cq=5 then p.E7 else p.Ae,r.Aa.Ap⟩
def Fj (r:A1) (p:As):Aj:=if p.Cq=5 then Ec r p else Lx (Ec r p) p.Ae p.data
def Kt (r:A1) (p:As):ai:=if p.Cq=5 then [] else Lp (Ec r p) p.Ae p.data
def N9 (w:Aj) (t:Int):Aj:=if Tl w.next t then (if gp w.next t<=8 then Jd w t else ⟨t,[]⟩) else w
def Oo (w:Aj) (t:Int):ai:=if Tl w.next t then (if gp w.next t<=8 then Jc w t else [⟨#[33]⟩]) else []
def Cs (r:A1) (p:As):Aj:=N9 (Fj r p) p.Am
def Mk (r:A1) (p:As):ai:=Kt r p++Oo (Fj r p) p.Am
def Kz (base u:Int) (l:List Az) (ns:ar):List Az:=ns.foldl (fun l n=>Uc base l n u) l
def Zh (w:Aj) (E7:Int):Nat:=(min (gp w.next E7) 8).toNat
def Ph (w:Aj) (l:List Az) (E7 u:Int):List Az:=if Tl w.next E7 then Kz w.next u l (N6 w (Zh w E7)) else l
def Ky (r:A1) (p:As) (d:Int):A1:=⟨true,r.Ai,Cs r p,Ph (Cs r p) (Eg r.Ao (Cs r p)) p.E7 (r.Ai+d)⟩
def Ls (p:As):Bool:=decide (p.Cq=1) || decide (p.Cq=2) || decide (p.Cq=5)
def Amm (r:A1) (p:As):A1:=⟨r.Be,r.Ai,r.Aa,Qy r.Aa.next r.Ao p.Ae (r.Ai+4)⟩
def Dl (r:A1) (p:As) (d:Int):A1:=if Ls p then Ky r p d else if decide (p.Cq=4) && r.Be then Amm r p else r
def Id (r:A1) (p:As):ai:=if Ls p then Mk r p else []
theorem Avg {w:Aj} {n:Int} {s:au} (hg:Cv w=true) (hn:Bz n=true) (hs:Pe s=true):Cv (Lx w n s)=true/\(∃m:Nat,m<=8/\(Lx w n s).next=Cc w.next m)/\(Lp w n s).length<=8:=by
 obtain ⟨w0,w1⟩:=Ie hg;cases ht:M9 w n
 ·have e:(Gs w n || !decide (gp w.next n < 8))=true:=by unfold M9 at ht;simp only [dv] at ht;rw [ht.1,ht.2];rfl
  have e1:Lx w n s=w:=by unfold Lx;rw [aJ e]
  have e2:Lp w n s=[]:=by unfold Lp;rw [aJ e]
  rw [e1,e2];exact ⟨hg,⟨0,EZ,(Sd w0 w1).symm⟩,FB⟩
 ·have hok:Vq w n s=true:=by unfold Vq;rw [hg,hn,hs,ht];rfl
  have h:=Axv w n s (by unfold Js;rw [hok];rfl);rw [show Js w n s=(Lx w n s,Lp w n s,true) by unfold Js;rw [hok];rfl] at h;obtain ⟨-, -,h3,h4, -, -,h7, -⟩:=h;dsimp only at h3 h4 h7;refine ⟨h3,⟨_,h7,?_⟩,h7⟩;obtain ⟨v0,v1⟩:=Ie h3;rw [<-h4];unfold Cc gp at *;omega
theorem Qn {r:A1} {p:As} (hg:Lu r) (hp:Bo p=true):Cv (Ec r p)=true/\(r.Be=true->Ec r p=r.Aa):=by
 unfold Ec;unfold Bo at hp;simp only [aw] at hp;cases hs:r.Be
 ·refine ⟨?_,fun h=>by cases h⟩;rw [(hg.z hs).1];simp only [ef,if_false];unfold Cv
  split
  ·rw [hp.1.1.1.2];rfl
  ·rw [hp.1.1.1.1.1.2];rfl
 ·exact ⟨hg.w,fun _=>rfl⟩
theorem Tj {r:A1} {p:As} (hg:Lu r) (hp:Bo p=true):Cv (Fj r p)=true/\(∃m:Nat,m<=8/\(Fj r p).next=Cc (Ec r p).next m)/\(Kt r p).length<=8:=by
 have h1:=(Qn hg hp).1;obtain ⟨w0,w1⟩:=Ie h1;unfold Fj Kt
 split
 ·exact ⟨h1,⟨0,EZ,(Sd w0 w1).symm⟩,FB⟩
 ·unfold Bo at hp;simp only [aw] at hp;exact Avg h1 hp.1.1.1.1.1.2 hp.1.1.2
theorem Au8 {w:Aj} {t:Int} (hg:Cv w=true) (ht:Bz t=true):Cv (N9 w t)=true/\(∃m:Nat,m<=32767/\(N9 w t).next=Cc w.next m)/\(Oo w t).length<=16:=by
 obtain ⟨w0,w1⟩:=Ie hg;obtain ⟨t0,t1⟩:=A9.1 ht;unfold N9 Oo;cases hb:Tl w.next t
 ·exact ⟨hg,⟨0,EZ,(Sd w0 w1).symm⟩,FB⟩
 ·simp only [if_true]
  split
  ·obtain ⟨e1,e2,e3,e4⟩:=Uu (t:=t) hg;have:=@Ym w.next t
   exact ⟨Adl _ _ hg,⟨_,EZ,e1⟩,EZ⟩
  ·refine ⟨by unfold Cv;rw [ht];rfl,⟨(gp w.next t).toNat,?_,?_⟩,FB⟩
   ·unfold Tl E8 at hb;simp only [aw,aF] at hb;omega
   ·have:=Le w.next t
    show t=_;unfold Cc gp at *;omega
theorem Adz {l:List Az} {b:Int} {w:Aj} {m:Nat} (hm:m<=65528) (hq:Lz l b=true) (hw:Cv w=true) (e:w.next=Cc b m):Lz (Eg l w) w.next=true:=by
 obtain ⟨h1,h2,h3,h4⟩:=Dj.1 hq;obtain ⟨b0,b1⟩:=A9.1 h1;have key:∀q∈l,gp w.next q.Ae < 8->gp w.next q.Ae=gp b q.Ae - m:=fun q hq h=>by
  have ho:=Er.1 (h3 q hq);obtain ⟨n0,n1⟩:=A9.1 ho.n;have:=ho.g;rw [e] at h ⊢;unfold gp Cc at *;omega
 have hin:∀q∈Eg l w,q∈l/\gp w.next q.Ae < 8:=fun q hq=>by
  unfold Eg at hq;rw [bP] at hq;simp only [aw,aF] at hq;exact ⟨hq.1,hq.2.2⟩
 refine Dj.2 ⟨A9.2 (Ie hw),bG (bJ _ _) h2,fun q hq=>?_,?_⟩
 ·obtain ⟨a,c⟩:=hin q hq;have ho:=Er.1 (h3 q a);exact Er.2 ⟨ho.n,c,ho.s0,ho.s1,ho.u0,ho.u1,ho.t0,ho.t1⟩
 ·have h5:(Eg l w).Pairwise fun a b'=>gp b a.Ae < gp b b'.Ae:=h4.sublist eX;refine h5.imp_of_mem fun ha hb h=>?_;rw [key _ (hin _ ha).1 (hin _ ha).2,key _ (hin _ hb).1 (hin _ hb).2];omega
theorem O7 {l:List Az} {w:Aj}:∀q∈Eg l w,Iv w q.Ae=false:=fun q hq=>by
 unfold Eg at hq;rw [bP] at hq;simp only [aw,bA,dv] at hq;exact hq.2.1.2
theorem Q5 {w:Aj} {k:Nat} (hk:k<=8) {n:Int} (h:n∈N6 w k):Bz n=true/\gp w.next n < 8/\Iv w n=false:=by
 unfold N6 Ra at h;obtain ⟨h1,h2⟩:=bP.1 h;obtain ⟨i,hi,rfl⟩:=bL.1 h1;rw [cP] at hi;refine ⟨Pf _ _,?_,HK⟩;unfold gp Cc;omega
theorem Qv {w:Aj} {u:Int} (u0:0<=u) (u1:u<=10007):∀(ns:ar) (l:List Az),(∀n∈ns,Bz n=true/\Iv w n=false)->Lz l w.next=true->(∀q∈l,Iv w q.Ae=false)->Lz (Kz w.next u l ns) w.next=true/\∀q∈Kz w.next u l ns,Iv w q.Ae=false
 | [],l,_,h2,h3=>⟨h2,h3⟩
 | n::ns,l,h1,h2,h3=>by
  obtain ⟨a,b⟩:=h1 n FB;refine Qv u0 u1 ns (Uc w.next l n u) (fun n hn=>h1 n (by simp [hn])) (Asy h2 a u0 u1) fun q hq=>?_;rcases Ax2 hq with h|h
  ·exact h3 q h
  ·rw [h];exact b
theorem Adi {base u:Int} {l:List Az} {ns:ar} {k:Nat} (h:k < ns.length):Kz base u l (ns.take (k+1))=Uc base (Kz base u l (ns.take k)) ns[k] u:=by
 unfold Kz;rw [cC,aD h,dF];rfl
theorem Se (w:Aj) (t:Int):Zh w t<=8:=by unfold Zh;omega
theorem Yg {r:A1} {p:As} {d:Int} (hg:Lu r) (hp:Bo p=true) (d0:1<=d) (d1:d<=8) (hk:r.Ai+d<=10007):Cv (Cs r p)=true/\Lz (Eg r.Ao (Cs r p)) (Cs r p).next=true/\Lu (Ky r p d)/\(Mk r p).length<=24:=by
 obtain ⟨a1,a2⟩:=Qn hg hp;obtain ⟨b1,⟨m,hm,em⟩,b3⟩:=Tj hg hp;have htr:Bz p.Am=true:=by unfold Bo at hp;simp only [aw] at hp;exact hp.1.1.1.1.2
 obtain ⟨c1,⟨k,hk2,ek⟩,c3⟩:=Au8 b1 htr;have hk0:=hg.k0;have hq:Lz (Eg r.Ao (Cs r p)) (Cs r p).next=true:=by
  cases hs:r.Be
  ·rw [(hg.z hs).2];exact (Dj (l:=[])).2 ⟨A9.2 (Ie c1),aG 8,fun r hr=>(by cases hr),List.Pairwise.nil⟩
  ·refine Adz (m:=m+k) EZ hg.q c1 ?_;show (Cs r p).next=_
   rw [show (Cs r p).next=Cc (Fj r p).next k from ek,em,a2 hs,Aes]
 have hn:Cs r p=N9 (Fj r p) p.Am:=rfl;refine ⟨c1,hq,⟨hg.k0,hg.k1,c1,?_,?_,fun h=>by cases h⟩,by unfold Mk;rw [aA];omega⟩
 ·show Lz (Ph (Cs r p) (Eg r.Ao (Cs r p)) p.E7 (r.Ai+d)) (Cs r p).next=true
  unfold Ph
  split
  ·exact (Qv EZ EZ _ _ (fun n hn=>⟨(Q5 (Se _ _) hn).1,(Q5 (Se _ _) hn).2.2⟩) hq O7).1
  ·exact hq
 ·show ∀q∈Ph (Cs r p) (Eg r.Ao (Cs r p)) p.E7 (r.Ai+d),Iv (Cs r p) q.Ae=false;unfold Ph
  split
  ·exact (Qv EZ EZ _ _ (fun n hn=>⟨(Q5 (Se _ _) hn).1,(Q5 (Se _ _) hn).2.2⟩) hq O7).2
  ·exact O7
theorem Ul {r:A1} {p:As} {d:Int} (hg:Lu r) (hp:Bo p=true) (d0:1<=d) (d1:d<=8):Lu (Dl r p d)/\(Id r p).length<=24:=by
 have hk1:=hg.k1;have hk0:=hg.k0;unfold Dl Id
 split
 ·exact ⟨(Yg hg hp d0 d1 EZ).2.2.1,(Yg hg hp d0 d1 EZ).2.2.2⟩
 ·refine ⟨?_,FB⟩
  split
  ·rename_i h;simp only [aw,aF] at h;refine ⟨hk0,hk1,hg.w,Apg hg.q EZ EZ,fun q hq=>?_,fun hs=>?_⟩
   ·obtain ⟨r',hr,e⟩:=Aum hq;show Iv r.Aa q.Ae=false;rw [<-e];exact hg.f r' hr
   ·have:r.Be=false:=hs;rw [h.2] at this;cases this
  ·exact hg
theorem Ry (y:Az) (w:World):Cz Ay w [aa y.Ae,aa y.state,aa y.Co,aa y.Ee] [y] []:=⟨_,[],[],[],FB,FB,⟨rfl,rfl⟩,rfl,rfl⟩
theorem Av2 (xs:List Az) (y:Az) (i:Nat) (a:aj) (c vb:Nat) (F:aq) (hi:i<=xs.length) (hl:xs.length<=1000000) :
  Fn prog 389 [ab a xs.length c,aa i,ab (some ⟨vb,0,none⟩) 1 1] [] [.ow Ay 231 (ab a xs.length c) xs F,.row vb 231 0 [] [aa y.Ae,aa y.state,aa y.Co,aa y.Ee] []] (fun (_:aj × Nat × aq)=>True)
   (fun z=>.slice z.1 (xs.take i++y::xs.drop i).length z.2.1) (fun z=>[.ow Ay 231 (.slice z.1 (xs.take i++y::xs.drop i).length z.2.1) (xs.take i++y::xs.drop i) z.2.2]):=by
 have hone:∀w':World,∀cs:am,Cz Ay w' cs xs []->∀u∈cs,u.oneCell'=true:=fun w' cs h=>h.one' Db;have hy:=Ry y;have h1y:∀u∈([aa y.Ae,aa y.state,aa y.Co,aa y.Ee]:am),u.oneCell'=true:=HN
 refine enter func389 rfl ntmps389 fun w0=>?_;refine Azp (E:=Ay) fun hc1 hc2=>?_;refine go ?_;apply wO;refine Ak8 rfl rfl rfl rfl hi (fun _=>?_) hc1;refine go ?_;refine A4 rfl (fun h1=>?_) (fun h1=>?_)
 ·have hin:i=xs.length:=EZ
  subst hin;have e:xs.take xs.length++y::xs.drop xs.length=xs++[y]:=FB
  refine go ?_;apply wO;refine Nb hy Db fun a2 c2 F2=>?_;rw [e];exact DJ
 ·have hlt:i < xs.length:=EZ
  refine Als (xs:=xs) Dy (by rintro rfl;simp at hlt) ?_;rintro g cs rest rfl - - - hcl hcr hfl;rw [show Ay.sz=4 from rfl] at hcl hcr;have h1c:=hone w0 cs (hfl w0);obtain ⟨A,B,hcs,hA,hB⟩:∃A B,cs=A++B/\A=cs.take (i * 4)/\B=cs.drop (i * 4):=⟨_,_,(bo _ _).symm,rfl,rfl⟩;have hAl:A.length=i * 4:=by rw [hA,aP];omega
  have hBl:B.length=(xs.length - i) * 4:=by rw [hB,aX];omega
  have hins:∀w,Cz Ay w (A++[aa y.Ae,aa y.state,aa y.Co,aa y.Ee]++B) (xs.take i++y::xs.drop i) []:=fun w=>by rw [hA,hB];exact (hfl w).insL (hy w) i hi
  have h1A:∀u∈A,u.oneCell'=true:=fun u hu=>h1c u HZ;have h1B:∀u∈B,u.oneCell'=true:=fun u hu=>h1c u HZ;have hlen:(xs.take i++y::xs.drop i).length=xs.length+1:=FF
  clear hA hB hfl hone;subst hcs;have eA:A=((A++B++rest).drop 0).take (i * 4):=by rw [dw,aN,bT hAl]
  have eB:B=((A++B++rest).drop (0+i * 4)).take ((xs.length - i) * 4):=by rw [cO,aN,dC hAl,bT hBl]
  rw [hlen];refine go ?_;apply wO;apply oc;rfl;exact Arb rfl;refine go ?_;refine A4 rfl (fun h2=>?_) (fun h2=>?_)
  ·refine go ?_;apply wO;apply oc;rfl;exact O0 (i:=i) rfl rfl rfl EZ EZ;refine go ?_;apply wO;refine Ap8 (k:=xs.length+1 - i) (olds:=A) rfl rfl rfl EZ (Mt (m:=i * 4) (.head _) eA) EZ FA EZ EZ EZ EZ fun g' cp' Z rest' h3 h4 h5 h6=>?_;rw [show i+(xs.length+1 - i)=xs.length+1 by omega] at h3 ⊢;obtain ⟨Z1,Z2,rfl,hZ1,hZ2⟩:∃Z1 Z2,Z=Z1++Z2/\Z1.length=4/\Z2.length=B.length:=⟨Z.take 4,Z.drop 4,(bo _ _).symm,GE,JW⟩;refine go ?_
   apply wO;apply oc;rfl;exact Ku (i:=i) rfl rfl rfl EZ EZ EZ;refine go ?_;apply wO
   refine Wh (cs:=[aa y.Ae,aa y.state,aa y.Co,aa y.Ee]) (L':=A++[aa y.Ae,aa y.state,aa y.Co,aa y.Ee]++(Z2++rest')) rfl rfl rfl (Mt (L:=[aa y.Ae,aa y.state,aa y.Co,aa y.Ee]) (o:=0) (m:=4) FD rfl) .here (Aei (M:=Z1) HB EZ (by simpa using hZ1)) (by show 4=min 1 (xs.length+1 - i) * 4;omega) FZ h1y ?_;refine go ?_;refine Ar [] [] ?_;refine Df 0 1 2 3 ?_
   refine dt 4 ?_ (hy:=Ku (i:=i+1) rfl rfl EZ EZ EZ EZ);refine Dh 5 6 ?_;refine dt 7 ?_ (hy:=Ku (i:=i) rfl rfl EZ EZ EZ EZ);refine dN 8 ?_
   refine Wh (cs:=B) (L':=A++[aa y.Ae,aa y.state,aa y.Co,aa y.Ee]++B++rest') rfl rfl rfl (Mt FD eB) .here (Aei (P:=A++[aa y.Ae,aa y.state,aa y.Co,aa y.Ee]) (M:=Z2) HB FZ hZ2) HA FZ h1B ?_;refine dk ?_;refine dd ?_
   refine Ac7 (cs:=A++[aa y.Ae,aa y.state,aa y.Co,aa y.Ee]++B) (rest:=rest') (xs:=xs.take i++y::xs.drop i) cp' rfl hins EZ h4 (by rw [show Ay.sz=4 from rfl];simp only [aA,aU,aY] at h6 ⊢;omega) ?_;rw [hlen];refine go ?_;refine ret (_,cp',[g']) trivial rfl
  ·have hcx:xs.length+1<=c:=EZ
   obtain ⟨X,Y,hXY,hX,hY⟩:=Aqs (B:=B) (R:=rest) 4 EZ;refine go ?_;apply wO;apply oc;rfl;exact O0 (i:=xs.length+1) rfl rfl EZ EZ EZ;refine go ?_;apply wO;apply oc;rfl;exact Ku (i:=i+1) rfl rfl EZ EZ EZ EZ;refine Io ?_;intros;apply wO
   refine Ayb rfl Wk (ovl (tS:=74) (tR:=4) (run_callFunc_extern func392 FC FC FC (e:=Extern.SlicesOverlaps.overlaps #[74,74] #[4]) FC) (.there .here) (.head _) HC) ?_;refine go ?_;refine Ar [] [] ?_;refine Df 0 1 2 3 ?_;refine dt 4 ?_ (hy:=Ku (i:=i+1) rfl rfl EZ EZ EZ EZ);refine Dh 5 6 ?_;refine dt 7 ?_ (hy:=Ku (i:=i) rfl rfl EZ EZ EZ EZ);refine dN 8 ?_
   refine Wh (cs:=B) (L':=A++X++B++rest.drop 4) rfl rfl rfl (Mt FD eB) .here (Aei (P:=A++X) (M:=Y) KJ HR hY) GX HR h1B ?_;refine dk ?_;refine dd ?_;refine go ?_;apply wO;apply oc;rfl;exact Ku (i:=i) rfl rfl rfl EZ EZ EZ;refine go ?_;apply wO
   refine Wh (cs:=[aa y.Ae,aa y.state,aa y.Co,aa y.Ee]) (L':=A++[aa y.Ae,aa y.state,aa y.Co,aa y.Ee]++(B++rest.drop 4)) rfl rfl rfl (Mt (L:=[aa y.Ae,aa y.state,aa y.Co,aa y.Ee]) (o:=0) (m:=4) FD rfl) .here (Aei (M:=X) HB EZ (by simpa using hX)) (by show 4=min 1 (xs.length+1 - i) * 4;omega) FZ h1y ?_;refine go ?_
   refine Ac7 (L:=A++[aa y.Ae,aa y.state,aa y.Co,aa y.Ee]++(B++rest.drop 4)) (cs:=A++[aa y.Ae,aa y.state,aa y.Co,aa y.Ee]++B) (rest:=rest.drop 4) (xs:=xs.take i++y::xs.drop i) c HB hins EZ EZ (by rw [show Ay.sz=4 from rfl];simp only [aA,aU,aY,aX];omega) ?_;rw [hlen];refine ret (_,c,[g]) trivial rfl
instance:IntC prog 146 .u64:=⟨underlying146⟩
theorem Asv (fid:FuncId) (caps:am) (A:List Pc) (hA:A.all (fun p=>!p.mu)=true) (xs:List Az) (a:aj) (c:Nat) (F:aq) (tv:Value) (f:Az->Int) (hm:∀i j (_:i<=j) (hj:j < xs.length),f xs[j] < 0->f (xs[i]'EZ) < 0) (hb:Qx prog fid=true) (hl:xs.length<=1000000)
  (hp:∀x∈xs,∀w,Ob A w->Calls prog fid ([.agg #[aa x.Ae,aa x.state,aa x.Co,aa x.Ee],tv]++caps).toArray w (RB (aa (f x)) w)) :
  Fn prog 382 [ab a xs.length c,tv,.func (.func fid) #[] caps.toArray] (.sl Ay (ab a xs.length c) xs F::A) [] (fun (_:Unit)=>True) (fun _=>.tuple #[aa ((xs.takeWhile fun x=>decide (f x < 0)).length:Nat),.bool (Bbj f xs[(xs.takeWhile fun x=>decide (f x < 0)).length]?)]) (fun _=>[]):=by
 refine enter func382 rfl ntmps382 (fun w0=>?_) rfl GA .nil;refine go ?_;refine Em [0,1,2,6,7,8] (fun s:Nat × Nat=>[(9,aa (s.1:Nat)),(10,aa (s.2:Nat))]) (fun s=>s.1<=s.2/\s.2<=xs.length/\(∀j (_:j < s.1) (h:j < xs.length),f xs[j] < 0)/\(∀j (_:s.2<=j) (h:j < xs.length),¬f xs[j] < 0)) (fun s=>s.2 - s.1) (0,xs.length) ⟨aG _,aL _,fun j h=>by omega,fun j h1 h2=>by omega⟩ fun s hs=>?_;obtain ⟨i,j⟩:=s;obtain ⟨h1,h2,h3,h4⟩:=hs;dsimp only at h1 h2 h3 h4 ⊢;refine go ?_;refine A4 rfl (fun h5=>?_) (fun h5=>?_)
 ·have hh:(i+j) / 2 < xs.length:=EZ
  have e2:((i:Int)+(j:Int)) / 2=(((i+j) / 2:Nat):Int):=EZ
  refine go ?_;apply wO;apply oc;rfl;exact Ahs rfl EZ EZ;refine go ?_;apply wO;apply oc;rfl;exact Alz rfl;rw [e2];apply wO;apply oc;rfl;exact Ao4 rfl EZ EZ;generalize hq:(i+j) / 2=q at hh;refine go ?_;refine I9 (xs:=xs) q ?_;rintro hi b o e;rw [e];refine go ?_;apply wO;refine Ae0 rfl rfl hb Wk ?_;refine cb (fun w st=>hp xs[q] (aB hh) w (fun p hp=>st.on p HH)) ?_;refine go ?_;refine A4 rfl (fun h6=>?_) (fun h6=>?_)
  ·exact DD
  ·exact DE
 ·have hij:i=j:=EZ
  subst hij;have hk:(xs.takeWhile fun x=>decide (f x < 0)).length=i:=Xu h2 (fun j hj h=>av (h3 j hj h)) (fun h=>ay (h4 i (aL _) h));rw [hk];refine go ?_;refine D6 rfl rfl (fun h6=>?_) (fun h6=>?_)
  ·have hh:i < xs.length:=EZ
   rw [aD hh];refine go ?_;refine I9 (xs:=xs) i ?_;exact DI
  ·rw [br EZ];exact AA
theorem Azk {base n:Int} {l:List Az} (hser:∀q∈l,Bz q.Ae=true) (hn:Bz n=true):(l.takeWhile fun x=>decide (gp base x.Ae - gp base n < 0)).length=El base l n /\
  Bbj (fun x:Az=>gp base x.Ae - gp base n) l[(l.takeWhile fun x=>decide (gp base x.Ae - gp base n < 0)).length]?=Mv base l n:=by
 have e:(fun x:Az=>decide (gp base x.Ae - gp base n < 0))=fun h=>decide (gp base h.Ae < gp base n):=by
  funext x;rw [dK];omega
 have e1:(l.takeWhile fun x=>decide (gp base x.Ae - gp base n < 0)).length=El base l n:=by unfold El;rw [e]
 refine ⟨e1,?_⟩;rw [e1];unfold Mv;cases hq:l[El base l n]? with
 | none=>rfl
 | some z =>
  show decide (gp base z.Ae - gp base n=0)=decide (z.Ae=n);rw [dK];exact ⟨fun h=>Bdj (t:=base) (hser z (cg hq)) hn EZ,fun h=>by rw [h];omega⟩
theorem Bf9 (r:Az) (n t:Int) (gb:Nat) (t0:0<=t) (t1:t<=65535) (n0:0<=n) (n1:n<=65535) (m0:0<=r.Ae) (m1:r.Ae<=65535) :
  FV 383 [.agg #[aa r.Ae,aa r.state,aa r.Co,aa r.Ee],aa n,Ga gb 0 0] [.cel gb 0 [aa t]] (aa (gp t r.Ae - gp t n)):=by
 have b1:=Le t r.Ae;have b2:=Le t n;refine enter func383 rfl ntmps383 fun w0=>?_;refine go ?_;intros;refine Ar [0,1] [] ?_;refine Df 0 1 2 4 ?_;refine dt 5 ?_;refine dN 3 ?_;refine oC ?_;refine ce (fun w s=>O6 _ _ _ EZ EZ EZ EZ) ?_;refine dk ?_;refine dN 6 ?_;exact EG
theorem Y2 (l:List Az) (base n:Int) (a:aj) (c:Nat) (F:aq) (hq:Lz l base=true) (hn:Bz n=true) :
  FV 367 [ab a l.length c,aa base,aa n] [.sl Ay (ab a l.length c) l F] (.tuple #[aa (El base l n:Nat),.bool (Mv base l n)]):=by
 obtain ⟨q1,q2,q3,q4⟩:=Dj.1 hq;have hser:∀q∈l,Bz q.Ae=true:=fun q h=>(Er.1 (q3 q h)).n;obtain ⟨b0,b1⟩:=A9.1 q1;obtain ⟨n0,n1⟩:=A9.1 hn;obtain ⟨e1,e2⟩:=Azk (base:=base) hser hn;refine enter func367 rfl ntmps367 fun w0=>?_;refine go ?_;intros;rename_i gb;refine cb (fun w st=>by
  have r1:=st.get (p:=.row gb 3 0 [] [aa base] []) FB;have hw:=(st.get (p:=.sl Ay (ab a l.length c) l F) FB).2;refine (Asv 383 [Ga gb 0 0] [.cel gb 0 [aa base]] rfl l a c F (aa n) (fun r=>gp base r.Ae - gp base n) (fun i j hij hj h=>?_) FC EZ fun x hx w' hA=>?_).val w ?_
  ·rcases bc hij with h2|rfl
   ·have:=bh.1 q4 i j EZ hj h2;omega
   ·exact h
  ·obtain ⟨m0,m1⟩:=A9.1 (hser x hx);exact (Bf9 x n base gb b0 b1 n0 n1 m0 m1).val w' hA
  ·intro p hp;simp only [aH,aT,bm] at hp;rcases hp with rfl|rfl
   ·exact st.get FB
   ·exact ⟨FB,If r1⟩) ?_
 rw [e2,e1];exact AA
theorem Agc (l:List Az) (base n:Int) (a:aj) (c:Nat) (F:aq) (hq:Lz l base=true) (hn:Bz n=true) :
  FV 328 [ab a l.length c,aa base,aa n] [.sl Ay (ab a l.length c) l F] (.tuple #[aa (El base l n:Nat),.bool (Mv base l n)]):=by
 obtain ⟨q1,q2,q3,q4⟩:=Dj.1 hq;have hser:∀q∈l,Bz q.Ae=true:=fun q h=>(Er.1 (q3 q h)).n;obtain ⟨b0,b1⟩:=A9.1 q1;obtain ⟨n0,n1⟩:=A9.1 hn;obtain ⟨t1,t2,t3⟩:=Qs (p:=fun r:Az=>decide (gp base r.Ae < gp base n)) (xs:=l);have hle:=Sr base l n;have hb2:=Le base n;refine enter func328 rfl ntmps328 fun w0=>?_;refine go ?_;refine Bx [0,1,2,6,7] (fun k:Nat=>[(8,aa (k:Nat))]) (fun _=>[]) (fun k=>k<=El base l n) (fun k=>l.length - k) 0 (aG _) fun k hk=>?_;have leaf:∀h:k < l.length,decide (gp base l[k].Ae < gp base n)=decide (k < El base l n):=fun h=>by
  by_cases h2:k < El base l n
  ·rw [av h2];exact t2 k h2 h
  ·have e:k=El base l n:=EZ
   subst e;rw [ay h2];exact t3 h
 refine go ?_;refine D6 rfl rfl (fun h4=>?_) (fun h4=>?_)
 ·have hi:k < l.length:=EZ
  refine go ?_;refine I9 (xs:=l) k ?_;rintro hi b o e;rw [e];refine go ?_;obtain ⟨m0,m1⟩:=A9.1 (hser _ (aB hi));have hb1:=Le base l[k].Ae;refine ce (fun w s=>Jk _ _ _ EZ EZ) ?_;refine go ?_;refine ce (fun w s=>Jk _ _ _ EZ EZ) ?_;have lf:=leaf hi;refine go ?_;refine A4 rfl (fun h5=>?_) (fun h5=>?_)
  ·have h6:k < El base l n:=by rw [av h5] at lf;simpa using lf.symm
   refine go ?_;refine Ca (k+1) (by show k+1<=El base l n;omega) GS
  ·have h6:k=El base l n:=by rw [ay h5] at lf;have:¬k < El base l n:=(by simpa using lf.symm);omega
   refine go ?_;refine Ar [0] [] ?_;refine Df 0 1 2 3 ?_;refine dt 4 ?_;rw [av h4];refine dt 5 ?_;refine C5 6 ?_;refine C5 7 ?_;refine C5 8 ?_;refine C5 9 ?_;refine C5 10 ?_;refine C5 11 ?_;refine C5 12 ?_;refine Dh 13 14 ?_;refine dt 15 ?_;refine dd ?_;rw [Ud EZ];subst h6;exact AA
 ·have h6:k=El base l n:=EZ
  refine go ?_;refine Ar [0] [] ?_;refine Df 0 1 2 3 ?_;refine dt 4 ?_;rw [ay h4];refine dt 5 ?_;refine ds 6 ?_;refine ds 7 ?_;refine ds 8 ?_;refine ds 9 ?_;refine ds 10 ?_;refine ds 11 ?_;refine ds 12 ?_;refine Dh 13 14 ?_;refine dt 15 ?_;refine dd ?_;rw [Aic EZ];subst h6;exact AA
def Akm (base:Int) (l:List Az) (n u:Int):List Az:=if Mv base l n then [] else Wn base l n u
structure OwR where
 a:aj
 c:Nat
 F:aq
theorem Akf (l:List Az) (base n ck d:Int) (a:aj) (c:Nat) (F:aq) (hq:Lz l base=true) (hn:Bz n=true) (h8:gp base n < 8) (k0:0<=ck) (k1:ck<=9999) (d0:1<=d) (d1:d<=8) :
  Fn prog 381 [ab a l.length c,aa base,aa n,aa ck,aa d] [.sl Ay (ab a l.length c) l F] [] (fun (_:OwR)=>True) (fun s=>.tuple #[.slice s.a (Akm base l n (ck+d)).length s.c,.bool (!Mv base l n)]) (fun s=>[.ow Ay 231 (.slice s.a (Akm base l n (ck+d)).length s.c) (Akm base l n (ck+d)) s.F]):=by
 have hle:=Sr base l n;obtain ⟨q1,q2,q3,q4⟩:=Dj.1 hq;have hck:Kq ck=true:=by unfold Kq E8;simp;omega
 have hdl:Axd d=true:=by unfold Axd E8;simp;omega
 refine enter func381 rfl ntmps381 fun w0=>?_;refine go ?_;refine Bf (Qp l base _ F) fun _ _=>?_;rw [hq];refine go ?_;refine ce (fun w s=>I6 _ _) ?_;rw [hn];refine go ?_;refine ce (fun w s=>Sh _ _) ?_;rw [hck];refine go ?_;refine Bf (Atu d) fun _ _=>?_;rw [hdl];refine go ?_;refine Bf (Y2 l base n a c F hq hn) fun _ _=>?_;cases ho:Mv base l n
 ·rw [show Akm base l n (ck+d)=Wn base l n (ck+d) by unfold Akm;rw [ho];rfl];have hln:=Axc base l n (ck+d);refine go ?_;refine Bf (To l a c F EZ) fun z _=>?_;refine go ?_;intros;refine Bf (Av2 l ⟨n,1,ck+d,0⟩ (El base l n) z.1 z.2.1 _ z.2.2 hle EZ) fun y _=>?_;rw [show l.take (El base l n)++(⟨n,1,ck+d,0⟩:Az)::l.drop (El base l n)=Wn base l n (ck+d) from rfl];refine go ?_
  refine cb (fun w st=>by obtain ⟨Fw, -,hw⟩:=(st.get (p:=.ow Ay 231 (.slice y.1 (Wn base l n (ck+d)).length y.2.1) (Wn base l n (ck+d)) y.2.2) FB).2.read;exact (Qp (Wn base l n (ck+d)) base _ Fw).val w (Iw ⟨FA,hw⟩)) ?_;rw [Ai4 hq hn h8 EZ EZ ho];exact AZ
 ·rw [show Akm base l n (ck+d)=[] by unfold Akm;rw [ho];rfl];refine go ?_;refine Cf Ay 231 ?_;refine ret ⟨none,0,[]⟩ trivial rfl
theorem Axn (l:List Az) (base n ck d:Int) (a:aj) (c:Nat) (F:aq) (hq:Lz l base=true) (hn:Bz n=true) (k0:0<=ck) (k1:ck<=9999) (d0:1<=d) (d1:d<=8) :
  Fn prog 333 [ab a l.length c,aa base,aa n,aa ck,aa d] [.sl Ay (ab a l.length c) l F] [] (fun (_:OwR)=>True) (fun s=>.slice s.a (Uc base l n (ck+d)).length s.c) (fun s=>[.ow Ay 231 (.slice s.a (Uc base l n (ck+d)).length s.c) (Uc base l n (ck+d)) s.F]):=by
 have hle:=Sr base l n;obtain ⟨q1,q2,q3,q4⟩:=Dj.1 hq;obtain ⟨b0,b1⟩:=A9.1 q1;obtain ⟨n0,n1⟩:=A9.1 hn;have hbd:=Le base n;refine enter func333 rfl ntmps333 fun w0=>?_;refine go ?_;refine Bf (Agc l base n a c F hq hn) fun _ _=>?_;cases ho:Mv base l n
 rotate_left
 ·rw [show Uc base l n (ck+d)=l by unfold Uc;rw [ho];rfl];refine Io ?_;intros;refine Cy Ay ?_;refine go ?_;apply wO;refine Ni Db Dy fun a5 c5 F5=>?_;rw [aZ];exact AZ
 refine go ?_;refine ce (fun w s=>Jk _ _ _ EZ EZ) ?_;refine go ?_;refine A4 rfl (fun h4=>?_) (fun h4=>?_)
 ·rw [show Uc base l n (ck+d)=l by unfold Uc;rw [ho,ay (show ¬gp base n < 8 by omega)];rfl];refine Io ?_;intros;refine Cy Ay ?_;refine go ?_;apply wO;refine Ni Db Dy fun a5 c5 F5=>?_;rw [aZ];exact AZ
 rw [show Uc base l n (ck+d)=Wn base l n (ck+d) by unfold Uc;rw [ho,av (show gp base n < 8 by omega)];rfl];refine Abn (E:=Ay) (xs:=l) ?_;rintro _ _ e8 c0 c1;cases e8;refine Asi (E:=Ay) (xs:=l) (El base l n) (fun FT=>?_) hle;obtain ⟨T1,hT1⟩:∃T1,T1=l.take (El base l n):=⟨_,rfl⟩;have hT1l:T1.length=El base l n:=by rw [hT1,aP];omega
 rw [<-hT1];have hAdd:T1++[(⟨n,1,ck+d,0⟩:Az)]++l.drop (El base l n)=Wn base l n (ck+d):=by rw [hT1];unfold Wn Bgf;simp
 refine go ?_;intros;refine Ar [0,1] [] ?_;refine Dh 1 2 ?_;refine dt 3 ?_ (hy:=O0 (i:=T1.length) rfl rfl (by rw [hT1l]) EZ EZ);refine Dh 5 8 ?_;refine dt 9 ?_;refine Amp 10 (El base l n) (fun a6 c6 F6=>?_);refine dM 0 6 ?_ ?_
 ·apply Kg;rfl;intro _;refine Cy Ay ?_;refine dk ?_;refine dM 4 6 ?_ ?_
  ·refine Ni (ys:=T1) Db Dy fun a7 c7 F7=>?_;rw [aZ];refine dk ?_;refine dN 6 ?_;apply Iq;rfl;rfl;rfl;rfl;exact Ik;exact Ih;intro _;exact AK
  ·apply Iq;rfl;rfl;rfl;rfl;exact Ik;exact Ih;intro _;refine dk ?_;refine dN 4 ?_;refine Ni (ys:=T1) Db Dy fun a7 c7 F7=>?_;rw [aZ];exact AK
 ·apply Iq;rfl;rfl;rfl;rfl;exact Ik;exact Ih;intro _;refine dk ?_;refine dN 0 ?_;apply Kg;rfl;intro _;refine Cy Ay ?_;refine dk ?_;refine dN 4 ?_;refine Ni (ys:=T1) Db Dy fun a7 c7 F7=>?_;rw [aZ];exact AK
theorem Abv (l:List Az) (base n ck:Int) (a:aj) (c:Nat) (F:aq) (hq:Lz l base=true) (hn:Bz n=true) (k0:0<=ck) (k1:ck<=9999) :
  Fn prog 349 [ab a l.length c,aa base,aa n,aa ck] [.sl Ay (ab a l.length c) l F] [] (fun (_:OwR)=>True) (fun s=>.tuple #[.slice s.a (Qy base l n (ck+4)).length s.c,.bool true]) (fun s=>[.ow Ay 231 (.slice s.a (Qy base l n (ck+4)).length s.c) (Qy base l n (ck+4)) s.F]):=by
 have hle:=Sr base l n;obtain ⟨q1,q2,q3,q4⟩:=Dj.1 hq;have hck:Kq ck=true:=by unfold Kq E8;simp;omega
 refine enter func349 rfl ntmps349 fun w0=>?_;refine go ?_;refine Bf (Qp l base _ F) fun _ _=>?_;rw [hq];refine go ?_;refine ce (fun w s=>I6 _ _) ?_;rw [hn];refine go ?_;refine ce (fun w s=>Sh _ _) ?_;rw [hck];refine go ?_;refine Bf (To l a c F EZ) fun z _=>?_;refine go ?_;refine cb (fun w st=>by obtain ⟨Fw, -,hw⟩:=(st.get (p:=.ow Ay 231 (.slice z.1 (l).length z.2.1) (l) z.2.2) FB).2.read;exact (Y2 l base n z.1 z.2.1 Fw hq hn).val w (Iw ⟨FA,hw⟩)) ?_;have hcl:=Aih base l n (ck+4);cases ho:Mv base l n
 ·rw [Wx ho];exact AZ
 ·have hlt:=Ue ho;refine go ?_;refine Afz (xs:=l) (El base l n) ?_ (hi:=hlt);rintro hi g A B ha hF hh;rw [ha];refine go ?_;refine Pz (⟨n,3,ck+4,l[El base l n].Ee⟩:Az) hh (fun w=>?_) ?_
  ·rw [Ud hi] at ho;have e:l[El base l n].Ae=n:=by simpa using ho
   rw [e];exact DT
  exact EV
theorem Ak1 (l:List Az) (base n ck:Int) (a:aj) (c:Nat) (F:aq) (hq:Lz l base=true) (hn:Bz n=true) (k0:0<=ck) (k1:ck<=9999) :
  Fn prog 292 [ab a l.length c,aa base,aa n,aa ck] [.sl Ay (ab a l.length c) l F] [] (fun (_:OwR)=>True) (fun s=>.slice s.a (Qy base l n (ck+4)).length s.c) (fun s=>[.ow Ay 231 (.slice s.a (Qy base l n (ck+4)).length s.c) (Qy base l n (ck+4)) s.F]):=by
 have hle:=Sr base l n;obtain ⟨q1,q2,q3,q4⟩:=Dj.1 hq;have hcl:=Aih base l n (ck+4);refine enter func292 rfl ntmps292 fun w0=>?_;refine Io ?_;intros;refine Cy Ay ?_;refine go ?_;apply wO;refine Ni Db Dy fun a5 c5 F5=>?_;rw [aZ];refine go ?_;refine Bf (Agc l base n a c F hq hn) fun _ _=>?_;cases ho:Mv base l n
 ·rw [Wx ho];exact AZ
 ·have hlt:=Ue ho;refine go ?_;refine I9 (xs:=l) (El base l n) ?_;rintro hi b o e;rw [e];refine Afz (xs:=l) (a:=a5) (El base l n) ?_ (hi:=hlt);rintro hi g A B ha hF hh;rw [ha];refine go ?_;refine Pz (⟨n,3,ck+4,l[El base l n].Ee⟩:Az) hh (fun w=>⟨rfl,rfl⟩) ?_;exact EV
structure SkS where
 a:aj
 c:Nat
 F:aq
 ae:aj
 ce:Nat
 Fe:aq
theorem Bav (w:Aj) (st:Bool) (ck tr:Int) (q:Value) (g t o:Nat) (A B:am) (a1:aj) (c1:Nat) (F1:aq) (hg:Cv w=true) (ht:Bz tr=true) :
  Fn prog 364 [Ga g o 0,aa tr] [] [.row g t o A [.bool st,aa ck,aa (w).next,.slice a1 (w).Ap.length c1,q] B,.ow Cw 107 (.slice a1 (w).Ap.length c1) (w).Ap F1] (fun (_:SkS)=>True)
   (fun s=>.slice s.ae (Oo w tr).length s.ce) (fun s=>[.row g t o A [.bool st,aa ck,aa (N9 w tr).next,.slice s.a (N9 w tr).Ap.length s.c,q] B,.ow Cw 107 (.slice s.a (N9 w tr).Ap.length s.c) (N9 w tr).Ap s.F,.ow A8 9 (.slice s.ae (Oo w tr).length s.ce) (Oo w tr) s.Fe]):=by
 obtain ⟨w0_,w1_⟩:=Ie hg;obtain ⟨t0_,t1_⟩:=A9.1 ht;obtain ⟨hw8,hit⟩:=Ko hg;have hgb:=Le w.next tr
 refine enter func364 rfl ntmps364 fun w0=>?_;refine go ?_;refine ce (fun w s=>Np _ _ _ EZ EZ EZ EZ) ?_;cases hb:Tl w.next tr
 ·have e1:N9 w tr=w:=by unfold N9;rw [hb];rfl
  have e2:Oo w tr=[]:=by unfold Oo;rw [hb];rfl
  rw [e1,e2];refine Cf A8 9 ?_;exact DM
 refine go ?_;refine ce (fun w s=>O6 _ _ _ EZ EZ EZ EZ) ?_;refine go ?_;refine A4 rfl (fun h4=>?_) (fun h4=>?_)
 ·have e1:N9 w tr=Jd w tr:=by unfold N9;rw [hb,aJ rfl,aJ h4]
  have e2:Oo w tr=Jc w tr:=by unfold Oo;rw [hb,aJ rfl,aJ h4]
  rw [e1,e2];refine Ash [.bool st,aa ck] [aa w.next,ab a1 w.Ap.length c1] [q] ?_;refine go ?_;refine Bf (Al7 w tr g t (o+2) (A++[.bool st,aa ck]) _ a1 c1 F1 w0_ w1_ t0_ t1_ hw8 hit) fun y hy=>?_;obtain ⟨hy1,hy2⟩:=hy;refine Ahi [.bool st,aa ck] [aa y.y.next,ab y.a y.y.Ap.length y.c] [q] ?_;rw [show Jd w tr=y.y from hy1.symm,show Jc w tr=y.es from hy2.symm];exact DM
 ·have e1:N9 w tr=⟨tr,[]⟩:=by unfold N9;rw [hb,aJ rfl,aC h4]
  have e2:Oo w tr=[⟨#[33]⟩]:=by unfold Oo;rw [hb,aJ rfl,aC h4]
  rw [e1,e2];refine Cf Cw 107 ?_;refine Io ?_;intros;refine Eh (xs:=[(⟨#[33]⟩:au)]) (Tu _ FA) ?_ FB;refine go ?_;refine ret ⟨none,0,[],_,_,_⟩ trivial rfl
structure AwS where
 i:Nat
 a:aj
 c:Nat
 F:aq
theorem Av8 (x:Aj) (l:List Az) (st:Bool) (ck E7 d:Int) (g t o:Nat) (A B:am) (a1:aj) (c1:Nat) (F1:aq) (a2:aj) (c2:Nat) (F2:aq) (hg:Cv x=true) (hq:Lz l x.next=true) (hf:∀q∈l,Iv x q.Ae=false) (hl:Bz E7=true) (k0:0<=ck) (k1:ck<=9999) (d0:1<=d) (d1:d<=8) :
  Fn prog 366 [Ga g o 0,aa E7,aa d] [] [.row g t o A [.bool st,aa ck,aa (x).next,.slice a1 (x).Ap.length c1,.slice a2 (l).length c2] B,.ow Cw 107 (.slice a1 (x).Ap.length c1) (x).Ap F1,.ow Ay 231 (.slice a2 (l).length c2) (l) F2] (fun (_:OwR)=>True)
   (fun _=>.tuple #[]) (fun s=>[.row g t o A [.bool st,aa ck,aa (x).next,.slice a1 (x).Ap.length c1,.slice s.a (Ph x l E7 (ck+d)).length s.c] B,.ow Cw 107 (.slice a1 (x).Ap.length c1) (x).Ap F1,.ow Ay 231 (.slice s.a (Ph x l E7 (ck+d)).length s.c) (Ph x l E7 (ck+d)) s.F]):=by
 obtain ⟨w0_,w1_⟩:=Ie hg;obtain ⟨l0_,l1_⟩:=A9.1 hl;have hgb:=Le x.next E7
 refine enter func366 rfl ntmps366 fun w0=>?_;refine go ?_;refine ce (fun w s=>Np _ _ _ EZ EZ EZ EZ) ?_;cases hb:Tl x.next E7
 ·have e1:Ph x l E7 (ck+d)=l:=by unfold Ph;rw [hb];rfl
  rw [e1];exact AZ
 obtain ⟨k,hk⟩:∃k,k=Zh x E7:=⟨_,rfl⟩;have hk8:k<=8:=by rw [hk];exact Se _ _
 have hkm:((k:Nat):Int)=min (gp x.next E7) 8:=by rw [hk];unfold Zh;omega
 obtain ⟨N,hN⟩:∃N,N=N6 x k:=⟨_,rfl⟩;have hNl:N.length<=8:=by have:=Acv x k;rw [hN];omega
 have e1:Ph x l E7 (ck+d)=Kz x.next (ck+d) l N:=by unfold Ph;rw [hb,aJ rfl,hN,hk]
 rw [e1];have Wm:=I7 x.next (min (gp x.next E7) 8)
 have hgp:gp x.next (Cc x.next (min (gp x.next E7) 8))=(k:Nat):=by rw [<-hkm];unfold gp Cc;omega
 refine go ?_;refine Ar [0] [] ?_;refine Df 0 1 2 3 ?_;refine Df 4 5 6 12 ?_;refine dN 7 ?_;refine oC ?_;refine ce (fun w s=>O6 _ _ _ EZ EZ EZ EZ) ?_;refine dk ?_;refine dt 8 ?_;refine dN 9 ?_;refine oC ?_;refine ce (fun w s=>Rp _ _ _ EZ EZ) ?_;refine dk ?_;refine dN 10 ?_;refine oC ?_;refine cfr (fun w st=>by obtain ⟨F9,hF9⟩:=Ber (st.get (p:=.ow Cw 107 (.slice a1 (x).Ap.length c1) (x).Ap F1) FB);exact ⟨_,Iw hF9,rfl,Al8 x _ k _ F9 w0_ w1_ EZ EZ hgp⟩) (fun m _=>?_);refine dk ?_;refine dt 11 ?_;refine dd ?_;rw [<-hN]
 refine Av (E:=Bc) (xs:=N) fun GN=>?_;refine go ?_;refine Bx [0,2,6,30,31] (fun s:AwS=>[(32,aa (s.i:Nat))]) (fun s=>[.row g t o A [.bool st,aa ck,aa (x).next,.slice a1 (x).Ap.length c1,.slice s.a (Kz x.next (ck+d) l (N.take s.i)).length s.c] B,.ow Ay 231 (.slice s.a (Kz x.next (ck+d) l (N.take s.i)).length s.c) (Kz x.next (ck+d) l (N.take s.i)) s.F]) (fun s=>s.i<=N.length) (fun s=>N.length - s.i) ⟨0,a2,c2,F2⟩ (aG _) fun s hs=>?_;obtain ⟨i,a3,c3,F3⟩:=s;dsimp only at hs ⊢;have hall:=Qv (w:=x) (u:=ck+d) EZ EZ (N.take i) l (fun n hn=>by
  have:=Q5 (w:=x) (n:=n) hk8 (by rw [<-hN];exact bO hn);exact ⟨this.1,this.2.2⟩) hq hf
 have hLs:∀h:i < N.length,Kz x.next (ck+d) l (N.take (i+1))=Uc x.next (Kz x.next (ck+d) l (N.take i)) N[i] (ck+d):=fun h=>Adi h
 generalize hLd:Kz x.next (ck+d) l (N.take i)=L at *
 have hLq:=hall.1;have hL8:=(Dj.1 hLq).2.1;refine go ?_;refine A4 rfl (fun h4=>?_) (fun h4=>?_)
 ·have hi:i < N.length:=EZ
  have hni:=Q5 (w:=x) (n:=N[i]) hk8 (by rw [<-hN];exact aB hi);refine Hy (xs:=N) i ?_;rintro hi2 b o2 e;rw [e];refine go ?_;refine Ar [1] [] ?_;refine Df 0 1 2 3 ?_;refine Df 4 5 6 7 ?_;refine Dh 8 9 ?_;refine dt 10 ?_;refine dN 11 ?_;refine oC ?_;refine cfr (fun w st=>by obtain ⟨Fq, -,hq9⟩:=(st.get (p:=.ow Ay 231 (.slice a3 (L).length c3) (L) F3) FB).2.read;exact ⟨[.sl Ay (ab a3 L.length c3) L Fq],Iw ⟨FA,hq9⟩,rfl,Akf L x.next N[i] ck d a3 c3 Fq hLq hni.1 hni.2.1 k0 k1 d0 d1⟩) (fun u _=>?_);refine dk ?_;refine Df 12 13 14 15 ?_;refine dt 16 ?_;refine dd ?_
  refine go ?_;cases ho:Mv x.next L N[i]
  ·have eA:Kz x.next (ck+d) l (N.take (i+1))=Akm x.next L N[i] (ck+d):=by rw [hLs hi];unfold Uc Akm;rw [ho,av hni.2.1];rfl
   refine go ?_;rw [<-eA];exact CN
  ·have eA:Kz x.next (ck+d) l (N.take (i+1))=L:=by rw [hLs hi];unfold Uc;rw [ho];rfl
   refine go ?_;rw [<-eA];exact CN
 have hi:i=N.length:=EZ
 subst hi;rw [bl] at hLd;rw [hLd];refine go ?_;refine Vz ?_;refine ret (⟨_,_,_⟩:OwR) trivial rfl
theorem Wc (p:As) (hs:p.data.size<=maxLen):FV 223 [.agg #[aa p.Cq,aa p.Ae,aa p.Am,aa p.E7,af p.data]] [] (.bool (Bo p)):=by
 refine enter func223 rfl ntmps223 fun w0=>?_;refine go ?_;intros;refine ce (fun w s=>H1 _ _ _ _) ?_;cases g1:E8 1 p.Cq 5
 ·refine go ?_;refine ret () trivial ?_;show Value.bool _=Value.bool _;congr 1;unfold Bo;simp [g1]
 refine go ?_;refine ce (fun w s=>I6 _ _) ?_;cases g2:Bz p.Ae
 ·refine go ?_;refine ret () trivial ?_;show Value.bool _=Value.bool _;congr 1;unfold Bo;simp [g2]
 refine go ?_;refine ce (fun w s=>I6 _ _) ?_;cases g3:Bz p.Am
 ·refine go ?_;refine ret () trivial ?_;show Value.bool _=Value.bool _;congr 1;unfold Bo;simp [g3]
 refine go ?_;refine ce (fun w s=>I6 _ _) ?_;cases g4:Bz p.E7
 ·refine go ?_;refine ret () trivial ?_;show Value.bool _=Value.bool _;congr 1;unfold Bo;simp [g4]
 refine go ?_;refine cb (fun w s=>Aa1 _ _ hs) ?_;cases g5:Pe p.data
 ·refine go ?_;refine ret () trivial ?_;show Value.bool _=Value.bool _;congr 1;unfold Bo;simp [g5]
 obtain ⟨t0,t1⟩:=A9.1 g3;obtain ⟨l0,l1⟩:=A9.1 g4;refine go ?_;refine ce (fun w s=>O6 _ _ _ EZ EZ EZ EZ) ?_;refine go ?_;refine D6 rfl rfl (fun h6=>?_) (fun h6=>?_)
 ·refine go ?_;refine D6 rfl rfl (fun h7=>?_) (fun h7=>?_)
  ·exact ET
  refine go ?_;refine D6 rfl rfl (fun h8=>?_) (fun h8=>?_)
  ·exact ER
  ·exact EH
 ·refine go ?_;refine ret () trivial ?_;show Value.bool _=Value.bool _;congr 1;unfold Bo;simp [h6]
theorem Ani (p:As) (hs:p.data.size<=maxLen):FV 273 [.agg #[aa p.Cq,aa p.Ae,aa p.Am,aa p.E7,af p.data]] [] (.bool (Bo p)):=by
 refine enter func273 rfl ntmps273 fun w0=>?_;refine go ?_;intros;refine ce (fun w s=>Ka _ _ _ _) ?_;cases g1:E8 1 p.Cq 5
 ·refine go ?_;refine ret () trivial ?_;show Value.bool _=Value.bool _;congr 1;unfold Bo;simp [g1]
 refine go ?_;refine ce (fun w s=>Nt _ _) ?_;cases g2:Bz p.Ae
 ·refine go ?_;refine ret () trivial ?_;show Value.bool _=Value.bool _;congr 1;unfold Bo;simp [g2]
 refine go ?_;refine ce (fun w s=>Nt _ _) ?_;cases g3:Bz p.Am
 ·refine go ?_;refine ret () trivial ?_;show Value.bool _=Value.bool _;congr 1;unfold Bo;simp [g3]
 refine go ?_;refine ce (fun w s=>Nt _ _) ?_;cases g4:Bz p.E7
 ·refine go ?_;refine ret () trivial ?_;show Value.bool _=Value.bool _;congr 1;unfold Bo;simp [g4]
 obtain ⟨t0,t1⟩:=A9.1 g3;obtain ⟨l0,l1⟩:=A9.1 g4;refine go ?_;refine ce (fun w s=>Jk _ _ _ EZ EZ) ?_;refine go ?_;refine D6 rfl rfl (fun h6=>?_) (fun h6=>?_)
 ·refine go ?_;refine ret () trivial ?_;have h6:¬gp p.Am p.E7<=32767:=EZ
  show Value.bool _=Value.bool _;congr 1;unfold Bo;simp [h6]
 have h6:gp p.Am p.E7<=32767:=EZ
 refine go ?_;refine ce (fun w s=>Q3 _ _ _ hs) ?_;rw [show (decide ((p.data.size:Int)<=8) && T4 p.data.data.toList)=Pe p.data from rfl];cases g5:Pe p.data
 ·refine go ?_;refine ret () trivial ?_;show Value.bool _=Value.bool _;congr 1;unfold Bo;simp [g5]
 refine go ?_;refine D6 rfl rfl (fun h7=>?_) (fun h7=>?_)
 ·exact ET
 refine go ?_;refine D6 rfl rfl (fun h8=>?_) (fun h8=>?_)
 ·exact ER
 ·exact EH
def Ahz (x:Aj) (q:Az):Bool:=Tl q.Ae x.next || decide (8<=gp x.next q.Ae) || Iv x q.Ae
theorem Bb2 {l:List Az} {x:Aj}:(l.filter fun q=>!Ahz x q)=Eg l x:=by
 unfold Eg Ahz;refine ew fun q _=>?_;have e:decide (8<=gp x.next q.Ae) = !decide (gp x.next q.Ae < 8):=by rw [<-decide_not];exact dK.2 EZ
 rw [e];cases Tl q.Ae x.next <;> cases Iv x q.Ae <;> simp
theorem Bb3 (q:Az) (x:Aj) (nb gb g o:Nat) (st:Bool) (ck:Int) (qv:Value) (a1:aj) (c1:Nat) (F:aq) (w0_:0<=x.next) (w1_:x.next<=65535) (hn:Bz q.Ae=true) :
  FV 365 [.agg #[aa q.Ae,aa q.state,aa q.Co,aa q.Ee],Ga nb 0 0,Ga gb 0 0] [.cel nb 0 [aa x.next],.cel gb 0 [Ga g o 0],.cel g o [.bool st,aa ck,aa x.next,ab a1 x.Ap.length c1,qv],.isv Br (.agg #[aa x.next,ab a1 x.Ap.length c1]) x F] (.bool (Ahz x q)):=by
 obtain ⟨n0,n1⟩:=A9.1 hn;have hgb:=Le x.next q.Ae
 refine enter func365 rfl ntmps365 fun w0=>?_;refine go ?_;intros;cases hb:Tl q.Ae x.next
 rotate_left
 ·rw [show Ahz x q=true by unfold Ahz;rw [hb];rfl];refine Ar [0,1,2,3,4] [] ?_;refine Dh 0 1 ?_;refine dt 2 ?_;refine dN 3 ?_;refine oC ?_;refine ce (fun w s=>Np _ _ _ EZ EZ EZ EZ) ?_;rw [hb];refine dk ?_;refine dt 4 ?_;refine ds 5 ?_;refine ds 6 ?_;refine ds 7 ?_;refine ds 8 ?_;refine ds 9 ?_;refine Dh 10 11 ?_;refine ds 12 ?_;refine ds 13 ?_;refine ds 14 ?_;refine ds 15 ?_;refine ds 16 ?_;refine ds 17 ?_;refine ds 18 ?_;refine Dh 19 20 ?_;exact CI
 by_cases h8':8<=gp x.next q.Ae
 ·have h8:=av h8';rw [show Ahz x q=true by unfold Ahz;rw [h8];simp];refine Ar [0,1,2,3,4] [] ?_;refine Dh 0 1 ?_;refine dt 2 ?_;refine dN 3 ?_;refine oC ?_;refine ce (fun w s=>Np _ _ _ EZ EZ EZ EZ) ?_;rw [hb];refine dk ?_;refine dt 4 ?_;refine C5 5 ?_;refine C5 6 ?_;refine C5 7 ?_;refine d1g 8 ?_;apply On.h;refine oC ?_;refine ce (fun w s=>O6 _ _ _ EZ EZ EZ EZ) ?_;refine dk ?_;refine C5 9 ?_;rw [h8];refine Dh 10 11 ?_;refine ds 12 ?_;refine ds 13 ?_;refine ds 14 ?_;refine ds 15 ?_;refine ds 16 ?_;refine ds 17 ?_
  refine ds 18 ?_;refine Dh 19 20 ?_;exact CI
 ·have h8:=ay h8';rw [show Ahz x q=Iv x q.Ae by unfold Ahz;rw [hb,h8];rfl];refine Ar [0,1,2,3,4] [] ?_;refine Dh 0 1 ?_;refine dt 2 ?_;refine dN 3 ?_;refine oC ?_;refine ce (fun w s=>Np _ _ _ EZ EZ EZ EZ) ?_;rw [hb];refine dk ?_;refine dt 4 ?_;refine C5 5 ?_;refine C5 6 ?_;refine C5 7 ?_;refine d1g 8 ?_;apply On.h;refine oC ?_;refine ce (fun w s=>O6 _ _ _ EZ EZ EZ EZ) ?_;refine dk ?_;refine C5 9 ?_;rw [h8];refine Dh 10 11 ?_;refine C5 12 ?_;refine C5 13 ?_;refine C5 14 ?_;refine C5 15 ?_;refine C5 16 ?_
  refine C5 17 ?_;refine d1g 18 ?_;apply On.h;refine oC ?_;refine Bf (Aan x q.Ae _ F w0_ w1_ n0 n1) fun _ _=>?_;refine dk ?_;refine Dh 19 20 ?_;exact CI
structure NwS where
 a1:aj
 c1:Nat
 F1:aq
 a2:aj
 c2:Nat
 F2:aq
 ae:aj
 ce:Nat
 Fe:aq
theorem Akj (r:A1) (p:As) (d:Int) (g t o:Nat) (A B:am) (a1:aj) (c1:Nat) (F1:aq) (a2:aj) (c2:Nat) (F2:aq) (hg:Lu r) (hp:Bo p=true) (d0:1<=d) (d1:d<=8) :
  Fn prog 348 [Ga g o 0,.agg #[aa p.Cq,aa p.Ae,aa p.Am,aa p.E7,af p.data],aa d] [] [.row g t o A [.bool r.Be,aa r.Ai,aa (r.Aa).next,.slice a1 (r.Aa).Ap.length c1,.slice a2 (r.Ao).length c2] B,.ow Cw 107 (.slice a1 (r.Aa).Ap.length c1) (r.Aa).Ap F1,.ow Ay 231 (.slice a2 (r.Ao).length c2) (r.Ao) F2] (fun (_:NwS)=>True)
   (fun s=>.slice s.ae (Mk r p).length s.ce) (fun s=>[.row g t o A [.bool (Ky r p d).Be,aa (Ky r p d).Ai,aa ((Ky r p d).Aa).next,.slice s.a1 ((Ky r p d).Aa).Ap.length s.c1,.slice s.a2 ((Ky r p d).Ao).length s.c2] B,.ow Cw 107 (.slice s.a1 ((Ky r p d).Aa).Ap.length s.c1) ((Ky r p d).Aa).Ap s.F1,.ow Ay 231 (.slice s.a2 ((Ky r p d).Ao).length s.c2) ((Ky r p d).Ao) s.F2,.ow A8 9 (.slice s.ae (Mk r p).length s.ce) (Mk r p) s.Fe]):=by
 have k0:=hg.k0;have k1:=hg.k1;obtain ⟨-,q1,q2, -⟩:=Dj.1 hg.q;have hser:∀q∈r.Ao,Bz q.Ae=true:=fun q hq=>(Xp hg hq).1;obtain ⟨hsg, -⟩:=Qn hg hp;obtain ⟨htg, -,htl⟩:=Tj hg hp;obtain ⟨hng,hnq, -,hnl⟩:=Yg hg hp d0 d1 EZ;obtain ⟨s0_,s1_⟩:=Ie hsg;obtain ⟨v0_,v1_⟩:=Ie hng;obtain ⟨hw8,hit⟩:=Ko hsg;obtain ⟨n0,n1⟩:=Kn hp;have hp2:=hp;unfold Bo at hp2;simp only [aw] at hp2;have htr:Bz p.Am=true:=hp2.1.1.1.1.2;have hld:Bz p.E7=true:=hp2.1.1.1.2;have hps:p.data.size<=8:=Up hp2.1.1.2;refine enter func348 rfl ntmps348 fun w0=>?_;refine go ?_;intros;rename_i g3 g4
 refine D0 [2,3,4,6] [0,1,4] (fun _:Unit=>[]) (fun _=>[.row g t o A [.bool true,aa r.Ai,aa (Ec r p).next,.slice a1 (Ec r p).Ap.length c1,ab a2 r.Ao.length c2] B,.ow Cw 107 (.slice a1 (Ec r p).Ap.length c1) (Ec r p).Ap F1]) (fun _=>True) ?_ fun _ _=>?_
 ·cases hs:r.Be
  ·by_cases hk:p.Cq=5
   ·have e:Ec r p=⟨p.E7,r.Aa.Ap⟩:=by unfold Ec;rw [hs,aJ hk];rfl
    have hkd:decide (p.Cq=5)=true:=av hk;rw [e];refine go ?_;refine A4 rfl (fun _=>?_) (fun h=>absurd hk h);exact CP
   ·have e:Ec r p=⟨p.Ae,r.Aa.Ap⟩:=by unfold Ec;rw [hs,aC hk];rfl
    rw [e];refine go ?_;refine A4 rfl (fun h=>absurd h hk) (fun _=>?_);exact CP
  ·have e:Ec r p=r.Aa:=by unfold Ec;rw [hs];rfl
   rw [e];exact CP
 refine go ?_;refine D0 [2,3,4,6] [2,3,4] (fun s:SkS=>[(7,.slice s.ae (Kt r p).length s.ce)]) (fun s=>[.row g t o A [.bool true,aa r.Ai,aa (Fj r p).next,.slice s.a (Fj r p).Ap.length s.c,ab a2 r.Ao.length c2] B,.ow Cw 107 (.slice s.a (Fj r p).Ap.length s.c) (Fj r p).Ap s.F,.ow A8 9 (.slice s.ae (Kt r p).length s.ce) (Kt r p) s.Fe]) (fun _=>True) ?_ fun s _=>?_
 ·by_cases hk:p.Cq=5
  ·have e1:Fj r p=Ec r p:=by unfold Fj;rw [aJ hk]
   have e2:Kt r p=[]:=by unfold Kt;rw [aJ hk]
   refine A4 rfl (fun h=>absurd hk h) (fun _=>?_);rw [e1,e2];refine Cf A8 9 ?_;refine go ?_;refine Bk (⟨a1,c1,F1,none,0,[]⟩:SkS) trivial
  ·have e1:Fj r p=Lx (Ec r p) p.Ae p.data:=by unfold Fj;rw [aC hk]
   have e2:Kt r p=Lp (Ec r p) p.Ae p.data:=by unfold Kt;rw [aC hk]
   refine A4 rfl (fun _=>?_) (fun h=>absurd hk h);rw [e1,e2];refine Ash [.bool true,aa r.Ai] [aa (Ec r p).next,.slice a1 (Ec r p).Ap.length c1] [ab a2 r.Ao.length c2] ?_;refine go ?_;refine Ar [2,3] [] ?_;refine Df 0 1 2 3 ?_;refine Dh 4 5 ?_;refine dt 6 ?_;refine dN 7 ?_;refine oC ?_;refine Bf (Av7 (Ec r p) p.Ae p.data g t (o+2) (A++[.bool true,aa r.Ai]) _ a1 c1 F1 s0_ s1_ n0 n1 hw8 hit hps) fun y hy=>?_;obtain ⟨hy1,hy2⟩:=hy;refine dk ?_;refine Df 8 9 10 11 ?_;refine dd ?_
   refine Ahi [.bool true,aa r.Ai] [aa y.y.next,ab y.a y.y.Ap.length y.c] [ab a2 r.Ao.length c2] ?_;rw [<-hy1,<-hy2];refine go ?_;refine Bk (⟨_,_,_,_,_,_⟩:SkS) trivial
 obtain ⟨a3,c3,F3,ae,ce,Fe⟩:=s;dsimp only;refine go ?_;refine Bf (Bav (Fj r p) true r.Ai p.Am _ g t o A B a3 c3 F3 htg htr) fun y _=>?_;have hsl:(Oo (Fj r p) p.Am).length<=24:=by unfold Mk at hnl;rw [aA] at hnl;omega
 refine Av (E:=A8) (xs:=Oo (Fj r p) p.Am) fun G8=>?_;refine go ?_;apply wO;refine Ni (ys:=Oo (Fj r p) p.Am) Do Hv fun a9 c9 F9=>?_;rw [show Kt r p++Oo (Fj r p) p.Am=Mk r p from rfl,show N9 (Fj r p) p.Am=Cs r p from rfl];refine go ?_;intros;rename_i g11;refine Ar [3,6] [9] ?_;refine Df 0 1 2 3 ?_;refine Dh 4 5 ?_;refine dN 6 ?_;refine oC ?_;refine cfm (M:=[.ow Ay 231 (ab a2 r.Ao.length c2) r.Ao F2]) (.cons FE .nil) (fun w st=>by
   have r1:=st.on (.row g11 3 0 [] [aa (Cs r p).next] []) FB;have r2:=st.on (.row g3 328 0 [] [Ga g o 0] []) FB;have r3:=st.on (.row g t o A [.bool true,aa r.Ai,aa (Cs r p).next,.slice y.a (Cs r p).Ap.length y.c,ab a2 r.Ao.length c2] B) FB;obtain ⟨Fw,hFw,hw⟩:=(st.on (.ow Cw 107 (.slice y.a (Cs r p).Ap.length y.c) (Cs r p).Ap y.F) FB).2.read
   refine ⟨[.cel g11 0 [aa (Cs r p).next],.cel g3 0 [Ga g o 0],.cel g o [.bool true,aa r.Ai,aa (Cs r p).next,.slice y.a (Cs r p).Ap.length y.c,ab a2 r.Ao.length c2],.isv Br (.agg #[aa (Cs r p).next,.slice y.a (Cs r p).Ap.length y.c]) (Cs r p) Fw],?_,rfl,?_,Al3 365 [] [Ga g11 0 0,Ga g3 0 0] _ rfl r.Ao a2 c2 F2 (fun q=>Ahz (Cs r p) q) FC EZ (fun q hq w' hA=>(Bb3 q (Cs r p) g11 g3 g o true r.Ai _ y.a y.c Fw v0_ v1_ (hser q hq)).val w' hA)⟩
   ·intro q hq;simp only [aH,aT,bm] at hq;rcases hq with rfl|rfl|rfl|rfl
    ·exact ⟨FB,If r1⟩
    ·exact ⟨FB,If r2⟩
    ·exact ⟨FB,If r3⟩
    ·exact ⟨_,rfl,_,rfl,hw⟩
   ·intro q hq b hb;simp only [aH,aT,bm] at hq;rcases hq with rfl|rfl|rfl|rfl
    ·exact ⟨.row g11 3 0 [] [aa (Cs r p).next] [],FB,hb⟩
    ·exact ⟨.row g3 328 0 [] [Ga g o 0] [],FB,hb⟩
    ·exact ⟨.row g t o A [.bool true,aa r.Ai,aa (Cs r p).next,.slice y.a (Cs r p).Ap.length y.c,ab a2 r.Ao.length c2] B,FB,hb⟩
    ·exact ⟨.ow Cw 107 (.slice y.a (Cs r p).Ap.length y.c) (Cs r p).Ap y.F,FB,hFw b hb⟩) (fun z _=>?_)
 rw [Bb2];refine dk ?_;refine Dh 7 8 ?_;refine dN 9 ?_;refine oS ?_;refine Nm ?_;refine dd ?_;refine go ?_;refine Bf (Av8 (Cs r p) (Eg r.Ao (Cs r p)) true r.Ai p.E7 d g t o A B y.a y.c y.F z.1 z.2.1 z.2.2 hng hnq O7 hld k0 k1 d0 d1) fun u _=>?_;refine go ?_;refine ret ⟨_,_,_,_,_,_,_,_,_⟩ trivial rfl
structure Bat where
 g:Nat
 a:aj
 c:Nat
 F:aq
theorem S9 (x:A1) (v:Value) (F:aq) (hl:x.Aa.Ap.length<=1000000000) (hl2:x.Ao.length<=1000000000):Fn prog 129 [v] [.isv B8 v x F] [] (fun (_:Value × aq)=>True) (fun s=>s.1) (fun s=>[.own B9 s.1 x s.2]):=by
 refine enter func129 rfl ntmps129 fun w0=>?_;refine Hf ?_;rintro a1 c1 F1 a2 c2 F2 rfl l1 l2;refine go ?_;intros;refine D0 [1,2] [0,1,2,3,4] (fun s:Bat=>[(3,Ga s.g 0 0)]) (fun s=>[.row s.g 73 0 [] [aa x.Aa.next,ab s.a x.Aa.Ap.length s.c] [],.ow Cw 107 (ab s.a x.Aa.Ap.length s.c) x.Aa.Ap s.F]) (fun _=>True) ?_ fun s _=>?_
 ·skip
  refine Ar [1] [] ?_;refine Df 0 1 2 4 ?_;refine Dh 5 6 ?_;refine dM 3 9 ?_ ?_
  ·apply Kg;rfl;intro _;refine Cy Cw ?_;refine dk ?_;refine dM 7 9 ?_ ?_
   ·refine Ni Iu Ia fun a5 c5 F5=>?_;rw [aZ];refine dk ?_;refine dt 8 ?_;refine dN 9 ?_;apply Cm;rfl;intro _;refine dk ?_;refine dN 10 ?_;refine oS ?_;refine dk ?_;refine dd ?_;refine Bk (⟨_,_,_,_⟩:Bat) trivial
   ·apply Cm;rfl;intro _;exact CV
  ·apply Cm;rfl;intro _;refine dk ?_;refine dN 3 ?_;apply Kg;rfl;intro _;refine Cy Cw ?_;exact CV
 obtain ⟨g3,a5,c5,F5⟩:=s;dsimp only;refine go ?_;refine Ar [0,3] [] ?_;refine Df 0 1 2 3 ?_;refine Dh 4 6 ?_;refine dt 7 ?_;refine dN 5 ?_;apply Kg;rfl;intro _;refine Cy Ay ?_;refine dk ?_;refine dN 8 ?_;refine Ni Db Dy fun a6 c6 F6=>?_;rw [aZ];refine dk ?_;refine dt 9 ?_;refine dN 10 ?_;refine oS ?_;refine dk ?_;refine dd ?_;refine go ?_;refine Kk x ?_;exact CF
theorem Adt (l:List Az) (w:Aj) (a:aj) (c:Nat) (F:aq) (v:Value) (Fw:aq) (hl:l.length<=1000000) (hs:∀q∈l,Bz q.Ae=true) (w0_:0<=w.next) (w1_:w.next<=65535):Fn prog 291 [ab a l.length c,v] [.sl Ay (ab a l.length c) l F,.isv Br v w Fw] [] (fun (_:aj × Nat × aq)=>True) (fun z=>.slice z.1 (Eg l w).length z.2.1) (fun z=>[.ow Ay 231 (.slice z.1 (Eg l w).length z.2.1) (Eg l w) z.2.2]):=by
 refine enter func291 rfl ntmps291 fun w0=>?_;refine Cu ?_;rintro a1 c1 F1 rfl l1;refine go ?_;intros;refine Cy Ay ?_;refine Bx [0,3,4] (fun s:PkS=>[(6,aa (s.k:Nat)),(5,.slice s.a (Eg (l.take s.k) w).length s.c)]) (fun s=>[.ow Ay 231 (.slice s.a (Eg (l.take s.k) w).length s.c) (Eg (l.take s.k) w) s.F]) (fun s=>s.k<=l.length) (fun s=>l.length - s.k) ⟨0,_,_,_⟩ (aG _) fun s hk=>?_;obtain ⟨k,a4,c4,F4⟩:=s;dsimp only at hk ⊢;refine go ?_;refine A4 rfl (fun h4=>?_) (fun h4=>?_)
 ·have hk:k < l.length:=EZ
  have hkl:(Eg (l.take k) w).length<=k:=bG (bJ _ _) GE;have hsk:=hs _ (aB hk);obtain ⟨n0,n1⟩:=A9.1 hsk;have en:∀b,(!(Tl l[k].Ae w.next || Iv w l[k].Ae) && decide (gp w.next l[k].Ae < 8))=b->Eg (l.take (k+1)) w=Eg (l.take k) w++if b then [l[k]] else []:=fun b hb=>by
   unfold Eg;rw [cC,aD hk,bW]
   congr 1
   show ([l[k]].filter _)=_;rw [fH,List.filter_nil,hb]
  refine I9 (xs:=l) k ?_;rintro hi b o e;rw [e];refine go ?_;cases g5:(Tl l[k].Ae w.next || Iv w l[k].Ae)
  ·skip
   refine Ar [0,2] [] ?_;refine Df 0 1 2 3 ?_;refine Dh 4 5 ?_;refine dN 6 ?_;refine oC ?_;refine Bf (Aci w l[k].Ae _ Fw w0_ w1_ n0 n1) fun _ _=>?_;rw [show Gs w l[k].Ae=(Tl l[k].Ae w.next || Iv w l[k].Ae) from rfl,g5];refine dk ?_;refine Dh 7 8 ?_;refine C5 9 ?_;refine C5 10 ?_;refine C5 11 ?_;refine C5 12 ?_;refine C5 13 ?_;refine C5 14 ?_;refine C5 15 ?_;refine d1g 16 ?_;apply On.h;refine oC ?_;refine ce (fun w s=>Jk _ _ _ EZ EZ) ?_;refine dk ?_;refine C5 17 ?_;refine dt 18 ?_;refine dd ?_;refine go ?_;refine A4 rfl (fun h6=>?_) (fun h6=>?_)
   ·have e1:=en true (by rw [g5,av h6];rfl);refine go ?_;intros;apply wO;refine Nb (ys:=[l[k]]) (Nn l[k]) Db fun a7 c7 F7=>?_;refine go ?_;rw [show Eg (l.take k) w++[l[k]]=Eg (l.take (k+1)) w from e1.symm];exact CM
   ·have e1:=en false (by rw [g5,ay h6];rfl);refine go ?_;rw [show Eg (l.take k) w=Eg (l.take (k+1)) w by rw [e1];simp];exact CM
  ·skip
   refine Ar [0,2] [] ?_;refine Df 0 1 2 3 ?_;refine Dh 4 5 ?_;refine dN 6 ?_;refine oC ?_;refine Bf (Aci w l[k].Ae _ Fw w0_ w1_ n0 n1) fun _ _=>?_;rw [show Gs w l[k].Ae=(Tl l[k].Ae w.next || Iv w l[k].Ae) from rfl,g5];refine dk ?_;refine Dh 7 8 ?_;refine ds 9 ?_;refine ds 10 ?_;refine ds 11 ?_;refine ds 12 ?_;refine ds 13 ?_;refine ds 14 ?_;refine ds 15 ?_;refine ds 16 ?_;refine ds 17 ?_;refine dt 18 ?_;refine dd ?_;have e1:=en false (by rw [g5];rfl);refine go ?_;rw [show Eg (l.take k) w=Eg (l.take (k+1)) w by rw [e1];simp]
   exact CM
 have hk:k=l.length:=EZ
 subst hk;rw [bl];refine go ?_;exact BL
structure GvS where
 g:Nat
 y:Abz
theorem Ack (r:A1) (d:Int) (v:Value) (F:aq) (hg:Lu r) (d0:0<=d) (d1:d<=100) (_hx:r.Ai<=99999) :
  Fn prog 238 [v,aa d] [.isv B8 v r F] [] (fun (_:TkR)=>True) (fun s=>.tuple #[.agg #[.bool (C1 r d).Be,aa (C1 r d).Ai,aa (C1 r d).Aa.next,.slice s.a1 (C1 r d).Aa.Ap.length s.c1,.slice s.a2 (C1 r d).Ao.length s.c2],.slice s.a3 (E9 r).length s.c3,.slice s.a4 (Hh r).length s.c4])
   (fun s=>[.isv B8 (.agg #[.bool (C1 r d).Be,aa (C1 r d).Ai,aa (C1 r d).Aa.next,.slice s.a1 (C1 r d).Aa.Ap.length s.c1,.slice s.a2 (C1 r d).Ao.length s.c2]) (C1 r d) s.F1,.ow An 141 (.slice s.a3 (E9 r).length s.c3) (E9 r) s.F3,.ow A8 9 (.slice s.a4 (Hh r).length s.c4) (Hh r) s.F4]):=by
 have k0:=hg.k0;have k1:=hg.k1;obtain ⟨-,q1,q2, -⟩:=Dj.1 hg.q;obtain ⟨w0_,w1_⟩:=Ie hg.w;obtain ⟨hw8,hit⟩:=Ko hg.w;have hpl:(r.Ao.filterMap (P3 (r.Ai+1))).length<=8:=bG (cY _ _) q1;refine enter func238 rfl ntmps238 fun w0=>?_;refine Hf (v:=v) (x:=r) (F:=F) ?_;rintro a1 c1 F1 a2 c2 F2 rfl l1 l2;refine go ?_;intros;refine Bf (S9 r _ F EZ EZ) fun u _=>?_;refine Im ?_;rintro a5 c5 F5 a6 c6 F6 e6 - -;rw [e6];refine Av (E:=Cw) fun G5=>?_;refine go ?_;intros
 refine Bf (At5 r.Ao (r.Ai+1) d a2 c2 F2 EZ (fun q hq=>⟨(Er.1 (q2 q hq)).t0,(Er.1 (q2 q hq)).t1⟩) EZ EZ EZ EZ) fun z _=>?_;rw [show r.Ao.filterMap (T7 (r.Ai+1))=C9 r from rfl,show r.Ao.filterMap (Ty (r.Ai+1) d)=Nh r d from rfl];refine Av (E:=Bc) (xs:=r.Ao.filterMap (P3 (r.Ai+1))) fun G2=>?_;refine Av (E:=Bc) (xs:=C9 r) fun G3=>?_;refine Cy A8 ?_;refine Cy An ?_;refine go ?_
 refine Bx [2,4,5,6,7,9,11,12] (fun s:PkS=>[(13,aa (s.k:Nat)),(8,.slice s.a (((r.Ao.filterMap (P3 (r.Ai+1))).take s.k).map (pkR r.Aa.next)).length s.c)]) (fun s=>[.ow An 141 (.slice s.a (((r.Ao.filterMap (P3 (r.Ai+1))).take s.k).map (pkR r.Aa.next)).length s.c) (((r.Ao.filterMap (P3 (r.Ai+1))).take s.k).map (pkR r.Aa.next)) s.F]) (fun s=>s.k<=(r.Ao.filterMap (P3 (r.Ai+1))).length) (fun s=>(r.Ao.filterMap (P3 (r.Ai+1))).length - s.k) ⟨0,_,_,_⟩ (aG _) fun s hs=>?_;obtain ⟨k,a4,c4,F4⟩:=s;dsimp only at hs ⊢;generalize hsn:r.Ao.filterMap (P3 (r.Ai+1))=sn at *;refine go ?_
 refine A4 rfl (fun h4=>?_) (fun h4=>?_)
 ·have hk:k < sn.length:=EZ
  have hkl:((sn.take k).map (pkR r.Aa.next)).length<=k:=FF
  refine Hy (xs:=sn) k ?_;rintro hi b o2 e;rw [e];refine go ?_;have eo:(sn.take (k+1)).map (pkR r.Aa.next)=(sn.take k).map (pkR r.Aa.next)++[pkR r.Aa.next sn[k]]:=by rw [cC,aD hk,bD];rfl
  refine Ar [0,10] [] ?_;refine Df 0 1 2 3 ?_;refine Df 4 5 6 7 ?_;refine Df 8 9 10 11 ?_;refine dN 12 ?_;apply Iq;rfl;rfl;rfl;rfl;exact Ik;exact Ih;intro _;refine dk ?_;refine dN 13 ?_;refine Nb (ys:=[pkR r.Aa.next sn[k]]) (Dd (pkR r.Aa.next sn[k]) HE) Ho fun a7 c7 F7=>?_;refine dk ?_;refine dt 14 ?_;refine dd ?_;exact DW
 have hk:k=sn.length:=EZ
 subst hk;rw [bl];have ep:E9 r=sn.map (pkR r.Aa.next):=by unfold E9;rw [hsn]
 rw [ep];refine go ?_;by_cases hL:C9 r=[]
 ·refine A4 rfl (fun h=>absurd h (by rw [hL];decide)) (fun _=>?_);rw [Ahl hL,Aov hL];refine go ?_;refine Av (E:=Ay) fun F8=>?_;refine Ep (a1:=a5) ⟨r.Be,r.Ai+1,r.Aa,Nh r d⟩ ?_;refine ret ⟨_,_,_,_,_,[],_,_,_,_,_,_⟩ trivial rfl
 ·have hl0:=cT.2 hL;refine A4 rfl (fun _=>?_) (fun h=>absurd h EZ);rw [Ada hL,Aka hL];obtain ⟨hs8,hsr⟩:=Aey hg hL;have hll8:=Ahn r;obtain ⟨hs0,hs1⟩:=A9.1 hsr;have hll:=Ajl hL;obtain ⟨l0,l1⟩:=A9.1 (Adb hg (aB (show (C9 r).length - 1 < (C9 r).length by omega))).1;have hi1:((C9 r).length:Int) - 1=(((C9 r).length - 1:Nat):Int):=EZ
  refine Cb (a1:=a5) r.Aa ?_;generalize G5=FW;refine Hy (xs:=C9 r) ((C9 r).length - 1) ?_;rintro hi b o2 e;rw [e];refine go ?_;refine D0 [4,5,6,7,8,9] [2,3,6,7,10,14] (fun s:GvS=>[(15,Ga s.g 0 0),(16,ab s.y.ae s.y.es.length s.y.ce)]) (fun s=>[.row s.g 73 0 [] [aa s.y.y.next,ab s.y.a s.y.y.Ap.length s.y.c] [],.isv Br (.agg #[aa s.y.y.next,ab s.y.a s.y.y.Ap.length s.y.c]) s.y.y s.y.F,.ow A8 9 (ab s.y.ae s.y.es.length s.y.ce) s.y.es s.y.Fe]) (fun s=>s.y.y=Jd r.Aa (Dk (C9 r))/\s.y.es=Jc r.Aa (Dk (C9 r))) ?_ fun s hy=>?_
  ·skip
   refine Ar [0,7] [] ?_;refine Df 0 1 2 3 ?_;refine dt 4 ?_;rw [hi1];refine Dh 5 6 ?_;refine dM 7 12 ?_ ?_
   ·refine oC ?_;refine ce (fun w s=>Ht _ _ _ EZ EZ) ?_;rw [<-hll];refine dk ?_;refine dM 8 12 ?_ ?_
    ·refine oC ?_;refine Bf (Ts r.Aa (Dk (C9 r)) _ FW w0_ w1_ hs0 hs1 hw8 hit) fun y hy=>?_;refine dk ?_;refine Dh 9 10 ?_;refine dt 11 ?_;refine dN 12 ?_;apply Cm;rfl;intro _;refine dk ?_;refine dN 13 ?_;refine oS ?_;refine dk ?_;refine dt 14 ?_;refine dd ?_;refine Bk (⟨_,y⟩:GvS) hy
    ·apply Cm;rfl;intro _;exact BX
   ·apply Cm;rfl;intro _;refine dk ?_;refine dN 7 ?_;refine oC ?_;refine ce (fun w s=>Ht _ _ _ EZ EZ) ?_;rw [<-hll];exact BX
  obtain ⟨g15,y⟩:=s;dsimp only at hy ⊢;obtain ⟨hy1,hy2⟩:=hy;have hmv:=Uu (t:=Dk (C9 r)) hg.w;have hm0:0<=y.y.next:=by rw [hy1,hmv.1];exact (I7 _ _).1
  have hm1:y.y.next<=65535:=by rw [hy1,hmv.1];exact (I7 _ _).2
  have hes:y.es.length<=100:=by rw [hy2];have:=hmv.2.2.1;have:=@Ym r.Aa.next (Dk (C9 r));omega
  refine Av (E:=A8) (xs:=y.es) fun G8=>?_;refine go ?_;apply wO;refine Ni (ys:=y.es) Do Hv fun a9 c9 F9=>?_;rw [aZ];refine Av (E:=Ay) (xs:=Nh r d) fun F8=>?_;refine go ?_;refine Bf (Adt (Nh r d) y.y z.a z.c F8 _ y.F (by have:=Adc r d;omega) (fun q hq=>(Abo hg hq).1) hm0 hm1) fun u2 _=>?_;rw [hy1,Aec hg hL,<-hy1];refine go ?_;refine Cu (x:=y.y) ?_;rintro b1 d1 G1 e5 m1;simp only [Value.agg.injEq,Array.mk.injEq,List.cons.injEq,Value.slice.injEq,cQ,cR] at e5;obtain ⟨rfl,rfl⟩:=e5;refine Av (E:=Ay) (xs:=Y5 (Nh r d) y.y.next) fun F10=>?_
  refine Ep ⟨r.Be,r.Ai+1,y.y,Y5 (Nh r d) y.y.next⟩ ?_;rw [<-hy2];refine ret ⟨_,_,_,_,_,[],_,_,_,_,_,_⟩ trivial rfl
def Avl (md:Region.Mode) (ops:Array Oper) (X:Nat->Bool) (listed:Array Bool) (i:Nat):Bool:=(List.range ops.size).all fun j=>!X j || listed.getD j false || Sp md ops i ops.size j
section
variable {P:Program} {md:Region.Mode} {ops:Array Oper} {Q:Exit->Act->World->Prop} {S:World->Prop} {X:Nat->Bool}
theorem Ez.firstL {i:Nat} {oi:Oper} {v:Value} (hi:ops[i]?=some oi) (hsel:∀(j:Nat) (o:Oper) cs b,ops[j]?=some o->o.op≠.select cs b)
  (hQ:∀c a w,Q (.panic c) (a.put oi.dst v) w->Q (.panic c) a w) :
  ∀(f:Nat) (listed:Array Bool) (a:Act) (w:World),(∀j,j < ops.size->X j=true->listed.getD j false=false->Sp md ops i ops.size j=true) ->
   (∀j oj,ops[j]?=some oj->j≠i->listed.getD j true=false->(∀e∈oj.after,Region.binds md e=true->e.on≠i)->oi.apart ops oj=true) ->
   Zc md ops listed->i∈Region.ready md ops listed->YieldsIf P ops S oi v a->S w->Ez P md ops Q S X f (listed.setIfInBounds i true) (a.put oi.dst v) w->Ez P md ops Q S X (f+1) listed a w:=by
 intro f
 induction f with
 | zero =>
  intro listed a w _ _ _ hr hy hS H;refine ⟨fun h=>HL,fun j hj=>?_⟩;by_cases hji:j=i
  ·exact EL
  ·have:=ready_mono hj hji;rw [H.1] at this;cases this
 | succ f ih =>
  intro listed a w hX hfree hcl hr hy hS H;refine ⟨fun h=>HL,fun j hj=>?_⟩;by_cases hji:j=i
  ·exact EL
  ·obtain ⟨hju,oj,hoj,hall⟩:=mem_ready.1 hj;have hiu:=Xv (mem_ready.1 hr).1;have hnot:∀e∈oj.after,Region.binds md e=true->e.on≠i:=fun e he hb heq=>by
    have h1:=hall e he hb;rw [heq,hiu] at h1;cases h1
   have hXj:X j=false:=by
    cases hx:X j
    ·rfl
    ·have h2:=V3 hcl ops.size j (fun o ho=>by obtain rfl:=Option.some.inj (ho.symm.trans hoj);exact hall) (hX j (bK.1 hoj).1 hx (Xv hju));rw [hiu] at h2;cases h2
   have h2:=wpOp_putIf hoj (hfree j oj hoj hji hju hnot) (fun cs b=>hsel i oi cs b hi) (fun cs b=>hsel j oj cs b hoj) hQ hy (H.2 j (ready_mono hj hji));refine wpOp_mono (fun a' w' h3=>⟨fun _=>h3.2.1 hXj,ih (listed.setIfInBounds j true) a' w' (fun k hk hx hun=>hX k hk hx ?_) (fun k ok hk hki hun hno=>hfree k ok hk hki ?_ hno) (hcl.set hj) (ready_mono hr (Ne.symm hji)) h3.1 (h3.2.1 hXj) ?_⟩) h2
   ·by_cases hjk:j=k
    ·subst hjk;exact Xv hju
    ·rw [getD_set_ne false hjk] at hun;exact hun
   ·by_cases hjk:j=k
    ·subst hjk;exact hju
    ·rw [getD_set_ne true hjk] at hun;exact hun
   ·rw [dY _ _ hji];exact h3.2.2
end
section
variable {c:Cx} {fr:Fr} {H H0:List Pc} {k:List It} {X:aq} {ops:Array Oper} {f:Nat} {listed:Array Bool} {d:Nat} {o:Op} {ty:TypeId} {pos:String} {Cc:Array Edge} {v:Value}
theorem dtl (i:Nat) (h:T c ((d,v)::fr) H (.dx k H0 X ops f (listed.setIfInBounds i true))) (ho:ops[i]?=some ⟨some d,o,ty,pos,Cc,none⟩:=by rw [aR];rfl) (hy:Yd c.P c.n fr H0 o ty v:=by exact ydE) (hs:Mp H0 H:=by repeat (first|exact Mp.nil|refine Mp.cons FD ?_))
  (h1:Region.noSelect ops=true:=by kernel_rfl) (h2:Region.free .any ops listed i=true:=by kernel_rfl) (h3:(Region.ready .any ops listed).contains i=true:=by kernel_rfl) (h4:Avl .any ops (fun i=>X.contains i) listed i=true:=by kernel_rfl) (h5:Mr .any ops listed=true:=by kernel_rfl) (hR:Wq c:=by exact Y7) (hd:Nat.blt d c.n=true:=by rfl) :
  T c fr H (.dx k H0 X ops (f+1) listed):=.mk fun a w s g =>
 Ez.firstL ho (Region.noSelect_spec h1) (fun ch a w hp=>by rw [Mg] at hp ⊢;exact hR _ _ _ _ _ hp) f listed a w (fun j hj hx hl=>by
   have:=aW.1 h4 j (cP.2 hj);dsimp only at this;rw [hx,hl] at this;simpa using this) (Region.free_spec ho h2) (Aig h5) HX (.inl ⟨rfl,fun w' hw'=>hy.h a w' _ _ _ _ g hw'⟩) (fun p hp=>s.on p (hs.all p hp)) (h.h _ _ s (g.put hd))
end
theorem Baq (fid:FuncId) (bd caps:am) (A:List Pc) (hA:A.all (fun p=>!p.mu)=true) (xs:List As) (a:aj) (c:Nat) (F:aq) (p:As->Bool) (hb:Qx prog fid=true) (hl:xs.length<=1000000000)
  (hp:∀x∈xs,∀w,Ob A w->Calls prog fid (bd++[(.agg #[aa (x).Cq,aa (x).Ae,aa (x).Am,aa (x).E7,af (x).data]:Value)]++caps).toArray w (RB (.bool (p x)) w)) :
  Fn prog 224 [ab a xs.length c,.func (.func fid) bd.toArray caps.toArray] (.sl An (ab a xs.length c) xs F::A) [] (fun (_:Unit)=>True) (fun _=>aa (Re p xs)) (fun _=>[]):=by
 refine enter func224 rfl ntmps224 (fun w0=>?_) rfl GA .nil;refine go ?_;refine Em [0,1,4,7] (fun k:Nat=>[(8,aa (k:Nat))]) (fun k=>k<=xs.length/\∀j (_:j < k) (hj:j < xs.length),p xs[j]=false) (fun k=>xs.length - k) 0 ⟨aG _,fun j h=>by omega⟩ fun k hk=>?_;obtain ⟨hk1,hk2⟩:=hk;refine go ?_;refine A4 rfl (fun h5=>?_) (fun h5=>?_)
 ·have hh:k < xs.length:=EZ
  refine go ?_;refine Qw (xs:=xs) k ?_;rintro hi b o e sz;rw [e];refine go ?_;apply wO;refine Aa8 rfl rfl hb Wk ?_;refine cb (fun w st=>hp xs[k] (aB hh) w (fun q hq=>st.on q GB)) ?_;cases hpk:p xs[k]
  ·refine go ?_;refine Vy ?_;refine Ca (hH:=Lb _) (k+1) ⟨hh,fun j hj h=>?_⟩ EZ;rcases bc (bC.1 hj) with h2|rfl
   ·exact hk2 j h2 h
   ·exact hpk
  ·refine go ?_;refine ret () trivial ?_;rw [Oh hh hk2 hpk];rfl
 ·obtain rfl:k=xs.length:=EZ
  exact BT
theorem Arc (fid:FuncId) (bd caps:am) (A:List Pc) (hA:A.all (fun p=>!p.mu)=true) (xs:List As) (a:aj) (c:Nat) (F:aq) (p:As->Bool) (hb:Qx prog fid=true) (hl:xs.length<=1000000000)
  (hp:∀x∈xs,∀w,Ob A w->Calls prog fid (bd++[(.agg #[aa (x).Cq,aa (x).Ae,aa (x).Am,aa (x).E7,af (x).data]:Value)]++caps).toArray w (RB (.bool (p x)) w)) :
  Fn prog 151 [ab a xs.length c,.func (.func fid) bd.toArray caps.toArray] (.sl An (ab a xs.length c) xs F::A) [] (fun (_:Unit)=>True) (fun _=>.bool (xs.any p)) (fun _=>[]):=by
 refine enter func151 rfl ntmps151 (fun w0=>?_) rfl GA .nil;refine go ?_;refine cb (fun w st=>(Baq fid bd caps A hA xs a c F p hb hl hp).val w (fun q hq=>st.on q (by simpa using hq)) GA) ?_;refine go ?_;refine ret () trivial ?_;rw [Sw];rfl
theorem Bau (r:A1) (p:As) (d:Int) (g t o:Nat) (A B:am) (a1:aj) (c1:Nat) (F1:aq) (a2:aj) (c2:Nat) (F2:aq) (hg:Lu r) (hp:Bo p=true) (d0:1<=d) (d1:d<=8) :
  Fn prog 316 [Ga g o 0,.agg #[aa p.Cq,aa p.Ae,aa p.Am,aa p.E7,af p.data],aa d] [] [.row g t o A [.bool r.Be,aa r.Ai,aa (r.Aa).next,.slice a1 (r.Aa).Ap.length c1,.slice a2 (r.Ao).length c2] B,.ow Cw 107 (.slice a1 (r.Aa).Ap.length c1) (r.Aa).Ap F1,.ow Ay 231 (.slice a2 (r.Ao).length c2) (r.Ao) F2] (fun (_:NwS)=>True)
   (fun s=>.slice s.ae (Id r p).length s.ce) (fun s=>[.row g t o A [.bool (Dl r p d).Be,aa (Dl r p d).Ai,aa ((Dl r p d).Aa).next,.slice s.a1 ((Dl r p d).Aa).Ap.length s.c1,.slice s.a2 ((Dl r p d).Ao).length s.c2] B,.ow Cw 107 (.slice s.a1 ((Dl r p d).Aa).Ap.length s.c1) ((Dl r p d).Aa).Ap s.F1,.ow Ay 231 (.slice s.a2 ((Dl r p d).Ao).length s.c2) ((Dl r p d).Ao) s.F2,.ow A8 9 (.slice s.ae (Id r p).length s.ce) (Id r p) s.Fe]):=by
 have k0:=hg.k0;have k1:=hg.k1;obtain ⟨-,q1,q2, -⟩:=Dj.1 hg.q;obtain ⟨n0,n1⟩:=Kn hp;refine enter func316 rfl ntmps316 fun w0=>?_;refine go ?_;intros;by_cases hk1:p.Cq=1
 ·rw [av hk1];rw [show Dl r p d=Ky r p d by unfold Dl Ls;simp [hk1],show Id r p=Mk r p by unfold Id Ls;simp [hk1]];exact BH
 rw [ay hk1];refine go ?_;by_cases hk2:p.Cq=2
 ·rw [av hk2];rw [show Dl r p d=Ky r p d by unfold Dl Ls;simp [hk2],show Id r p=Mk r p by unfold Id Ls;simp [hk2]];exact BH
 rw [ay hk2];refine go ?_;by_cases hk5:p.Cq=5
 ·rw [av hk5];rw [show Dl r p d=Ky r p d by unfold Dl Ls;simp [hk5],show Id r p=Mk r p by unfold Id Ls;simp [hk5]];exact BH
 rw [ay hk5];refine go ?_;refine Cf A8 9 ?_;have eE:Id r p=[]:=by unfold Id Ls;simp [hk1,hk2,hk5]
 by_cases hk4:p.Cq=4
 ·rw [av hk4];cases hs:r.Be
  ·rw [show Dl r p d=r by unfold Dl Ls;simp [hk1,hk2,hk5,hs],eE,hs];refine go ?_;refine ret ⟨_,_,_,_,_,_,none,0,_⟩ trivial rfl
  ·rw [show Dl r p d=Amm r p by unfold Dl Ls;simp [hk4,hs],eE,show (Amm r p).Be=true from hs];refine go ?_;refine Ar [0,1,2] [0,18,19,20,21,22] ?_;refine Q0 0 ?_;refine dtl 1 ?_;refine dtl 2 ?_;refine dtl 3 ?_;refine dtl 4 ?_;refine dtl 5 ?_;refine dtl 6 ?_;refine dtl 7 ?_;refine dtl 8 ?_;refine dtl 9 ?_;refine dtl 10 ?_;refine dtl 11 ?_;refine dtl 12 ?_;refine dtl 13 ?_;refine dtl 14 ?_;refine dtl 15 ?_;refine dN 16 ?_;refine oC ?_
   refine cfr (fun w st=>by obtain ⟨Fq, -,hq9⟩:=(st.get (p:=.ow Ay 231 (ab a2 r.Ao.length c2) r.Ao F2) FB).2.read;exact ⟨[.sl Ay (ab a2 r.Ao.length c2) r.Ao Fq],Iw ⟨FA,hq9⟩,rfl,Abv r.Ao r.Aa.next p.Ae r.Ai a2 c2 Fq hg.q (A9.2 ⟨n0,n1⟩) k0 k1⟩) (fun u _=>?_);refine dk ?_;refine dtl 17 ?_;refine Q0 18 ?_;refine Q0 19 ?_;refine Q0 20 ?_;refine Q0 21 ?_;refine dN 22 ?_;refine oS ?_;refine Nm ?_;refine dd ?_;refine go ?_;refine ret ⟨_,_,_,_,_,_,none,0,_⟩ trivial rfl
 rw [ay hk4];rw [show Dl r p d=r by unfold Dl Ls;simp [hk1,hk2,hk5,hk4],eE];refine go ?_;refine ret ⟨_,_,_,_,_,_,none,0,_⟩ trivial rfl
structure HaS where
 k:Nat
 a1:aj
 c1:Nat
 F1:aq
 a2:aj
 c2:Nat
 F2:aq
 ae:aj
 ce:Nat
 Fe:aq
structure EcS where
 k:Nat
 a:aj
 c:Nat
 F:aq
theorem Bcl {α:Type} {O:Bt α} {P:Program} {f:FuncId} {args:am} {x:α} {A:List Pc} (h:Fn P f args A [] (fun (_:Value × aq)=>True) (fun z=>z.1) (fun z=>[.own O z.1 x z.2])) (hA:A.all (fun p=>!p.mu)=true) {w:World} (hH:Ob A w):Calls P f args.toArray w (Awa O x w):=by
 refine (h.made w hH (fun _=>rfl) hA).mono ?_;rintro e w' ⟨z, -,he,hh,hn,hF,hB⟩;obtain ⟨h1,h2⟩:=hh (.own O z.1 x z.2) FB;exact ⟨z.1,z.2,he,h2,h1,fun b hb=>hF b (by simpa [fp,Pc.F,Pc.mu] using hb),hB⟩
theorem At8 (v:Value) (e:Bh) (F:aq) (hm:e.Ah.length<=4294967296) (hm2:∀x∈e.Ah,x.Bj.length<=4294967296):Fn prog 128 [v] [.isv Bv v e F] [] (fun (_:Value × aq)=>True) (fun z=>z.1) (fun z=>[.own Ce z.1 e z.2]):=by
 refine enter func128 rfl ntmps128 fun w0=>?_;refine Ew ?_;rintro a1 c1 F1 rfl l1;refine Cf Et 193 ?_;refine go ?_;intros;rename_i g;refine Bx [1,2,3] (fun y:EcS=>[(4,aa (y.k:Nat))]) (fun y=>[.row g 122 0 [] [aa e.Ai,.slice y.a (e.Ah.take y.k).length y.c] [],.ow Et 193 (.slice y.a (e.Ah.take y.k).length y.c) (e.Ah.take y.k) y.F]) (fun y=>y.k<=e.Ah.length) (fun y=>e.Ah.length - y.k) ⟨0,none,0,[]⟩ (aG _) fun y hy0=>?_;obtain ⟨k,ya,yc,yF⟩:=y;dsimp only at hy0 ⊢;have htk:(e.Ah.take k).length=k:=GE
 refine go ?_;refine A4 rfl (fun h1=>?_) (fun h1=>?_)
 ·have hk:k < e.Ah.length:=EZ
  have hfl:=hm2 _ (aB hk);refine Vb (xs:=e.Ah) k ?_;rintro hi b8 o8 a8 c8 F8 e8 l8;rw [e8];refine go ?_;intros;refine Ar [0,3] [13] ?_;refine Df 0 1 2 3 ?_;refine Df 4 5 7 8 ?_;refine dN 6 ?_;refine oC ?_;refine cn (fun w st=>X9 _ e.Ah[k].Bj F8 w (st.get (p:=.sl Bc (.slice a8 e.Ah[k].Bj.length c8) e.Ah[k].Bj F8) FD).2 EZ) fun a9 c9 F9=>?_;refine O1 e.Ah[k] ?_;refine dk ?_;refine dt 9 ?_;refine dN 10 ?_;apply Iq;rfl;rfl;rfl;rfl;exact Ik;exact Ih;intro _;refine dk ?_;refine dN 11 ?_;refine Ab0 Te e.Ah[k] rfl fun x4 d4 G4=>?_;refine dk ?_;refine dt 12 ?_
  refine dN 13 ?_;refine oS ?_;refine Nm ?_;refine dd ?_;rw [<-aO hk];refine go ?_;refine Ca ⟨k+1,x4,d4,G4⟩ hk (by show e.Ah.length - (k+1) < e.Ah.length - k;omega)
 ·rw [show e.Ah.take k=e.Ah from aV EZ];refine go ?_;refine Gw e ?_;exact CF
theorem Xd (v:Value) (e:Bh) (F:aq) (w:World) (h:Ro Bv w v e F) (hm:e.Ah.length<=4294967296) (hm2:∀x∈e.Ah,x.Bj.length<=4294967296):Calls prog 128 #[v] w (Awa Ce e w):=Bcl (At8 v e F hm hm2) rfl (Iw h)
def Eo (e:Bh):Bh:=⟨e.Ai+1,e.Ah.filter fun x=>!decide (x.Co<=e.Ai+1)⟩
theorem Sl.headIn {α:Type} {E:Bt α} {w:World} {b off n cap:Nat} {xs:List α} {F} (h:Sl E w (ab (some ⟨b,off,none⟩) n cap) xs F) (k:Nat) (hk:k < xs.length):b∈F:=by
 obtain ⟨a',cap',hv,hl,h⟩:=h;cases hv;rcases h with ⟨rfl,_⟩|⟨b,off,F',he,_,rfl,hc⟩
 ·simp at hk
 ·cases he;simp
theorem Ajd (v:Value) (e:Bh) (F:aq) (w:World) (h:Ro Bv w v e F) (hc:Kq e.Ai=true) (hm:e.Ah.length<=4294967296) (hm2:∀x∈e.Ah,x.Bj.length<=4294967296) :
  Calls prog 172 #[v] w (Bfz Bv (Eo e) w):=by
 have hcb:=Mb.1 hc;have hm2:=Lib.hid hm2;have h0:=h;obtain ⟨_,rfl,v1,rfl,h1⟩:=h;obtain ⟨a,cap,rfl⟩:=h1.slice;have hB0:∀A B:Obj,Below w.heap.size w ((w.alloc A).alloc B):=fun A B=>((Below.refl _ _).alloc (aL _) _).alloc FB _
 go_enter func172,ntmps172
 go_wp2_with fail;refine (Xd _ e F _ (h0.below (hB0 _ _)) hm hm2.out).mono ?_;rintro e' w1 ⟨_,Fo,rfl,⟨_,rfl,v2,rfl,ho⟩,hn,hFo,hb1⟩;obtain ⟨a2,cap2,rfl⟩:=ho.slice;have r0:=Ib.below (g:=w.heap.size) (t:=122) (cs:=[aa e.Ai,ab a e.Ah.length cap]) GM hb1;have r1:=Ib.below (g:=w.heap.size+1) (t:=122) (cs:=[aa 0,ab none 0 0]) GM hb1;obtain ⟨Fr,hFr,hs⟩:=ho.sl Qo;have hFl:=ho.lt;have hB:=tr (hB0 _ _) hb1 (aL _);have d0:=fun A=>(r0.alloc A).cells;have c0:=r0.cells;clear hb1;go_wp2_with fail
 go_loopw [5] (fun i wr=>∃k:Nat,k<=e.Ah.length/\i=aa k/\∃oa oc F,Hid (Ow Dz 193 wr (.slice oa ((e.Ah.take k).filter fun x=>!decide (x.Co<=e.Ai+1)).length oc) ((e.Ah.take k).filter fun x=>!decide (x.Co<=e.Ai+1)) F)/\Hd F/\(∀b,oa=some b->w1.heap.size+1+1<=b.block)/\(∀c∈F,w.heap.size+2<=c/\c≠w1.heap.size/\c≠w1.heap.size+1) /\
  Ib wr (w.heap.size+1) 122 [aa 0,ab none 0 0]/\Ib wr w1.heap.size 122 [aa e.Ai,ab a2 e.Ah.length cap2]/\Ib wr (w1.heap.size+1) 122 [aa (e.Ai+1),.slice oa ((e.Ah.take k).filter fun x=>!decide (x.Co<=e.Ai+1)).length oc]/\Below w1.heap.size w1 wr) (fun i _=>e.Ah.length - (intOf i).toNat)
 case atStart=>exact ⟨0,aG _,rfl,none,0,[],Lib.hid (.inl ⟨rfl,FB,rfl⟩),Hd.nil,FB,FB,(r1.alloc _).alloc _,by simp [Je],by simp [Je],((Below.refl _ _).alloc (aL _) _).alloc FB _⟩
 case round =>
  obtain ⟨k,hk,rfl,oa,oc,F2,hO,hd2,hoa,hF2,hr1,hr2,hr3,hB2⟩:=hrel;have c1:=hr2.cells;have c2:=hr3.cells;have c4:=hr1.cells;have f4:=hr1.frozens;by_cases hlt:k < e.Ah.length
  ·obtain ⟨b,off,_,F1,rfl,hx,hFx,ja⟩:=(hs.below FA hB2).at k hlt;obtain ⟨u1,rfl,hf⟩:=id hx;obtain ⟨fa,fc,rfl⟩:=hf.slice;have a0:=ja 0 FA;have a1:=ja 1 FA;have a2:=ja 2 FA;simp only [show Dz.sz=3 from rfl,bR,bM,bH] at a0 a1 a2;clear ja;by_cases hq:e.Ah[k].Co > e.Ai+1
   ·have hqf:=Lib.hid (Gz (q:=fun x:Ha=>!decide (x.Co<=e.Ai+1)) hlt FF);generalize hys:((e.Ah.take k).filter fun x=>!decide (x.Co<=e.Ai+1))=ys at *;have hys:=Lib.hid hys;go_wp2_with fail
    go_quiet (fail)
    go_wp2_with fail;have D1:=show Ib (wr.drewN nq) _ _ _ from hr1;have D2:=show Ib (wr.drewN nq) _ _ _ from hr2;have D3:=show Ib (wr.drewN nq) _ _ _ from hr3;have DO:=Lib.hid (show Ow Dz 193 (wr.drewN nq) _ _ _ from hO.out.frame fun _ _=>rfl);have DX:Dz.L8 (wr.drewN nq) _ _ _:=Dz.frame hx fun _ _=>rfl;have DB:=E5 hB2 nq;have b0:(wr.drewN nq).cell? ⟨b,off+k * 3,none⟩=_:=a0;have b1:(wr.drewN nq).cell? ⟨b,off+k * 3+1,none⟩=_:=a1;have b2:(wr.drewN nq).cell? ⟨b,off+k * 3+2,none⟩=_:=a2;clear hr1 hr2 hr3 hO hx hf hB2 a0 a1 a2 c1 c2 c4 f4;generalize wr.drewN nq=w2 at *
    have hbb:=World.block_lt_of_cell? w2 _ b0;simp only at hbb;have DBs:=DB.size;have t3:=fun A=>(D3.alloc A).cells 1;have t0:=D3.cells 1;have o0:=D2.cells 1;simp only [bM,bH] at t3 t0 o0;have hyl:ys.length<=4294967295:=by have:=congrArg List.length hys.out;have:=bJ (fun x:Ha=>!decide (x.Co<=e.Ai+1)) (e.Ah.take k);simp at this;omega
    have hA:=(Below.refl w2.heap.size w2).alloc (aL _) (.cells #[aa e.Ah[k].Ae,.slice fa e.Ah[k].Bj.length fc,aa e.Ah[k].Co] 193);have DOd:=Lib.hid ((DO.out.below hA).frame (w':=(w2.alloc (.cells #[aa e.Ah[k].Ae,.slice fa e.Ah[k].Bj.length fc,aa e.Ah[k].Co] 193)).drew) fun _ _=>rfl);have DXd:=Dz.frame (w':=(w2.alloc (.cells #[aa e.Ah[k].Ae,.slice fa e.Ah[k].Bj.length fc,aa e.Ah[k].Co] 193)).drew) (Dz.below DX hA) fun _ _=>rfl
    have E0':=kc hA o0;have E0:(w2.alloc (.cells #[aa e.Ah[k].Ae,.slice fa e.Ah[k].Bj.length fc,aa e.Ah[k].Co] 193)).drew.cell? _=_:=E0';have E1':=kc hA b0;have E1:(w2.alloc (.cells #[aa e.Ah[k].Ae,.slice fa e.Ah[k].Bj.length fc,aa e.Ah[k].Co] 193)).drew.cell? _=_:=E1';have E2':=kc hA b1;have E2:(w2.alloc (.cells #[aa e.Ah[k].Ae,.slice fa e.Ah[k].Bj.length fc,aa e.Ah[k].Co] 193)).drew.cell? _=_:=E2';have E3':=kc hA b2;have E3:(w2.alloc (.cells #[aa e.Ah[k].Ae,.slice fa e.Ah[k].Bj.length fc,aa e.Ah[k].Co] 193)).drew.cell? _=_:=E3'
    have nob:∀c∈(ab oa ys.length oc).ownBlock.toList,w1.heap.size+1+1<=c:=fun c hc=>by
     cases oa with
     | none=>simp [Value.ownBlock] at hc
     | some b=>simp [Value.ownBlock] at hc;subst hc;exact hoa b rfl
    have D3a:=show Ib (w2.alloc (.cells #[aa e.Ah[k].Ae,.slice fa e.Ah[k].Bj.length fc,aa e.Ah[k].Co] 193)).drew _ _ _ from D3.alloc (.cells #[aa e.Ah[k].Ae,.slice fa e.Ah[k].Bj.length fc,aa e.Ah[k].Co] 193);have hFs:∀c∈F1,c < w1.heap.size:=fun c hc=>hs.lt FA c (hFx c hc);have hbw:b < w1.heap.size:=hs.lt FA b (hs.headIn k hlt);have hn1:¬b=w1.heap.size+1:=EZ
    have hn2:¬w1.heap.size+1=b:=EZ
    go_region_law (first|((refine Aop Vr FA FL _ _ _ FL 193 (.agg #[aa 0,ab none 0 0,aa 0]) 40 underlying120 Zt rfl (ab oa ys.length oc) ys F2 FL DOd.out hd2 (some ⟨w2.heap.size,0,none⟩) [e.Ah[k]] 1 FL [aa e.Ah[k].Ae,.slice fa e.Ah[k].Bj.length fc,aa e.Ah[k].Co] F1 (Cz.one DXd) (.inr ⟨_,rfl,World.news_of_block (w:=(w2.alloc (.cells #[aa e.Ah[k].Ae,.slice fa e.Ah[k].Bj.length fc,aa e.Ah[k].Co] 193)).drew) (heap_alloc_new w2 _)⟩) (fun c hc he=>by have h1:=nob c (by rw [he];simp);have h2:=hFs c hc;omega) (by unfold maxLen;simp;omega) FF ?_);intro v4 w4 F4 hA4;obtain ⟨oa2,oc2,rfl⟩:=hA4.val;have D4:=D3a.keepK hA4.Ars (fun hm=>by have:=nob _ hm;omega);have t4:=D4.cells 1;have f4:=D4.frozens 1;simp only [bM,bH] at t4))
    all_goals
     have hn4:w1.heap.size+1 ∉ F4:=fun hm=>by
      rcases hA4.mem _ hm with h|h|h
      ·exact (hF2 _ h).2.2 rfl
      ·have:=hFs _ h;omega
      ·have:=D3.lt;simp at h;omega
     have P1:=Lib.hid (hA4.ow.setFar (p:=⟨w1.heap.size+1,1,none⟩) hn4 (ab oa2 (ys.length+1) oc2));have L1:=((show Ib (w2.alloc (.cells #[aa e.Ah[k].Ae,.slice fa e.Ah[k].Bj.length fc,aa e.Ah[k].Co] 193)).drew _ _ _ from D1.alloc (.cells #[aa e.Ah[k].Ae,.slice fa e.Ah[k].Bj.length fc,aa e.Ah[k].Co] 193)).keepK hA4.Ars (fun hm=>by have:=nob _ hm;have:=r1.lt;omega)).setOther (p:=⟨w1.heap.size+1,1,none⟩) (by have:=r1.lt;simp;omega) (ab oa2 (ys.length+1) oc2)
     have L2:=((show Ib (w2.alloc (.cells #[aa e.Ah[k].Ae,.slice fa e.Ah[k].Bj.length fc,aa e.Ah[k].Co] 193)).drew _ _ _ from D2.alloc (.cells #[aa e.Ah[k].Ae,.slice fa e.Ah[k].Bj.length fc,aa e.Ah[k].Co] 193)).keepK hA4.Ars (fun hm=>by have:=nob _ hm;omega)).setOther (p:=⟨w1.heap.size+1,1,none⟩) FB (ab oa2 (ys.length+1) oc2);have L3:=D4.set 1 (ab oa2 (ys.length+1) oc2);have hoa2:∀b,oa2=some b->w1.heap.size+1+1<=b.block:=fun c hc=>by
      subst hc;rcases hA4.Aqo with h|h
      ·simp only [Value.ownBlock] at h;exact nob _ (by cases oa <;> simp_all [Value.ownBlock])
      ·simp [Value.ownBlock] at h;have:=D3.lt;omega
     have hF4:∀c∈F4,w.heap.size+2<=c/\c≠w1.heap.size/\c≠w1.heap.size+1:=fun c hc=>by
      have hs3:=D3.lt;have hsw:=r1.lt;rcases hA4.mem _ hc with h|h|h
      ·exact hF2 _ h
      ·have h1:=hFs _ h;have h2:w.heap.size+2<=c:=(by simpa using hFo c (hFr c (hFx c h)));exact ⟨h2,EZ,EZ⟩
      ·simp at h;exact ⟨EZ,EZ,EZ⟩
     have hB5:Below w1.heap.size w1 (w4.setCell ⟨w1.heap.size+1,1,none⟩ (ab oa2 (ys.length+1) oc2)) :=
      Below.setCell ((E5 (tr DB hA (aL _)) 1).trans (hA4.Ars.below FF (fun b hb=>by have:=nob b hb;omega))) FB _
     have hd4:=hA4.hd;clear hA4 D1 D2 D3 D4;go_wp2_with fail;exact ⟨⟨k+1,EZ,HQ,oa2,oc2,F4,by rw [hqf.out,aA];exact P1,hd4,hoa2,hF4,L1,L2,by rw [hqf.out,aA];exact L3,hB5⟩,GJ⟩
   ·have hqf:=Lib.hid (Da (q:=fun x:Ha=>!decide (x.Co<=e.Ai+1)) hlt FF);generalize hys:((e.Ah.take k).filter fun x=>!decide (x.Co<=e.Ai+1))=ys at *;have hys:=Lib.hid hys;go_wp2_with fail
    go_quiet (fail)
    go_wp2_with fail;refine ⟨⟨k+1,EZ,HQ,oa,oc,F2,?_,hd2,hoa,hF2,hr1,hr2,?_,E5 hB2 _⟩,GJ⟩
    ·rw [hqf.out];exact Lib.hid (hO.out.frame fun _ _=>rfl)
    ·rw [hqf.out];exact hr3
  ·have hk:k=e.Ah.length:=EZ
   subst hk;simp only [bl] at hO hr3 c2;obtain ⟨F3,hF3,hs3⟩:=hO.out.read;have hB3:=tr hB hB2 (aL _);go_wp2_with fail;refine bodyPost_ret (v:=.agg #[aa (e.Ai+1),.slice oa (e.Ah.filter fun x=>!decide (x.Co<=e.Ai+1)).length oc]) ?_ rfl ?_
   ·simp [results,results172,go_sem,c4,c2,f4]
   ·refine ⟨_,F3,rfl,⟨_,rfl,_,rfl,?_⟩,fun b hb=>by have:=(hF2 b (hF3 b hb)).1;omega,?_⟩
    ·refine hs3.frame fun b hb=>?_;have h2:=(hF2 b (hF3 b hb)).1;rw [Below.heap_setCell _ _ _ _ FF,Below.heap_setCell _ _ _ _ FF]
    ·repeat refine Below.setCell ?_ GQ _
     exact hB3
theorem Aql {lo hi:Int} {zs:ar} (h:Qk lo hi zs=true):(zs.length:Int)<=hi - lo+1\/zs=[]:=by
 by_cases h0:zs=[]
 ·exact .inr h0
 ·left;have key:∀i (hi':i < zs.length),lo+i<=zs[i]/\zs[i]<=hi:=by
   intro i
   induction i with
   | zero =>
    intro hi';have:=Jp h 0 hi';rw [Vt hi'] at this;simp [E8] at this;exact EX
   | succ i ih =>
    intro hi';have:=Jp h (i+1) hi';rw [Tg hi'] at this;have:=ih EZ;simp [E8] at *;omega
  have hp:=cT.2 h0;have:=key (zs.length - 1) EZ;omega
theorem Uk {e:Bh} (h:Ba e=true):Kq e.Ai=true/\e.Ah.length<=5/\∀x∈e.Ah,x.Bj.length<=7:=by
 unfold Ba at h;simp only [aw,aF] at h;refine ⟨h.1.1,h.1.2,fun x hx=>?_⟩;obtain ⟨i,hi,rfl⟩:=bi hx;have:=Jp h.2 i hi;rw [Km hi] at this;simp [Kv] at this;rcases Aql this.1.2.2.1 with h|h
 ·omega
 ·rw [h];simp
def La (l:ar) (n:Int):Nat:=(l.takeWhile fun x=>decide (x < n)).length
def Ri (l:ar) (n:Int):ar:=if l[La l n]?=some n then l else l.take (La l n)++n::l.drop (La l n)
def Lw (e:Bh) (n:Int):Nat:=e.Ah.findIdx fun x=>x.Ae == n
def Nj (e:Bh) (n f:Int):Bh:=match e.Ah[Lw e n]? with
 | some x=>⟨e.Ai,e.Ah.set (Lw e n) ⟨x.Ae,Ri x.Bj f,x.Co⟩⟩
 | none=>if e.Ah.length < 5 then ⟨e.Ai,e.Ah++[⟨n,[f],e.Ai+6⟩]⟩ else e
def Acb (e:Bh) (n:Int):Bool:=!e.Ah.any fun x=>x.Ae == n
def Pq (e:Bh) (n:Int):Bh:=match e.Ah[Lw e n]? with
 | some _=>⟨e.Ai,e.Ah.take (Lw e n)++e.Ah.drop (Lw e n+1)⟩
 | none=>e
def Uj (e:Bh) (n:Int) (below:ar):ar:=match e.Ah[Lw e n]? with
 | some x=>x.Bj.filter fun f=>decide (f∈below)
 | none=>if e.Ah.length=5 then below else []
theorem Q1 (e:Bh) (n:Int):(∃(h:Lw e n < e.Ah.length),Re (fun x=>x.Ae == n) e.Ah=(Lw e n:Nat)/\e.Ah[Lw e n].Ae=n/\Acb e n=false)\/(Re (fun x=>x.Ae == n) e.Ah=-1/\e.Ah[Lw e n]?=none/\Acb e n=true/\∀x∈e.Ah,x.Ae≠n):=by
 cases h:e.Ah.any fun x=>x.Ae == n
 ·right;have h':=cD.1 h;refine ⟨by unfold Re;rw [h];rfl,?_,by simp [Acb,h],fun x hx=>by have:=h' x hx;simpa using this⟩;have:Lw e n=e.Ah.length:=List.findIdx_eq_length.2 (fun x hx=>by have:=h' x hx;simpa using this);rw [this];simp
 ·left;have h2:Lw e n < e.Ah.length:=by
   obtain ⟨x,hx,hp⟩:=cJ.1 h;exact eD ⟨x,hx,hp⟩
  refine ⟨h2,by unfold Re;rw [h];rfl,?_,by simp [Acb,h]⟩;have:(e.Ah[Lw e n].Ae == n)=true:=fZ (p:=fun x:Ha=>x.Ae == n) (xs:=e.Ah) (w:=h2);exact EX
theorem Yj {lo hi:Int} {zs:ar} (h:Qk lo hi zs=true):zs.Pairwise (· < ·)/\∀z∈zs,lo<=z/\z<=hi:=by
 have hb:∀i (hi':i < zs.length),lo<=zs[i]/\zs[i]<=hi:=fun i hi'=>by
  have:=Jp h i hi';unfold Ad5 E8 at this;simp only [aw,aF] at this;rw [bn,aD hi'] at this;simpa using this.1
 refine ⟨?_,fun z hz=>by obtain ⟨i,hi',rfl⟩:=bi hz;exact hb i hi'⟩;have step:∀i (hi:i+1 < zs.length),zs[i] < zs[i+1]:=fun i hi'=>by
  have:=Jp h (i+1) hi';rw [Tg hi'] at this;simp only [aw,aF] at this;exact this.2
 refine bh.2 fun i j hi' hj hij=>?_;obtain ⟨d,rfl⟩:∃d,j=i+1+d:=⟨j - i - 1,EZ⟩;clear hij
 induction d with
 | zero=>exact step i hj
 | succ d ih=>exact gz (ih EZ) (step (i+1+d) hj)
theorem Aju {lo hi:Int} {zs:ar} (h1:zs.Pairwise (· < ·)) (h2:∀z∈zs,lo<=z/\z<=hi):Qk lo hi zs=true:=by
 unfold Qk;refine Kd fun i hi'=>?_;have hb:=h2 zs[i] (aB hi');cases i with
 | zero=>rw [Vt hi'];simp [E8,hb]
 | succ i =>
  rw [Tg hi'];have:=bh.1 h1 i (i+1) EZ hi' EZ;simp [E8,hb,this]
theorem Ayq:∀{a b:ar},a.Pairwise (· < ·)->b.Pairwise (· < ·)->(∀x,x∈a↔x∈b)->a=b
 | [],[],_,_,_=>rfl
 | [],y::b,_,_,h=>absurd ((h y).2 FB) FB
 | x::a,[],_,_,h=>absurd ((h x).1 FB) FB
 | x::a,y::b,h1,h2,h=>by
  have a1:=di.1 h1;have b1:=di.1 h2;have e:x=y:=by
   rcases aH.1 ((h x).1 FB) with e|m
   ·exact e
   ·rcases aH.1 ((h y).2 FB) with e|m2
    ·exact e.symm
    ·have:=b1.1 x m;have:=a1.1 y m2;omega
  subst e
  congr 1
  refine Ayq a1.2 b1.2 fun z=>⟨fun hz=>?_,fun hz=>?_⟩
  ·rcases aH.1 ((h z).1 IW) with e|m
   ·have:=a1.1 z hz;omega
   ·exact m
  ·rcases aH.1 ((h z).2 IW) with e|m
   ·have:=b1.1 z hz;omega
   ·exact m
theorem Amv {a b:ar} (h1:a.Pairwise (· < ·)) (h2:b.Pairwise (· < ·)):(a.filter fun f=>decide (f∈b))=b.filter fun f=>decide (f∈a) :=
 Ayq (h1.filter _) (h2.filter _) fun x=>by simp [and_comm]
theorem Bbe (x:Ha) (gb:Nat) (n:Int) (u:Value) (G:aq):FV 320 [u,Ga gb 0 0] [.isv Dz u x G,.cel gb 0 [aa n]] (.bool (x.Ae == n)):=by
 refine enter func320 rfl ntmps320 fun w0=>?_;refine Ajo ?_;rintro a1 c1 F1 rfl l1;refine go ?_;intros;refine ret () trivial ?_;rfl
theorem Akg (e:Bh) (n:Int) (v:Value) (F:aq):FV 268 [v,aa n] [.isv Bv v e F] (aa (Re (fun x=>x.Ae == n) e.Ah)):=by
 refine enter func268 rfl ntmps268 fun w0=>?_;refine Ew ?_;rintro a1 c1 F1 rfl l1;refine go ?_;intros;rename_i gb;refine cb (fun w st=>Rc _ (Vc FC) #[Ga gb 0 0] _ e.Ah _ (fun x=>x.Ae == n) w (st.get (p:=.sl Dz (ab a1 e.Ah.length c1) e.Ah F1) FB).2 (fun k hk wr u G hB hu=>(Bbe e.Ah[k] gb n u G).val wr (Sz hu ⟨FB,If ((st.below hB).get (p:=.row gb 3 0 [] [aa n] []) FB)⟩))) ?_;exact AA
theorem Acl (e:Bh) (n:Int) (v:Value) (F:aq):FV 218 [v,aa n] [.isv Bv v e F] (aa (Re (fun x=>x.Ae == n) e.Ah)):=by
 refine enter func218 rfl ntmps218 fun w0=>?_;refine Ew ?_;rintro a1 c1 F1 rfl l1;unfold maxLen at l1;refine go ?_;intros;refine Em [1,2,4] (fun k:Nat=>[(5,aa (k:Nat))]) (fun k=>k<=e.Ah.length/\∀j (_:j < k) (hj:j < e.Ah.length),(e.Ah[j].Ae == n)=false) (fun k=>e.Ah.length - k) 0 ⟨aG _,fun j h=>by omega⟩ fun k hk=>?_;obtain ⟨hk1,hk2⟩:=hk;refine go ?_;refine A4 rfl (fun h1=>?_) (fun h1=>?_)
 ·have hh:k < e.Ah.length:=EZ
  refine go ?_;refine Vb (xs:=e.Ah) k ?_;rintro hi b o a3 c3 F3 e1 l3;rw [e1];refine go ?_;refine A4 rfl (fun h2=>?_) (fun h2=>?_)
  ·refine go ?_;refine ret () trivial ?_;rw [Oh hh hk2 HK];rfl
  ·refine go ?_;refine Ca (k+1) ⟨hh,fun j hj hl=>?_⟩ EZ;rcases bc (bC.1 hj) with h|rfl
   ·exact hk2 j h hl
   ·simpa using h2
 ·obtain rfl:k=e.Ah.length:=EZ
  exact BT
theorem Bbs (l:ar) (n:Int) (a:aj) (c:Nat) (F:aq):FV 294 [ab a l.length c,aa n] [.sl Bc (ab a l.length c) l F] (.bool (decide (n∈l))):=by
 refine enter func294 rfl ntmps294 fun w0=>?_;refine Abn (xs:=l) ?_;rintro _ _ _ l2 l3;refine go ?_;refine Em [0,1,4] (fun k:Nat=>[(5,aa (k:Nat))]) (fun k=>k<=l.length/\n ∉ l.take k) (fun k=>l.length - k) 0 ⟨aG _,FB⟩ fun k hk=>?_;obtain ⟨hk1,hk2⟩:=hk;refine go ?_;refine A4 rfl (fun h1=>?_) (fun h1=>?_)
 ·have hh:k < l.length:=EZ
  refine go ?_;refine Hy (xs:=l) k ?_;rintro hi b o e1;rw [e1];refine go ?_;refine A4 rfl (fun h2=>?_) (fun h2=>?_)
  ·refine go ?_;refine ret () trivial ?_;rw [av (h2▸aB hh:n∈l)];rfl
  ·refine go ?_;refine Ca (k+1) ⟨hh,fun hm=>?_⟩ EZ;rw [cC,aD hh] at hm;rcases aK.1 hm with h|h
   ·exact hk2 h
   ·simp at h;exact h2 h.symm
 ·obtain rfl:k=l.length:=EZ
  rw [bl] at hk2;refine go ?_;refine ret () trivial ?_;rw [ay hk2];rfl
theorem Bd2 (n:Int):FV 385 [aa n] [] (.bool false):=by
 refine enter func385 rfl ntmps385 fun w0=>?_;refine go ?_;refine ret () trivial ?_;simp [Tn]
theorem Be0 (n:Int):FV 374 [aa n] [] (.bool false):=by
 refine enter func374 rfl ntmps374 fun w0=>?_;refine go ?_;refine ret () trivial ?_;simp [Tn]
theorem Ba7 (a b:Int):FV 373 [aa a,aa b] [] (.bool (decide (a < b))):=by
 refine enter func373 rfl ntmps373 fun w0=>?_;refine go ?_;refine Bf (Bd2 a) fun _ _=>?_;exact AA
def Awk (l:ar) (n:Int):Bool:=decide (l[La l n]?=some n)
theorem Acz {l:ar} {n:Int} {k:Nat} (h1:k<=l.length) (h2:∀j (_:j < k) (h:j < l.length),l[j] < n) (h3:∀h:k < l.length,¬l[k] < n):La l n=k:=Xu h1 (fun j hj h=>by simpa using h2 j hj h) (fun h=>by simpa using h3 h)
theorem Ba6 (xs:ar) (n:Int) (a:aj) (c:Nat) (F:aq) (hs:xs.Pairwise (· < ·)) (hl:xs.length<=1000000):FV 356 [ab a xs.length c,aa n] [.sl Bc (ab a xs.length c) xs F] (.tuple #[aa (La xs n:Nat),.bool (Awk xs n)]):=by
 have hm:=bh.1 hs;refine enter func356 rfl ntmps356 fun w0=>?_;refine go ?_;refine Em [0,1,4,5,6] (fun s:Nat × Nat=>[(7,aa (s.1:Nat)),(8,aa (s.2:Nat))]) (fun s=>s.1<=s.2/\s.2<=xs.length/\(∀j (_:j < s.1) (h:j < xs.length),xs[j] < n)/\(∀j (_:s.2<=j) (h:j < xs.length),¬xs[j] < n)) (fun s=>s.2 - s.1) (0,xs.length) ⟨aG _,aL _,fun j h=>by omega,fun j h1 h2=>by omega⟩ fun s hs=>?_;obtain ⟨i,j⟩:=s;obtain ⟨h1,h2,h3,h4⟩:=hs;dsimp only at h1 h2 h3 h4 ⊢;refine go ?_;refine A4 rfl (fun h5=>?_) (fun h5=>?_)
 ·have hh:(i+j) / 2 < xs.length:=EZ
  have e2:((i:Int)+(j:Int)) / 2=(((i+j) / 2:Nat):Int):=EZ
  refine go ?_;apply wO;apply oc;rfl;exact Ahs rfl EZ EZ;refine go ?_;apply wO;apply oc;rfl;exact Alz rfl;rw [e2];apply wO;apply oc;rfl;exact Ao4 rfl EZ EZ;generalize hq:(i+j) / 2=q at hh;refine go ?_;refine Hy (xs:=xs) q ?_;rintro hi b o e;rw [e];refine go ?_;refine Bf (Ba7 _ _) fun _ _=>?_;refine go ?_;refine A4 rfl (fun h6=>?_) (fun h6=>?_)
  ·refine go ?_;refine Vy ?_;refine Ca (hH:=Lb _) (q+1,j) ⟨by show q+1<=j;omega,h2,fun k hk h=>?_,h4⟩ (by show j - (q+1) < j - i;omega);rcases bc (bC.1 (show k < q+1 from hk)) with hk|rfl
   ·have:=hm k q h hh hk;omega
   ·exact h6
  ·refine go ?_;refine Vy ?_;refine Ca (hH:=Lb _) (i,q) ⟨by show i<=q;omega,by show q<=xs.length;omega,h3,fun k hk h hn=>h6 ?_⟩ (by show q - i < j - i;omega);rcases bc (show q<=k from hk) with hk|rfl
   ·have:=hm q k hh h hk;omega
   ·exact hn
 ·have hij:i=j:=EZ
  subst hij;have hk:La xs n=i:=Acz h2 h3 (fun h=>h4 i (aL _) h);unfold Awk;rw [hk];refine go ?_;refine D6 rfl rfl (fun h6=>?_) (fun h6=>?_)
  ·have hh:i < xs.length:=EZ
   rw [aD hh];refine go ?_;refine Hy (xs:=xs) i ?_;rintro hi b o e;rw [e];refine go ?_;refine D6 rfl rfl (fun h7=>?_) (fun h7=>?_)
   ·refine go ?_;refine ret () trivial ?_;rw [av (by simpa using h7)];rfl
   ·refine go ?_;refine Bf (Be0 _) fun _ _=>?_;refine go ?_;refine ret () trivial ?_;rw [ay (by simpa using h7)];rfl
  ·refine go ?_;refine ret () trivial ?_;rw [br EZ];rfl
theorem Bef (xs:ar) (n:Int) (a:aj) (c:Nat) (F:aq):FV 157 [ab a xs.length c,aa n] [.sl Bc (ab a xs.length c) xs F] (aa (Re (fun x=>x == n) xs)):=by
 refine enter func157 rfl ntmps157 fun w0=>?_;refine Abn (xs:=xs) ?_;rintro _ _ - l2 l3;refine go ?_;refine Em [0,1,4,7] (fun k:Nat=>[(8,aa (k:Nat))]) (fun k=>k<=xs.length/\∀j (_:j < k) (hj:j < xs.length),(xs[j] == n)=false) (fun k=>xs.length - k) 0 ⟨aG _,fun j h=>by omega⟩ fun k hk=>?_;obtain ⟨hk1,hk2⟩:=hk;refine go ?_;refine A4 rfl (fun h1=>?_) (fun h1=>?_)
 ·have hh:k < xs.length:=EZ
  refine go ?_;refine Hy (xs:=xs) k ?_;rintro hi b o e1;rw [e1];refine go ?_;refine A4 rfl (fun h2=>?_) (fun h2=>?_)
  ·refine go ?_;refine ret () trivial ?_;rw [Oh hh hk2 (by simpa using h2.symm)];rfl
  ·refine go ?_;refine Ca (k+1) ⟨hh,fun j hj hl=>?_⟩ EZ;rcases bc (bC.1 hj) with h|rfl
   ·exact hk2 j h hl
   ·simpa using fun e=>h2 e.symm
 ·obtain rfl:k=xs.length:=EZ
  exact BT
theorem Ba1 (l:ar) (n:Int):(l.any fun x=>x == n)=decide (n∈l):=by
 rw [cG,cJ,aF];exact ⟨fun ⟨x,hx,h⟩=>by simp at h;exact h▸hx,fun h=>⟨n,h,FB⟩⟩
theorem Awq (xs:ar) (n:Int) (a:aj) (c:Nat) (F:aq):FV 82 [ab a xs.length c,aa n] [.sl Bc (ab a xs.length c) xs F] (.bool (decide (n∈xs))):=by
 refine enter func82 rfl ntmps82 fun w0=>?_;refine go ?_;refine Bf (Bef xs n _ _ F) fun _ _=>?_;refine go ?_;refine ret () trivial ?_;rw [Sw,Ba1];rfl
theorem Ayv (y:Int) (w:World):Cz Bc w [aa y] [y] []:=⟨_,[],[],[],FB,FB,⟨rfl,rfl⟩,rfl,rfl⟩
theorem Av1 (xs:ar) (y:Int) (i:Nat) (a:aj) (c vb:Nat) (F:aq) (hi:i<=xs.length) (hl:xs.length<=1000000) :
  Fn prog 357 [ab a xs.length c,aa i,ab (some ⟨vb,0,none⟩) 1 1] [] [.ow Bc 3 (ab a xs.length c) xs F,.row vb 3 0 [] [aa y] []] (fun (_:aj × Nat × aq)=>True)
   (fun z=>.slice z.1 (xs.take i++y::xs.drop i).length z.2.1) (fun z=>[.ow Bc 3 (.slice z.1 (xs.take i++y::xs.drop i).length z.2.1) (xs.take i++y::xs.drop i) z.2.2]):=by
 have hone:∀w':World,∀cs:am,Cz Bc w' cs xs []->∀u∈cs,u.oneCell'=true:=fun w' cs h=>h.one' C6;have hy:=Ayv y;have h1y:∀u∈([aa y]:am),u.oneCell'=true:=HN
 refine enter func357 rfl ntmps357 fun w0=>?_;refine Azp (E:=Bc) fun hc1 hc2=>?_;refine go ?_;apply wO;refine Ak8 rfl rfl rfl rfl hi (fun _=>?_) hc1;refine go ?_;refine A4 rfl (fun h1=>?_) (fun h1=>?_)
 ·have hin:i=xs.length:=EZ
  subst hin;have e:xs.take xs.length++y::xs.drop xs.length=xs++[y]:=FB
  refine go ?_;apply wO;refine Nb hy C6 fun a2 c2 F2=>?_;rw [e];exact DJ
 ·have hlt:i < xs.length:=EZ
  refine Als (xs:=xs) Ek (by rintro rfl;simp at hlt) ?_;rintro g cs rest rfl - - - hcl hcr hfl;rw [show Bc.sz=1 from rfl] at hcl hcr;have h1c:=hone w0 cs (hfl w0);obtain ⟨A,B,hcs,hA,hB⟩:∃A B,cs=A++B/\A=cs.take (i * 1)/\B=cs.drop (i * 1):=⟨_,_,(bo _ _).symm,rfl,rfl⟩;have hAl:A.length=i * 1:=by rw [hA,aP];omega
  have hBl:B.length=(xs.length - i) * 1:=by rw [hB,aX];omega
  have hins:∀w,Cz Bc w (A++[aa y]++B) (xs.take i++y::xs.drop i) []:=fun w=>by rw [hA,hB];exact (hfl w).insL (hy w) i hi
  have h1A:∀u∈A,u.oneCell'=true:=fun u hu=>h1c u HZ;have h1B:∀u∈B,u.oneCell'=true:=fun u hu=>h1c u HZ;have hlen:(xs.take i++y::xs.drop i).length=xs.length+1:=FF
  clear hA hB hfl hone;subst hcs;have eA:A=((A++B++rest).drop 0).take (i * 1):=by rw [dw,aN,bT hAl]
  have eB:B=((A++B++rest).drop (0+i * 1)).take ((xs.length - i) * 1):=by rw [cO,aN,dC hAl,bT hBl]
  rw [hlen];refine go ?_;apply wO;apply oc;rfl;exact Arb rfl;refine go ?_;refine A4 rfl (fun h2=>?_) (fun h2=>?_)
  ·refine go ?_;apply wO;apply oc;rfl;exact O0 (i:=i) rfl rfl rfl EZ EZ;refine go ?_;apply wO;refine Ap8 (k:=xs.length+1 - i) (olds:=A) rfl rfl rfl EZ (Mt (m:=i * 1) (.head _) eA) EZ FA EZ EZ EZ EZ fun g' cp' Z rest' h3 h4 h5 h6=>?_;rw [show i+(xs.length+1 - i)=xs.length+1 by omega] at h3 ⊢;obtain ⟨Z1,Z2,rfl,hZ1,hZ2⟩:∃Z1 Z2,Z=Z1++Z2/\Z1.length=1/\Z2.length=B.length:=⟨Z.take 1,Z.drop 1,(bo _ _).symm,GE,JW⟩;refine go ?_
   apply wO;apply oc;rfl;exact Ku (i:=i) rfl rfl rfl EZ EZ EZ;refine go ?_;apply wO;refine Wh (cs:=[aa y]) (L':=A++[aa y]++(Z2++rest')) rfl rfl rfl (Mt (L:=[aa y]) (o:=0) (m:=1) FD rfl) .here (Aei (M:=Z1) HB EZ (by simpa using hZ1)) (by show 1=min 1 (xs.length+1 - i) * 1;omega) FZ h1y ?_;refine go ?_;refine Ar [] [] ?_;refine Df 0 1 2 3 ?_;refine dt 4 ?_ (hy:=Ku (i:=i+1) rfl rfl EZ EZ EZ EZ)
   refine Dh 5 6 ?_;refine dt 7 ?_ (hy:=Ku (i:=i) rfl rfl EZ EZ EZ EZ);refine dN 8 ?_;refine Wh (cs:=B) (L':=A++[aa y]++B++rest') rfl rfl rfl (Mt FD eB) .here (Aei (P:=A++[aa y]) (M:=Z2) HB FZ hZ2) HA FZ h1B ?_;refine dk ?_;refine dd ?_
   refine Ac7 (cs:=A++[aa y]++B) (rest:=rest') (xs:=xs.take i++y::xs.drop i) cp' rfl hins EZ h4 (by rw [show Bc.sz=1 from rfl];simp only [aA,aU,aY] at h6 ⊢;omega) ?_;rw [hlen];refine go ?_;refine ret (_,cp',[g']) trivial rfl
  ·have hcx:xs.length+1<=c:=EZ
   obtain ⟨X,Y,hXY,hX,hY⟩:=Aqs (B:=B) (R:=rest) 1 EZ;refine go ?_;apply wO;apply oc;rfl;exact O0 (i:=xs.length+1) rfl rfl EZ EZ EZ;refine go ?_;apply wO;apply oc;rfl;exact Ku (i:=i+1) rfl rfl EZ EZ EZ EZ;refine Io ?_;intros;apply wO
   refine Ayb rfl Wk (ovl (tS:=24) (tR:=4) (run_callFunc_extern func375 FC FC FC (e:=Extern.SlicesOverlaps.overlaps #[24,24] #[4]) FC) (.there .here) (.head _) HC) ?_;refine go ?_;refine Ar [] [] ?_;refine Df 0 1 2 3 ?_;refine dt 4 ?_ (hy:=Ku (i:=i+1) rfl rfl EZ EZ EZ EZ);refine Dh 5 6 ?_;refine dt 7 ?_ (hy:=Ku (i:=i) rfl rfl EZ EZ EZ EZ);refine dN 8 ?_
   refine Wh (cs:=B) (L':=A++X++B++rest.drop 1) rfl rfl rfl (Mt FD eB) .here (Aei (P:=A++X) (M:=Y) KJ HR hY) GX HR h1B ?_;refine dk ?_;refine dd ?_;refine go ?_;apply wO;apply oc;rfl;exact Ku (i:=i) rfl rfl rfl EZ EZ EZ;refine go ?_;apply wO
   refine Wh (cs:=[aa y]) (L':=A++[aa y]++(B++rest.drop 1)) rfl rfl rfl (Mt (L:=[aa y]) (o:=0) (m:=1) FD rfl) .here (Aei (M:=X) HB EZ (by simpa using hX)) (by show 1=min 1 (xs.length+1 - i) * 1;omega) FZ h1y ?_;refine go ?_
   refine Ac7 (L:=A++[aa y]++(B++rest.drop 1)) (cs:=A++[aa y]++B) (rest:=rest.drop 1) (xs:=xs.take i++y::xs.drop i) c HB hins EZ EZ (by rw [show Bc.sz=1 from rfl];simp only [aA,aU,aY,aX];omega) ?_;rw [hlen];refine ret (_,c,[g]) trivial rfl
theorem N7 (n:Int) (w:World):Cz Bc w [aa n] [n] []:=⟨_,[],[],[],FB,FB,⟨rfl,rfl⟩,rfl,rfl⟩
theorem Aut (l:ar) (n:Int):La l n<=l.length:=(Qs (p:=fun x=>decide (x < n)) (xs:=l)).1
structure Bhe where
 a:aj
 c:Nat
 F:aq
theorem Bbt (l:ar) (n:Int) (a:aj) (c:Nat) (F:aq) (hl:l.length<=1000000):Fn prog 247 [ab a l.length c,aa n] [] [.ow Bc 3 (ab a l.length c) l F] (fun (_:Bhe)=>True) (fun s=>.slice s.a (Ri l n).length s.c) (fun s=>[.ow Bc 3 (.slice s.a (Ri l n).length s.c) (Ri l n) s.F]):=by
 refine enter func247 rfl ntmps247 fun w0=>?_;refine go ?_;refine Em [0,1,4] (fun k:Nat=>[(5,aa (k:Nat))]) (fun k=>k<=l.length/\∀j (_:j < k) (hj:j < l.length),l[j] < n) (fun k=>l.length - k) 0 ⟨aG _,fun j h=>by omega⟩ fun k hk=>?_;obtain ⟨hk1,hk2⟩:=hk;refine go ?_;refine D6 rfl rfl (fun h1=>?_) (fun h1=>?_)
 ·have hh:k < l.length:=EZ
  refine go ?_;refine Rf (m:=1) Ek k ?_ FE rfl hh;rintro _ g A cs B rfl rfl hr hH;obtain ⟨rfl, -⟩:=hr w0;refine go ?_;refine Pz l[k] hH hr ?_;rw [bx];refine A4 rfl (fun h2=>?_) (fun h2=>?_)
  ·refine go ?_;refine Ca (k+1) ⟨hh,fun j hj hl=>?_⟩ EZ;rcases bc (bC.1 hj) with h|rfl
   ·exact hk2 j h hl
   ·exact h2
  ·have hp:La l n=k:=Acz hk1 hk2 (fun _=>h2);refine go ?_;refine D6 rfl rfl (fun h4=>?_) (fun h4=>absurd h1 h4);refine go ?_;refine Rf (m:=1) Ek k ?_ FE rfl hh;rintro _ g A cs B e1 - hr hH;cases e1;obtain ⟨rfl, -⟩:=hr w0;refine go ?_;refine Pz l[k] hH hr ?_;rw [bx];refine A4 rfl (fun h3=>?_) (fun h3=>?_)
   ·have e:Ri l n=l:=by unfold Ri;rw [hp,aD hh,aJ (by rw [h3])]
    rw [e];exact AZ
   ·have e:Ri l n=l.take k++[n]++l.drop k:=by unfold Ri;rw [hp,aD hh,aC HX];simp
    refine go ?_;refine Av fun F5=>?_;refine Azv k EZ fun F6 hc1 hc2=>?_;refine Ar [] [] ?_;refine Dh 1 2 ?_;refine dt 3 ?_ (hy:=O0 (i:=k) rfl rfl rfl EZ EZ);refine Dh 5 8 ?_;refine dt 9 ?_;refine Amp 10 k fun a6 c6 F6=>?_;refine dM 0 6 ?_ ?_
    ·apply Kg;rfl;intro _;refine Cy Bc ?_;refine dk ?_;refine dM 4 6 ?_ ?_
     ·exact CW
     ·apply Iq;rfl;rfl;rfl;rfl;exact Ik;exact Ih;intro _;exact BD
    ·exact EP
 ·have hp:La l n=k:=Acz hk1 hk2 (fun h=>by omega);have e:Ri l n=l.take k++[n]++l.drop k:=by unfold Ri;rw [hp,br EZ];simp
  refine go ?_;refine D6 rfl rfl (fun h4=>absurd h4 h1) (fun h4=>?_);refine go ?_;refine Av fun F5=>?_;refine Azv k EZ fun F6 hc1 hc2=>?_;refine Ar [] [] ?_;refine Dh 1 2 ?_;refine dt 3 ?_ (hy:=O0 (i:=k) rfl rfl rfl EZ EZ);refine Dh 5 8 ?_;refine dt 9 ?_;refine Amp 10 k fun a6 c6 F6=>?_;refine dM 0 6 ?_ ?_
  ·apply Kg;rfl;intro _;refine Cy Bc ?_;refine dk ?_;refine dM 4 6 ?_ ?_
   ·exact CW
   ·apply Iq;rfl;rfl;rfl;rfl;exact Ik;exact Ih;intro _;exact BD
  ·exact EP
theorem As3 {c:Cx} {fr:Fr} {H S:List Pc} {Φ:Gl} (x:Bh) {a:aj} {n cp:Nat} {F:aq} (hn:n=x.Ah.length) (h:T c fr (.own Ce (.agg #[aa x.Ai,ab a n cp]) x F::S) Φ) (hp:C2 H (.ow Et 193 (ab a n cp) x.Ah F) S:=by exact Dt):T c fr H Φ:=by
 subst hn;exact Gw x h hp
theorem Ag2 {e:Bh} {n f:Int} (h:Lw e n < e.Ah.length):Nj e n f=⟨e.Ai,e.Ah.set (Lw e n) ⟨e.Ah[Lw e n].Ae,Ri e.Ah[Lw e n].Bj f,e.Ah[Lw e n].Co⟩⟩:=by unfold Nj;rw [aD h]
theorem Ag1 {e:Bh} {n f:Int} (h:e.Ah[Lw e n]?=none) (hl:e.Ah.length < 5):Nj e n f=⟨e.Ai,e.Ah++[⟨n,[f],e.Ai+6⟩]⟩:=by unfold Nj;rw [h];simp [hl]
theorem Ac1 {e:Bh} {n f:Int} (h:e.Ah[Lw e n]?=none) (hl:¬e.Ah.length < 5):Nj e n f=e:=by unfold Nj;rw [h];simp [hl]
theorem Vj (e:Bh) (n f:Int) (v:Value) (F:aq) (hl:e.Ah.length<=1000000) (hf:∀x∈e.Ah,x.Bj.length<=1000000) (hc0:-1000000<=e.Ai) (hc1:e.Ai<=1000000):Fn prog 173 [v,aa n,aa f] [.isv Bv v e F] [] (fun (_:Value × aq)=>True) (fun s=>.tuple #[s.1,.bool (Acb e n)]) (fun s=>[.own Ce s.1 (Nj e n f) s.2]):=by
 refine enter func173 rfl ntmps173 fun w0=>?_;refine Ew ?_;rintro a1 c1 F1 rfl l1;refine go ?_;intros;refine cv (fun w st=>Xd _ e _ w (st.get (p:=.isv Bv (.agg #[aa e.Ai,ab a1 e.Ah.length c1]) e F) FB) EZ (fun x hx=>bG (hf x hx) FA)) fun u FU=>?_;refine H2 ?_;rintro a2 c2 F2 rfl l2;refine go ?_;intros;refine Bf (Acl e n _ F) fun _ _=>?_;rcases Q1 e n with ⟨h,e1,e2,e3⟩|⟨e1,e2,e3,e4⟩
 ·rw [e1,e3,Ag2 h];have hfx:=hf e.Ah[Lw e n] (aB h);refine go ?_;refine Aca (m:=3) (Lw e n) ?_ rfl h;rintro _ g A cs B k1 k2 G1 Gi G2 rfl - hc hH;refine Z7 ?_;rintro a5 c5 F5 ev l5;obtain rfl:=Pw ev;refine go ?_;intros;refine Bf (Bbt _ f a5 c5 F5 hfx) fun z _=>?_;refine go ?_;refine O1 ⟨e.Ah[Lw e n].Ae,Ri e.Ah[Lw e n].Bj f,e.Ah[Lw e n].Co⟩ ?_;refine V0 _ hH rfl fun F6=>?_;refine As3 ⟨e.Ai,_⟩ bU.symm ?_;exact CF
 ·rw [e1,e3];refine go ?_;refine A4 rfl (fun h5=>?_) (fun h5=>?_)
  ·rw [Ag1 e2 EZ];refine go ?_;intros;refine Eh (E:=Bc) (xs:=[f]) (N7 f) ?_ FB;refine O1 ⟨n,[f],e.Ai+6⟩ ?_;apply wO;refine Ab0 Te ⟨n,[f],e.Ai+6⟩ rfl fun a3 c3 F3=>?_;refine go ?_;refine As3 ⟨e.Ai,_⟩ rfl ?_;exact CF
  ·rw [Ac1 e2 EZ];refine go ?_;refine As3 e rfl ?_;exact CF
def Aav (e:Bh) (n:Int) (below:ar):ar:=match e.Ah[Lw e n]? with
 | some x=>below.filter fun f=>decide (f∈x.Bj)
 | none=>if e.Ah.length=5 then below else []
theorem Agy {e:Bh} {n:Int} (h:Lw e n < e.Ah.length):Pq e n=⟨e.Ai,e.Ah.take (Lw e n)++e.Ah.drop (Lw e n+1)⟩:=by unfold Pq;rw [aD h]
theorem Ald {e:Bh} {n:Int} (h:e.Ah[Lw e n]?=none):Pq e n=e:=by unfold Pq;rw [h]
theorem Aw1 {e:Bh} {n:Int} {l:ar} (h:Lw e n < e.Ah.length):Aav e n l=l.filter fun f=>decide (f∈e.Ah[Lw e n].Bj):=by unfold Aav;rw [aD h]
theorem Bbd {e:Bh} {n:Int} {l:ar} (h:e.Ah[Lw e n]?=none):Aav e n l=if e.Ah.length=5 then l else []:=by unfold Aav;rw [h]
structure Bdu where
 k:Nat
 a:aj
 c:Nat
 F:aq
structure Bhg where
 v:Value
 F:aq
 a:aj
 c:Nat
 G:aq
theorem Adu (e:Bh) (n:Int) (below:ar) (v:Value) (F:aq) (a0:aj) (c0:Nat) (F0:aq) (hl:e.Ah.length<=1000000) (hf:∀x∈e.Ah,x.Bj.length<=1000000) (hb:below.length<=1000000):Fn prog 242 [v,aa n,ab a0 below.length c0] [.isv Bv v e F,.sl Bc (ab a0 below.length c0) below F0] [] (fun (_:Bhg)=>True) (fun s=>.tuple #[s.v,.slice s.a (Aav e n below).length s.c]) (fun s=>[.own Ce s.v (Pq e n) s.F,.ow Bc 3 (.slice s.a (Aav e n below).length s.c) (Aav e n below) s.G]):=by
 refine enter func242 rfl ntmps242 fun w0=>?_;refine Ew ?_;rintro a1 c1 F1 rfl l1;refine go ?_;intros;refine cv (fun w st=>Xd _ e _ w (st.get (p:=.isv Bv (.agg #[aa e.Ai,ab a1 e.Ah.length c1]) e F) FB) EZ (fun x hx=>bG (hf x hx) FA)) fun u FU=>?_;refine H2 ?_;rintro a2 c2 F2 rfl l2;refine go ?_;intros;refine Bf (Acl e n _ F) fun _ _=>?_;refine Cy Bc ?_;rcases Q1 e n with ⟨h,e1,e2,e3⟩|⟨e1,e2,e3,e4⟩
 ·rw [e1,Agy h,Aw1 h];have hfx:=hf e.Ah[Lw e n] (aB h);refine go ?_;refine Vb (xs:=e.Ah) (Lw e n) ?_;rintro hi b o a5 c5 F5 e6 l5;generalize Lw e n=i at *;generalize hx:e.Ah[i]=x at *;rw [e6];refine go ?_;refine Bx [2,3,6,7,8,10] (fun s:Bdu=>[(11,aa (s.k:Nat)),(9,.slice s.a ((below.take s.k).filter fun f=>decide (f∈x.Bj)).length s.c)]) (fun s=>[.ow Bc 3 (.slice s.a ((below.take s.k).filter fun f=>decide (f∈x.Bj)).length s.c) ((below.take s.k).filter fun f=>decide (f∈x.Bj)) s.F]) (fun s=>s.k<=below.length) (fun s=>below.length - s.k) ⟨0,_,_,_⟩ (aG _) fun s hs=>?_
  obtain ⟨k,a3,c3,F3⟩:=s;dsimp only at hs ⊢;refine go ?_;refine A4 rfl (fun h6=>?_) (fun h6=>?_)
  ·have hk:k < below.length:=EZ
   refine Hy (xs:=below) k ?_;rintro hi2 b2 o2 e7;rw [e7];have ht:below.take (k+1)=below.take k++[below[k]]:=by rw [cC,aD hk];rfl
   have hle:((below.take k).filter fun f=>decide (f∈x.Bj)).length<=k:=bG (bJ _ _) FF;refine go ?_;refine Ar [0,2,7] [] ?_;refine Df 0 1 2 3 ?_;refine Df 4 5 6 7 ?_;refine Dh 8 9 ?_;refine dN 10 ?_;refine oC ?_;refine Bf (Bbs x.Bj below[k] a5 c5 F5) fun _ _=>?_;refine dk ?_;refine dd ?_;refine go ?_;refine A4 rfl (fun h7=>?_) (fun h7=>?_)
   ·have e8:(below.take (k+1)).filter (fun f=>decide (f∈x.Bj))=((below.take k).filter fun f=>decide (f∈x.Bj))++[below[k]]:=by rw [ht,bW];simp [h7]
    refine go ?_;intros;apply wO;refine Nb (N7 _) C6 fun a6 c6 F6=>?_;rw [<-e8];refine go ?_;refine Ca (⟨k+1,_,_,_⟩:Bdu) hk HU
   ·have e8:(below.take (k+1)).filter (fun f=>decide (f∈x.Bj))=((below.take k).filter fun f=>decide (f∈x.Bj)):=by rw [ht,bW];simp [h7]
    refine go ?_;rw [<-e8];refine Ca (⟨k+1,_,_,_⟩:Bdu) hk HU
  ·have hk:below.take k=below:=aV EZ;rw [hk];refine go ?_;refine Ac8 Te rfl fun ys Fy Gy hyl hym=>?_;refine Azs i hi hyl hym fun G1 Gi G2=>?_;refine Av (E:=EC 3) (xs:=ys) fun Fr=>?_;refine Azv (E:=EC 3) (xs:=ys) i EZ fun F6 hc1 hc2=>?_;refine Ar [8] [13] ?_;refine Dh 1 2 ?_;refine dt 3 ?_;refine dt 4 ?_ (hy:=O0 (i:=i) rfl rfl rfl EZ EZ);refine Df 6 7 8 9 ?_;refine Amp 10 (i+1) fun a7 c7 F7=>?_;refine dN 0 ?_;apply Kg;rfl;intro _;refine Cy (EC 3) ?_;refine dk ?_;refine dN 5 ?_
   refine Ni (Pp 3) (H5 3) (fun a6 c6 F6=>?_) (hn:=GE) (h63:=GW) (hby:=GW);refine dk ?_;refine dN 11 ?_;refine Ni (Pp 3) (H5 3) (fun a8 c8 F8=>?_) (h63:=GW) (hby:=GW);refine dk ?_;refine dt 12 ?_;refine dN 13 ?_;refine oS ?_;refine Nm ?_;refine dd ?_;refine Asg (E:=Et) ?_;refine Azq (E:=Et) (m:=3) (ys:=([]++ys.take i)++ys.drop (i+1)) (cs:=(ys.take i).flatten++(ys.drop (i+1)).flatten) (xs:=e.Ah.take i++e.Ah.drop (i+1)) ?_ rfl FB HP;refine go ?_
   refine As3 (n:=(([]++ys.take i)++ys.drop (i+1)).length) ⟨e.Ai,e.Ah.take i++e.Ah.drop (i+1)⟩ HP ?_;exact EF
 ·rw [e1,Ald e2,Bbd e2];refine go ?_;refine A4 rfl (fun h5=>?_) (fun h5=>?_)
  ·rw [aJ EZ];refine go ?_;apply wO;refine Ni C6 Ek fun a4 c4 F4=>?_;refine go ?_;refine As3 e rfl ?_;exact EF
  ·rw [aC EZ];refine go ?_;refine As3 e rfl ?_;exact EF
theorem Ao8 (e:Bh) (n f:Int) (g t o:Nat) (A B:am) (a:aj) (c:Nat) (F:aq) (hl:e.Ah.length<=1000000) (hf:∀x∈e.Ah,x.Bj.length<=1000000/\x.Bj.Pairwise (· < ·)) (hc0:-1000000<=e.Ai) (hc1:e.Ai<=1000000) :
  Fn prog 319 [Ga g o 0,aa n,aa f] [] [.row g t o A [aa e.Ai,ab a e.Ah.length c] B,.ow Et 193 (ab a e.Ah.length c) e.Ah F] (fun (_:aj × Nat × aq)=>True) (fun _=>.bool (Acb e n)) (fun s=>[.row g t o A [aa (Nj e n f).Ai,.slice s.1 (Nj e n f).Ah.length s.2.1] B,.ow Et 193 (.slice s.1 (Nj e n f).Ah.length s.2.1) (Nj e n f).Ah s.2.2]):=by
 refine enter func319 rfl ntmps319 fun w0=>?_;refine go ?_;refine cb (fun w st=>by
  obtain ⟨F', -,hs⟩:=(st.get (p:=.ow Et 193 (ab a e.Ah.length c) e.Ah F) FB).2.sl Qo;exact (Akg e n _ F').val w (Iw ⟨_,rfl,_,rfl,hs⟩)) ?_
 rcases Q1 e n with ⟨h,e1,e2,e3⟩|⟨e1,e2,e3,e4⟩
 ·rw [e1,e3,Ag2 h];obtain ⟨hfx,hpw⟩:=hf e.Ah[Lw e n] (aB h);have hsl:∀y,(e.Ah.set (Lw e n) y).length=e.Ah.length:=fun y=>bU;refine go ?_;refine Aca (m:=3) (Lw e n) ?_ rfl h;rintro _ g2 A2 cs B2 k1 k2 G1 Gi G2 rfl - hc hH;refine Z7 ?_;rintro a5 c5 F5 ev l5;obtain rfl:=Pw ev;refine go ?_;refine cb (fun w st=>by
   obtain ⟨F', -,hs⟩:=(st.get (p:=.ow Bc 3 (.slice a5 e.Ah[Lw e n].Bj.length c5) e.Ah[Lw e n].Bj F5) FB).2.read;exact (Ba6 _ f a5 c5 F' hpw hfx).val w (Iw ⟨FA,hs⟩)) ?_
  cases hq:Awk e.Ah[Lw e n].Bj f
  ·have ep:Ri e.Ah[Lw e n].Bj f=e.Ah[Lw e n].Bj.take (La e.Ah[Lw e n].Bj f)++f::e.Ah[Lw e n].Bj.drop (La e.Ah[Lw e n].Bj f):=by unfold Ri;rw [aC (by simpa [Awk] using hq)]
   refine go ?_;intros;refine Bf (Av1 e.Ah[Lw e n].Bj f (La e.Ah[Lw e n].Bj f) a5 c5 _ F5 (Aut _ _) hfx) fun z _=>?_;rw [<-ep];refine go ?_;refine O1 ⟨e.Ah[Lw e n].Ae,Ri e.Ah[Lw e n].Bj f,e.Ah[Lw e n].Co⟩ ?_;refine V0 _ hH rfl fun F6=>?_;dsimp only;rw [<-hsl ⟨e.Ah[Lw e n].Ae,Ri e.Ah[Lw e n].Bj f,e.Ah[Lw e n].Co⟩];exact BL
  ·have ep:Ri e.Ah[Lw e n].Bj f=e.Ah[Lw e n].Bj:=by unfold Ri;rw [aJ (by simpa [Awk] using hq)]
   rw [ep];refine go ?_;refine O1 ⟨e.Ah[Lw e n].Ae,e.Ah[Lw e n].Bj,e.Ah[Lw e n].Co⟩ ?_;refine V0 _ hH rfl fun F6=>?_;dsimp only;rw [<-hsl ⟨e.Ah[Lw e n].Ae,e.Ah[Lw e n].Bj,e.Ah[Lw e n].Co⟩];exact BL
 ·rw [e1,e3];refine go ?_;refine A4 rfl (fun h5=>?_) (fun h5=>?_)
  ·rw [Ag1 e2 EZ];refine go ?_;refine Ar [0] [18] ?_;refine Df 0 1 2 3 ?_;refine Df 4 5 6 8 ?_;refine Df 9 10 11 12 ?_;refine dN 7 ?_;apply Iq;rfl;rfl;rfl;rfl;exact Ik;exact Ih;intro _;refine dk ?_;refine dt 13 ?_;refine dN 14 ?_;apply Iq;rfl;rfl;rfl;rfl;exact Ik;exact Ih;intro _;refine Eh (E:=Bc) (xs:=[f]) (N7 f) ?_ FB;refine O1 ⟨n,[f],e.Ai+6⟩ ?_;refine dk ?_;refine dN 15 ?_;refine Ab0 Te ⟨n,[f],e.Ai+6⟩ rfl fun a3 c3 F3=>?_;refine dk ?_;refine Dh 16 17 ?_;refine dN 18 ?_;refine oS ?_;refine Nm ?_;refine dd ?_;refine go ?_;exact BL
  ·rw [Ac1 e2 EZ];refine go ?_;exact BL
theorem Aw0 {e:Bh} {n:Int} {l:ar} (h:Lw e n < e.Ah.length):Uj e n l=e.Ah[Lw e n].Bj.filter fun f=>decide (f∈l):=by unfold Uj;rw [aD h]
theorem Bbb {e:Bh} {n:Int} {l:ar} (h:e.Ah[Lw e n]?=none):Uj e n l=if e.Ah.length=5 then l else []:=by unfold Uj;rw [h]
theorem Au1 (x:Int) (gb:Nat) (l:ar) (a:aj) (c:Nat) (F:aq):FV 351 [aa x,Ga gb 0 0] [.cel gb 0 [ab a l.length c],.sl Bc (ab a l.length c) l F] (.bool (!decide (x∈l))):=by
 refine enter func351 rfl ntmps351 fun w0=>?_;refine go ?_;refine Bf (Awq l x _ _ F) fun _ _=>?_;refine go ?_;refine ret () trivial ?_;rw [decide_not];rfl
structure Bhh where
 a:aj
 c:Nat
 F:aq
 a2:aj
 c2:Nat
 F2:aq
theorem Asr (e:Bh) (n:Int) (below:ar) (g t o:Nat) (A B:am) (a:aj) (c:Nat) (F:aq) (a0:aj) (c0:Nat) (F0:aq) (hl:e.Ah.length<=1000000) (hf:∀x∈e.Ah,x.Bj.length<=1000000) (hb:below.length<=1000000) :
  Fn prog 317 [Ga g o 0,aa n,ab a0 below.length c0] [.sl Bc (ab a0 below.length c0) below F0] [.row g t o A [aa e.Ai,ab a e.Ah.length c] B,.ow Et 193 (ab a e.Ah.length c) e.Ah F] (fun (_:Bhh)=>True) (fun s=>.slice s.a2 (Uj e n below).length s.c2) (fun s=>[.row g t o A [aa (Pq e n).Ai,.slice s.a (Pq e n).Ah.length s.c] B,.ow Et 193 (.slice s.a (Pq e n).Ah.length s.c) (Pq e n).Ah s.F,.ow Bc 3 (.slice s.a2 (Uj e n below).length s.c2) (Uj e n below) s.F2]):=by
 refine enter func317 rfl ntmps317 fun w0=>?_;refine go ?_;intros;rename_i gb;refine cb (fun w st=>by
  obtain ⟨F', -,hs⟩:=(st.get (p:=.ow Et 193 (ab a e.Ah.length c) e.Ah F) FB).2.sl Qo;exact (Akg e n _ F').val w (Iw ⟨_,rfl,_,rfl,hs⟩)) ?_
 refine Alr (cs:=[ab a0 below.length c0]) ?_ FB;rcases Q1 e n with ⟨h,e1,e2,e3⟩|⟨e1,e2,e3,e4⟩
 ·rw [e1,Agy h,Aw0 h];have hfx:=hf e.Ah[Lw e n] (aB h);refine go ?_;refine Ac8 Te rfl fun ys Fy Gy hyl hym=>?_;generalize Lw e n=i at *;generalize hx:e.Ah[i]=x at *;refine Azs i h hyl hym fun G1 Gi G2=>?_;rw [hx];refine Z7 ?_;rintro a5 c5 F5 ev l5;have hyi:ys[i]=[aa x.Ae,ab a5 x.Bj.length c5,aa x.Co]:=by simpa using ev
  refine Rf (m:=3) (H5 3) i ?_ FE rfl EZ;rintro _ g2 A2 cs B2 rfl rfl hr hH;obtain ⟨rfl, -⟩:=hr w0;rw [hyi];refine go ?_;refine Bf (Al2 351 [] [Ga gb 0 0] [.cel gb 0 [ab a0 below.length c0],.sl Bc (ab a0 below.length c0) below F0] rfl x.Bj a5 c5 F5 (fun z=>!decide (z∈below)) FC EZ (fun z _ w hA=>(Au1 z gb below a0 c0 F0).val w hA)) fun z _=>?_;have e9:(x.Bj.filter fun z=>!!decide (z∈below))=x.Bj.filter fun z=>decide (z∈below):=by simp only [Bool.not_not]
  rw [e9];rw [<-hyi];refine Pz ys[i] hH hr ?_;rw [bx];refine go ?_;refine Bf (Bds ys e.Ah.length i _ _ _ _ hyl.symm EZ rfl EZ) fun q _=>?_;refine go ?_;refine Asg (E:=Et) ?_;refine Azq (E:=Et) (m:=3) (ys:=ys.take i++ys.drop (i+1)) (cs:=(ys.take i).flatten++(ys.drop (i+1)).flatten) (xs:=e.Ah.take i++e.Ah.drop (i+1)) ?_ rfl FB HP;rw [show (ys.take i++ys.drop (i+1)).length=(e.Ah.take i++e.Ah.drop (i+1)).length by simp [hyl]];refine ret ⟨_,_,_,_,_,_⟩ trivial rfl
 ·rw [e1,Ald e2,Bbb e2];refine go ?_;refine A4 rfl (fun h5=>?_) (fun h5=>?_)
  ·rw [aJ EZ];refine go ?_;refine cn (fun w st=>T9 _ below F0 w (st.get (p:=.sl Bc (ab a0 below.length c0) below F0) FB).2 EZ) fun a6 c6 F6=>?_;exact DM
  ·rw [aC EZ];refine Cf Bc 3 ?_;exact DM
theorem Ahv (t:Pv) (v:Value) (F:aq):FV 79 [v] [.isv Sq v t F] (.bool (Hj t)):=by
 refine enter func79 rfl ntmps79 fun w0=>?_;refine Nv ?_;rintro a1 c1 F1 rfl l1;unfold maxLen at l1;refine go ?_;intros;refine Em [1,2,6,7] (fun k:Nat=>[(8,aa (k:Nat))]) (fun k=>k<=t.Ac.length/\∀j,j < k->Ad2 t.Ac j=true) (fun k=>t.Ac.length - k) 0 ⟨aG _,fun j h=>by omega⟩ fun k hk=>?_;obtain ⟨hk1,hk2⟩:=hk;refine go ?_;refine A4 rfl (fun h1=>?_) (fun h1=>?_)
 ·have hh:k < t.Ac.length:=EZ
  refine Hy (xs:=t.Ac) k ?_;rintro hi b o e1;rw [e1];refine go ?_;refine D6 rfl rfl (fun h2=>?_) (fun h2=>?_)
  ·obtain rfl:k=0:=EZ
   refine go ?_;refine D6 rfl rfl (fun h3=>?_) (fun h3=>?_)
   ·refine go ?_;rw [Aay hh (by rw [Qf hh];exact ay h3)];exact BC
   ·refine go ?_;refine Ca 1 ⟨hh,fun j hj=>by obtain rfl:j=0:=EZ;rw [Qf hh];exact av EZ⟩ (by show t.Ac.length - 1 < t.Ac.length - 0;omega)
  ·refine go ?_;refine D6 rfl rfl (fun h3=>?_) (fun h3=>?_)
   ·refine go ?_;refine ce (fun w s=>H1 _ _ _ w) ?_;cases g:E8 0 t.Ac[k] ((k:Int) - 1)
    ·refine go ?_;rw [Aay hh (by rw [Sm hh EZ];exact g)];exact BC
    ·refine go ?_;refine Ca (k+1) ⟨hh,fun j hj=>?_⟩ (by show t.Ac.length - (k+1) < t.Ac.length - k;omega);rcases bc (bC.1 hj) with h|rfl
     ·exact hk2 j h
     ·rw [Sm hh EZ];exact g
   ·exact absurd h3 EZ
 ·obtain rfl:k=t.Ac.length:=EZ
  refine go ?_;refine ce (fun w s=>H1 _ _ _ w) ?_;refine go ?_;refine ret () trivial ?_;unfold Hj;rw [Kd hk2,fy];rfl
theorem Agf (t:Pv) (v:Value) (F:aq):FV 118 [v] [.isv Sq v t F] (.bool (Hj t)):=by
 refine enter func118 rfl ntmps118 fun w0=>?_;refine Nv ?_;rintro a1 c1 F1 rfl l1;unfold maxLen at l1;refine go ?_;intros;refine ce (fun w s=>Ka _ _ _ w) ?_;cases g0:E8 2 (t.Ac.length:Int) 8
 ·rw [Atj g0];exact AA
 have hb:2<=t.Ac.length/\t.Ac.length<=8:=by
  unfold E8 at g0;simp only [aw,aF] at g0;omega
 have h0:0 < t.Ac.length:=EZ
 refine Hy (xs:=t.Ac) 0 ?_;rintro hi b o e1;rw [e1];refine go ?_;refine A4 rfl (fun h2=>?_) (fun h2=>?_)
 ·refine go ?_;rw [Aay h0 (by rw [Qf h0];exact ay h2)];exact BC
 refine go ?_;refine Em [1,2,3] (fun k:Nat=>[(4,aa ((k+1:Nat):Int))]) (fun k=>k+1<=t.Ac.length/\∀j,j < k+1->Ad2 t.Ac j=true) (fun k=>t.Ac.length - k) 0 ⟨EZ,fun j h=>by obtain rfl:j=0:=EZ;rw [Qf h0];exact av EZ⟩ fun k hk=>?_;obtain ⟨hk1,hk2⟩:=hk;refine go ?_;refine A4 rfl (fun h1=>?_) (fun h1=>?_)
 ·have hh:k+1 < t.Ac.length:=EZ
  refine Hy (a:=some ⟨b,o,none⟩) (xs:=t.Ac) (k+1) ?_;rintro hi2 _ _ e2;cases e2;refine go ?_;refine ce (fun w s=>Ka _ _ _ w) ?_;cases g:E8 0 t.Ac[k+1] (((k+1:Nat):Int) - 1)
  ·refine go ?_;rw [Aay hh (by rw [Sm hh EZ];exact g)];exact BC
  ·refine go ?_;refine Ca (k+1) ⟨hh,fun j hj=>?_⟩ (by show t.Ac.length - (k+1) < t.Ac.length - k;omega);rcases bc (bC.1 hj) with h|rfl
   ·exact hk2 j h
   ·rw [Sm hh EZ];exact g
 ·have hk:k+1=t.Ac.length:=EZ
  refine go ?_;refine ret () trivial ?_;unfold Hj;rw [g0,Kd (fun j hj=>hk2 j EZ)];rfl
structure KiS where
 k:Nat
 a:aj
 c:Nat
 F:aq
theorem N2 (t:Pv) (node:Int) (v:Value) (F:aq) (hz:J9 t.Ac node 1=[]) (hl:1<=t.Ac.length/\t.Ac.length<=1000000):Fn prog 64 [v,aa node] [.isv Sq v t F] [] (fun (_:KiS)=>True) (fun z=>.slice z.a (Ij t.Ac node).length z.c) (fun z=>[.ow Bc 3 (.slice z.a (Ij t.Ac node).length z.c) (Ij t.Ac node) z.F]):=by
 refine enter func64 rfl ntmps64 fun w0=>?_;refine Nv ?_;rintro a1 c1 F1 rfl l1;unfold maxLen at l1;refine go ?_;intros;refine Cy Bc ?_;refine Bx [1,2,4] (fun z:KiS=>[(5,.slice z.a (Tr t.Ac node z.k).length z.c),(6,aa ((z.k+1:Nat):Int))]) (fun z=>[.ow Bc 3 (.slice z.a (Tr t.Ac node z.k).length z.c) (Tr t.Ac node z.k) z.F]) (fun z=>z.k+1<=t.Ac.length) (fun z=>t.Ac.length - z.k) ⟨0,_,_,_⟩ hl.1 fun z hz2=>?_;have hkl:=Ai8 t.Ac node z.k;have hl2:=hl.2;refine go ?_;refine A4 rfl (fun h1=>?_) (fun h1=>?_)
 ·have hh:z.k+1 < t.Ac.length:=EZ
  refine Hy (xs:=t.Ac) (z.k+1) ?_;rintro hi b o e1;rw [e1];refine go ?_;refine A4 rfl (fun h2=>?_) (fun h2=>?_)
  ·refine Io ?_;intros;apply wO;refine Nb (N7 _) C6 fun a9 c9 F9=>?_;refine go ?_;rw [<-Atw hh h2];exact EM
  ·rw [<-Axl hh h2];exact DN
 ·have hk:z.k+1=t.Ac.length:=EZ
  rw [Ai7 hz hk];exact CB
theorem W9 (t:Pv) (node:Int) (v:Value) (F:aq):FV 63 [v,aa node] [.isv Sq v t F] (.bool (D5 t.Ac node)):=by
 refine enter func63 rfl ntmps63 fun w0=>?_;refine Nv ?_;rintro a1 c1 F1 rfl l1;refine go ?_;intros;refine Bf (Awq t.Ac node _ _ F1) fun _ _=>?_;refine go ?_;refine ret () trivial ?_;unfold D5;rw [<-decide_not];rfl
theorem N1 (t:Pv) (node:Int) (v:Value) (F:aq) (hg:Lv t.Ac) (h0:0 < node):FV 139 [v,aa node] [.isv Sq v t F] (.bool (D5 t.Ac node)):=by
 refine enter func139 rfl ntmps139 fun w0=>?_;refine Nv ?_;rintro a1 c1 F1 rfl l1;refine go ?_;intros;refine D6 rfl rfl (fun h1=>?_) (fun h1=>?_)
 ·refine go ?_;refine Bf (N2 t node _ F (Qb hg.z EZ) (by have:=hg.n0;have:=hg.n1;omega)) fun q _=>?_;refine go ?_;refine ret () trivial ?_;rw [Aji];by_cases hk:Ij t.Ac node=[]
  ·rw [hk];rfl
  ·rw [ay hk,ay fun e=>hk (bv.1 EZ)];rfl
 ·exact absurd h0 h1
theorem Amu {e:Bh} (h:Ba e=true) {x:Ha} (hx:x∈e.Ah):x.Bj.Pairwise (· < ·):=by
 unfold Ba at h;simp only [aw] at h;obtain ⟨i,hi,rfl⟩:=bi hx;have:=Jp h.2 i hi;rw [Km hi] at this;simp only [Kv,aw] at this;exact (Yj this.1.2.2.1).1
theorem Arn {e:Bh} {n:Int} {l:ar} (h:Ba e=true) (h2:Qk 1 7 l=true):Aav e n l=Uj e n l:=by
 unfold Aav Uj;cases hx:e.Ah[Lw e n]? with
 | none=>rfl
 | some x=>exact (Amv (Amu h (cg hx)) (Yj h2).1).symm
end Go.Proofs.YtkoldibamfjghaaGreatDoor
namespace Go.Proofs.YtkoldibamfjghaaGreatDoor

open Go.RowKit
end Go.Proofs.YtkoldibamfjghaaGreatDoor
namespace Go.Proofs.YtkoldibamfjghaaGreatDoor
open Go.RowKit
def K0 (e:Bh) (n:Int):ar:=match e.Ah[Lw e n]? with
 | some x=>x.Bj
 | none=>[]
def Fh (e:Bh) (n:Int):ar × Bool:=if Ba e && Bz n then (K0 e n,true) else ([],false)
theorem Tv {e:Bh} {n:Int} (h:(Ba e && Bz n)=false):Fh e n=([],false):=by unfold Fh;rw [h];rfl
theorem Ao9 (e:Bh) (n:Int) (v:Value) (F:aq):Fn prog 199 [v,aa n] [.isv Bv v e F] [] (fun (_:aj × Nat × aq)=>True) (fun s=>.tuple #[.slice s.1 (Fh e n).1.length s.2.1,.bool (Fh e n).2]) (fun s=>[.ow Bc 3 (.slice s.1 (Fh e n).1.length s.2.1) (Fh e n).1 s.2.2]):=by
 refine enter func199 rfl ntmps199 fun w0=>?_;refine Cf Bc 3 ?_;refine Ew ?_;rintro a1 c1 F1 rfl l1;refine go ?_;intros;refine cb (fun w st=>Ub _ e _ w (st.get (p:=.isv Bv (.agg #[aa e.Ai,ab a1 e.Ah.length c1]) e F) FB)) ?_;cases g1:Ba e
 ·skip
  rw [Tv (by simp [g1])];refine go ?_;exact BL
 obtain ⟨hck,hl5,hf7⟩:=Uk g1;refine go ?_;refine ce (fun w s=>I6 n _) ?_;cases g2:Bz n
 ·skip
  rw [Tv (by simp [g1,g2])];refine go ?_;exact BL
 refine go ?_;refine Bf (Akg e n _ F) fun _ _=>?_;rw [show Fh e n=(K0 e n,true) by unfold Fh;rw [g1,g2];rfl];rcases Q1 e n with ⟨h,e1,e2,e3⟩|⟨e1,e2,e3,e4⟩
 ·have hfx:=hf7 e.Ah[Lw e n] (aB h);rw [e1,show K0 e n=e.Ah[Lw e n].Bj by unfold K0;rw [aD h]];refine Vb (xs:=e.Ah) (Lw e n) ?_;rintro hi b o a5 c5 F5 e6 l5;rw [e6];refine go ?_;refine cn (fun w st=>T9 _ e.Ah[Lw e n].Bj F5 w (st.get (p:=.sl Bc (.slice a5 e.Ah[Lw e n].Bj.length c5) e.Ah[Lw e n].Bj F5) FB).2 EZ) fun a6 c6 F6=>?_;refine go ?_;exact BL
 ·rw [e1,show K0 e n=[] by unfold K0;rw [e2]];refine go ?_;exact BL
theorem Ahd (e:Bh) (n:Int) (v:Value) (F:aq):Fn prog 140 [v,aa n] [.isv Bv v e F] [] (fun (_:aj × Nat × aq)=>True) (fun s=>.tuple #[.slice s.1 (Fh e n).1.length s.2.1,.bool (Fh e n).2]) (fun s=>[.ow Bc 3 (.slice s.1 (Fh e n).1.length s.2.1) (Fh e n).1 s.2.2]):=by
 refine enter func140 rfl ntmps140 fun w0=>?_;refine Ew ?_;rintro a1 c1 F1 rfl l1;refine go ?_;intros;refine cb (fun w st=>Ajc _ e _ w (st.get (p:=.isv Bv (.agg #[aa e.Ai,ab a1 e.Ah.length c1]) e F) FB)) ?_;cases g1:Ba e
 ·skip
  rw [Tv (by simp [g1])];refine go ?_;intros;refine Cy Bc ?_;exact BL
 obtain ⟨hck,hl5,hf7⟩:=Uk g1;refine go ?_;refine ce (fun w s=>Nt n _) ?_;cases g2:Bz n
 ·skip
  rw [Tv (by simp [g1,g2])];refine go ?_;intros;refine Cy Bc ?_;exact BL
 refine go ?_;refine Bf (Acl e n _ F) fun _ _=>?_;rw [show Fh e n=(K0 e n,true) by unfold Fh;rw [g1,g2];rfl];rcases Q1 e n with ⟨h,e1,e2,e3⟩|⟨e1,e2,e3,e4⟩
 ·have hfx:=hf7 e.Ah[Lw e n] (aB h);rw [e1,show K0 e n=e.Ah[Lw e n].Bj by unfold K0;rw [aD h]];refine Vb (xs:=e.Ah) (Lw e n) ?_;rintro hi b o a5 c5 F5 e6 l5;rw [e6];refine go ?_;refine cn (fun w st=>X9 _ e.Ah[Lw e n].Bj F5 w (st.get (p:=.sl Bc (.slice a5 e.Ah[Lw e n].Bj.length c5) e.Ah[Lw e n].Bj F5) FB).2 EZ) fun a6 c6 F6=>?_;refine go ?_;exact BL
 ·rw [e1,show K0 e n=[] by unfold K0;rw [e2]];refine go ?_;intros;refine Cy Bc ?_;exact BL
theorem Aym (l:ar) (n:Int):(Ri l n).length<=l.length+1:=by
 unfold Ri
 split
 ·omega
 ·simp only [aA,aP,aU,aX];omega
theorem Hb {e:Bh}:Ba e=true↔Kq e.Ai=true/\e.Ah.length<=5/\(∀x∈e.Ah,Kv e.Ai x=true)/\e.Ah.Pairwise fun a b=>a.Ae≠b.Ae:=by
 unfold Ba;simp only [aw,aF];constructor
 ·rintro ⟨⟨h1,h2⟩,h3⟩;refine ⟨h1,h2,fun x hx=>?_,bh.2 fun i j hi hj hij=>?_⟩
  ·obtain ⟨i,hi,rfl⟩:=bi hx;have:=Jp h3 i hi;rw [Km hi,aw] at this;exact this.1
  ·have:=Jp h3 j hj;rw [Km hj,aw,bA,cD] at this;have:=this.2 e.Ah[i] (cM.2 ⟨i,EZ,rfl⟩);exact EX
 ·rintro ⟨h1,h2,h3,h4⟩;refine ⟨⟨h1,h2⟩,Kd fun i hi=>?_⟩;rw [Km hi,h3 _ (aB hi),bV,bA,cD];intro x hx;obtain ⟨j,hj,rfl⟩:=cM.1 hx;have:=bh.1 h4 j i EZ hi EZ;exact EX
theorem O8 {c:Int} {x:Ha}:Kv c x=true↔Bz x.Ae=true/\0 < x.Bj.length/\(x.Bj.Pairwise (· < ·)/\∀z∈x.Bj,1<=z/\z<=7)/\c+1<=x.Co/\x.Co<=c+6:=by
 unfold Kv E8;simp only [aw,aF];exact ⟨fun ⟨a,b,c,d⟩=>⟨a,b,Yj c,d⟩,fun ⟨a,b,c,d⟩=>⟨a,b,Aju c.1 c.2,d⟩⟩
theorem An7 (l:ar) (n:Int):(∀j (_:j < La l n) (h:j < l.length),l[j] < n)/\∀h:La l n < l.length,¬l[La l n] < n:=by
 have:=Qs (p:=fun x=>decide (x < n)) (xs:=l);exact ⟨fun j hj h=>du (this.2.1 j hj h),fun h=>of_decide_eq_false (this.2.2 h)⟩
theorem An8 {l:ar} {n x:Int}:x∈Ri l n↔x=n\/x∈l:=by
 unfold Ri
 split
 ·rename_i h;have:=cg h;exact ⟨fun h=>.inr h,fun h=>by rcases h with rfl|h;exact this;exact h⟩
 ·rw [aK,aH];constructor
  ·rintro (h|h|h)
   ·exact .inr (bO h)
   ·exact .inl h
   ·exact .inr (bu h)
  ·rintro (h|h)
   ·exact .inr (.inl h)
   ·rw [<-bo (La l n) l,aK] at h;rcases h with h|h
    ·exact .inl h
    ·exact .inr (.inr h)
theorem Bcb {l:ar} {n:Int} (h:l.Pairwise (· < ·)):(Ri l n).Pairwise (· < ·):=by
 obtain ⟨s1,s2⟩:=An7 l n;have hp:=bh.1 h;unfold Ri
 split
 ·exact h
 ·rename_i hne;refine dJ.2 ⟨h.sublist (fC _ _),di.2 ⟨fun z hz=>?_,h.sublist (fA _ _)⟩,fun a ha b hb=>?_⟩
  ·obtain ⟨j,hj,rfl⟩:=fE.1 hz;have hk:La l n < l.length:=EZ
   have h1:=s2 hk;have h2:l[La l n]≠n:=fun e=>hne (by rw [aD hk,e]);rcases cy j with rfl|hj0
   ·simp only [bR];omega
   ·have:=hp (La l n) (La l n+j) hk EZ EZ;omega
  ·obtain ⟨i,hi,rfl⟩:=cM.1 ha;have h1:=s1 i EZ EZ;rcases aH.1 hb with rfl|hb
   ·exact h1
   ·obtain ⟨j,hj,rfl⟩:=fE.1 hb;exact hp i (La l n+j) EZ EZ EZ
theorem M5 {f:Int}:Oi f=true↔1<=f/\f<=7:=by unfold Oi E8;simp
theorem Atn {e:Bh} {n f:Int} (hg:Ba e=true) (hn:Bz n=true) (hf:Oi f=true):Ba (Nj e n f)=true:=by
 obtain ⟨h1,h2,h3,h4⟩:=Hb.1 hg;obtain ⟨f1,f2⟩:=M5.1 hf;rcases Q1 e n with ⟨h, -,e2, -⟩|⟨-,e2, -,e4⟩
 ·rw [Ag2 h];have hx:=O8.1 (h3 _ (aB h));refine Hb.2 ⟨h1,HK,fun x hx'=>?_,?_⟩
  ·rcases bE hx' with h'|rfl
   ·exact h3 x h'
   ·refine O8.2 ⟨hx.1,?_,⟨Bcb hx.2.2.1.1,fun z hz=>?_⟩,hx.2.2.2⟩
    ·exact List.length_pos_of_mem (An8.2 (.inl rfl))
    ·rcases An8.1 hz with rfl|hz
     ·exact ⟨f1,f2⟩
     ·exact hx.2.2.1.2 z hz
  ·refine bh.2 fun i j hi hj hij=>?_;have hp:=bh.1 h4 i j IA ID hij;simp only [fM]
   split <;> split <;> simp_all
 ·by_cases hl:e.Ah.length < 5
  ·rw [Ag1 e2 hl];refine Hb.2 ⟨h1,FF,fun x hx=>?_,?_⟩
   ·rcases aK.1 hx with h'|h'
    ·exact h3 x h'
    ·simp only [aH,aT,bm] at h';subst h';exact O8.2 ⟨hn,FB,⟨FB,by simp [f1,f2]⟩,by show e.Ai+1<=e.Ai+6;omega,by show e.Ai+6<=e.Ai+6;omega⟩
   ·refine dJ.2 ⟨h4,FB,fun a ha b hb=>?_⟩;simp only [aH,aT,bm] at hb;subst hb;exact e4 a ha
  ·rw [Ac1 e2 hl];exact hg
theorem Atm {e:Bh} {n:Int} (hg:Ba e=true):Ba (Pq e n)=true:=by
 obtain ⟨h1,h2,h3,h4⟩:=Hb.1 hg;rcases Q1 e n with ⟨h, -,e2, -⟩|⟨-,e2, -,e4⟩
 ·rw [Agy h];have hs:(e.Ah.take (Lw e n)++e.Ah.drop (Lw e n+1)).Sublist e.Ah:=by
   have:=List.Sublist.append (List.Sublist.refl (e.Ah.take (Lw e n))) (List.drop_sublist_drop_left e.Ah (Nat.le_succ (Lw e n)))
   rwa [bo] at this
  exact Hb.2 ⟨h1,bG hs.length_le h2,fun x hx=>h3 x (hs.subset hx),h4.sublist hs⟩
 ·rw [Ald e2];exact hg
theorem Aau {e:Bh} {n:Int} {l:ar}:∀z∈Uj e n l,z∈l:=fun z hz=>by
 unfold Uj at hz
 split at hz
 ·have:=(bP.1 hz).2;exact EX
 ·split at hz
  ·exact hz
  ·simp at hz
theorem Aq2 {r:A1} {d:Int} (hg:Lu r) (hk:r.Ai < 9999) (d0:1<=d) (d1:d<=8):Lz (Nh r d) r.Aa.next=true/\∀q∈Nh r d,Iv r.Aa q.Ae=false:=by
 have k0:=hg.k0;obtain ⟨h1,h2,h3,h4⟩:=Dj.1 hg.q;refine ⟨Dj.2 ⟨h1,bG (Adc r d) h2,fun q hq=>?_,?_⟩,fun q hq=>(Abo hg hq).2.2⟩
 ·obtain ⟨q',hq',h⟩:=ed.1 hq;have ho:=Er.1 (h3 q' hq');unfold Ty at h
  split at h
  ·cases h;exact h3 q hq'
  ·split at h
   ·cases h
   ·rename_i hn;have t0:=ho.t0;have t1:=ho.t1
    split at h
    ·cases h;exact Er.2 ⟨ho.n,ho.g,by show (1:Int)<=2;decide,by show (2:Int)<=3;decide,by show 0<=r.Ai+1+3;omega,by show r.Ai+1+3<=10007;omega,by show 0<=q'.Ee+1;omega,by show q'.Ee+1<=3;omega⟩
    ·cases h;exact Er.2 ⟨ho.n,ho.g,by show (1:Int)<=1;decide,by show (1:Int)<=3;decide,by show 0<=r.Ai+1+d;omega,by show r.Ai+1+d<=10007;omega,t0,t1⟩
 ·unfold Nh;refine List.Pairwise.filterMap _ (fun a a' h b hb b' hb'=>?_) h4;rw [Alu hb,Alu hb'];exact h
theorem Avi {r:A1} {d:Int} (hg:Lu r) (hk:r.Ai < 9999) (d0:1<=d) (d1:d<=8):Lu (C1 r d):=by
 have k0:=hg.k0;obtain ⟨hq,hf⟩:=Aq2 hg hk d0 d1;by_cases hL:C9 r=[]
 ·rw [Ahl hL];refine ⟨by show 0<=r.Ai+1;omega,by show r.Ai+1<=9999;omega,hg.w,hq,hf,fun hs=>?_⟩;obtain ⟨e1,e2⟩:=hg.z hs;refine ⟨e1,?_⟩;show Nh r d=[];unfold Nh;rw [e2];rfl
 ·have hst:r.Be=true:=by
   cases hs:r.Be
   ·exfalso;apply hL;unfold C9;rw [(hg.z hs).2];rfl
   ·rfl
  rw [Ada hL];obtain ⟨e1, -,e3, -⟩:=Uu (t:=Dk (C9 r)) hg.w;have hs8:=(Aey hg hL).1;have hgp:=@Ym r.Aa.next (Dk (C9 r))
  have hw:Cv (Jd r.Aa (Dk (C9 r)))=true:=Adl _ _ hg.w;rw [<-Aec hg hL];refine ⟨by show 0<=r.Ai+1;omega,by show r.Ai+1<=9999;omega,hw,Adz (m:=(Jc r.Aa (Dk (C9 r))).length) EZ hq hw e1,O7,fun hs=>?_⟩;have:r.Be=false:=hs;rw [hst] at this;cases this
end Go.Proofs.YtkoldibamfjghaaGreatDoor
namespace Go.Proofs.YtkoldibamfjghaaGreatDoor

def Ban:Cr:=⟨⟨0,0,[]⟩,0,0,[]⟩
end Go.Proofs.YtkoldibamfjghaaGreatDoor
namespace Go.Proofs.YtkoldibamfjghaaGreatDoor
open Go.RowKit
structure Akk where
 a:aj
 c:Nat
 a2:aj
 c2:Nat
 F:aq
def Ao2 (x:Cr) (W:Aw):Cr:=⟨W,x.Ai,x.quiet,Nq W x.holds⟩
structure Bfy (x:Cr):Prop where
 w:D8 x.Aa=true
 l:x.Aa.Ak.length<=6
 t0:0<=x.Aa.Am
 t1:x.Aa.Am<=65535
 k0:0<=x.Ai
 k1:x.Ai<=9999
 m:x.holds.length<=6
 n:∀h∈x.holds,Bz h.Ae=true
 u:∀h∈x.holds,x.Ai+1<=h.Co
 b:∀h∈x.holds,h.Co<=x.Ai+3
theorem J3 {x:Cr} (h:Ck x=true):Bfy x:=by
 unfold Ck at h;simp only [aw] at h;obtain ⟨⟨⟨h1,h2⟩,h3⟩,h4⟩:=h;obtain ⟨⟨t0,t1⟩,⟨s0,s1⟩,s2, -⟩:=Ds.1 h1;obtain ⟨k0,k1⟩:=Akp h2;have hc:∀h∈x.holds,Bz h.Ae=true/\x.Ai+1<=h.Co/\h.Co<=x.Ai+3:=fun h hh=>by
  obtain ⟨i,hi,rfl⟩:=bi hh;have:=aW.1 h4 i IA;rw [Pi hi] at this;simp only [aw,E8,aF] at this;exact ⟨this.1.1.1,this.1.2.1,this.1.2.2⟩
 have hg:∀i,(hi:i < x.holds.length)->(i:Int)<=gp x.Aa.Am x.holds[i].Ae/\gp x.Aa.Am x.holds[i].Ae < 6:=by
  intro i
  induction i with
  | zero =>
   intro hi;have:=aW.1 h4 0 IA;rw [Pi hi] at this;simp only [aw,I5,aF] at this;have b:=Le x.Aa.Am x.holds[0].Ae;exact ⟨EZ,by have:=this.1.1.2;omega⟩
  | succ i ih =>
   intro hi;have p:=ih EZ;have:=aW.1 h4 (i+1) IA;rw [Pi hi] at this;simp only [aw,I5,aF,bZ,bA,bQ] at this;have q:=this.2;have q2:=this.1.1.2;simp only [dX] at q;rcases q with q|q
   ·omega
   ·exact ⟨EZ,EZ⟩
 have hm:x.holds.length<=6:=by
  by_cases h0:x.holds.length<=6
  ·exact h0
  ·have:=hg 6 EZ;omega
 exact ⟨h1,EZ,t0,t1,k0,k1,hm,fun h hh=>(hc h hh).1,fun h hh=>(hc h hh).2.1,fun h hh=>(hc h hh).2.2⟩
def Za (hs:List Iz):Prop:=∀h∈hs, -1<=h.Ae/\h.Ae<=65536
theorem Ae7 {hs:List Iz} (hn:∀h∈hs,Bz h.Ae=true):Za hs:=fun h hh=>by have:=A9.1 (hn h hh);omega
def Ii (W:Aw) (cl:Int) (hs:List Iz):List Iz:=hs.filter fun h=>I5 W h.Ae && decide (cl < h.Co)
theorem Xc {W:Aw} {cl:Int} {hs:List Iz} (h:∀z∈hs,cl+1<=z.Co):Ii W cl hs=Nq W hs:=by
 unfold Ii Nq;refine ew fun z hz=>?_;rw [av (show cl < z.Co by have:=h z hz;omega),fy]
theorem Ayw (h:Iz) (w:World):Cz Bw w [aa h.Ae,aa h.Co] [h] []:=⟨_,[],[],[],FB,FB,⟨rfl,rfl⟩,rfl,rfl⟩
structure HoS where
 k:Nat
 a:aj
 c:Nat
 F:aq
theorem Ads (W:Aw) (hs:List Iz) (cl:Int) (v:Value) (a2:aj) (c2:Nat) (F G:aq) (t0:0<=W.Am) (t1:W.Am<=65535) (hl:hs.length<=1000) (hn:Za hs) :
  Fn prog 246 [ab a2 hs.length c2,v,aa cl] [.isv Cj v W F,.sl Bw (ab a2 hs.length c2) hs G] [] (fun (_:aj × Nat × aq)=>True)
   (fun z=>.slice z.1 (Ii W cl hs).length z.2.1) (fun z=>[.ow Bw 191 (.slice z.1 (Ii W cl hs).length z.2.1) (Ii W cl hs) z.2.2]):=by
 refine enter func246 rfl ntmps246 fun w0=>?_;refine Gn ?_;rintro a1 c1 F1 rfl l1;refine go ?_;intros;refine Cy Bw ?_;refine Bx [0,2,4,6] (fun s:HoS=>[(7,.slice s.a (Ii W cl (hs.take s.k)).length s.c),(8,aa s.k)]) (fun s=>[.ow Bw 191 (.slice s.a (Ii W cl (hs.take s.k)).length s.c) (Ii W cl (hs.take s.k)) s.F]) (fun s=>s.k<=hs.length) (fun s=>hs.length - s.k) ⟨0,_,0,_⟩ (aG _) fun s hk=>?_;obtain ⟨k,a5,c5,F5⟩:=s;dsimp only at hk ⊢;refine go ?_;refine A4 rfl (fun h3=>?_) (fun h3=>?_)
 ·have hk3:k < hs.length:=EZ
  obtain ⟨n0,n1⟩:=hn hs[k] (aB hk3);have hkl:(Ii W cl (hs.take k)).length<=1000:=by have:=bJ (fun h:Iz=>I5 W h.Ae && decide (cl < h.Co)) (hs.take k);unfold Ii;simp only [aP] at this;omega
  refine Wt (xs:=hs) k ?_;rintro hi b o e;rw [e];cases g5:I5 W hs[k].Ae
  ·refine Io ?_;intros;refine Ar [0,2] [] ?_;refine Df 0 1 2 3 ?_;refine Dh 4 5 ?_;refine dN 6 ?_;refine oC ?_;refine cb (fun w st=>(Yc W hs[k].Ae _ _ t0 t1 n0 n1).val w (Iw (st.get (p:=.isv Cj (.agg #[aa W.Am,aa W.size,ab a1 W.Ak.length c1]) W F) FB))) ?_;rw [g5];refine dk ?_;refine dt 7 ?_;refine ds 8 ?_;refine ds 9 ?_;refine ds 10 ?_;refine ds 11 ?_;refine ds 12 ?_;refine ds 13 ?_;refine ds 14 ?_;refine dt 15 ?_;refine dd ?_;refine go ?_;have hf:Ii W cl (hs.take (k+1))=Ii W cl (hs.take k):=Da hk3 (by rw [g5];rfl);rw [<-hf]
   refine Ca ⟨k+1,a5,c5,F5⟩ hk3 KC
  ·refine Io ?_;intros;refine Ar [0,2] [] ?_;refine Df 0 1 2 3 ?_;refine Dh 4 5 ?_;refine dN 6 ?_;refine oC ?_;refine cb (fun w st=>(Yc W hs[k].Ae _ _ t0 t1 n0 n1).val w (Iw (st.get (p:=.isv Cj (.agg #[aa W.Am,aa W.size,ab a1 W.Ak.length c1]) W F) FB))) ?_;rw [g5];refine dk ?_;refine dt 7 ?_;refine C5 8 ?_;refine C5 9 ?_;refine C5 10 ?_;refine C5 11 ?_;refine C5 12 ?_;refine C5 13 ?_;refine C5 14 ?_;refine dt 15 ?_;refine dd ?_;refine go ?_;refine A4 rfl (fun h5=>?_) (fun h5=>?_)
   ·refine go ?_;intros;apply wO;refine Nb (Ayw hs[k]) Is fun a6 c6 F6=>?_;have hf:Ii W cl (hs.take (k+1))=Ii W cl (hs.take k)++[hs[k]]:=Gz hk3 (by rw [g5,av h5];rfl);rw [<-hf];refine go ?_;refine Ca ⟨k+1,a6,c6,F6⟩ hk3 KC
   ·refine go ?_;have hf:Ii W cl (hs.take (k+1))=Ii W cl (hs.take k):=Da hk3 (by rw [g5,ay h5];rfl);rw [<-hf];refine Ca ⟨k+1,a5,c5,F5⟩ hk3 KC
 ·have hkl:k=hs.length:=EZ
  subst hkl;rw [bl];refine go ?_;refine ret (a5,c5,F5) trivial rfl
def Xz (x:Cr) (W:Aw):Cr:=⟨W,x.Ai,x.quiet,Ii W x.Ai x.holds⟩
theorem Baf {x:Cr} {W:Aw} (h:∀z∈x.holds,x.Ai+1<=z.Co):Xz x W=Ao2 x W:=by unfold Xz Ao2;rw [Xc h]
theorem S8 (x:Cr) (W:Aw) (v vw:Value) (F Fw:aq) (y0:0<=W.Am) (y1:W.Am<=65535) (hl:x.holds.length<=1000) (hn:Za x.holds) :
  Fn prog 234 [v,vw] [.isv Ex v x F,.isv Cj vw W Fw] [] (fun (_:Akk)=>True) (fun s=>.agg #[aa W.Am,aa W.size,ab s.a W.Ak.length s.c,aa x.Ai,aa x.quiet,.slice s.a2 (Ii W x.Ai x.holds).length s.c2])
   (fun s=>[.isv Ex (.agg #[aa W.Am,aa W.size,ab s.a W.Ak.length s.c,aa x.Ai,aa x.quiet,.slice s.a2 (Ii W x.Ai x.holds).length s.c2]) (Xz x W) s.F]):=by
 refine enter func234 rfl ntmps234 fun w0=>?_;refine H9 ?_;rintro a1 c1 F1 a2 c2 F2 rfl l1 l2;refine Gn (x:=W) (F:=Fw) ?_;rintro a3 c3 F3 rfl l3;refine go ?_;intros;refine Ar [1,2] [] ?_;refine Df 0 1 2 3 ?_;refine Df 4 5 6 7 ?_;refine Dh 8 9 ?_;refine dN 10 ?_;refine oC ?_;refine Bf (Ads W x.holds x.Ai _ a2 c2 Fw F2 y0 y1 EZ hn) fun z _=>?_;refine dk ?_;refine dt 11 ?_;refine dN 12 ?_;refine oS ?_;refine dk ?_;refine dd ?_;refine go ?_;refine Av (E:=Bw) fun F9=>?_;refine Fb (Xz x W) ?_;exact EF
theorem At3 (x:Cr) (W:Aw) (v vw:Value) (F Fw:aq) (y0:0<=W.Am) (y1:W.Am<=65535) (hl:x.holds.length<=1000) (hn:∀h∈x.holds,Bz h.Ae=true) (hu:∀h∈x.holds,x.Ai+1<=h.Co) :
  Fn prog 234 [v,vw] [.isv Ex v x F,.isv Cj vw W Fw] [] (fun (_:Akk)=>True) (fun s=>.agg #[aa W.Am,aa W.size,ab s.a W.Ak.length s.c,aa x.Ai,aa x.quiet,.slice s.a2 (Nq W x.holds).length s.c2])
   (fun s=>[.isv Ex (.agg #[aa W.Am,aa W.size,ab s.a W.Ak.length s.c,aa x.Ai,aa x.quiet,.slice s.a2 (Nq W x.holds).length s.c2]) (Ao2 x W) s.F]):=by
 have h:=S8 x W v vw F Fw y0 y1 hl (Ae7 hn);rw [Baf hu,Xc hu] at h;exact h
end Go.Proofs.YtkoldibamfjghaaGreatDoor
namespace Go.Proofs.YtkoldibamfjghaaGreatDoor

open Go.RowKit Go.Shelf
end Go.Proofs.YtkoldibamfjghaaGreatDoor
namespace Go.Proofs.YtkoldibamfjghaaGreatDoor
open Go.RowKit
theorem Ro.frame {α:Type} {E:Bt α} {w w':World} {v x F} (h:Ro E w v x F) (hF:∀b∈F,w'.heap[b]?=w.heap[b]?):Ro E w' v x F:=by
 obtain ⟨cs,hv,h⟩:=h;exact ⟨cs,hv,E.frame h hF⟩
theorem Arg (t n:Int):Cc (Cc t 1) (n - 1)=Cc t n:=by unfold Cc;omega
def De (x:Aw):Aw:=if (x.Ak.length:Int)=x.size then ⟨Cc x.Am 1,x.size,x.Ak.drop 1⟩ else x
def Di (x:Aw) (s:au):Aw:=⟨(De x).Am,x.size,(De x).Ak++[s]⟩
def Dw (x:Aw) (s:au):As:=⟨1,Cc x.Am x.Ak.length,(De x).Am,Cc (De x).Am ((De x).Ak.length+1),s⟩
theorem In (t z:Int) (a:aj) (n c:Nat) (w:World) (h0:0<=t) (h1:t<=65535) (hn:n<=4294967296) :
  Calls prog 195 #[.agg #[aa t,aa z,ab a n c]] w (RB (aa (Cc t n)) w):=by
 go_enter func195,ntmps195
 go_wp2_with fail;refine (Rp _ _ _ EZ EZ).mono ?_;rintro e w' ⟨rfl,rfl⟩;go_wp2_with fail
 go_ret
 exact ⟨rfl,(Below.refl _ _).alloc (aL _) _⟩
theorem Ta (t z:Int) (a:aj) (n c:Nat) (w:World) (h0:0<=t) (h1:t<=65535) (hn:n<=4294967296) :
  Calls prog 133 #[.agg #[aa t,aa z,ab a n c]] w (RB (aa (Cc t n)) w):=by
 go_enter func133,ntmps133
 go_wp2_with fail;refine (Ht _ _ _ EZ EZ).mono ?_;rintro e w' ⟨rfl,rfl⟩;go_wp2_with fail
 go_ret
 exact ⟨rfl,(Below.refl _ _).alloc (aL _) _⟩
structure Bhb where
 Bdm:ai
 Bdi:au
 Bgq:Int
end Go.Proofs.YtkoldibamfjghaaGreatDoor
namespace Go.Proofs.YtkoldibamfjghaaGreatDoor

open Go.RowKit Go.Shelf
end Go.Proofs.YtkoldibamfjghaaGreatDoor
namespace Go.Proofs.YtkoldibamfjghaaGreatDoor
open Go.RowKit
structure Bhx (x:Bhb):Prop where
 l:x.Bdm.length<=8
 q:∀s∈x.Bdm,s.size<=60
 f:x.Bdi.size<=40
 u0:0<=x.Bgq
 u1:x.Bgq<=x.Bdi.size
end Go.Proofs.YtkoldibamfjghaaGreatDoor
namespace Go.Proofs.YtkoldibamfjghaaGreatDoor

open Go.RowKit Go.Shelf
end Go.Proofs.YtkoldibamfjghaaGreatDoor
namespace Go.Proofs.YtkoldibamfjghaaGreatDoor
open Go.RowKit
section
variable {c:Cx} {fr:Fr} {H:List Pc} {Φ:Gl}
end
end Go.Proofs.YtkoldibamfjghaaGreatDoor
namespace Go.Proofs.YtkoldibamfjghaaGreatDoor

open Go.RowKit
end Go.Proofs.YtkoldibamfjghaaGreatDoor
namespace Go.Proofs.YtkoldibamfjghaaGreatDoor
open Go.RowKit
structure PuS where
 a:aj
 c:Nat
 F:aq
theorem Ql {x:Aw} (t0:0<=x.Am) (t1:x.Am<=65535):0<=(De x).Am/\(De x).Am<=65535:=by
 unfold De
 split
 ·exact I7 _ _
 ·exact ⟨t0,t1⟩
theorem Baz (x:Aw) (k:Nat) (g t o:Nat) (A B:am) (r1 r2 r3:Value) (a:aj) (c:Nat) (F:aq) (hl:x.Ak.length<=6) (hk:k<=x.Ak.length) (t0:0<=x.Am) (t1:x.Am<=65535) :
  Fn prog 305 [Ga g o 0,aa (k:Nat)] [] [.row g t o A [aa x.Am,aa x.size,ab a x.Ak.length c,r1,r2,r3] B,.ow A8 9 (ab a x.Ak.length c) x.Ak F] (fun (_:PuS)=>True) (fun _=>.tuple #[]) (fun z=>[.row g t o A [aa (Cc x.Am k),aa x.size,.slice z.a (x.Ak.drop k).length z.c,r1,r2,r3] B,.ow A8 9 (.slice z.a (x.Ak.drop k).length z.c) (x.Ak.drop k) z.F]):=by
 refine enter func305 rfl ntmps305 fun w0=>?_;refine Av (E:=A8) (xs:=x.Ak) fun Fr=>?_;refine go ?_;apply wO;refine sld k fun a2 c2 F2=>?_;refine go ?_;refine cn (fun w st=>Aah _ _ _ _ (st.get (p:=.sl A8 (.slice a2 (x.Ak.drop k).length c2) (x.Ak.drop k) F2) FD).2 JW) fun a6 c6 F6=>?_;refine go ?_;refine ce (fun w st=>Rp x.Am k w EZ EZ) ?_;refine go ?_;refine Vz ?_;refine ret ⟨a6,c6,F6⟩ trivial rfl
theorem Bep (x:Aw) (s:au) (g t o:Nat) (A B:am) (r1 r2 r3:Value) (a:aj) (c:Nat) (F:aq) (hl:x.Ak.length<=6) (ht:Bz x.Am=true) (hs:s.size<=maxLen) (hz:1<=x.size) :
  Fn prog 257 [Ga g o 0,af s] [] [.row g t o A [aa x.Am,aa x.size,ab a x.Ak.length c,r1,r2,r3] B,.ow A8 9 (ab a x.Ak.length c) x.Ak F] (fun (_:PuS)=>True) (fun _=>.agg #[aa 1,aa (Dw x s).Ae,aa (Dw x s).Am,aa (Dw x s).E7,af s])
   (fun z=>[.row g t o A [aa (Di x s).Am,aa (Di x s).size,.slice z.a (Di x s).Ak.length z.c,r1,r2,r3] B,.ow A8 9 (.slice z.a (Di x s).Ak.length z.c) (Di x s).Ak z.F]):=by
 obtain ⟨t0,t1⟩:=A9.1 ht;obtain ⟨R,hR⟩:∃R,De x=R:=⟨_,rfl⟩;have hb:=Ql t0 t1;have hRl:R.Ak.length<=6:=by
  rw [<-hR];unfold De
  split
  ·show (x.Ak.drop 1).length<=6;rw [aX];omega
  ·exact hl
 have hnum:Cc R.Am R.Ak.length=Cc x.Am x.Ak.length:=by
  rw [<-hR];unfold De
  split
  ·rename_i h;show Cc (Cc x.Am 1) ((x.Ak.drop 1).length:Nat)=_;rw [aX,show ((x.Ak.length - 1:Nat):Int)=(x.Ak.length:Int) - 1 by omega,Arg]
  ·rfl
 rw [show Di x s=⟨R.Am,x.size,R.Ak++[s]⟩ by unfold Di;rw [hR],show Dw x s=⟨1,Cc x.Am x.Ak.length,R.Am,Cc R.Am (R.Ak.length+1),s⟩ by unfold Dw;rw [hR]];dsimp only;rw [hR] at hb;refine enter func257 rfl ntmps257 fun w0=>?_;refine go ?_;intros;refine cb (fun w st=>In _ _ _ _ _ w t0 t1 EZ) ?_;refine go ?_;refine Ar [1] [] ?_;refine Df 0 1 2 3 ?_;refine Df 4 5 6 7 ?_;refine Dh 8 9 ?_;refine dd ?_;refine go ?_
 refine D0 [0,1,4,5] [0] (fun _:PuS=>[]) (fun z=>[.row g t o A [aa R.Am,aa x.size,ab z.a R.Ak.length z.c,r1,r2,r3] B,.ow A8 9 (ab z.a R.Ak.length z.c) R.Ak z.F]) (fun _=>True) ?_ fun z _=>?_
 ·refine A4 rfl (fun h1=>?_) (fun h1=>?_)
  ·have e:R=⟨Cc x.Am 1,x.size,x.Ak.drop 1⟩:=by rw [<-hR];unfold De;rw [aJ h1]
   rw [e];refine go ?_;refine Bf (Baz x 1 g t o A B _ _ _ a c F hl EZ t0 t1) fun z _=>?_;refine go ?_;refine Bk z trivial
  ·have e:R=x:=by rw [<-hR];unfold De;rw [aC h1]
   rw [e];refine go ?_;refine Bk ⟨a,c,F⟩ trivial
 refine go ?_;intros;apply wO;refine Nb (E:=A8) (ys:=[s]) (fun w=>⟨[af s],[],[],[],rfl,rfl,⟨rfl,hs,rfl⟩,rfl,rfl⟩) Do fun a7 c7 F7=>?_;have hla:((R.Ak++[s]).length:Int)=R.Ak.length+1:=FB
 refine go ?_;dsimp only [List.append];refine Ar [1] [] ?_;refine Df 0 1 2 3 ?_;refine Df 4 5 6 7 ?_;refine dt 9 ?_;refine dN 8 ?_;refine oC ?_;refine cb (fun w st=>In _ _ _ _ _ w hb.1 hb.2 EZ) ?_;refine dk ?_;refine dt 10 ?_;refine dN 11 ?_;refine oS ?_;refine dk ?_;refine dd ?_;refine go ?_;refine ret ⟨a7,c7,F7⟩ trivial ?_;rw [hla];rfl
theorem Acp (x:Aw) (k:Nat) (v:Value) (F:aq) (hl:x.Ak.length<=4294967296) (hk:k<=x.Ak.length) (t0:0<=x.Am) (t1:x.Am<=65535) :
  Fn prog 235 [v,aa (k:Nat)] [.isv Cj v x F] [] (fun (_:PuS)=>True) (fun z=>.agg #[aa (Cc x.Am k),aa x.size,.slice z.a (x.Ak.drop k).length z.c]) (fun z=>[.ow A8 9 (.slice z.a (x.Ak.drop k).length z.c) (x.Ak.drop k) z.F]):=by
 refine enter func235 rfl ntmps235 fun w0=>?_;refine Gn ?_;rintro a1 c1 F1 rfl l1;have hdk:(x.Ak.drop k).length=x.Ak.length - k:=aX;refine go ?_;intros;refine Ar [1,2] [] ?_;refine Df 0 1 2 4 ?_;refine Df 5 7 8 9 ?_;refine Amp 10 k fun a5 c5 F5=>?_;refine dM 3 6 ?_ ?_
 ·refine oC ?_;refine ce (fun w st=>Ht x.Am k w EZ EZ) ?_;refine dk ?_;refine dN 6 ?_;apply Kg;rfl;intro _;refine Cy A8 ?_;exact CC
 ·apply Kg;rfl;intro _;refine Cy A8 ?_;refine dk ?_;refine dN 3 ?_;refine oC ?_;refine ce (fun w st=>Ht x.Am k w EZ EZ) ?_;exact CC
theorem Axt (x:Aw) (s:au) (v:Value) (F:aq) (hl:x.Ak.length<=6) (t0:0<=x.Am) (t1:x.Am<=65535) (hs:s.size<=maxLen) (hz:1<=x.size) :
  Fn prog 236 [v,af s] [.isv Cj v x F] [] (fun (_:Value × aq)=>True) (fun z=>.tuple #[z.1,.agg #[aa 1,aa (Dw x s).Ae,aa (Dw x s).Am,aa (Dw x s).E7,af s]]) (fun z=>[.isv Cj z.1 (Di x s) z.2]):=by
 have e0:Cc x.Am ((0:Nat):Int)=x.Am:=by unfold Cc;omega
 obtain ⟨R,hR⟩:∃R,De x=R:=⟨_,rfl⟩;have hb:=Ql t0 t1;have hRl:R.Ak.length<=6:=by
  rw [<-hR];unfold De
  split
  ·show (x.Ak.drop 1).length<=6;rw [aX];omega
  ·exact hl
 have hnum:Cc R.Am R.Ak.length=Cc x.Am x.Ak.length:=by
  rw [<-hR];unfold De
  split
  ·rename_i h;show Cc (Cc x.Am 1) ((x.Ak.drop 1).length:Nat)=_;rw [aX,show ((x.Ak.length - 1:Nat):Int)=(x.Ak.length:Int) - 1 by omega,Arg]
  ·rfl
 rw [show Di x s=⟨R.Am,x.size,R.Ak++[s]⟩ by unfold Di;rw [hR],show Dw x s=⟨1,Cc x.Am x.Ak.length,R.Am,Cc R.Am (R.Ak.length+1),s⟩ by unfold Dw;rw [hR]];dsimp only;rw [hR] at hb;refine enter func236 rfl ntmps236 fun w0=>?_;refine Gn ?_;rintro a1 c1 F1 rfl l1;refine go ?_;intros;refine Bf (Acp x 0 _ F EZ (aG _) t0 t1) fun y _=>?_;rw [e0,dw];refine go ?_;intros;rename_i g
 refine D0 [1,2,4,5,6] [2,3,4,5,6] (fun _:PuS=>[]) (fun z=>[.row g 29 0 [] [aa R.Am,aa x.size,ab z.a R.Ak.length z.c] [],.ow A8 9 (ab z.a R.Ak.length z.c) R.Ak z.F]) (fun _=>True) ?_ fun z _=>?_
 ·refine A4 rfl (fun h1=>?_) (fun h1=>?_)
  ·have e:R=⟨Cc x.Am 1,x.size,x.Ak.drop 1⟩:=by rw [<-hR];unfold De;rw [aJ h1]
   rw [e];refine go ?_;refine Bf (Acp x 1 _ F EZ EZ t0 t1) fun z _=>?_;refine go ?_;refine Bk z trivial
  ·have e:R=x:=by rw [<-hR];unfold De;rw [aC h1]
   rw [e];refine go ?_;refine Bk ⟨y.a,y.c,y.F⟩ trivial
 refine go ?_;refine cb (fun w st=>Ta _ _ _ _ _ w hb.1 hb.2 EZ) ?_;rw [hnum];refine go ?_;intros;apply wO;refine Nb (E:=A8) (ys:=[s]) (fun w=>⟨[af s],[],[],[],rfl,rfl,⟨rfl,hs,rfl⟩,rfl,rfl⟩) Do fun a7 c7 F7=>?_;have hla:((R.Ak++[s]).length:Int)=R.Ak.length+1:=FB
 refine go ?_;dsimp only [List.append];refine Ar [1] [] ?_;refine Df 0 1 2 3 ?_;refine Dh 4 6 ?_;refine dN 5 ?_;refine oC ?_;refine cb (fun w st=>Ta _ _ _ _ _ w hb.1 hb.2 EZ) ?_;refine dk ?_;refine dt 7 ?_;refine dN 8 ?_;refine oS ?_;refine dk ?_;refine dN 9 ?_;refine oS ?_;refine dk ?_;refine dd ?_;refine Av (E:=A8) (xs:=R.Ak++[s]) fun F8=>?_;refine Ct ⟨R.Am,x.size,R.Ak++[s]⟩ ?_;refine go ?_;refine ret (_,_) trivial ?_;rw [hla];rfl
structure SeS where
 a:aj
 c:Nat
 F:aq
 a2:aj
 c2:Nat
 F2:aq
theorem Bax (x:Aw) (s:au) (hs:List Iz) (g t o:Nat) (A B:am) (a a2:aj) (c c2:Nat) (cl q:Int) (F F2:aq) (hl:x.Ak.length<=6) (t0:0<=x.Am) (t1:x.Am<=65535) (hss:s.size<=maxLen) (hz:1<=x.size) (hn:∀h∈hs,Bz h.Ae=true) :
  Fn prog 191 [Ga g o 0,af s] [] [.row g t o A [aa x.Am,aa x.size,ab a x.Ak.length c,aa cl,aa q,ab a2 hs.length c2] B,.ow Bw 191 (ab a2 hs.length c2) hs F2,.ow A8 9 (ab a x.Ak.length c) x.Ak F] (fun (_:SeS)=>True) (fun _=>.agg #[aa 1,aa (Dw x s).Ae,aa (Dw x s).Am,aa (Dw x s).E7,af s])
   (fun z=>[.row g t o A [aa (Di x s).Am,aa (Di x s).size,.slice z.a (Di x s).Ak.length z.c,aa cl,aa 0,.slice z.a2 (Nq (Di x s) hs).length z.c2] B,.ow Bw 191 (.slice z.a2 (Nq (Di x s) hs).length z.c2) (Nq (Di x s) hs) z.F2,.ow A8 9 (.slice z.a (Di x s).Ak.length z.c) (Di x s).Ak z.F]):=by
 have hb:=Ql t0 t1;refine enter func191 rfl ntmps191 fun w0=>?_;refine go ?_;intros;refine Bf (Bep x s g t o A B _ _ _ a c F hl (A9.2 ⟨t0,t1⟩) hss hz) fun z _=>?_;refine go ?_;intros;refine Bf (Anb (Di x s) hs g t o A B z.a a2 z.c c2 cl 0 z.F F2 hb.1 hb.2 hn) fun y _=>?_;refine go ?_;refine ret ⟨z.a,z.c,z.F,y.1,y.2.1,y.2.2⟩ trivial rfl
def Q9 (x:Cr) (s:au):Cr:=⟨Di x.Aa s,x.Ai,0,Nq (Di x.Aa s) x.holds⟩
def zPk:As:=⟨0,0,0,0,⟨#[]⟩⟩
def Z6 (x:Aw) (s:au):Bool:=D8 x && Pe s
end Go.Proofs.YtkoldibamfjghaaGreatDoor
namespace Go.Proofs.YtkoldibamfjghaaGreatDoor

open Go.RowKit
end Go.Proofs.YtkoldibamfjghaaGreatDoor
namespace Go.Proofs.YtkoldibamfjghaaGreatDoor
open Go.RowKit
def Li (x:Aw):Int:=Cc x.Am x.Ak.length
def Zu (x:Aw) (n:Int):au:=x.Ak.getD (gp x.Am n).toNat ⟨#[]⟩
def Ayd (x:Aw) (n:Int):Bool:=D8 x && Bz n && I5 x n
def Rm (x:Aw):As:=⟨5,x.Am,x.Am,Li x,⟨#[]⟩⟩
def J8 (x:Aw) (p:As):Bool:=D8 x && Bo p && decide (p.Cq=3) && I5 x p.Ae
def Amd (x:Aw) (n:Int):As:=⟨2,n,x.Am,Li x,Zu x n⟩
def Dp (x:Aw) (p:As):As × Bool:=if J8 x p then (Amd x p.Ae,true) else (zPk,false)
theorem Aa5 (x:Aw):0<=Li x/\Li x<=65535:=I7 _ _
theorem Aok {x:Aw} (h1:1<=x.size):Li (De x)=Li x:=by
 unfold De
 split
 ·rename_i h;unfold Li;simp only [aX];unfold Cc;omega
 ·rfl
theorem Aqe {x:Aw} {s:au} (h:Z6 x s=true):D8 x=true/\D8 (Di x s)=true/\Ayd (Di x s) (Dw x s).Ae=true/\Zu (Di x s) (Dw x s).Ae=s/\(Dw x s).Ae=Li x/\gp (Li x) (Li (Di x s))=1/\(Dw x s).E7=Li (Di x s)/\(Dw x s).Am=(Di x s).Am:=by
 unfold Z6 at h;simp only [aw] at h;obtain ⟨hg,hs⟩:=h;obtain ⟨⟨t0,t1⟩,⟨z0,z1⟩,hl,hi⟩:=Ds.1 hg;have hr:0<=(De x).Am/\(De x).Am<=65535:=Ql t0 t1;have hn:((De x).Ak.length:Int)+1<=x.size/\(De x).Ak.all Pe=true:=by
  unfold De
  split
  ·rename_i h;refine ⟨by simp only [aX];omega,?_⟩;rw [aW] at hi ⊢;exact fun z hz=>hi z (bu hz)
  ·exact ⟨EZ,hi⟩
 have hlead:=Aok (x:=x) z0;have hgo:D8 (Di x s)=true:=by
  refine Ds.2 ⟨hr,⟨z0,z1⟩,?_,?_⟩
  ·show (((De x).Ak++[s]).length:Int)<=x.size;simp only [aA,aU,aY];omega
  ·show ((De x).Ak++[s]).all Pe=true;simp [hn.2,hs]
 have hnum:(Dw x s).Ae=Li x:=rfl;have hgap:gp (Di x s).Am (Li x)=((De x).Ak.length:Nat):=by
  rw [<-hlead];show gp (De x).Am (Li (De x))=_;unfold Li gp Cc;omega
 have b:=Aa5 x;refine ⟨hg,hgo,?_,?_,rfl,?_,?_,rfl⟩
 ·unfold Ayd;rw [hgo,hnum,A9.2 b,I5,hgap];show decide (((De x).Ak.length:Int) < (((De x).Ak++[s]).length:Nat))=true;simp only [aA,aU,aY,aF];omega
 ·unfold Zu;rw [hnum,hgap];show ((De x).Ak++[s]).getD _ _=s;simp
 ·rw [<-hlead];show gp (Li (De x)) (Cc (De x).Am (((De x).Ak++[s]).length:Nat))=1;unfold Li gp Cc;simp only [aA,aU,aY];omega
 ·show Cc (De x).Am (((De x).Ak.length:Nat)+1)=Cc (De x).Am ((((De x).Ak++[s]).length:Nat));simp
theorem Aon (t z:Int) (a:aj) (n c:Nat) (h0:0<=t) (h1:t<=65535) (hn:n<=4294967296):FV 309 [.agg #[aa t,aa z,ab a n c]] [] (.agg #[aa 5,aa t,aa t,aa (Cc t n),af ⟨#[]⟩]):=by
 refine enter func309 rfl ntmps309 fun w0=>?_;refine go ?_;intros;refine Ar [1] [7] ?_;refine Df 0 1 2 3 ?_;refine dt 4 ?_;refine dN 5 ?_;refine oC ?_;refine cb (fun w _=>In t z a n c w h0 h1 hn) ?_;refine dk ?_;refine dt 6 ?_;refine dN 7 ?_;refine oS ?_;refine Nm ?_;exact CI
theorem Zz (t z:Int) (a:aj) (n c:Nat) (h0:0<=t) (h1:t<=65535) (hn:n<=4294967296):FV 243 [.agg #[aa t,aa z,ab a n c]] [] (.agg #[aa 5,aa t,aa t,aa (Cc t n),af ⟨#[]⟩]):=by
 refine enter func243 rfl ntmps243 fun w0=>?_;refine go ?_;intros;refine Ar [1] [7] ?_;refine Df 0 1 2 3 ?_;refine dt 4 ?_;refine dN 5 ?_;refine oC ?_;refine cb (fun w _=>Ta t z a n c w h0 h1 hn) ?_;refine dk ?_;refine dt 6 ?_;refine dN 7 ?_;refine oS ?_;refine Nm ?_;exact CI
def Uq (cl:Int) (hs:List Iz):List Iz:=hs.filter fun h=>!decide (h.Co<=cl)
def Rn (q:Int):Int:=if q+1 < 4 then q+1 else 0
def Ng (x:Aw) (q:Int):List As:=if q+1 < 4 then [] else [Rm x]
def My (x:Cr):Cr:=⟨x.Aa,x.Ai+1,Rn x.quiet,Uq (x.Ai+1) x.holds⟩
theorem Aoc {x:Cr} (h:Ck x=true):0<=x.quiet/\x.quiet<=3:=by
 unfold Ck E8 at h;simp only [aw,aF] at h;exact h.1.2
theorem Atl {x:Cr} (h:Ck x=true):∀z∈x.holds,I5 x.Aa z.Ae=true:=fun z hz=>by
 unfold Ck at h;simp only [aw] at h;obtain ⟨i,hi,rfl⟩:=bi hz;have:=aW.1 h.2 i IA;rw [Pi hi] at this;simp only [aw] at this;exact this.1.1.2
structure TiS where
 a:aj
 c:Nat
 a2:aj
 c2:Nat
 F:aq
 ae:aj
 ce:Nat
 Fe:aq
theorem Bcs (h:Iz) (gb g o:Nat) (u v0 v1 v2 q Hs:Value) (cl:Int) (G:aq) :
  FV 308 [u,Ga gb 0 0] [.isv Bw u h G,.cel gb 0 [Ga g o 0],.cel g o [v0,v1,v2,aa cl,q,Hs]] (.bool (decide (h.Co<=cl))):=by
 refine enter func308 rfl ntmps308 fun w0=>?_;refine An2 ?_;rintro _ rfl;refine go ?_;intros;refine Ar [0,2,3] [] ?_;refine Df 0 1 2 3 ?_;refine Df 4 5 6 7 ?_;exact CI
theorem Bct (hs:List Iz) (gb tb g t o:Nat) (A B:am) (v0 v1 v2:Value) (v3:Value) (a2:aj) (c2:Nat) (cl q:Int) (F2:aq) :
  Fn prog 306 [ab a2 hs.length c2,.func (.func 308) #[] #[Ga gb 0 0]] [] [.ow Bw 191 (ab a2 hs.length c2) hs F2,.row gb tb 0 [] [Ga g o 0] [],.row g t o A [v0,v1,v2,aa cl,aa q,v3] B] (fun (_:aj × Nat × aq)=>True)
   (fun z=>.slice z.1 (Uq cl hs).length z.2.1) (fun z=>[.ow Bw 191 (.slice z.1 (Uq cl hs).length z.2.1) (Uq cl hs) z.2.2,.row gb tb 0 [] [Ga g o 0] [],.row g t o A [v0,v1,v2,aa cl,aa q,v3] B]):=by
 refine Apq rfl fun w ⟨hnd,ho⟩ _ hk=>?_;refine (Wb _ (Vc FC) #[Ga gb 0 0] _ hs F2 (fun h=>decide (h.Co<=cl)) w ho hnd fun k hk2 wr u G hK hu=>?_).mono ?_
 ·have hr:=hk wr hK;have r1:=hr (.row gb tb 0 [] [Ga g o 0] []) FB;have r2:=hr (.row g t o A [v0,v1,v2,aa cl,aa q,v3] B) FB;refine (Bcs hs[k] gb g o u v0 v1 v2 (aa q) v3 cl G).val wr ?_;intro p hp;simp only [aH,aT,bm] at hp;rcases hp with rfl|rfl|rfl
  ·exact hu
  ·exact ⟨FB,If r1⟩
  ·exact ⟨FB,If r2⟩
 ·rintro e w' ⟨v',F',rfl,h1,h2,h3,h4⟩;have e:(hs.filter fun x=>!(fun h:Iz=>decide (h.Co<=cl)) x)=Uq cl hs:=rfl;rw [e] at h1;exact CQ
theorem Bay (W:Aw) (hs:List Iz) (g t o:Nat) (A B:am) (a a2:aj) (c c2:Nat) (cl q:Int) (F2:aq) (t0:0<=W.Am) (t1:W.Am<=65535) (hl:W.Ak.length<=6) (k0:0<=cl) (k1:cl<=9999) (q0:0<=q) (q3:q<=3) :
  Fn prog 259 [Ga g o 0] [] [.row g t o A [aa W.Am,aa W.size,ab a W.Ak.length c,aa cl,aa q,ab a2 hs.length c2] B,.ow Bw 191 (ab a2 hs.length c2) hs F2] (fun (_:TiS)=>True)
   (fun z=>.slice z.ae (Ng W q).length z.ce) (fun z=>[.row g t o A [aa W.Am,aa W.size,ab a W.Ak.length c,aa (cl+1),aa (Rn q),.slice z.a2 (Uq (cl+1) hs).length z.c2] B,.ow Bw 191 (.slice z.a2 (Uq (cl+1) hs).length z.c2) (Uq (cl+1) hs) z.F,.ow An 141 (.slice z.ae (Ng W q).length z.ce) (Ng W q) z.Fe]):=by
 refine enter func259 rfl ntmps259 fun w0=>?_;refine go ?_;intros;refine Ar [0,1] [9] ?_;refine Df 0 1 2 3 ?_;refine Dh 4 5 ?_;refine dN 6 ?_;refine oC ?_;refine Bf (Bct hs _ _ g t o A B _ _ _ _ a2 c2 (cl+1) q F2) fun z _=>?_;refine dk ?_;refine Dh 7 8 ?_;refine dN 9 ?_;refine oS ?_;refine Nm ?_;refine dd ?_;refine go ?_;refine A4 rfl (fun h1=>?_) (fun h1=>?_)
 ·refine Cf An 141 ?_;refine go ?_;rw [show Rn q=q+1 from aJ h1,show Ng W q=[] from aJ h1];refine ret ⟨none,0,z.1,z.2.1,z.2.2,none,0,[]⟩ trivial rfl
 ·refine go ?_;refine Bf (Aon W.Am W.size a W.Ak.length c t0 t1 EZ) fun _ _=>?_;refine go ?_;intros;refine Eh (xs:=[Rm W]) (Dd _ GZ) ?_ FB;rw [show Rn q=0 from aC h1,show Ng W q=[Rm W] from aC h1];refine ret ⟨none,0,z.1,z.2.1,z.2.2,_,_,_⟩ trivial rfl
theorem Sj (x:Aw) (v:Value) (F:aq) (t0:0<=x.Am) (t1:x.Am<=65535) (hl:x.Ak.length<=4294967296):Fn prog 235 [v,aa 0] [.isv Cj v x F] [] (fun (_:Value × aq)=>True) (fun s=>s.1) (fun s=>[.own Qu s.1 x s.2]):=by
 have e0:Cc x.Am ((0:Nat):Int)=x.Am:=by unfold Cc;omega
 have h:=Acp x 0 v F hl (aG _) t0 t1;rw [e0,dw] at h;refine Bbf fun w hA=>(h.made w hA (fun _=>rfl)).mono ?_;rintro e w' ⟨z, -,he,hh,hn,hF,hB⟩;obtain ⟨h1,h2⟩:=hh (.ow A8 9 (ab z.a x.Ak.length z.c) x.Ak z.F) FB;exact ⟨(_,z.F),trivial,he,⟨h1,_,rfl,_,rfl,h2⟩,fun b hb=>hF b (by simpa [fp,Pc.F,Pc.mu] using hb),hB⟩
theorem Bbp {W:Aw} {cl:Int} {hs:List Iz} (h:∀z∈hs,I5 W z.Ae=true):Ii W cl hs=Uq cl hs:=by
 unfold Ii Uq;refine ew fun z hz=>?_;rw [h z hz,bV];by_cases hc:cl < z.Co
 ·rw [av hc,ay EZ];rfl
 ·rw [ay hc,av EZ];rfl
def Mz (x:Cr):Cr:=⟨x.Aa,x.Ai+1,Rn x.quiet,Ii x.Aa (x.Ai+1) x.holds⟩
theorem Agb (x:Cr) (v:Value) (F:aq) (t0:0<=x.Aa.Am) (t1:x.Aa.Am<=65535) (hl:x.Aa.Ak.length<=6) (k0:0<=x.Ai) (k1:x.Ai<=99999) (q0:0<=x.quiet) (q3:x.quiet<=3) (hm:x.holds.length<=1000) (hn:Za x.holds) :
  Fn prog 169 [v] [.isv Ex v x F] [] (fun (_:TiS)=>True) (fun s=>.tuple #[.agg #[aa (Mz x).Aa.Am,aa (Mz x).Aa.size,.slice s.a (Mz x).Aa.Ak.length s.c,aa (Mz x).Ai,aa (Mz x).quiet,.slice s.a2 (Mz x).holds.length s.c2],.slice s.ae (Ng x.Aa x.quiet).length s.ce])
   (fun s=>[.isv Ex (.agg #[aa (Mz x).Aa.Am,aa (Mz x).Aa.size,.slice s.a (Mz x).Aa.Ak.length s.c,aa (Mz x).Ai,aa (Mz x).quiet,.slice s.a2 (Mz x).holds.length s.c2]) (Mz x) s.F,.ow An 141 (.slice s.ae (Ng x.Aa x.quiet).length s.ce) (Ng x.Aa x.quiet) s.Fe]):=by
 refine enter func169 rfl ntmps169 fun w0=>?_;refine H9 ?_;rintro a1 c1 F1 a2 c2 F2 rfl l1 l2;refine Ct x.Aa (a1:=a1) ?_;refine go ?_;intros;refine Bf (Sj x.Aa _ F1 t0 t1 EZ) fun y _=>?_;refine Jw ?_;rintro a5 c5 F5 e5 l5;rw [e5];have hH:=fun v a c F G=>Ads x.Aa x.holds (x.Ai+1) v a c F G t0 t1 EZ hn;refine go ?_;intros;refine Av (xs:=x.Aa.Ak) fun F8=>?_;refine Ct x.Aa (a1:=a5) ?_;refine Ar [2,4] [] ?_;refine Df 0 1 2 3 ?_;refine Df 4 5 6 7 ?_;refine Df 8 9 10 11 ?_;refine dt 12 ?_;refine dM 13 15 ?_ ?_
 ·refine oC ?_;refine Bf (hH _ a2 c2 _ _) fun z _=>?_;refine dk ?_;refine dt 14 ?_;refine dN 15 ?_;apply Cm;rfl;intro _;refine dk ?_;refine dN 16 ?_;refine oS ?_;refine dk ?_;refine dd ?_;refine go ?_;refine A4 rfl (fun h1=>?_) (fun h1=>?_)
  ·rw [show Mz x=⟨x.Aa,x.Ai+1,0,Ii x.Aa (x.Ai+1) x.holds⟩ from by unfold Mz Rn;rw [aC EZ],show Ng x.Aa x.quiet=[Rm x.Aa] from aC EZ];refine go ?_;refine Av (E:=Bw) fun F9=>?_;refine Fb ⟨x.Aa,x.Ai+1,0,Ii x.Aa (x.Ai+1) x.holds⟩ (a1:=a5) ?_;refine Ar [2,5] [] ?_;refine Dh 0 1 ?_;refine dN 2 ?_;refine oC ?_;refine Bf (Zz x.Aa.Am x.Aa.size _ x.Aa.Ak.length _ t0 t1 EZ) fun _ _=>?_;refine dk ?_;refine dM 3 4 ?_ ?_
   ·apply Iq;rfl;rfl;rfl;rfl;exact Ik;exact Ih;intro _;refine dk ?_;refine dN 4 ?_;refine oS ?_;exact AN
   ·refine oS ?_;refine dk ?_;refine dN 3 ?_;apply Iq;rfl;rfl;rfl;rfl;exact Ik;exact Ih;intro _;exact AN
  ·exact BI
 ·apply Cm;rfl;intro _;refine dk ?_;refine dN 13 ?_;refine oC ?_;refine Bf (hH _ a2 c2 _ _) fun z _=>?_;refine dk ?_;refine dt 14 ?_;refine dN 16 ?_;refine oS ?_;refine dk ?_;refine dd ?_;refine go ?_;refine A4 rfl (fun h1=>?_) (fun h1=>?_)
  ·rw [show Mz x=⟨x.Aa,x.Ai+1,0,Ii x.Aa (x.Ai+1) x.holds⟩ from by unfold Mz Rn;rw [aC EZ],show Ng x.Aa x.quiet=[Rm x.Aa] from aC EZ];refine go ?_;refine Av (E:=Bw) fun F9=>?_;refine Fb ⟨x.Aa,x.Ai+1,0,Ii x.Aa (x.Ai+1) x.holds⟩ (a1:=a5) ?_;refine Ar [2,5] [] ?_;refine Dh 0 1 ?_;refine dN 2 ?_;refine oC ?_;refine Bf (Zz x.Aa.Am x.Aa.size _ x.Aa.Ak.length _ t0 t1 EZ) fun _ _=>?_;refine dk ?_;refine dM 3 4 ?_ ?_
   ·apply Iq;rfl;rfl;rfl;rfl;exact Ik;exact Ih;intro _;refine dk ?_;refine dN 4 ?_;refine oS ?_;exact AN
   ·refine oS ?_;refine dk ?_;refine dN 3 ?_;apply Iq;rfl;rfl;rfl;rfl;exact Ik;exact Ih;intro _;exact AN
  ·exact BI
theorem Azz {x:Cr} (hg:Ck x=true):Mz x=My x:=by unfold Mz My;rw [Bbp (Atl hg)]
theorem At2 (x:Cr) (v:Value) (F:aq) (hg:Ck x=true) :
  Fn prog 169 [v] [.isv Ex v x F] [] (fun (_:TiS)=>True) (fun s=>.tuple #[.agg #[aa (My x).Aa.Am,aa (My x).Aa.size,.slice s.a (My x).Aa.Ak.length s.c,aa (My x).Ai,aa (My x).quiet,.slice s.a2 (My x).holds.length s.c2],.slice s.ae (Ng x.Aa x.quiet).length s.ce])
   (fun s=>[.isv Ex (.agg #[aa (My x).Aa.Am,aa (My x).Aa.size,.slice s.a (My x).Aa.Ak.length s.c,aa (My x).Ai,aa (My x).quiet,.slice s.a2 (My x).holds.length s.c2]) (My x) s.F,.ow An 141 (.slice s.ae (Ng x.Aa x.quiet).length s.ce) (Ng x.Aa x.quiet) s.Fe]):=by
 obtain ⟨gw,hl,t0,t1,k0,k1,hm,hn,hu,hb⟩:=J3 hg;obtain ⟨q0,q3⟩:=Aoc hg;have h:=Agb x v F t0 t1 hl k0 EZ q0 q3 EZ (Ae7 hn);rw [Azz hg] at h;exact h
theorem Lm {x:Aw} {p:As} (h:J8 x p=false):Dp x p=(zPk,false):=by unfold Dp;rw [h];rfl
theorem Y8 {x:Aw} {p:As} (h:J8 x p=true):Dp x p=(Amd x p.Ae,true):=by unfold Dp;rw [h];rfl
theorem Aa0 {x:Aw} {n:Int} (h:I5 x n=true):(gp x.Am n).toNat < x.Ak.length:=by
 have b:=Le x.Am n;unfold I5 at h;simp only [aF] at h;omega
theorem Uo {x:Aw} {n:Int} (h:(gp x.Am n).toNat < x.Ak.length):Zu x n=x.Ak[(gp x.Am n).toNat]:=by
 unfold Zu;rw [bn,aD h];rfl
theorem Ae9 (x:Aw) (p:As) (v:Value) (F:aq) (hs:p.data.size<=maxLen):FV 355 [v,.agg #[aa p.Cq,aa p.Ae,aa p.Am,aa p.E7,af p.data]] [.isv Cj v x F] (.tuple #[.agg #[aa (Dp x p).1.Cq,aa (Dp x p).1.Ae,aa (Dp x p).1.Am,aa (Dp x p).1.E7,af (Dp x p).1.data],.bool (Dp x p).2]):=by
 refine enter func355 rfl ntmps355 fun w0=>?_;refine Gn ?_;rintro a1 c1 F1 rfl l1;refine go ?_;intros;refine cb (fun w st=>Rk _ x _ w (st.get (p:=.isv Cj (.agg #[aa x.Am,aa x.size,ab a1 x.Ak.length c1]) x F) FB)) ?_;cases g1:D8 x
 ·refine go ?_;rw [Lm (by unfold J8;rw [g1];rfl)];exact BC
 obtain ⟨⟨t0,t1⟩,⟨z0,z1⟩,hl,hi⟩:=Ds.1 g1;have hl6:x.Ak.length<=6:=EZ
 refine go ?_;refine Bf (Wc p hs) fun _ _=>?_;cases g2:Bo p
 ·refine go ?_;rw [Lm (by unfold J8;rw [g1,g2];rfl)];exact BC
 obtain ⟨n0,n1⟩:=Kn g2;refine go ?_;refine D6 rfl rfl (fun h3=>?_) (fun h3=>?_)
 ·refine go ?_;rw [Lm (by unfold J8;rw [g1,g2,ay h3];rfl)];exact BC
 have h3:=dp.1 h3;refine go ?_;refine cb (fun w st=>(W8 x p.Ae _ F t0 t1 n0 n1).val w (Iw (st.get (p:=.isv Cj (.agg #[aa x.Am,aa x.size,ab a1 x.Ak.length c1]) x F) FB))) ?_;cases g3:I5 x p.Ae
 ·refine go ?_;rw [Lm (by unfold J8;rw [g1,g2,g3];simp)];exact BC
 rw [Y8 (by unfold J8;rw [g1,g2,g3,av h3];rfl)];have b:=Le x.Am p.Ae;have hk3:=Aa0 g3;rw [show Amd x p.Ae=⟨2,p.Ae,x.Am,Li x,x.Ak[(gp x.Am p.Ae).toNat]⟩ by unfold Amd;rw [Uo hk3]];refine Jv (xs:=x.Ak) (gp x.Am p.Ae).toNat ?_;rintro hi b2 o2 e s1;rw [e];refine Io ?_;intros;refine Ar [0,2,3] [] ?_;refine Df 0 1 2 3 ?_;refine Df 4 6 7 8 ?_;refine Dh 9 10 ?_;refine dt 11 ?_;refine dN 5 ?_;refine oC ?_;refine cb (fun w _=>In _ _ _ _ _ w t0 t1 EZ) ?_;refine dk ?_;refine dN 12 ?_;refine oC ?_;refine ce (fun w s=>O6 _ _ _ EZ EZ EZ EZ) ?_;refine dk ?_
 refine Dh 13 14 ?_;refine dt 15 ?_;refine dN 16 ?_;refine oS ?_;refine dk ?_;refine dt 17 ?_;exact CI
theorem Ahc (x:Aw) (p:As) (v:Value) (F:aq) (hs:p.data.size<=maxLen):FV 245 [v,.agg #[aa p.Cq,aa p.Ae,aa p.Am,aa p.E7,af p.data]] [.isv Cj v x F] (.tuple #[.agg #[aa (Dp x p).1.Cq,aa (Dp x p).1.Ae,aa (Dp x p).1.Am,aa (Dp x p).1.E7,af (Dp x p).1.data],.bool (Dp x p).2]):=by
 refine enter func245 rfl ntmps245 fun w0=>?_;refine Gn ?_;rintro a1 c1 F1 rfl l1;refine go ?_;intros;refine cb (fun w st=>Anj _ x _ w (st.get (p:=.isv Cj (.agg #[aa x.Am,aa x.size,ab a1 x.Ak.length c1]) x F) FB)) ?_;cases g1:D8 x
 ·refine go ?_;rw [Lm (by unfold J8;rw [g1];rfl)];exact BC
 obtain ⟨⟨t0,t1⟩,⟨z0,z1⟩,hl,hi⟩:=Ds.1 g1;have hl6:x.Ak.length<=6:=EZ
 refine go ?_;refine Bf (Ani p hs) fun _ _=>?_;cases g2:Bo p
 ·refine go ?_;rw [Lm (by unfold J8;rw [g1,g2];rfl)];exact BC
 obtain ⟨n0,n1⟩:=Kn g2;refine go ?_;refine D6 rfl rfl (fun h3=>?_) (fun h3=>?_)
 ·refine go ?_;rw [Lm (by unfold J8;rw [g1,g2,ay h3];rfl)];exact BC
 have h3:=dp.1 h3;refine go ?_;refine cb (fun w st=>(Ank x p.Ae _ F t0 t1 n0 n1).val w (Iw (st.get (p:=.isv Cj (.agg #[aa x.Am,aa x.size,ab a1 x.Ak.length c1]) x F) FB))) ?_;cases g3:I5 x p.Ae
 ·refine go ?_;rw [Lm (by unfold J8;rw [g1,g2,g3];simp)];exact BC
 rw [Y8 (by unfold J8;rw [g1,g2,g3,av h3];rfl)];have b:=Le x.Am p.Ae;have hk3:=Aa0 g3;rw [show Amd x p.Ae=⟨2,p.Ae,x.Am,Li x,x.Ak[(gp x.Am p.Ae).toNat]⟩ by unfold Amd;rw [Uo hk3]];refine Jv (xs:=x.Ak) (gp x.Am p.Ae).toNat ?_;rintro hi b2 o2 e s1;rw [e];refine Io ?_;intros;refine Ar [0,2,3] [] ?_;refine Df 0 1 2 3 ?_;refine Df 4 6 7 8 ?_;refine Dh 9 10 ?_;refine dt 11 ?_;refine dN 5 ?_;refine oC ?_;refine cb (fun w _=>Ta _ _ _ _ _ w t0 t1 EZ) ?_;refine dk ?_;refine dN 12 ?_;refine oC ?_;refine ce (fun w s=>Jk _ _ _ EZ EZ) ?_;refine dk ?_;refine Dh 13 14 ?_
 refine dt 15 ?_;refine dN 16 ?_;refine oS ?_;refine dk ?_;refine dt 17 ?_;exact CI
end Go.Proofs.YtkoldibamfjghaaGreatDoor
