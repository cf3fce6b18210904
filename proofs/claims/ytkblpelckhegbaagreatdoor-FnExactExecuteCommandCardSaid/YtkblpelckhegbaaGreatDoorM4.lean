/- Part 4 of the proof: 50 texts, one behind the other. -/
import Derived.BigQuiet
import Derived.Deep.RegionLaw
import Derived.Test.YtkblpelckhegbaaGreatDoorShelf
import Derived.Lib.RowBridge
import Derived.Test.YtkblpelckhegbaaGreatDoorM3
open _root_.Go.Proofs.Tryz
set_option maxRecDepth 100000
set_option maxHeartbeats 8000000
set_option linter.all false
set_option linter.unusedVariables false
set_option linter.unusedSimpArgs false
namespace Go.Proofs.YtkblpelckhegbaaGreatDoor
theorem AC{p:Prop}(h:p:=by refine dk ?_;refine dN 7 ?_;refine Qa (Rd n) Dd (fun a3 c3 F3=>?_) (h63:=by exact Lp) (hby:=by exact Lp);refine dk ?_;refine dN 11 ?_;refine Pm Dd D0 (fun a4 c4 F4=>?_) (h63:=by exact Lp) (hby:=by exact Lp);refine dk ?_;refine dt 12 ?_;refine dd ?_;rw [e];refine go ?_;refine ret ⟨_,_,_⟩ trivial rfl):p:=h
theorem AK{p:Prop}(h:p:=by refine dk ?_;refine dN 7 ?_;refine Qa (Tp ⟨n,1,ck+d,0⟩) C4 fun a8 c8 F8=>?_;refine dk ?_;refine dN 11 ?_;refine Pm (ys:=l.drop (Eo base l n)) C4 Dp (h63:=by simp;omega) (hby:=by simp;omega) fun a9 c9 F9=>?_;refine dk ?_;refine dt 12 ?_;refine dd ?_;rw [hAdd];refine go ?_;refine ret ⟨_,_,_⟩ trivial rfl):p:=h
theorem AL{p:Prop}(h:p:=by refine dk ?_;refine dt 5 ?_;refine dd ?_;refine go ?_;refine Ll (xs:=[Te x.Aa]) (Dh _ (by show (⟨#[]⟩:ByteArray).size≤maxLen;decide)) ?_ (by simp);refine ret ⟨_,_,_,_,_,_,_,_⟩ trivial rfl):p:=h
theorem BB{p:Prop}(h:p:=by refine dk ?_;refine dN 4 ?_;refine Pm Dd D0 (fun a2 c2 F2=>?_) (hn:=by rw [List.length_take];omega) (h63:=by exact Lp) (hby:=by exact Lp);exact AC):p:=h
theorem BC{p:Prop}(h:p:=by refine ret () trivial rfl):p:=h
theorem BD{p:Prop}(h:p:=by refine go ?_;refine ret ⟨_,_,_⟩ trivial rfl):p:=h
theorem BH{p:Prop}(h:p:=by rw [show O2 x=⟨x.Aa,x.Ai+1,x.quiet+1,J8 x.Aa (x.Ai+1) x.holds⟩ from by unfold O2 X5;rw [if_pos (by omega)],show Oj x.Aa x.quiet=[] from if_pos (by omega)];refine go ?_;intros;refine Dc Ak ?_;refine A4 (E:=Bn) fun F9=>?_;refine Gt ⟨x.Aa,x.Ai+1,x.quiet+1,J8 x.Aa (x.Ai+1) x.holds⟩ (a1:=a5) ?_;refine ret ⟨_,_,_,_,_,_,_,_⟩ trivial rfl):p:=h
theorem BJ{p:Prop}(h:p:=by refine go ?_;refine Cb (Amr r p d g t o A B a1 c1 F1 a2 c2 F2 hg hp d0 d1) fun s _=>?_;refine go ?_;refine ret ⟨s.a1,s.c1,s.F1,s.a2,s.c2,s.F2,s.ae,s.ce,s.Fe⟩ trivial rfl):p:=h
theorem BU{p:Prop}(h:p:=by refine dk ?_;refine dN 8 ?_;refine oC ?_;refine Cb (U4 r.Aa (Dl (C8 r)) _ FW w0_ w1_ hs0 hs1 hw8 hit) fun y hy=>?_;refine dk ?_;refine Ed 9 10 ?_;refine dt 11 ?_;refine dN 13 ?_;refine oS ?_;refine dk ?_;refine dt 14 ?_;refine dd ?_;refine Bt (⟨_,y⟩:GvS) hy):p:=h
theorem BZ{p:Prop}(h:p:=by refine dk ?_;refine dN 11 ?_;refine Pm (E:=A8) (xs:=[]) (ys:=x.Ao.drop k) Eh Hj fun a7 c7 F7=>?_;rw [List.nil_append];refine dk ?_;refine dt 12 ?_;refine dN 13 ?_;refine oS ?_;refine dk ?_;refine dd ?_;refine go ?_;refine ret ⟨a7,c7,F7⟩ trivial rfl):p:=h
theorem CI{p:Prop}(h:p:=by refine Ce (⟨k+1,_,_,_⟩:PkS) (by show k+1≤l.length;omega) (by show l.length - (k+1) < l.length - k;omega)):p:=h
theorem CJ{p:Prop}(h:p:=by refine Ce (⟨i+1,_,_,_⟩:AwS) (by show i+1≤N.length;omega) (by show N.length - (i+1) < N.length - i;omega)):p:=h
theorem CO{p:Prop}(h:p:=by refine go ?_;refine Bt () trivial):p:=h
theorem CS{p:Prop}(h:p:=by refine dk ?_;refine dN 7 ?_;refine Pm Iy Id fun a5 c5 F5=>?_;rw [List.nil_append];refine dk ?_;refine dt 8 ?_;refine dN 10 ?_;refine oS ?_;refine dk ?_;refine dd ?_;refine Bt (⟨_,_,_,_⟩:Bdt) trivial):p:=h
theorem CU{p:Prop}(h:p:=by refine Pm Dd D0 (fun a2 c2 F2=>?_) (hn:=by rw [List.length_take];omega) (h63:=by exact Lp) (hby:=by exact Lp);refine dk ?_;refine dN 6 ?_;apply Lx;rfl;rfl;rfl;rfl;exact Lr;exact La;intro _;exact AC):p:=h
theorem DF{p:Prop}(h:p:=by refine go ?_;refine Xo ?_;refine Ce (hH:=Lz _) (q+1,j) ⟨by show q+1≤j;omega,h2,fun k hk h=>hm k q (by have:k < q+1:=hk;omega) hh h6,h4⟩ (by show j - (q+1) < j - i;omega)):p:=h
theorem DG{p:Prop}(h:p:=by rintro hi b o e;rw [e];refine go ?_;apply wO;refine Agr rfl rfl hb X8 ?_;refine cb (fun w st=>hp xs[i] (List.getElem_mem hh) w (fun p hp=>st.on p (by simp [hp]))) ?_;exact AA):p:=h
theorem DH{p:Prop}(h:p:=by refine go ?_;refine Xo ?_;refine Ce (hH:=Lz _) (i,q) ⟨by show i≤q;omega,by show q≤xs.length;omega,h3,fun k hk h hn=>h6 (hm q k hk h hn)⟩ (by show q - i < j - i;omega)):p:=h
theorem DK{p:Prop}(h:p:=by refine go ?_;refine ret () trivial ?_;show Value.bool _=Value.bool _;congr 1;unfold Bw;rw [g1,g2,g3,g4,g5,decide_eq_true h6,decide_eq_false h7,decide_eq_false h8];rfl):p:=h
theorem DT{p:Prop}(h:p:=by refine go ?_;refine ret () trivial ?_;show Value.bool _=Value.bool _;congr 1;unfold Bw;rw [g1,g2,g3,g4,g5,decide_eq_true h6,decide_eq_true h8];simp):p:=h
theorem DV{p:Prop}(h:p:=by refine go ?_;refine ret () trivial ?_;show Value.bool _=Value.bool _;congr 1;unfold Bw;rw [g1,g2,g3,g4,g5,decide_eq_true h6,decide_eq_true h7];rfl):p:=h
theorem DZ{p:Prop}(h:p:=by refine go ?_;refine ret ⟨_,_,_,_,_,_⟩ trivial rfl):p:=h
theorem EO{p:Prop}(h:p:=by refine ret ⟨_,_,_,_,_⟩ trivial rfl):p:=h
theorem FA{p:Prop}(h:p:=by apply Lx;rfl;rfl;rfl;rfl;exact Lr;exact La;intro _;refine dk ?_;refine dN 0 ?_;apply Mx;rfl;intro _;refine Dc Bb ?_;exact BB):p:=h
theorem FD{p:Prop}(h:p:=by rw [←Vx ho];refine go ?_;rw [show l.length=(Sj base l n (ck+4)).length from hcl.symm];refine ret ⟨_,_,_⟩ trivial rfl):p:=h
theorem FI{p:Prop}(h:p:=by refine O3 ?_;intros;refine Dc Av ?_;refine go ?_;apply wO;refine Pm C4 Dp fun a5 c5 F5=>?_;rw [List.nil_append];exact BD):p:=h
theorem FQ{p:Prop}(h:p:=by simp only [List.length_append,List.length_cons,List.length_nil];omega):p:=h
theorem GP{p:Prop}(h:p:=by simp [List.append_assoc]):p:=h
theorem HC{p:Prop}(h:p:=by intro e;have:=congrArg List.length e;simp only [List.length_append,List.length_nil] at this;omega):p:=h
theorem HE{p:Prop}(h:p:=by simp only [List.length_append];omega):p:=h
theorem HK{p:Prop}(h:p:=by show l.length - (k+1) < l.length - k;omega):p:=h
theorem HO{p:Prop}(h:p:=by rw [hBl];congr 1;show _=min (xs.length+1 - i) (xs.length+1 - (i+1));omega):p:=h
theorem HQ{p:Prop}(h:p:=by rw [Nat.zero_add,List.append_assoc,List.drop_left' hAl,List.take_left' hBl]):p:=h
theorem HS{p:Prop}(h:p:=by rw [hBl];congr 1;show _=min (xs.length - i) (xs.length+1 - (i+1));omega):p:=h
theorem HU{p:Prop}(h:p:=by rw [List.length_drop];omega):p:=h
theorem ID{p:Prop}(h:p:=by show (⟨#[]⟩:ByteArray).size≤maxLen;decide):p:=h
theorem IE{p:Prop}(h:p:=by rw [List.append_assoc A B rest,hXY];simp [List.append_assoc]):p:=h
theorem IM{p:Prop}(h:p:=by intro u hu;simp at hu;rcases hu with rfl|rfl|rfl|rfl <;> rfl):p:=h
theorem IQ{p:Prop}(h:p:=by rw [List.drop_zero,List.append_assoc,List.take_left' hAl]):p:=h
theorem IX{p:Prop}(h:p:=by rw [hcs];simp [hu]):p:=h
theorem KQ{p:Prop}(h:p:=by show hs.length - (k+1) < _;omega):p:=h
theorem KW{p:Prop}(h:p:=by simpa [fp,Pc.F,Pc.mu] using hb):p:=h
theorem LM{p:Prop}(h:p:=by rw [hB,List.length_drop];omega):p:=h
theorem LN{p:Prop}(h:p:=by rw [hA,List.length_take];omega):p:=h
end Go.Proofs.YtkblpelckhegbaaGreatDoor
namespace Go.Proofs.YtkblpelckhegbaaGreatDoor
open Go.RowKit
theorem Bgh {t a b:Int} (ha:Cc a=true) (hb:Cc b=true) (h:gp t a=gp t b):a=b:=by
 obtain ⟨a0,a1⟩:=Bc.1 ha;obtain ⟨b0,b1⟩:=Bc.1 hb;unfold gp at h;omega
def Eo (base:Int) (l:List Ay) (n:Int):Nat:=(l.takeWhile fun r=>decide (gp base r.Ae < gp base n)).length
def Nz (base:Int) (l:List Ay) (n:Int):Bool:=match l[Eo base l n]? with|some r=>decide (r.Ae=n)|none=>false
def Bjd (n u:Int):Ay:=⟨n,1,u,0⟩
def Ya (base:Int) (l:List Ay) (n u:Int):List Ay:=l.take (Eo base l n)++Bjd n u::l.drop (Eo base l n)
def Vs (base:Int) (l:List Ay) (n u:Int):List Ay:=if Nz base l n || !decide (gp base n < 8) then l else Ya base l n u
def Sj (base:Int) (l:List Ay) (n u:Int):List Ay:=match l[Eo base l n]? with|some r=>if r.Ae=n then l.set (Eo base l n) ⟨n,3,u,r.D5⟩ else l|none=>l
theorem T9 (base:Int) (l:List Ay) (n:Int):Eo base l n≤l.length:=Se.1
theorem Vt {base:Int} {l:List Ay} {n:Int} (h:Eo base l n < l.length):Nz base l n=decide (l[Eo base l n].Ae=n):=by unfold Nz;rw [List.getElem?_eq_getElem h]
theorem Aks {base:Int} {l:List Ay} {n:Int} (h:¬Eo base l n < l.length):Nz base l n=false:=by unfold Nz;rw [List.getElem?_eq_none FJ]
theorem Vu {base:Int} {l:List Ay} {n:Int} (h:Nz base l n=true):Eo base l n < l.length:=by
 by_cases h2:Eo base l n < l.length
 ·exact h2
 ·rw [Aks h2] at h;cases h
theorem Yk {base:Int} {l:List Ay} {n u:Int} (h:Nz base l n=false):Sj base l n u=l:=by
 unfold Sj;unfold Nz at h;cases hq:l[Eo base l n]? with
 | none=>rfl
 | some r=>rw [hq] at h;dsimp only at h ⊢;rw [if_neg GE]
theorem Vx {base:Int} {l:List Ay} {n u:Int} (h:Nz base l n=true):Sj base l n u=l.set (Eo base l n) ⟨n,3,u,(l[Eo base l n]'(Vu h)).D5⟩:=by
 have h2:=Vu h;rw [Vt h2] at h;unfold Sj;rw [List.getElem?_eq_getElem h2];dsimp only;rw [if_pos GE]
theorem Akz (base:Int) (l:List Ay) (n u:Int):(Sj base l n u).length=l.length:=by
 cases h:Nz base l n
 ·rw [Yk h]
 ·rw [Vx h,List.length_set]
theorem Bgz {base n:Int} {l:List Ay} (hq:M0 l base=true) (hn:Cc n=true) (h:Nz base l n=false):∀r∈l,gp base r.Ae≠gp base n:=by
 obtain ⟨-, -,h3,h4⟩:=Dg.1 hq;obtain ⟨t1,t2,t3⟩:=Se (p:=fun r:Ay=>decide (gp base r.Ae < gp base n)) (xs:=l);intro r hr e;obtain ⟨i,hi,rfl⟩:=List.getElem_of_mem hr;have e2:=Bgh (Ew.1 (h3 _ hr)).n hn e;have hk:Eo base l n=i:=Zf FJ (fun j hj h=>by
  have:=List.pairwise_iff_getElem.1 h4 j i h hi hj;simp only [decide_eq_true_eq];omega) (fun h=>by simp only [decide_eq_false_iff_not];omega)
 rw [Vt FJ] at h;simp only [hk] at h;simp [e2] at h
theorem Bhq {base:Int} {l:List Ay} (hp:l.Pairwise fun a b=>gp base a.Ae < gp base b.Ae) (h8:∀q∈l,gp base q.Ae < 8):l.length≤8:=by
 have key:∀i (h:i < l.length),(i:Int)≤gp base l[i].Ae:=by
  intro i
  induction i with
  | zero=>intro h;exact (Mf _ _).1
  | succ i ih =>
   intro h;have a:=ih FJ;have b:=List.pairwise_iff_getElem.1 hp i (i+1) FJ h FJ;omega
 by_cases h:l.length≤8
 ·exact h
 ·have a:=key 8 FJ;have b:=h8 _ (List.getElem_mem (show 8 < l.length by omega));omega
theorem Ban (base:Int) (l:List Ay) (n u:Int):(Ya base l n u).length=l.length+1:=by
 have:=T9 base l n;unfold Ya;rw [List.length_append,List.length_cons,List.length_take,List.length_drop];omega
theorem Ali {base n u:Int} {l:List Ay} (hq:M0 l base=true) (hn:Cc n=true) (h8:gp base n < 8) (u0:0≤u) (u1:u≤10007) (h:Nz base l n=false):M0 (Ya base l n u) base=true:=by
 have hne:=Bgz hq hn h;obtain ⟨h1,h2,h3,h4⟩:=Dg.1 hq;obtain ⟨t1,t2,t3⟩:=Se (p:=fun r:Ay=>decide (gp base r.Ae < gp base n)) (xs:=l);have hle:=T9 base l n;have hok:∀r∈Ya base l n u,N1 base r=true:=by
  intro r hr;unfold Ya at hr;rcases List.mem_append.1 hr with h|h
  ·exact h3 r (List.mem_of_mem_take h)
  ·rcases List.mem_cons.1 h with rfl|h
   ·exact Ew.2 ⟨hn,h8,by show (1:Int)≤1;decide,by show (1:Int)≤3;decide,u0,u1,by show (0:Int)≤0;decide,by show (0:Int)≤3;decide⟩
   ·exact h3 r (List.mem_of_mem_drop h)
 have hpw:(Ya base l n u).Pairwise fun a b=>gp base a.Ae < gp base b.Ae:=by
  unfold Ya;rw [List.pairwise_append];refine ⟨h4.sublist (List.take_sublist _ _),?_,?_⟩
  ·rw [List.pairwise_cons];refine ⟨fun b hb=>?_,h4.sublist (List.drop_sublist _ _)⟩;obtain ⟨j,hj,rfl⟩:=List.getElem_of_mem hb;rw [List.getElem_drop];rw [List.length_drop] at hj;have hk:Eo base l n < l.length:=FJ
   have h0:=t3 hk;simp only [decide_eq_false_iff_not,Int.not_lt] at h0;have h00:gp base n≤gp base (l[Eo base l n]'hk).Ae:=h0;have hd:=hne _ (List.getElem_mem hk);show gp base n < _;rcases Nat.eq_zero_or_pos j with e|e
   ·subst e;simp only [Nat.add_zero];omega
   ·have h5:=List.pairwise_iff_getElem.1 h4 (Eo base l n) (Eo base l n+j) hk FJ FJ;omega
  ·intro a ha b hb;obtain ⟨i,hi,rfl⟩:=List.getElem_of_mem ha;rw [List.length_take] at hi;rw [List.getElem_take];have ha2:=t2 i (by show i < Eo base l n;omega) FJ;simp only [decide_eq_true_eq] at ha2;rcases List.mem_cons.1 hb with rfl|hb
   ·exact ha2
   ·obtain ⟨j,hj,rfl⟩:=List.getElem_of_mem hb;rw [List.getElem_drop];rw [List.length_drop] at hj;exact List.pairwise_iff_getElem.1 h4 i (Eo base l n+j) FJ FJ FJ
 exact Dg.2 ⟨h1,Bhq hpw fun q hq=>(Ew.1 (hok q hq)).g,hok,hpw⟩
theorem Avx {base n u:Int} {l:List Ay} (hq:M0 l base=true) (hn:Cc n=true) (u0:0≤u) (u1:u≤10007):M0 (Vs base l n u) base=true:=by
 unfold Vs
 split
 ·exact hq
 ·rename_i h;simp only [Bool.or_eq_true,Bool.not_eq_true',not_or,Bool.not_eq_false,Bool.not_eq_true,decide_eq_true_eq] at h;exact Ali hq hn h.2 u0 u1 h.1
theorem Bbb {base n u:Int} {l:List Ay} {q:Ay} (h:q∈Vs base l n u):q∈l∨q.Ae=n:=by
 unfold Vs Ya at h
 split at h
 ·exact .inl h
 ·rcases List.mem_append.1 h with h|h
  ·exact .inl (List.mem_of_mem_take h)
  ·rcases List.mem_cons.1 h with rfl|h
   ·exact .inr rfl
   ·exact .inl (List.mem_of_mem_drop h)
theorem Ar7 {base n u:Int} {l:List Ay} (hq:M0 l base=true) (u0:0≤u) (u1:u≤10007):M0 (Sj base l n u) base=true:=by
 cases h:Nz base l n
 ·rw [Yk h];exact hq
 obtain ⟨h1,h2,h3,h4⟩:=Dg.1 hq;have hk:=Vu h;have hn:l[Eo base l n].Ae=n:=by rw [Vt hk] at h;simpa using h
 have ho:=Ew.1 (h3 _ (List.getElem_mem hk));rw [Vx h];have hnum:∀i (h:i < (l.set (Eo base l n) ⟨n,3,u,l[Eo base l n].D5⟩).length),(l.set (Eo base l n) ⟨n,3,u,l[Eo base l n].D5⟩)[i].Ae=(l[i]'GE).Ae:=fun i h=>by
  rw [List.getElem_set]
  split
  ·rename_i e;subst e;exact hn.symm
  ·rfl
 refine Dg.2 ⟨h1,IH,fun r hr=>?_,?_⟩
 ·have gn:=ho.n;have gg:=ho.g;rw [hn] at gn gg;rcases List.mem_or_eq_of_mem_set hr with h|rfl
  ·exact h3 r h
  ·exact Ew.2 ⟨gn,gg,by show (1:Int)≤3;decide,by show (3:Int)≤3;decide,u0,u1,ho.t0,ho.t1⟩
 ·refine List.pairwise_iff_getElem.2 fun i j hi hj hij=>?_;rw [hnum i hi,hnum j hj];exact List.pairwise_iff_getElem.1 h4 i j _ _ hij
theorem Axr {base n u:Int} {l:List Ay} {q:Ay} (h:q∈Sj base l n u):∃r∈l,r.Ae=q.Ae:=by
 cases h2:Nz base l n
 ·rw [Yk h2] at h;exact ⟨q,h,rfl⟩
 have hk:=Vu h2;have hn:l[Eo base l n].Ae=n:=by rw [Vt hk] at h2;simpa using h2
 rw [Vx h2] at h;rcases List.mem_or_eq_of_mem_set h with h|rfl
 ·exact ⟨q,h,rfl⟩
 ·exact ⟨_,List.getElem_mem hk,hn⟩
def Eg (r:Az) (p:Ar):Aj:=if r.Be then r.Aa else ⟨if p.Cp=5 then p.Fv else p.Ae,r.Aa.Am⟩
def Gn (r:Az) (p:Ar):Aj:=if p.Cp=5 then Eg r p else My (Eg r p) p.Ae p.data
def Lm (r:Az) (p:Ar):List ByteArray:=if p.Cp=5 then [] else Mo (Eg r p) p.Ae p.data
def Pi (w:Aj) (t:Int):Aj:=if Uu w.next t then (if gp w.next t≤8 then Jo w t else ⟨t,[]⟩) else w
def Pw (w:Aj) (t:Int):List ByteArray:=if Uu w.next t then (if gp w.next t≤8 then Jm w t else [⟨#[33]⟩]) else []
def Cq (r:Az) (p:Ar):Aj:=Pi (Gn r p) p.Ap
def Ni (r:Az) (p:Ar):List ByteArray:=Lm r p++Pw (Gn r p) p.Ap
def Lv (base u:Int) (l:List Ay) (ns:List Int):List Ay:=ns.foldl (fun l n=>Vs base l n u) l
def Aaz (w:Aj) (Fv:Int):Nat:=(min (gp w.next Fv) 8).toNat
def Qr (w:Aj) (l:List Ay) (Fv u:Int):List Ay:=if Uu w.next Fv then Lv w.next u l (Pg w (Aaz w Fv)) else l
def Lu (r:Az) (p:Ar) (d:Int):Az:=⟨true,r.Ai,Cq r p,Qr (Cq r p) (Ek r.Al (Cq r p)) p.Fv (r.Ai+d)⟩
def Mt (p:Ar):Bool:=decide (p.Cp=1) || decide (p.Cp=2) || decide (p.Cp=5)
def Aoz (r:Az) (p:Ar):Az:=⟨r.Be,r.Ai,r.Aa,Sj r.Aa.next r.Al p.Ae (r.Ai+4)⟩
def Dm (r:Az) (p:Ar) (d:Int):Az:=if Mt p then Lu r p d else if decide (p.Cp=4) && r.Be then Aoz r p else r
def Iv (r:Az) (p:Ar):List ByteArray:=if Mt p then Ni r p else []
theorem Ayp {w:Aj} {n:Int} {s:ByteArray} (hg:Cu w=true) (hn:Cc n=true) (hs:R5 s=true):Cu (My w n s)=true∧(∃m:Nat,m≤8∧(My w n s).next=Ci w.next m)∧(Mo w n s).length≤8:=by
 obtain ⟨w0,w1⟩:=Iw hg;cases ht:Oc w n
 ·have e:(Hw w n || !decide (gp w.next n < 8))=true:=by unfold Oc at ht;simp only [Bool.or_eq_false_iff] at ht;rw [ht.1,ht.2];rfl
  have e1:My w n s=w:=by unfold My;rw [if_pos e]
  have e2:Mo w n s=[]:=by unfold Mo;rw [if_pos e]
  rw [e1,e2];exact ⟨hg,⟨0,FJ,(Tu w0 w1).symm⟩,FK⟩
 ·have hok:Xf w n s=true:=by unfold Xf;rw [hg,hn,hs,ht];rfl
  have h:=Ba4 w n s (by unfold J9;rw [hok];rfl);rw [show J9 w n s=(My w n s,Mo w n s,true) by unfold J9;rw [hok];rfl] at h;obtain ⟨-, -,h3,h4, -, -,h7, -⟩:=h;dsimp only at h3 h4 h7;refine ⟨h3,⟨_,h7,?_⟩,h7⟩;obtain ⟨v0,v1⟩:=Iw h3;rw [←h4];unfold Ci gp at *;omega
theorem Rt {r:Az} {p:Ar} (hg:Mv r) (hp:Bw p=true):Cu (Eg r p)=true∧(r.Be=true→Eg r p=r.Aa):=by
 unfold Eg;unfold Bw at hp;simp only [Bool.and_eq_true] at hp;cases hs:r.Be
 ·refine ⟨?_,fun h=>by cases h⟩;rw [(hg.z hs).1];simp only [Bool.false_eq_true,if_false];unfold Cu
  split
  ·rw [hp.1.1.1.2];rfl
  ·rw [hp.1.1.1.1.1.2];rfl
 ·exact ⟨hg.w,fun _=>rfl⟩
theorem Us {r:Az} {p:Ar} (hg:Mv r) (hp:Bw p=true):Cu (Gn r p)=true∧(∃m:Nat,m≤8∧(Gn r p).next=Ci (Eg r p).next m)∧(Lm r p).length≤8:=by
 have h1:=(Rt hg hp).1;obtain ⟨w0,w1⟩:=Iw h1;unfold Gn Lm
 split
 ·exact ⟨h1,⟨0,FJ,(Tu w0 w1).symm⟩,FK⟩
 ·unfold Bw at hp;simp only [Bool.and_eq_true] at hp;exact Ayp h1 hp.1.1.1.1.1.2 hp.1.1.2
theorem Ayf {w:Aj} {t:Int} (hg:Cu w=true) (ht:Cc t=true):Cu (Pi w t)=true∧(∃m:Nat,m≤32767∧(Pi w t).next=Ci w.next m)∧(Pw w t).length≤16:=by
 obtain ⟨w0,w1⟩:=Iw hg;obtain ⟨t0,t1⟩:=Bc.1 ht;unfold Pi Pw;cases hb:Uu w.next t
 ·exact ⟨hg,⟨0,FJ,(Tu w0 w1).symm⟩,FK⟩
 ·simp only [if_true]
  split
  ·obtain ⟨e1,e2,e3,e4⟩:=We (t:=t) hg;have:=@Z0 w.next t
   exact ⟨Afa _ _ hg,⟨_,FJ,e1⟩,FJ⟩
  ·refine ⟨by unfold Cu;rw [ht];rfl,⟨(gp w.next t).toNat,?_,?_⟩,FK⟩
   ·unfold Uu Gj at hb;simp only [Bool.and_eq_true,decide_eq_true_eq] at hb;omega
   ·have:=Mf w.next t
    show t=_;unfold Ci gp at *;omega
theorem Afr {l:List Ay} {b:Int} {w:Aj} {m:Nat} (hm:m≤65528) (hq:M0 l b=true) (hw:Cu w=true) (e:w.next=Ci b m):M0 (Ek l w) w.next=true:=by
 obtain ⟨h1,h2,h3,h4⟩:=Dg.1 hq;obtain ⟨b0,b1⟩:=Bc.1 h1;have key:∀q∈l,gp w.next q.Ae < 8→gp w.next q.Ae=gp b q.Ae - m:=fun q hq h=>by
  have ho:=Ew.1 (h3 q hq);obtain ⟨n0,n1⟩:=Bc.1 ho.n;have:=ho.g;rw [e] at h ⊢;unfold gp Ci at *;omega
 have hin:∀q∈Ek l w,q∈l∧gp w.next q.Ae < 8:=fun q hq=>by
  unfold Ek at hq;rw [List.mem_filter] at hq;simp only [Bool.and_eq_true,decide_eq_true_eq] at hq;exact ⟨hq.1,hq.2.2⟩
 refine Dg.2 ⟨Bc.2 (Iw hw),Nat.le_trans (List.length_filter_le _ _) h2,fun q hq=>?_,?_⟩
 ·obtain ⟨a,c⟩:=hin q hq;have ho:=Ew.1 (h3 q a);exact Ew.2 ⟨ho.n,c,ho.s0,ho.s1,ho.u0,ho.u1,ho.t0,ho.t1⟩
 ·have h5:(Ek l w).Pairwise fun a b'=>gp b a.Ae < gp b b'.Ae:=h4.sublist List.filter_sublist;refine h5.imp_of_mem fun ha hb h=>?_;rw [key _ (hin _ ha).1 (hin _ ha).2,key _ (hin _ hb).1 (hin _ hb).2];omega
theorem Qi {l:List Ay} {w:Aj}:∀q∈Ek l w,Jb w q.Ae=false:=fun q hq=>by
 unfold Ek at hq;rw [List.mem_filter] at hq;simp only [Bool.and_eq_true,Bool.not_eq_true',Bool.or_eq_false_iff] at hq;exact hq.2.1.2
theorem Sq {w:Aj} {k:Nat} (hk:k≤8) {n:Int} (h:n∈Pg w k):Cc n=true∧gp w.next n < 8∧Jb w n=false:=by
 unfold Pg Sw at h;obtain ⟨h1,h2⟩:=List.mem_filter.1 h;obtain ⟨i,hi,rfl⟩:=List.mem_map.1 h1;rw [List.mem_range] at hi;refine ⟨Wv _ _,?_,IH⟩;unfold gp Ci;omega
theorem Sh {w:Aj} {u:Int} (u0:0≤u) (u1:u≤10007):∀(ns:List Int) (l:List Ay),(∀n∈ns,Cc n=true∧Jb w n=false)→M0 l w.next=true→(∀q∈l,Jb w q.Ae=false)→M0 (Lv w.next u l ns) w.next=true∧∀q∈Lv w.next u l ns,Jb w q.Ae=false
 | [],l,_,h2,h3=>⟨h2,h3⟩
 | n::ns,l,h1,h2,h3=>by
  obtain ⟨a,b⟩:=h1 n FK;refine Sh u0 u1 ns (Vs w.next l n u) (fun n hn=>h1 n (by simp [hn])) (Avx h2 a u0 u1) fun q hq=>?_;rcases Bbb hq with h|h
  ·exact h3 q h
  ·rw [h];exact b
theorem Ae7 {base u:Int} {l:List Ay} {ns:List Int} {k:Nat} (h:k < ns.length):Lv base u l (ns.take (k+1))=Vs base (Lv base u l (ns.take k)) ns[k] u:=by
 unfold Lv;rw [List.take_add_one,List.getElem?_eq_getElem h,List.foldl_append];rfl
theorem Tv (w:Aj) (t:Int):Aaz w t≤8:=by unfold Aaz;omega
theorem Zu {r:Az} {p:Ar} {d:Int} (hg:Mv r) (hp:Bw p=true) (d0:1≤d) (d1:d≤8) (hk:r.Ai+d≤10007):Cu (Cq r p)=true∧M0 (Ek r.Al (Cq r p)) (Cq r p).next=true∧Mv (Lu r p d)∧(Ni r p).length≤24:=by
 obtain ⟨a1,a2⟩:=Rt hg hp;obtain ⟨b1,⟨m,hm,em⟩,b3⟩:=Us hg hp;have htr:Cc p.Ap=true:=by unfold Bw at hp;simp only [Bool.and_eq_true] at hp;exact hp.1.1.1.1.2
 obtain ⟨c1,⟨k,hk2,ek⟩,c3⟩:=Ayf b1 htr;have hk0:=hg.k0;have hq:M0 (Ek r.Al (Cq r p)) (Cq r p).next=true:=by
  cases hs:r.Be
  ·rw [(hg.z hs).2];exact (Dg (l:=[])).2 ⟨Bc.2 (Iw c1),Nat.zero_le 8,fun r hr=>(by cases hr),List.Pairwise.nil⟩
  ·refine Afr (m:=m+k) FJ hg.q c1 ?_;show (Cq r p).next=_
   rw [show (Cq r p).next=Ci (Gn r p).next k from ek,em,a2 hs,Agj]
 have hn:Cq r p=Pi (Gn r p) p.Ap:=rfl;refine ⟨c1,hq,⟨hg.k0,hg.k1,c1,?_,?_,fun h=>by cases h⟩,by unfold Ni;rw [List.length_append];omega⟩
 ·show M0 (Qr (Cq r p) (Ek r.Al (Cq r p)) p.Fv (r.Ai+d)) (Cq r p).next=true
  unfold Qr
  split
  ·exact (Sh FJ FJ _ _ (fun n hn=>⟨(Sq (Tv _ _) hn).1,(Sq (Tv _ _) hn).2.2⟩) hq Qi).1
  ·exact hq
 ·show ∀q∈Qr (Cq r p) (Ek r.Al (Cq r p)) p.Fv (r.Ai+d),Jb (Cq r p) q.Ae=false;unfold Qr
  split
  ·exact (Sh FJ FJ _ _ (fun n hn=>⟨(Sq (Tv _ _) hn).1,(Sq (Tv _ _) hn).2.2⟩) hq Qi).2
  ·exact Qi
theorem V3 {r:Az} {p:Ar} {d:Int} (hg:Mv r) (hp:Bw p=true) (d0:1≤d) (d1:d≤8):Mv (Dm r p d)∧(Iv r p).length≤24:=by
 have hk1:=hg.k1;have hk0:=hg.k0;unfold Dm Iv
 split
 ·exact ⟨(Zu hg hp d0 d1 FJ).2.2.1,(Zu hg hp d0 d1 FJ).2.2.2⟩
 ·refine ⟨?_,FK⟩
  split
  ·rename_i h;simp only [Bool.and_eq_true,decide_eq_true_eq] at h;refine ⟨hk0,hk1,hg.w,Ar7 hg.q FJ FJ,fun q hq=>?_,fun hs=>?_⟩
   ·obtain ⟨r',hr,e⟩:=Axr hq;show Jb r.Aa q.Ae=false;rw [←e];exact hg.f r' hr
   ·have:r.Be=false:=hs;rw [h.2] at this;cases this
  ·exact hg
theorem Tp (y:Ay) (w:World):C1 Av w [.int .i64 y.Ae,.int .i64 y.state,.int .i64 y.Ch,.int .i64 y.D5] [y] []:=⟨_,[],[],[],FK,FK,⟨rfl,rfl⟩,rfl,rfl⟩
theorem Azd (xs:List Ay) (y:Ay) (i:Nat) (a:Option Addr) (c vb:Nat) (F:List Nat) (hi:i≤xs.length) (hl:xs.length≤1000000) :
  Fn prog 438 [.slice a xs.length c,.int .i64 i,.slice (some ⟨vb,0,none⟩) 1 1] [] [.ow Av 250 (.slice a xs.length c) xs F,.row vb 250 0 [] [.int .i64 y.Ae,.int .i64 y.state,.int .i64 y.Ch,.int .i64 y.D5] []] (fun (_:Option Addr × Nat × List Nat)=>True)
   (fun z=>.slice z.1 (xs.take i++y::xs.drop i).length z.2.1) (fun z=>[.ow Av 250 (.slice z.1 (xs.take i++y::xs.drop i).length z.2.1) (xs.take i++y::xs.drop i) z.2.2]):=by
 have hone:∀w':World,∀cs:List Value,C1 Av w' cs xs []→∀u∈cs,u.oneCell'=true:=fun w' cs h=>h.one' C4;have hy:=Tp y;have h1y:∀u∈([.int .i64 y.Ae,.int .i64 y.state,.int .i64 y.Ch,.int .i64 y.D5]:List Value),u.oneCell'=true:=IM
 refine enter func438 rfl ntmps438 fun w0=>?_;refine Bco (E:=Av) fun hc1 hc2=>?_;refine go ?_;apply wO;refine Anj rfl rfl rfl rfl hi (fun _=>?_) hc1;refine go ?_;refine Ax rfl (fun h1=>?_) (fun h1=>?_)
 ·have hin:i=xs.length:=FJ
  subst hin;have e:xs.take xs.length++y::xs.drop xs.length=xs++[y]:=FK
  refine go ?_;apply wO;refine Qa hy C4 fun a2 c2 F2=>?_;rw [e];exact DM
 ·have hlt:i < xs.length:=FJ
  refine An3 (xs:=xs) Dp (by rintro rfl;simp at hlt) ?_;rintro g cs rest rfl - - - hcl hcr hfl;rw [show Av.sz=4 from rfl] at hcl hcr;have h1c:=hone w0 cs (hfl w0);obtain ⟨A,B,hcs,hA,hB⟩:∃A B,cs=A++B∧A=cs.take (i * 4)∧B=cs.drop (i * 4):=⟨_,_,(List.take_append_drop _ _).symm,rfl,rfl⟩;have hAl:A.length=i * 4:=LN
  have hBl:B.length=(xs.length - i) * 4:=LM
  have hins:∀w,C1 Av w (A++[.int .i64 y.Ae,.int .i64 y.state,.int .i64 y.Ch,.int .i64 y.D5]++B) (xs.take i++y::xs.drop i) []:=fun w=>by rw [hA,hB];exact (hfl w).insL (hy w) i hi
  have h1A:∀u∈A,u.oneCell'=true:=fun u hu=>h1c u IX;have h1B:∀u∈B,u.oneCell'=true:=fun u hu=>h1c u IX;have hlen:(xs.take i++y::xs.drop i).length=xs.length+1:=FR
  clear hA hB hfl hone;subst hcs;have eA:A=((A++B++rest).drop 0).take (i * 4):=IQ
  have eB:B=((A++B++rest).drop (0+i * 4)).take ((xs.length - i) * 4):=HQ
  rw [hlen];refine go ?_;apply wO;apply oc;rfl;exact Aub rfl;refine go ?_;refine Ax rfl (fun h2=>?_) (fun h2=>?_)
  ·refine go ?_;apply wO;apply oc;rfl;exact P9 (i:=i) rfl rfl rfl FJ FJ;refine go ?_;apply wO;refine As7 (k:=xs.length+1 - i) (olds:=A) rfl rfl rfl FJ (Nw (m:=i * 4) (.head _) eA) FJ FM FJ FJ FJ FJ fun g' cp' Z rest' h3 h4 h5 h6=>?_;rw [show i+(xs.length+1 - i)=xs.length+1 by omega] at h3 ⊢;obtain ⟨Z1,Z2,rfl,hZ1,hZ2⟩:∃Z1 Z2,Z=Z1++Z2∧Z1.length=4∧Z2.length=B.length:=⟨Z.take 4,Z.drop 4,(List.take_append_drop _ _).symm,GA,HU⟩;refine go ?_
   apply wO;apply oc;rfl;exact Ln (i:=i) rfl rfl rfl FJ FJ FJ;refine go ?_;apply wO
   refine X4 (cs:=[.int .i64 y.Ae,.int .i64 y.state,.int .i64 y.Ch,.int .i64 y.D5]) (L':=A++[.int .i64 y.Ae,.int .i64 y.state,.int .i64 y.Ch,.int .i64 y.D5]++(Z2++rest')) rfl rfl rfl (Nw (L:=[.int .i64 y.Ae,.int .i64 y.state,.int .i64 y.Ch,.int .i64 y.D5]) (o:=0) (m:=4) FO rfl) .here (Aga (M:=Z1) GP FJ (by simpa using hZ1)) (by show 4=min 1 (xs.length+1 - i) * 4;omega) FQ h1y ?_;refine go ?_;refine As [] [] ?_;refine Ds 0 1 2 3 ?_
   refine dt 4 ?_ (hy:=Ln (i:=i+1) rfl rfl FJ FJ FJ FJ);refine Ed 5 6 ?_;refine dt 7 ?_ (hy:=Ln (i:=i) rfl rfl FJ FJ FJ FJ);refine dN 8 ?_
   refine X4 (cs:=B) (L':=A++[.int .i64 y.Ae,.int .i64 y.state,.int .i64 y.Ch,.int .i64 y.D5]++B++rest') rfl rfl rfl (Nw FO eB) .here (Aga (P:=A++[.int .i64 y.Ae,.int .i64 y.state,.int .i64 y.Ch,.int .i64 y.D5]) (M:=Z2) GP FQ hZ2) HS FQ h1B ?_;refine dk ?_;refine dd ?_
   refine Aew (cs:=A++[.int .i64 y.Ae,.int .i64 y.state,.int .i64 y.Ch,.int .i64 y.D5]++B) (rest:=rest') (xs:=xs.take i++y::xs.drop i) cp' rfl hins FJ h4 (by rw [show Av.sz=4 from rfl];simp only [List.length_append,List.length_cons,List.length_nil] at h6 ⊢;omega) ?_;rw [hlen];refine go ?_;refine ret (_,cp',[g']) trivial rfl
  ·have hcx:xs.length+1≤c:=FJ
   obtain ⟨X,Y,hXY,hX,hY⟩:=Att (B:=B) (R:=rest) 4 FJ;refine go ?_;apply wO;apply oc;rfl;exact P9 (i:=xs.length+1) rfl rfl FJ FJ FJ;refine go ?_;apply wO;apply oc;rfl;exact Ln (i:=i+1) rfl rfl FJ FJ FJ FJ;refine O3 ?_;intros;apply wO
   refine Bbh rfl X8 (ovl (tS:=138) (tR:=4) (run_callFunc_extern func441 FL FL FL (e:=Extern.SlicesOverlaps.overlaps #[138,138] #[4]) FL) (.there .here) (.head _) HC) ?_;refine go ?_;refine As [] [] ?_;refine Ds 0 1 2 3 ?_;refine dt 4 ?_ (hy:=Ln (i:=i+1) rfl rfl FJ FJ FJ FJ);refine Ed 5 6 ?_;refine dt 7 ?_ (hy:=Ln (i:=i) rfl rfl FJ FJ FJ FJ);refine dN 8 ?_
   refine X4 (cs:=B) (L':=A++X++B++rest.drop 4) rfl rfl rfl (Nw FO eB) .here (Aga (P:=A++X) (M:=Y) IE HE hY) HO HE h1B ?_;refine dk ?_;refine dd ?_;refine go ?_;apply wO;apply oc;rfl;exact Ln (i:=i) rfl rfl rfl FJ FJ FJ;refine go ?_;apply wO
   refine X4 (cs:=[.int .i64 y.Ae,.int .i64 y.state,.int .i64 y.Ch,.int .i64 y.D5]) (L':=A++[.int .i64 y.Ae,.int .i64 y.state,.int .i64 y.Ch,.int .i64 y.D5]++(B++rest.drop 4)) rfl rfl rfl (Nw (L:=[.int .i64 y.Ae,.int .i64 y.state,.int .i64 y.Ch,.int .i64 y.D5]) (o:=0) (m:=4) FO rfl) .here (Aga (M:=X) GP FJ (by simpa using hX)) (by show 4=min 1 (xs.length+1 - i) * 4;omega) FQ h1y ?_;refine go ?_
   refine Aew (L:=A++[.int .i64 y.Ae,.int .i64 y.state,.int .i64 y.Ch,.int .i64 y.D5]++(B++rest.drop 4)) (cs:=A++[.int .i64 y.Ae,.int .i64 y.state,.int .i64 y.Ch,.int .i64 y.D5]++B) (rest:=rest.drop 4) (xs:=xs.take i++y::xs.drop i) c GP hins FJ FJ (by rw [show Av.sz=4 from rfl];simp only [List.length_append,List.length_cons,List.length_nil,List.length_drop];omega) ?_;rw [hlen];refine ret (_,c,[g]) trivial rfl
instance:IntC prog 363 .u64:=⟨underlying363⟩
theorem Avu (fid:FuncId) (caps:List Value) (A:List Pc) (hA:A.all (fun p=>!p.mu)=true) (xs:List Ay) (a:Option Addr) (c:Nat) (F:List Nat) (tv:Value) (f:Ay→Int) (hm:∀i j (_:i≤j) (hj:j < xs.length),f xs[j] < 0→f (xs[i]'FJ) < 0) (hb:Si prog fid=true) (hl:xs.length≤1000000)
  (hp:∀x∈xs,∀w,Om A w→Calls prog fid ([.agg #[.int .i64 x.Ae,.int .i64 x.state,.int .i64 x.Ch,.int .i64 x.D5],tv]++caps).toArray w (RB (.int .i64 (f x)) w)) :
  Fn prog 431 [.slice a xs.length c,tv,.func (.func fid) #[] caps.toArray] (.sl Av (.slice a xs.length c) xs F::A) [] (fun (_:Unit)=>True) (fun _=>.tuple #[.int .i64 ((xs.takeWhile fun x=>decide (f x < 0)).length:Nat),.bool (Bek f xs[(xs.takeWhile fun x=>decide (f x < 0)).length]?)]) (fun _=>[]):=by
 refine enter func431 rfl ntmps431 (fun w0=>?_) rfl GQ .nil;refine go ?_;refine D8 [0,1,2,6,7,8] (fun s:Nat × Nat=>[(9,.int .i64 (s.1:Nat)),(10,.int .i64 (s.2:Nat))]) (fun s=>s.1≤s.2∧s.2≤xs.length∧(∀j (_:j < s.1) (h:j < xs.length),f xs[j] < 0)∧(∀j (_:s.2≤j) (h:j < xs.length),¬f xs[j] < 0)) (fun s=>s.2 - s.1) (0,xs.length) ⟨Nat.zero_le _,Nat.le_refl _,fun j h=>by omega,fun j h1 h2=>by omega⟩ fun s hs=>?_;obtain ⟨i,j⟩:=s;obtain ⟨h1,h2,h3,h4⟩:=hs;dsimp only at h1 h2 h3 h4 ⊢;refine go ?_;refine Ax rfl (fun h5=>?_) (fun h5=>?_)
 ·have hh:(i+j) / 2 < xs.length:=FJ
  have e2:((i:Int)+(j:Int)) / 2=(((i+j) / 2:Nat):Int):=FJ
  refine go ?_;apply wO;apply oc;rfl;exact Auc rfl FJ FJ;refine go ?_;apply wO;apply oc;rfl;exact Aod rfl;rw [e2];apply wO;apply oc;rfl;exact Arv rfl FJ FJ;generalize hq:(i+j) / 2=q at hh;refine go ?_;refine I9 (xs:=xs) q ?_;rintro hi b o e;rw [e];refine go ?_;apply wO;refine Agr rfl rfl hb X8 ?_;refine cb (fun w st=>hp xs[q] (List.getElem_mem hh) w (fun p hp=>st.on p IC)) ?_;refine go ?_;refine Ax rfl (fun h6=>?_) (fun h6=>?_)
  ·exact DF
  ·exact DH
 ·have hij:i=j:=FJ
  subst hij;have hk:(xs.takeWhile fun x=>decide (f x < 0)).length=i:=Zf h2 (fun j hj h=>decide_eq_true (h3 j hj h)) (fun h=>decide_eq_false (h4 i (Nat.le_refl _) h));rw [hk];refine go ?_;refine Dx rfl rfl (fun h6=>?_) (fun h6=>?_)
  ·have hh:i < xs.length:=FJ
   rw [List.getElem?_eq_getElem hh];refine go ?_;refine I9 (xs:=xs) i ?_;exact DG
  ·rw [List.getElem?_eq_none FJ];exact AA
theorem Bch {base n:Int} {l:List Ay} (hser:∀q∈l,Cc q.Ae=true) (hn:Cc n=true):(l.takeWhile fun x=>decide (gp base x.Ae - gp base n < 0)).length=Eo base l n ∧
  Bek (fun x:Ay=>gp base x.Ae - gp base n) l[(l.takeWhile fun x=>decide (gp base x.Ae - gp base n < 0)).length]?=Nz base l n:=by
 have e:(fun x:Ay=>decide (gp base x.Ae - gp base n < 0))=fun h=>decide (gp base h.Ae < gp base n):=by
  funext x;rw [decide_eq_decide];omega
 have e1:(l.takeWhile fun x=>decide (gp base x.Ae - gp base n < 0)).length=Eo base l n:=by unfold Eo;rw [e]
 refine ⟨e1,?_⟩;rw [e1];unfold Nz;cases hq:l[Eo base l n]? with
 | none=>rfl
 | some z =>
  show decide (gp base z.Ae - gp base n=0)=decide (z.Ae=n);rw [decide_eq_decide];exact ⟨fun h=>Bgh (t:=base) (hser z (List.mem_of_getElem? hq)) hn FJ,fun h=>by rw [h];omega⟩
theorem Bi8 (r:Ay) (n t:Int) (gb:Nat) (t0:0≤t) (t1:t≤65535) (n0:0≤n) (n1:n≤65535) (m0:0≤r.Ae) (m1:r.Ae≤65535) :
  FV 432 [.agg #[.int .i64 r.Ae,.int .i64 r.state,.int .i64 r.Ch,.int .i64 r.D5],.int .i64 n,Iq gb 0 0] [.cel gb 0 [.int .i64 t]] (.int .i64 (gp t r.Ae - gp t n)):=by
 have b1:=Mf t r.Ae;have b2:=Mf t n;refine enter func432 rfl ntmps432 fun w0=>?_;refine go ?_;intros;refine As [0,1] [] ?_;refine Ds 0 1 2 4 ?_;refine dt 5 ?_;refine dN 3 ?_;refine oC ?_;refine ce (fun w s=>Qg _ _ _ FJ FJ FJ FJ) ?_;refine dk ?_;refine dN 6 ?_;exact EP
theorem Aah (l:List Ay) (base n:Int) (a:Option Addr) (c:Nat) (F:List Nat) (hq:M0 l base=true) (hn:Cc n=true) :
  FV 414 [.slice a l.length c,.int .i64 base,.int .i64 n] [.sl Av (.slice a l.length c) l F] (.tuple #[.int .i64 (Eo base l n:Nat),.bool (Nz base l n)]):=by
 obtain ⟨q1,q2,q3,q4⟩:=Dg.1 hq;have hser:∀q∈l,Cc q.Ae=true:=fun q h=>(Ew.1 (q3 q h)).n;obtain ⟨b0,b1⟩:=Bc.1 q1;obtain ⟨n0,n1⟩:=Bc.1 hn;obtain ⟨e1,e2⟩:=Bch (base:=base) hser hn;refine enter func414 rfl ntmps414 fun w0=>?_;refine go ?_;intros;rename_i gb;refine cb (fun w st=>by
  have r1:=st.get (p:=.row gb 3 0 [] [.int .i64 base] []) FK;have hw:=(st.get (p:=.sl Av (.slice a l.length c) l F) FK).2;refine (Avu 432 [Iq gb 0 0] [.cel gb 0 [.int .i64 base]] rfl l a c F (.int .i64 n) (fun r=>gp base r.Ae - gp base n) (fun i j hij hj h=>?_) FL FJ fun x hx w' hA=>?_).val w ?_
  ·rcases Nat.lt_or_eq_of_le hij with h2|rfl
   ·have:=List.pairwise_iff_getElem.1 q4 i j FJ hj h2;omega
   ·exact h
  ·obtain ⟨m0,m1⟩:=Bc.1 (hser x hx);exact (Bi8 x n base gb b0 b1 n0 n1 m0 m1).val w' hA
  ·intro p hp;simp only [List.mem_cons,List.not_mem_nil,or_false] at hp;rcases hp with rfl|rfl
   ·exact st.get FK
   ·exact ⟨FK,I0 r1⟩) ?_
 rw [e2,e1];exact AA
theorem Ah6 (l:List Ay) (base n:Int) (a:Option Addr) (c:Nat) (F:List Nat) (hq:M0 l base=true) (hn:Cc n=true) :
  FV 363 [.slice a l.length c,.int .i64 base,.int .i64 n] [.sl Av (.slice a l.length c) l F] (.tuple #[.int .i64 (Eo base l n:Nat),.bool (Nz base l n)]):=by
 obtain ⟨q1,q2,q3,q4⟩:=Dg.1 hq;have hser:∀q∈l,Cc q.Ae=true:=fun q h=>(Ew.1 (q3 q h)).n;obtain ⟨b0,b1⟩:=Bc.1 q1;obtain ⟨n0,n1⟩:=Bc.1 hn;obtain ⟨t1,t2,t3⟩:=Se (p:=fun r:Ay=>decide (gp base r.Ae < gp base n)) (xs:=l);have hle:=T9 base l n;have hb2:=Mf base n;refine enter func363 rfl ntmps363 fun w0=>?_;refine go ?_;refine Cj [0,1,2,6,7] (fun k:Nat=>[(8,.int .i64 (k:Nat))]) (fun _=>[]) (fun k=>k≤Eo base l n) (fun k=>l.length - k) 0 (Nat.zero_le _) fun k hk=>?_;have leaf:∀h:k < l.length,decide (gp base l[k].Ae < gp base n)=decide (k < Eo base l n):=fun h=>by
  by_cases h2:k < Eo base l n
  ·rw [decide_eq_true h2];exact t2 k h2 h
  ·have e:k=Eo base l n:=FJ
   subst e;rw [decide_eq_false h2];exact t3 h
 refine go ?_;refine Dx rfl rfl (fun h4=>?_) (fun h4=>?_)
 ·have hi:k < l.length:=FJ
  refine go ?_;refine I9 (xs:=l) k ?_;rintro hi b o e;rw [e];refine go ?_;obtain ⟨m0,m1⟩:=Bc.1 (hser _ (List.getElem_mem hi));have hb1:=Mf base l[k].Ae;refine ce (fun w s=>Ju _ _ _ FJ FJ) ?_;refine go ?_;refine ce (fun w s=>Ju _ _ _ FJ FJ) ?_;have lf:=leaf hi;refine go ?_;refine Ax rfl (fun h5=>?_) (fun h5=>?_)
  ·have h6:k < Eo base l n:=by rw [decide_eq_true h5] at lf;simpa using lf.symm
   refine go ?_;refine Ce (k+1) (by show k+1≤Eo base l n;omega) HK
  ·have h6:k=Eo base l n:=by rw [decide_eq_false h5] at lf;have:¬k < Eo base l n:=by simpa using lf.symm
                             omega
   refine go ?_;refine As [0] [] ?_;refine Ds 0 1 2 3 ?_;refine dt 4 ?_;rw [decide_eq_true h4];refine dt 5 ?_;refine Dr 6 ?_;refine Dr 7 ?_;refine Dr 8 ?_;refine Dr 9 ?_;refine Dr 10 ?_;refine Dr 11 ?_;refine Dr 12 ?_;refine Ed 13 14 ?_;refine dt 15 ?_;refine dd ?_;rw [Vt FJ];subst h6;exact AA
 ·have h6:k=Eo base l n:=FJ
  refine go ?_;refine As [0] [] ?_;refine Ds 0 1 2 3 ?_;refine dt 4 ?_;rw [decide_eq_false h4];refine dt 5 ?_;refine ds 6 ?_;refine ds 7 ?_;refine ds 8 ?_;refine ds 9 ?_;refine ds 10 ?_;refine ds 11 ?_;refine ds 12 ?_;refine Ed 13 14 ?_;refine dt 15 ?_;refine dd ?_;rw [Aks FJ];subst h6;exact AA
def Amu (base:Int) (l:List Ay) (n u:Int):List Ay:=if Nz base l n then [] else Ya base l n u
structure OwR where
 a:Option Addr
 c:Nat
 F:List Nat
theorem Amn (l:List Ay) (base n ck d:Int) (a:Option Addr) (c:Nat) (F:List Nat) (hq:M0 l base=true) (hn:Cc n=true) (h8:gp base n < 8) (k0:0≤ck) (k1:ck≤9999) (d0:1≤d) (d1:d≤8) :
  Fn prog 430 [.slice a l.length c,.int .i64 base,.int .i64 n,.int .i64 ck,.int .i64 d] [.sl Av (.slice a l.length c) l F] [] (fun (_:OwR)=>True) (fun s=>.tuple #[.slice s.a (Amu base l n (ck+d)).length s.c,.bool (!Nz base l n)]) (fun s=>[.ow Av 250 (.slice s.a (Amu base l n (ck+d)).length s.c) (Amu base l n (ck+d)) s.F]):=by
 have hle:=T9 base l n;obtain ⟨q1,q2,q3,q4⟩:=Dg.1 hq;have hck:Ld ck=true:=by unfold Ld Gj;simp;omega
 have hdl:Bao d=true:=by unfold Bao Gj;simp;omega
 refine enter func430 rfl ntmps430 fun w0=>?_;refine go ?_;refine Cb (Rx l base _ F) fun _ _=>?_;rw [hq];refine go ?_;refine ce (fun w s=>Jj _ _) ?_;rw [hn];refine go ?_;refine ce (fun w s=>T0 _ _) ?_;rw [hck];refine go ?_;refine Cb (Awt d) fun _ _=>?_;rw [hdl];refine go ?_;refine Cb (Aah l base n a c F hq hn) fun _ _=>?_;cases ho:Nz base l n
 ·rw [show Amu base l n (ck+d)=Ya base l n (ck+d) by unfold Amu;rw [ho];rfl];have hln:=Ban base l n (ck+d);refine go ?_;refine Cb (Uy l a c F FJ) fun z _=>?_;refine go ?_;intros;refine Cb (Azd l ⟨n,1,ck+d,0⟩ (Eo base l n) z.1 z.2.1 _ z.2.2 hle FJ) fun y _=>?_;rw [show l.take (Eo base l n)++(⟨n,1,ck+d,0⟩:Ay)::l.drop (Eo base l n)=Ya base l n (ck+d) from rfl];refine go ?_
  refine cb (fun w st=>by obtain ⟨Fw, -,hw⟩:=(st.get (p:=.ow Av 250 (.slice y.1 (Ya base l n (ck+d)).length y.2.1) (Ya base l n (ck+d)) y.2.2) FK).2.read;exact (Rx (Ya base l n (ck+d)) base _ Fw).val w (En ⟨FM,hw⟩)) ?_;rw [Ali hq hn h8 FJ FJ ho];exact BD
 ·rw [show Amu base l n (ck+d)=[] by unfold Amu;rw [ho];rfl];refine go ?_;refine Dj Av 250 ?_;refine ret ⟨none,0,[]⟩ trivial rfl
theorem Baw (l:List Ay) (base n ck d:Int) (a:Option Addr) (c:Nat) (F:List Nat) (hq:M0 l base=true) (hn:Cc n=true) (k0:0≤ck) (k1:ck≤9999) (d0:1≤d) (d1:d≤8) :
  Fn prog 368 [.slice a l.length c,.int .i64 base,.int .i64 n,.int .i64 ck,.int .i64 d] [.sl Av (.slice a l.length c) l F] [] (fun (_:OwR)=>True) (fun s=>.slice s.a (Vs base l n (ck+d)).length s.c) (fun s=>[.ow Av 250 (.slice s.a (Vs base l n (ck+d)).length s.c) (Vs base l n (ck+d)) s.F]):=by
 have hle:=T9 base l n;obtain ⟨q1,q2,q3,q4⟩:=Dg.1 hq;obtain ⟨b0,b1⟩:=Bc.1 q1;obtain ⟨n0,n1⟩:=Bc.1 hn;have hbd:=Mf base n;refine enter func368 rfl ntmps368 fun w0=>?_;refine go ?_;refine Cb (Ah6 l base n a c F hq hn) fun _ _=>?_;cases ho:Nz base l n
 rotate_left
 ·rw [show Vs base l n (ck+d)=l by unfold Vs;rw [ho];rfl];exact FI
 refine go ?_;refine ce (fun w s=>Ju _ _ _ FJ FJ) ?_;refine go ?_;refine Ax rfl (fun h4=>?_) (fun h4=>?_)
 ·rw [show Vs base l n (ck+d)=l by unfold Vs;rw [ho,decide_eq_false (show ¬gp base n < 8 by omega)];rfl];exact FI
 rw [show Vs base l n (ck+d)=Ya base l n (ck+d) by unfold Vs;rw [ho,decide_eq_true (show gp base n < 8 by omega)];rfl];refine Xq (E:=Av) (xs:=l) ?_;rintro _ _ e8 c0 c1;cases e8;refine Avk (E:=Av) (xs:=l) (Eo base l n) (fun FT=>?_) hle;obtain ⟨T1,hT1⟩:∃T1,T1=l.take (Eo base l n):=⟨_,rfl⟩;have hT1l:T1.length=Eo base l n:=by rw [hT1,List.length_take];omega
 rw [←hT1];have hAdd:T1++[(⟨n,1,ck+d,0⟩:Ay)]++l.drop (Eo base l n)=Ya base l n (ck+d):=by rw [hT1];unfold Ya Bjd;simp
 refine go ?_;intros;refine As [0,1] [] ?_;refine Ed 1 2 ?_;refine dt 3 ?_ (hy:=P9 (i:=T1.length) rfl rfl (by rw [hT1l]) FJ FJ);refine Ed 5 8 ?_;refine dt 9 ?_;refine Asd 10 (Eo base l n) (fun a6 c6 F6=>?_);refine dM 0 6 ?_ ?_
 ·apply Mx;rfl;intro _;refine Dc Av ?_;refine dk ?_;refine dM 4 6 ?_ ?_
  ·refine Pm (ys:=T1) C4 Dp fun a7 c7 F7=>?_;rw [List.nil_append];refine dk ?_;refine dN 6 ?_;apply Lx;rfl;rfl;rfl;rfl;exact Lr;exact La;intro _;exact AK
  ·apply Lx;rfl;rfl;rfl;rfl;exact Lr;exact La;intro _;refine dk ?_;refine dN 4 ?_;refine Pm (ys:=T1) C4 Dp fun a7 c7 F7=>?_;rw [List.nil_append];exact AK
 ·apply Lx;rfl;rfl;rfl;rfl;exact Lr;exact La;intro _;refine dk ?_;refine dN 0 ?_;apply Mx;rfl;intro _;refine Dc Av ?_;refine dk ?_;refine dN 4 ?_;refine Pm (ys:=T1) C4 Dp fun a7 c7 F7=>?_;rw [List.nil_append];exact AK
theorem Adl (l:List Ay) (base n ck:Int) (a:Option Addr) (c:Nat) (F:List Nat) (hq:M0 l base=true) (hn:Cc n=true) (k0:0≤ck) (k1:ck≤9999) :
  Fn prog 389 [.slice a l.length c,.int .i64 base,.int .i64 n,.int .i64 ck] [.sl Av (.slice a l.length c) l F] [] (fun (_:OwR)=>True) (fun s=>.tuple #[.slice s.a (Sj base l n (ck+4)).length s.c,.bool true]) (fun s=>[.ow Av 250 (.slice s.a (Sj base l n (ck+4)).length s.c) (Sj base l n (ck+4)) s.F]):=by
 have hle:=T9 base l n;obtain ⟨q1,q2,q3,q4⟩:=Dg.1 hq;have hck:Ld ck=true:=by unfold Ld Gj;simp;omega
 refine enter func389 rfl ntmps389 fun w0=>?_;refine go ?_;refine Cb (Rx l base _ F) fun _ _=>?_;rw [hq];refine go ?_;refine ce (fun w s=>Jj _ _) ?_;rw [hn];refine go ?_;refine ce (fun w s=>T0 _ _) ?_;rw [hck];refine go ?_;refine Cb (Uy l a c F FJ) fun z _=>?_;refine go ?_;refine cb (fun w st=>by obtain ⟨Fw, -,hw⟩:=(st.get (p:=.ow Av 250 (.slice z.1 (l).length z.2.1) (l) z.2.2) FK).2.read;exact (Aah l base n z.1 z.2.1 Fw hq hn).val w (En ⟨FM,hw⟩)) ?_;have hcl:=Akz base l n (ck+4);cases ho:Nz base l n
 ·rw [Yk ho];exact BD
 ·have hlt:=Vu ho;refine go ?_;refine Ahs (xs:=l) (Eo base l n) ?_ (hi:=hlt);rintro hi g A B ha hF hh;rw [ha];refine go ?_;refine Pd (⟨n,3,ck+4,l[Eo base l n].D5⟩:Ay) hh (fun w=>?_) ?_
  ·rw [Vt hi] at ho;have e:l[Eo base l n].Ae=n:=by simpa using ho
   rw [e];exact EE
  exact FD
theorem Anb (l:List Ay) (base n ck:Int) (a:Option Addr) (c:Nat) (F:List Nat) (hq:M0 l base=true) (hn:Cc n=true) (k0:0≤ck) (k1:ck≤9999) :
  Fn prog 309 [.slice a l.length c,.int .i64 base,.int .i64 n,.int .i64 ck] [.sl Av (.slice a l.length c) l F] [] (fun (_:OwR)=>True) (fun s=>.slice s.a (Sj base l n (ck+4)).length s.c) (fun s=>[.ow Av 250 (.slice s.a (Sj base l n (ck+4)).length s.c) (Sj base l n (ck+4)) s.F]):=by
 have hle:=T9 base l n;obtain ⟨q1,q2,q3,q4⟩:=Dg.1 hq;have hcl:=Akz base l n (ck+4);refine enter func309 rfl ntmps309 fun w0=>?_;refine O3 ?_;intros;refine Dc Av ?_;refine go ?_;apply wO;refine Pm C4 Dp fun a5 c5 F5=>?_;rw [List.nil_append];refine go ?_;refine Cb (Ah6 l base n a c F hq hn) fun _ _=>?_;cases ho:Nz base l n
 ·rw [Yk ho];exact BD
 ·have hlt:=Vu ho;refine go ?_;refine I9 (xs:=l) (Eo base l n) ?_;rintro hi b o e;rw [e];refine Ahs (xs:=l) (a:=a5) (Eo base l n) ?_ (hi:=hlt);rintro hi g A B ha hF hh;rw [ha];refine go ?_;refine Pd (⟨n,3,ck+4,l[Eo base l n].D5⟩:Ay) hh (fun w=>⟨rfl,rfl⟩) ?_;exact FD
structure SkS where
 a:Option Addr
 c:Nat
 F:List Nat
 ae:Option Addr
 ce:Nat
 Fe:List Nat
theorem Bdv (w:Aj) (st:Bool) (ck tr:Int) (q:Value) (g t o:Nat) (A B:List Value) (a1:Option Addr) (c1:Nat) (F1:List Nat) (hg:Cu w=true) (ht:Cc tr=true) :
  Fn prog 411 [Iq g o 0,.int .i64 tr] [] [.row g t o A [.bool st,.int .i64 ck,.int .i64 (w).next,.slice a1 (w).Am.length c1,q] B,.ow B9 275 (.slice a1 (w).Am.length c1) (w).Am F1] (fun (_:SkS)=>True)
   (fun s=>.slice s.ae (Pw w tr).length s.ce) (fun s=>[.row g t o A [.bool st,.int .i64 ck,.int .i64 (Pi w tr).next,.slice s.a (Pi w tr).Am.length s.c,q] B,.ow B9 275 (.slice s.a (Pi w tr).Am.length s.c) (Pi w tr).Am s.F,.ow A8 9 (.slice s.ae (Pw w tr).length s.ce) (Pw w tr) s.Fe]):=by
 obtain ⟨w0_,w1_⟩:=Iw hg;obtain ⟨t0_,t1_⟩:=Bc.1 ht;obtain ⟨hw8,hit⟩:=Kh hg;have hgb:=Mf w.next tr
 refine enter func411 rfl ntmps411 fun w0=>?_;refine go ?_;refine ce (fun w s=>Ot _ _ _ FJ FJ FJ FJ) ?_;cases hb:Uu w.next tr
 ·have e1:Pi w tr=w:=by unfold Pi;rw [hb];rfl
  have e2:Pw w tr=[]:=by unfold Pw;rw [hb];rfl
  rw [e1,e2];refine Dj A8 9 ?_;exact DZ
 refine go ?_;refine ce (fun w s=>Qg _ _ _ FJ FJ FJ FJ) ?_;refine go ?_;refine Ax rfl (fun h4=>?_) (fun h4=>?_)
 ·have e1:Pi w tr=Jo w tr:=by unfold Pi;rw [hb,if_pos rfl,if_pos h4]
  have e2:Pw w tr=Jm w tr:=by unfold Pw;rw [hb,if_pos rfl,if_pos h4]
  rw [e1,e2];refine Avj [.bool st,.int .i64 ck] [.int .i64 w.next,.slice a1 w.Am.length c1] [q] ?_;refine go ?_;refine Cb (Aom w tr g t (o+2) (A++[.bool st,.int .i64 ck]) _ a1 c1 F1 w0_ w1_ t0_ t1_ hw8 hit) fun y hy=>?_;obtain ⟨hy1,hy2⟩:=hy;refine Ajg [.bool st,.int .i64 ck] [.int .i64 y.y.next,.slice y.a y.y.Am.length y.c] [q] ?_;rw [show Jo w tr=y.y from hy1.symm,show Jm w tr=y.es from hy2.symm];exact DZ
 ·have e1:Pi w tr=⟨tr,[]⟩:=by unfold Pi;rw [hb,if_pos rfl,if_neg h4]
  have e2:Pw w tr=[⟨#[33]⟩]:=by unfold Pw;rw [hb,if_pos rfl,if_neg h4]
  rw [e1,e2];refine Dj B9 275 ?_;refine O3 ?_;intros;refine Ll (xs:=[(⟨#[33]⟩:ByteArray)]) (U8 _ FM) ?_ FK;refine go ?_;refine ret ⟨none,0,[],_,_,_⟩ trivial rfl
structure AwS where
 i:Nat
 a:Option Addr
 c:Nat
 F:List Nat
theorem Azj (x:Aj) (l:List Ay) (st:Bool) (ck Fv d:Int) (g t o:Nat) (A B:List Value) (a1:Option Addr) (c1:Nat) (F1:List Nat) (a2:Option Addr) (c2:Nat) (F2:List Nat) (hg:Cu x=true) (hq:M0 l x.next=true) (hf:∀q∈l,Jb x q.Ae=false) (hl:Cc Fv=true) (k0:0≤ck) (k1:ck≤9999) (d0:1≤d) (d1:d≤8) :
  Fn prog 413 [Iq g o 0,.int .i64 Fv,.int .i64 d] [] [.row g t o A [.bool st,.int .i64 ck,.int .i64 (x).next,.slice a1 (x).Am.length c1,.slice a2 (l).length c2] B,.ow B9 275 (.slice a1 (x).Am.length c1) (x).Am F1,.ow Av 250 (.slice a2 (l).length c2) (l) F2] (fun (_:OwR)=>True)
   (fun _=>.tuple #[]) (fun s=>[.row g t o A [.bool st,.int .i64 ck,.int .i64 (x).next,.slice a1 (x).Am.length c1,.slice s.a (Qr x l Fv (ck+d)).length s.c] B,.ow B9 275 (.slice a1 (x).Am.length c1) (x).Am F1,.ow Av 250 (.slice s.a (Qr x l Fv (ck+d)).length s.c) (Qr x l Fv (ck+d)) s.F]):=by
 obtain ⟨w0_,w1_⟩:=Iw hg;obtain ⟨l0_,l1_⟩:=Bc.1 hl;have hgb:=Mf x.next Fv
 refine enter func413 rfl ntmps413 fun w0=>?_;refine go ?_;refine ce (fun w s=>Ot _ _ _ FJ FJ FJ FJ) ?_;cases hb:Uu x.next Fv
 ·have e1:Qr x l Fv (ck+d)=l:=by unfold Qr;rw [hb];rfl
  rw [e1];exact BD
 obtain ⟨k,hk⟩:∃k,k=Aaz x Fv:=⟨_,rfl⟩;have hk8:k≤8:=by rw [hk];exact Tv _ _
 have hkm:((k:Nat):Int)=min (gp x.next Fv) 8:=by rw [hk];unfold Aaz;omega
 obtain ⟨N,hN⟩:∃N,N=Pg x k:=⟨_,rfl⟩;have hNl:N.length≤8:=by have:=Aei x k;rw [hN];omega
 have e1:Qr x l Fv (ck+d)=Lv x.next (ck+d) l N:=by unfold Qr;rw [hb,if_pos rfl,hN,hk]
 rw [e1];have V2:=Kd x.next (min (gp x.next Fv) 8)
 have hgp:gp x.next (Ci x.next (min (gp x.next Fv) 8))=(k:Nat):=by rw [←hkm];unfold gp Ci;omega
 refine go ?_;refine As [0] [] ?_;refine Ds 0 1 2 3 ?_;refine Ds 4 5 6 12 ?_;refine dN 7 ?_;refine oC ?_;refine ce (fun w s=>Qg _ _ _ FJ FJ FJ FJ) ?_;refine dk ?_;refine dt 8 ?_;refine dN 9 ?_;refine oC ?_;refine ce (fun w s=>Th _ _ _ FJ FJ) ?_;refine dk ?_;refine dN 10 ?_;refine oC ?_;refine cfr (fun w st=>by obtain ⟨F9,hF9⟩:=Bhr (st.get (p:=.ow B9 275 (.slice a1 (x).Am.length c1) (x).Am F1) FK);exact ⟨_,En hF9,rfl,Aon x _ k _ F9 w0_ w1_ FJ FJ hgp⟩) (fun m _=>?_);refine dk ?_;refine dt 11 ?_;refine dd ?_;rw [←hN]
 refine A4 (E:=Bb) (xs:=N) fun GN=>?_;refine go ?_;refine Cj [0,2,6,30,31] (fun s:AwS=>[(32,.int .i64 (s.i:Nat))]) (fun s=>[.row g t o A [.bool st,.int .i64 ck,.int .i64 (x).next,.slice a1 (x).Am.length c1,.slice s.a (Lv x.next (ck+d) l (N.take s.i)).length s.c] B,.ow Av 250 (.slice s.a (Lv x.next (ck+d) l (N.take s.i)).length s.c) (Lv x.next (ck+d) l (N.take s.i)) s.F]) (fun s=>s.i≤N.length) (fun s=>N.length - s.i) ⟨0,a2,c2,F2⟩ (Nat.zero_le _) fun s hs=>?_;obtain ⟨i,a3,c3,F3⟩:=s;dsimp only at hs ⊢;have hall:=Sh (w:=x) (u:=ck+d) FJ FJ (N.take i) l (fun n hn=>by
  have:=Sq (w:=x) (n:=n) hk8 (by rw [←hN];exact List.mem_of_mem_take hn);exact ⟨this.1,this.2.2⟩) hq hf
 have hLs:∀h:i < N.length,Lv x.next (ck+d) l (N.take (i+1))=Vs x.next (Lv x.next (ck+d) l (N.take i)) N[i] (ck+d):=fun h=>Ae7 h
 generalize hLd:Lv x.next (ck+d) l (N.take i)=L at *
 have hLq:=hall.1;have hL8:=(Dg.1 hLq).2.1;refine go ?_;refine Ax rfl (fun h4=>?_) (fun h4=>?_)
 ·have hi:i < N.length:=FJ
  have hni:=Sq (w:=x) (n:=N[i]) hk8 (by rw [←hN];exact List.getElem_mem hi);refine I5 (xs:=N) i ?_;rintro hi2 b o2 e;rw [e];refine go ?_;refine As [1] [] ?_;refine Ds 0 1 2 3 ?_;refine Ds 4 5 6 7 ?_;refine Ed 8 9 ?_;refine dt 10 ?_;refine dN 11 ?_;refine oC ?_;refine cfr (fun w st=>by obtain ⟨Fq, -,hq9⟩:=(st.get (p:=.ow Av 250 (.slice a3 (L).length c3) (L) F3) FK).2.read;exact ⟨[.sl Av (.slice a3 L.length c3) L Fq],En ⟨FM,hq9⟩,rfl,Amn L x.next N[i] ck d a3 c3 Fq hLq hni.1 hni.2.1 k0 k1 d0 d1⟩) (fun u _=>?_);refine dk ?_;refine Ds 12 13 14 15 ?_;refine dt 16 ?_;refine dd ?_
  refine go ?_;cases ho:Nz x.next L N[i]
  ·have eA:Lv x.next (ck+d) l (N.take (i+1))=Amu x.next L N[i] (ck+d):=by rw [hLs hi];unfold Vs Amu;rw [ho,decide_eq_true hni.2.1];rfl
   refine go ?_;rw [←eA];exact CJ
  ·have eA:Lv x.next (ck+d) l (N.take (i+1))=L:=by rw [hLs hi];unfold Vs;rw [ho];rfl
   refine go ?_;rw [←eA];exact CJ
 have hi:i=N.length:=FJ
 subst hi;rw [List.take_length] at hLd;rw [hLd];refine go ?_;refine Xp ?_;refine ret (⟨_,_,_⟩:OwR) trivial rfl
theorem Xy (p:Ar) (hs:p.data.size≤maxLen):FV 261 [.agg #[.int .i64 p.Cp,.int .i64 p.Ae,.int .i64 p.Ap,.int .i64 p.Fv,.string p.data]] [] (.bool (Bw p)):=by
 refine enter func261 rfl ntmps261 fun w0=>?_;refine go ?_;intros;refine ce (fun w s=>Ik _ _ _ _) ?_;cases g1:Gj 1 p.Cp 5
 ·refine go ?_;refine ret () trivial ?_;show Value.bool _=Value.bool _;congr 1;unfold Bw;simp [g1]
 refine go ?_;refine ce (fun w s=>Jj _ _) ?_;cases g2:Cc p.Ae
 ·refine go ?_;refine ret () trivial ?_;show Value.bool _=Value.bool _;congr 1;unfold Bw;simp [g2]
 refine go ?_;refine ce (fun w s=>Jj _ _) ?_;cases g3:Cc p.Ap
 ·refine go ?_;refine ret () trivial ?_;show Value.bool _=Value.bool _;congr 1;unfold Bw;simp [g3]
 refine go ?_;refine ce (fun w s=>Jj _ _) ?_;cases g4:Cc p.Fv
 ·refine go ?_;refine ret () trivial ?_;show Value.bool _=Value.bool _;congr 1;unfold Bw;simp [g4]
 refine go ?_;refine cb (fun w s=>Acj _ _ hs) ?_;cases g5:R5 p.data
 ·refine go ?_;refine ret () trivial ?_;show Value.bool _=Value.bool _;congr 1;unfold Bw;simp [g5]
 obtain ⟨t0,t1⟩:=Bc.1 g3;obtain ⟨l0,l1⟩:=Bc.1 g4;refine go ?_;refine ce (fun w s=>Qg _ _ _ FJ FJ FJ FJ) ?_;refine go ?_;refine Dx rfl rfl (fun h6=>?_) (fun h6=>?_)
 ·refine go ?_;refine Dx rfl rfl (fun h7=>?_) (fun h7=>?_)
  ·exact DV
  refine go ?_;refine Dx rfl rfl (fun h8=>?_) (fun h8=>?_)
  ·exact DT
  ·exact DK
 ·refine go ?_;refine ret () trivial ?_;show Value.bool _=Value.bool _;congr 1;unfold Bw;simp [h6]
theorem Apz (p:Ar) (hs:p.data.size≤maxLen):FV 239 [.agg #[.int .i64 p.Cp,.int .i64 p.Ae,.int .i64 p.Ap,.int .i64 p.Fv,.string p.data]] [] (.bool (Bw p)):=by
 refine enter func239 rfl ntmps239 fun w0=>?_;refine go ?_;intros;refine ce (fun w s=>Ku _ _ _ _) ?_;cases g1:Gj 1 p.Cp 5
 ·refine go ?_;refine ret () trivial ?_;show Value.bool _=Value.bool _;congr 1;unfold Bw;simp [g1]
 refine go ?_;refine ce (fun w s=>Pq _ _) ?_;cases g2:Cc p.Ae
 ·refine go ?_;refine ret () trivial ?_;show Value.bool _=Value.bool _;congr 1;unfold Bw;simp [g2]
 refine go ?_;refine ce (fun w s=>Pq _ _) ?_;cases g3:Cc p.Ap
 ·refine go ?_;refine ret () trivial ?_;show Value.bool _=Value.bool _;congr 1;unfold Bw;simp [g3]
 refine go ?_;refine ce (fun w s=>Pq _ _) ?_;cases g4:Cc p.Fv
 ·refine go ?_;refine ret () trivial ?_;show Value.bool _=Value.bool _;congr 1;unfold Bw;simp [g4]
 obtain ⟨t0,t1⟩:=Bc.1 g3;obtain ⟨l0,l1⟩:=Bc.1 g4;refine go ?_;refine ce (fun w s=>Ju _ _ _ FJ FJ) ?_;refine go ?_;refine Dx rfl rfl (fun h6=>?_) (fun h6=>?_)
 ·refine go ?_;refine ret () trivial ?_;have h6:¬gp p.Ap p.Fv≤32767:=FJ
  show Value.bool _=Value.bool _;congr 1;unfold Bw;simp [h6]
 have h6:gp p.Ap p.Fv≤32767:=FJ
 refine go ?_;refine ce (fun w s=>So _ _ _ hs) ?_;rw [show (decide ((p.data.size:Int)≤8) && Abi p.data.data.toList)=R5 p.data from rfl];cases g5:R5 p.data
 ·refine go ?_;refine ret () trivial ?_;show Value.bool _=Value.bool _;congr 1;unfold Bw;simp [g5]
 refine go ?_;refine Dx rfl rfl (fun h7=>?_) (fun h7=>?_)
 ·exact DV
 refine go ?_;refine Dx rfl rfl (fun h8=>?_) (fun h8=>?_)
 ·exact DT
 ·exact DK
def Aj2 (x:Aj) (q:Ay):Bool:=Uu q.Ae x.next || decide (8≤gp x.next q.Ae) || Jb x q.Ae
theorem Be2 {l:List Ay} {x:Aj}:(l.filter fun q=>!Aj2 x q)=Ek l x:=by
 unfold Ek Aj2;refine List.filter_congr fun q _=>?_;have e:decide (8≤gp x.next q.Ae) = !decide (gp x.next q.Ae < 8):=by rw [←decide_not];exact decide_eq_decide.2 FJ
 rw [e];cases Uu q.Ae x.next <;> cases Jb x q.Ae <;> simp
theorem Be4 (q:Ay) (x:Aj) (nb gb g o:Nat) (st:Bool) (ck:Int) (qv:Value) (a1:Option Addr) (c1:Nat) (F:List Nat) (w0_:0≤x.next) (w1_:x.next≤65535) (hn:Cc q.Ae=true) :
  FV 412 [.agg #[.int .i64 q.Ae,.int .i64 q.state,.int .i64 q.Ch,.int .i64 q.D5],Iq nb 0 0,Iq gb 0 0] [.cel nb 0 [.int .i64 x.next],.cel gb 0 [Iq g o 0],.cel g o [.bool st,.int .i64 ck,.int .i64 x.next,.slice a1 x.Am.length c1,qv],.isv Bh (.agg #[.int .i64 x.next,.slice a1 x.Am.length c1]) x F] (.bool (Aj2 x q)):=by
 obtain ⟨n0,n1⟩:=Bc.1 hn;have hgb:=Mf x.next q.Ae
 refine enter func412 rfl ntmps412 fun w0=>?_;refine go ?_;intros;cases hb:Uu q.Ae x.next
 rotate_left
 ·rw [show Aj2 x q=true by unfold Aj2;rw [hb];rfl];refine As [0,1,2,3,4] [] ?_;refine Ed 0 1 ?_;refine dt 2 ?_;refine dN 3 ?_;refine oC ?_;refine ce (fun w s=>Ot _ _ _ FJ FJ FJ FJ) ?_;rw [hb];refine dk ?_;refine dt 4 ?_;refine ds 5 ?_;refine ds 6 ?_;refine ds 7 ?_;refine ds 8 ?_;refine ds 9 ?_;refine Ed 10 11 ?_;refine ds 12 ?_;refine ds 13 ?_;refine ds 14 ?_;refine ds 15 ?_;refine ds 16 ?_;refine ds 17 ?_;refine ds 18 ?_;refine Ed 19 20 ?_;exact CR
 by_cases h8':8≤gp x.next q.Ae
 ·have h8:=decide_eq_true h8';rw [show Aj2 x q=true by unfold Aj2;rw [h8];simp];refine As [0,1,2,3,4] [] ?_;refine Ed 0 1 ?_;refine dt 2 ?_;refine dN 3 ?_;refine oC ?_;refine ce (fun w s=>Ot _ _ _ FJ FJ FJ FJ) ?_;rw [hb];refine dk ?_;refine dt 4 ?_;refine Dr 5 ?_;refine Dr 6 ?_;refine Dr 7 ?_;refine d1g 8 ?_;apply On.h;refine oC ?_;refine ce (fun w s=>Qg _ _ _ FJ FJ FJ FJ) ?_;refine dk ?_;refine Dr 9 ?_;rw [h8];refine Ed 10 11 ?_;refine ds 12 ?_;refine ds 13 ?_;refine ds 14 ?_;refine ds 15 ?_;refine ds 16 ?_;refine ds 17 ?_
  refine ds 18 ?_;refine Ed 19 20 ?_;exact CR
 ·have h8:=decide_eq_false h8';rw [show Aj2 x q=Jb x q.Ae by unfold Aj2;rw [hb,h8];rfl];refine As [0,1,2,3,4] [] ?_;refine Ed 0 1 ?_;refine dt 2 ?_;refine dN 3 ?_;refine oC ?_;refine ce (fun w s=>Ot _ _ _ FJ FJ FJ FJ) ?_;rw [hb];refine dk ?_;refine dt 4 ?_;refine Dr 5 ?_;refine Dr 6 ?_;refine Dr 7 ?_;refine d1g 8 ?_;apply On.h;refine oC ?_;refine ce (fun w s=>Qg _ _ _ FJ FJ FJ FJ) ?_;refine dk ?_;refine Dr 9 ?_;rw [h8];refine Ed 10 11 ?_;refine Dr 12 ?_;refine Dr 13 ?_;refine Dr 14 ?_;refine Dr 15 ?_;refine Dr 16 ?_
  refine Dr 17 ?_;refine d1g 18 ?_;apply On.h;refine oC ?_;refine Cb (Ab0 x q.Ae _ F w0_ w1_ n0 n1) fun _ _=>?_;refine dk ?_;refine Ed 19 20 ?_;exact CR
structure NwS where
 a1:Option Addr
 c1:Nat
 F1:List Nat
 a2:Option Addr
 c2:Nat
 F2:List Nat
 ae:Option Addr
 ce:Nat
 Fe:List Nat
theorem Amr (r:Az) (p:Ar) (d:Int) (g t o:Nat) (A B:List Value) (a1:Option Addr) (c1:Nat) (F1:List Nat) (a2:Option Addr) (c2:Nat) (F2:List Nat) (hg:Mv r) (hp:Bw p=true) (d0:1≤d) (d1:d≤8) :
  Fn prog 388 [Iq g o 0,.agg #[.int .i64 p.Cp,.int .i64 p.Ae,.int .i64 p.Ap,.int .i64 p.Fv,.string p.data],.int .i64 d] [] [.row g t o A [.bool r.Be,.int .i64 r.Ai,.int .i64 (r.Aa).next,.slice a1 (r.Aa).Am.length c1,.slice a2 (r.Al).length c2] B,.ow B9 275 (.slice a1 (r.Aa).Am.length c1) (r.Aa).Am F1,.ow Av 250 (.slice a2 (r.Al).length c2) (r.Al) F2] (fun (_:NwS)=>True)
   (fun s=>.slice s.ae (Ni r p).length s.ce) (fun s=>[.row g t o A [.bool (Lu r p d).Be,.int .i64 (Lu r p d).Ai,.int .i64 ((Lu r p d).Aa).next,.slice s.a1 ((Lu r p d).Aa).Am.length s.c1,.slice s.a2 ((Lu r p d).Al).length s.c2] B,.ow B9 275 (.slice s.a1 ((Lu r p d).Aa).Am.length s.c1) ((Lu r p d).Aa).Am s.F1,.ow Av 250 (.slice s.a2 ((Lu r p d).Al).length s.c2) ((Lu r p d).Al) s.F2,.ow A8 9 (.slice s.ae (Ni r p).length s.ce) (Ni r p) s.Fe]):=by
 have k0:=hg.k0;have k1:=hg.k1;obtain ⟨-,q1,q2, -⟩:=Dg.1 hg.q;have hser:∀q∈r.Al,Cc q.Ae=true:=fun q hq=>(Y7 hg hq).1;obtain ⟨hsg, -⟩:=Rt hg hp;obtain ⟨htg, -,htl⟩:=Us hg hp;obtain ⟨hng,hnq, -,hnl⟩:=Zu hg hp d0 d1 FJ;obtain ⟨s0_,s1_⟩:=Iw hsg;obtain ⟨v0_,v1_⟩:=Iw hng;obtain ⟨hw8,hit⟩:=Kh hsg;obtain ⟨n0,n1⟩:=Lb hp;have hp2:=hp;unfold Bw at hp2;simp only [Bool.and_eq_true] at hp2;have htr:Cc p.Ap=true:=hp2.1.1.1.1.2;have hld:Cc p.Fv=true:=hp2.1.1.1.2;have hps:p.data.size≤8:=Wa hp2.1.1.2;refine enter func388 rfl ntmps388 fun w0=>?_;refine go ?_;intros;rename_i g3 g4
 refine E4 [2,3,4,6] [0,1,4] (fun _:Unit=>[]) (fun _=>[.row g t o A [.bool true,.int .i64 r.Ai,.int .i64 (Eg r p).next,.slice a1 (Eg r p).Am.length c1,.slice a2 r.Al.length c2] B,.ow B9 275 (.slice a1 (Eg r p).Am.length c1) (Eg r p).Am F1]) (fun _=>True) ?_ fun _ _=>?_
 ·cases hs:r.Be
  ·by_cases hk:p.Cp=5
   ·have e:Eg r p=⟨p.Fv,r.Aa.Am⟩:=by unfold Eg;rw [hs,if_pos hk];rfl
    have hkd:decide (p.Cp=5)=true:=decide_eq_true hk;rw [e];refine go ?_;refine Ax rfl (fun _=>?_) (fun h=>absurd hk h);exact CO
   ·have e:Eg r p=⟨p.Ae,r.Aa.Am⟩:=by unfold Eg;rw [hs,if_neg hk];rfl
    rw [e];refine go ?_;refine Ax rfl (fun h=>absurd h hk) (fun _=>?_);exact CO
  ·have e:Eg r p=r.Aa:=by unfold Eg;rw [hs];rfl
   rw [e];exact CO
 refine go ?_;refine E4 [2,3,4,6] [2,3,4] (fun s:SkS=>[(7,.slice s.ae (Lm r p).length s.ce)]) (fun s=>[.row g t o A [.bool true,.int .i64 r.Ai,.int .i64 (Gn r p).next,.slice s.a (Gn r p).Am.length s.c,.slice a2 r.Al.length c2] B,.ow B9 275 (.slice s.a (Gn r p).Am.length s.c) (Gn r p).Am s.F,.ow A8 9 (.slice s.ae (Lm r p).length s.ce) (Lm r p) s.Fe]) (fun _=>True) ?_ fun s _=>?_
 ·by_cases hk:p.Cp=5
  ·have e1:Gn r p=Eg r p:=by unfold Gn;rw [if_pos hk]
   have e2:Lm r p=[]:=by unfold Lm;rw [if_pos hk]
   refine Ax rfl (fun h=>absurd hk h) (fun _=>?_);rw [e1,e2];refine Dj A8 9 ?_;refine go ?_;refine Bt (⟨a1,c1,F1,none,0,[]⟩:SkS) trivial
  ·have e1:Gn r p=My (Eg r p) p.Ae p.data:=by unfold Gn;rw [if_neg hk]
   have e2:Lm r p=Mo (Eg r p) p.Ae p.data:=by unfold Lm;rw [if_neg hk]
   refine Ax rfl (fun _=>?_) (fun h=>absurd hk h);rw [e1,e2];refine Avj [.bool true,.int .i64 r.Ai] [.int .i64 (Eg r p).next,.slice a1 (Eg r p).Am.length c1] [.slice a2 r.Al.length c2] ?_;refine go ?_;refine As [2,3] [] ?_;refine Ds 0 1 2 3 ?_;refine Ed 4 5 ?_;refine dt 6 ?_;refine dN 7 ?_;refine oC ?_;refine Cb (Azi (Eg r p) p.Ae p.data g t (o+2) (A++[.bool true,.int .i64 r.Ai]) _ a1 c1 F1 s0_ s1_ n0 n1 hw8 hit hps) fun y hy=>?_;obtain ⟨hy1,hy2⟩:=hy;refine dk ?_;refine Ds 8 9 10 11 ?_;refine dd ?_
   refine Ajg [.bool true,.int .i64 r.Ai] [.int .i64 y.y.next,.slice y.a y.y.Am.length y.c] [.slice a2 r.Al.length c2] ?_;rw [←hy1,←hy2];refine go ?_;refine Bt (⟨_,_,_,_,_,_⟩:SkS) trivial
 obtain ⟨a3,c3,F3,ae,ce,Fe⟩:=s;dsimp only;refine go ?_;refine Cb (Bdv (Gn r p) true r.Ai p.Ap _ g t o A B a3 c3 F3 htg htr) fun y _=>?_;have hsl:(Pw (Gn r p) p.Ap).length≤24:=by unfold Ni at hnl;rw [List.length_append] at hnl;omega
 refine A4 (E:=A8) (xs:=Pw (Gn r p) p.Ap) fun G8=>?_;refine go ?_;apply wO;refine Pm (ys:=Pw (Gn r p) p.Ap) Eh Hj fun a9 c9 F9=>?_;rw [show Lm r p++Pw (Gn r p) p.Ap=Ni r p from rfl,show Pi (Gn r p) p.Ap=Cq r p from rfl];refine go ?_;intros;rename_i g11;refine As [3,6] [9] ?_;refine Ds 0 1 2 3 ?_;refine Ed 4 5 ?_;refine dN 6 ?_;refine oC ?_;refine cfm (M:=[.ow Av 250 (.slice a2 r.Al.length c2) r.Al F2]) (.cons FP .nil) (fun w st=>by
   have r1:=st.on (.row g11 3 0 [] [.int .i64 (Cq r p).next] []) FK;have r2:=st.on (.row g3 380 0 [] [Iq g o 0] []) FK;have r3:=st.on (.row g t o A [.bool true,.int .i64 r.Ai,.int .i64 (Cq r p).next,.slice y.a (Cq r p).Am.length y.c,.slice a2 r.Al.length c2] B) FK;obtain ⟨Fw,hFw,hw⟩:=(st.on (.ow B9 275 (.slice y.a (Cq r p).Am.length y.c) (Cq r p).Am y.F) FK).2.read
   refine ⟨[.cel g11 0 [.int .i64 (Cq r p).next],.cel g3 0 [Iq g o 0],.cel g o [.bool true,.int .i64 r.Ai,.int .i64 (Cq r p).next,.slice y.a (Cq r p).Am.length y.c,.slice a2 r.Al.length c2],.isv Bh (.agg #[.int .i64 (Cq r p).next,.slice y.a (Cq r p).Am.length y.c]) (Cq r p) Fw],?_,rfl,?_,Aoh 412 [] [Iq g11 0 0,Iq g3 0 0] _ rfl r.Al a2 c2 F2 (fun q=>Aj2 (Cq r p) q) FL FJ (fun q hq w' hA=>(Be4 q (Cq r p) g11 g3 g o true r.Ai _ y.a y.c Fw v0_ v1_ (hser q hq)).val w' hA)⟩
   ·intro q hq;simp only [List.mem_cons,List.not_mem_nil,or_false] at hq;rcases hq with rfl|rfl|rfl|rfl
    ·exact ⟨FK,I0 r1⟩
    ·exact ⟨FK,I0 r2⟩
    ·exact ⟨FK,I0 r3⟩
    ·exact ⟨_,rfl,_,rfl,hw⟩
   ·intro q hq b hb;simp only [List.mem_cons,List.not_mem_nil,or_false] at hq;rcases hq with rfl|rfl|rfl|rfl
    ·exact ⟨.row g11 3 0 [] [.int .i64 (Cq r p).next] [],FK,hb⟩
    ·exact ⟨.row g3 380 0 [] [Iq g o 0] [],FK,hb⟩
    ·exact ⟨.row g t o A [.bool true,.int .i64 r.Ai,.int .i64 (Cq r p).next,.slice y.a (Cq r p).Am.length y.c,.slice a2 r.Al.length c2] B,FK,hb⟩
    ·exact ⟨.ow B9 275 (.slice y.a (Cq r p).Am.length y.c) (Cq r p).Am y.F,FK,hFw b hb⟩) (fun z _=>?_)
 rw [Be2];refine dk ?_;refine Ed 7 8 ?_;refine dN 9 ?_;refine oS ?_;refine Tx ?_;refine dd ?_;refine go ?_;refine Cb (Azj (Cq r p) (Ek r.Al (Cq r p)) true r.Ai p.Fv d g t o A B y.a y.c y.F z.1 z.2.1 z.2.2 hng hnq Qi hld k0 k1 d0 d1) fun u _=>?_;refine go ?_;refine ret ⟨_,_,_,_,_,_,_,_,_⟩ trivial rfl
structure Bdt where
 g:Nat
 a:Option Addr
 c:Nat
 F:List Nat
theorem Uh (x:Az) (v:Value) (F:List Nat) (hl:x.Aa.Am.length≤1000000000) (hl2:x.Al.length≤1000000000):Fn prog 78 [v] [.isv Bi v x F] [] (fun (_:Value × List Nat)=>True) (fun s=>s.1) (fun s=>[.own By s.1 x s.2]):=by
 refine enter func78 rfl ntmps78 fun w0=>?_;refine Es ?_;rintro a1 c1 F1 a2 c2 F2 rfl l1 l2;refine go ?_;intros;refine E4 [1,2] [0,1,2,3,4] (fun s:Bdt=>[(3,Iq s.g 0 0)]) (fun s=>[.row s.g 137 0 [] [.int .i64 x.Aa.next,.slice s.a x.Aa.Am.length s.c] [],.ow B9 275 (.slice s.a x.Aa.Am.length s.c) x.Aa.Am s.F]) (fun _=>True) ?_ fun s _=>?_
 ·skip
  refine As [1] [] ?_;refine Ds 0 1 2 4 ?_;refine Ed 5 6 ?_;refine dM 3 9 ?_ ?_
  ·apply Mx;rfl;intro _;refine Dc B9 ?_;refine dk ?_;refine dM 7 9 ?_ ?_
   ·refine Pm Iy Id fun a5 c5 F5=>?_;rw [List.nil_append];refine dk ?_;refine dt 8 ?_;refine dN 9 ?_;apply Cr;rfl;intro _;refine dk ?_;refine dN 10 ?_;refine oS ?_;refine dk ?_;refine dd ?_;refine Bt (⟨_,_,_,_⟩:Bdt) trivial
   ·apply Cr;rfl;intro _;exact CS
  ·apply Cr;rfl;intro _;refine dk ?_;refine dN 3 ?_;apply Mx;rfl;intro _;refine Dc B9 ?_;exact CS
 obtain ⟨g3,a5,c5,F5⟩:=s;dsimp only;refine go ?_;refine As [0,3] [] ?_;refine Ds 0 1 2 3 ?_;refine Ed 4 6 ?_;refine dt 7 ?_;refine dN 5 ?_;apply Mx;rfl;intro _;refine Dc Av ?_;refine dk ?_;refine dN 8 ?_;refine Pm C4 Dp fun a6 c6 F6=>?_;rw [List.nil_append];refine dk ?_;refine dt 9 ?_;refine dN 10 ?_;refine oS ?_;refine dk ?_;refine dd ?_;refine go ?_;refine I6 x ?_;exact BE
theorem Afi (l:List Ay) (w:Aj) (a:Option Addr) (c:Nat) (F:List Nat) (v:Value) (Fw:List Nat) (hl:l.length≤1000000) (hs:∀q∈l,Cc q.Ae=true) (w0_:0≤w.next) (w1_:w.next≤65535):Fn prog 308 [.slice a l.length c,v] [.sl Av (.slice a l.length c) l F,.isv Bh v w Fw] [] (fun (_:Option Addr × Nat × List Nat)=>True) (fun z=>.slice z.1 (Ek l w).length z.2.1) (fun z=>[.ow Av 250 (.slice z.1 (Ek l w).length z.2.1) (Ek l w) z.2.2]):=by
 refine enter func308 rfl ntmps308 fun w0=>?_;refine Cd ?_;rintro a1 c1 F1 rfl l1;refine go ?_;intros;refine Dc Av ?_;refine Cj [0,3,4] (fun s:PkS=>[(6,.int .i64 (s.k:Nat)),(5,.slice s.a (Ek (l.take s.k) w).length s.c)]) (fun s=>[.ow Av 250 (.slice s.a (Ek (l.take s.k) w).length s.c) (Ek (l.take s.k) w) s.F]) (fun s=>s.k≤l.length) (fun s=>l.length - s.k) ⟨0,_,_,_⟩ (Nat.zero_le _) fun s hk=>?_;obtain ⟨k,a4,c4,F4⟩:=s;dsimp only at hk ⊢;refine go ?_;refine Ax rfl (fun h4=>?_) (fun h4=>?_)
 ·have hk:k < l.length:=FJ
  have hkl:(Ek (l.take k) w).length≤k:=Nat.le_trans (List.length_filter_le _ _) GA;have hsk:=hs _ (List.getElem_mem hk);obtain ⟨n0,n1⟩:=Bc.1 hsk;have en:∀b,(!(Uu l[k].Ae w.next || Jb w l[k].Ae) && decide (gp w.next l[k].Ae < 8))=b→Ek (l.take (k+1)) w=Ek (l.take k) w++if b then [l[k]] else []:=fun b hb=>by
   unfold Ek;rw [List.take_add_one,List.getElem?_eq_getElem hk,List.filter_append]
   congr 1
   show ([l[k]].filter _)=_;rw [List.filter_cons,List.filter_nil,hb]
  refine I9 (xs:=l) k ?_;rintro hi b o e;rw [e];refine go ?_;cases g5:(Uu l[k].Ae w.next || Jb w l[k].Ae)
  ·skip
   refine As [0,2] [] ?_;refine Ds 0 1 2 3 ?_;refine Ed 4 5 ?_;refine dN 6 ?_;refine oC ?_;refine Cb (Ad7 w l[k].Ae _ Fw w0_ w1_ n0 n1) fun _ _=>?_;rw [show Hw w l[k].Ae=(Uu l[k].Ae w.next || Jb w l[k].Ae) from rfl,g5];refine dk ?_;refine Ed 7 8 ?_;refine Dr 9 ?_;refine Dr 10 ?_;refine Dr 11 ?_;refine Dr 12 ?_;refine Dr 13 ?_;refine Dr 14 ?_;refine Dr 15 ?_;refine d1g 16 ?_;apply On.h;refine oC ?_;refine ce (fun w s=>Ju _ _ _ FJ FJ) ?_;refine dk ?_;refine Dr 17 ?_;refine dt 18 ?_;refine dd ?_;refine go ?_;refine Ax rfl (fun h6=>?_) (fun h6=>?_)
   ·have e1:=en true (by rw [g5,decide_eq_true h6];rfl);refine go ?_;intros;apply wO;refine Qa (ys:=[l[k]]) (Oq l[k]) C4 fun a7 c7 F7=>?_;refine go ?_;rw [show Ek (l.take k) w++[l[k]]=Ek (l.take (k+1)) w from e1.symm];exact CI
   ·have e1:=en false (by rw [g5,decide_eq_false h6];rfl);refine go ?_;rw [show Ek (l.take k) w=Ek (l.take (k+1)) w by rw [e1];simp];exact CI
  ·skip
   refine As [0,2] [] ?_;refine Ds 0 1 2 3 ?_;refine Ed 4 5 ?_;refine dN 6 ?_;refine oC ?_;refine Cb (Ad7 w l[k].Ae _ Fw w0_ w1_ n0 n1) fun _ _=>?_;rw [show Hw w l[k].Ae=(Uu l[k].Ae w.next || Jb w l[k].Ae) from rfl,g5];refine dk ?_;refine Ed 7 8 ?_;refine ds 9 ?_;refine ds 10 ?_;refine ds 11 ?_;refine ds 12 ?_;refine ds 13 ?_;refine ds 14 ?_;refine ds 15 ?_;refine ds 16 ?_;refine ds 17 ?_;refine dt 18 ?_;refine dd ?_;have e1:=en false (by rw [g5];rfl);refine go ?_;rw [show Ek (l.take k) w=Ek (l.take (k+1)) w by rw [e1];simp]
   exact CI
 have hk:k=l.length:=FJ
 subst hk;rw [List.take_length];refine go ?_;exact BM
structure GvS where
 g:Nat
 y:Adr
theorem Ad9 (r:Az) (d:Int) (v:Value) (F:List Nat) (hg:Mv r) (d0:0≤d) (d1:d≤100) (_hx:r.Ai≤99999) :
  Fn prog 246 [v,.int .i64 d] [.isv Bi v r F] [] (fun (_:TkR)=>True) (fun s=>.tuple #[.agg #[.bool (Cw r d).Be,.int .i64 (Cw r d).Ai,.int .i64 (Cw r d).Aa.next,.slice s.a1 (Cw r d).Aa.Am.length s.c1,.slice s.a2 (Cw r d).Al.length s.c2],.slice s.a3 (Fj r).length s.c3,.slice s.a4 (H8 r).length s.c4])
   (fun s=>[.isv Bi (.agg #[.bool (Cw r d).Be,.int .i64 (Cw r d).Ai,.int .i64 (Cw r d).Aa.next,.slice s.a1 (Cw r d).Aa.Am.length s.c1,.slice s.a2 (Cw r d).Al.length s.c2]) (Cw r d) s.F1,.ow Ak 223 (.slice s.a3 (Fj r).length s.c3) (Fj r) s.F3,.ow A8 9 (.slice s.a4 (H8 r).length s.c4) (H8 r) s.F4]):=by
 have k0:=hg.k0;have k1:=hg.k1;obtain ⟨-,q1,q2, -⟩:=Dg.1 hg.q;obtain ⟨w0_,w1_⟩:=Iw hg.w;obtain ⟨hw8,hit⟩:=Kh hg.w;have hpl:(r.Al.filterMap (Re (r.Ai+1))).length≤8:=Nat.le_trans (List.length_filterMap_le _ _) q1;refine enter func246 rfl ntmps246 fun w0=>?_;refine Es (v:=v) (x:=r) (F:=F) ?_;rintro a1 c1 F1 a2 c2 F2 rfl l1 l2;refine go ?_;intros;refine Cb (Uh r _ F FJ FJ) fun u _=>?_;refine Ij ?_;rintro a5 c5 F5 a6 c6 F6 e6 - -;rw [e6];refine A4 (E:=B9) fun G5=>?_;refine go ?_;intros
 refine Cb (Aw7 r.Al (r.Ai+1) d a2 c2 F2 FJ (fun q hq=>⟨(Ew.1 (q2 q hq)).t0,(Ew.1 (q2 q hq)).t1⟩) FJ FJ FJ FJ) fun z _=>?_;rw [show r.Al.filterMap (Vl (r.Ai+1))=C8 r from rfl,show r.Al.filterMap (Va (r.Ai+1) d)=Ok r d from rfl];refine A4 (E:=Bb) (xs:=r.Al.filterMap (Re (r.Ai+1))) fun G2=>?_;refine A4 (E:=Bb) (xs:=C8 r) fun G3=>?_;refine Dc A8 ?_;refine Dc Ak ?_;refine go ?_
 refine Cj [2,4,5,6,7,9,11,12] (fun s:PkS=>[(13,.int .i64 (s.k:Nat)),(8,.slice s.a (((r.Al.filterMap (Re (r.Ai+1))).take s.k).map (pkR r.Aa.next)).length s.c)]) (fun s=>[.ow Ak 223 (.slice s.a (((r.Al.filterMap (Re (r.Ai+1))).take s.k).map (pkR r.Aa.next)).length s.c) (((r.Al.filterMap (Re (r.Ai+1))).take s.k).map (pkR r.Aa.next)) s.F]) (fun s=>s.k≤(r.Al.filterMap (Re (r.Ai+1))).length) (fun s=>(r.Al.filterMap (Re (r.Ai+1))).length - s.k) ⟨0,_,_,_⟩ (Nat.zero_le _) fun s hs=>?_;obtain ⟨k,a4,c4,F4⟩:=s;dsimp only at hs ⊢;generalize hsn:r.Al.filterMap (Re (r.Ai+1))=sn at *;refine go ?_
 refine Ax rfl (fun h4=>?_) (fun h4=>?_)
 ·have hk:k < sn.length:=FJ
  have hkl:((sn.take k).map (pkR r.Aa.next)).length≤k:=FR
  refine I5 (xs:=sn) k ?_;rintro hi b o2 e;rw [e];refine go ?_;have eo:(sn.take (k+1)).map (pkR r.Aa.next)=(sn.take k).map (pkR r.Aa.next)++[pkR r.Aa.next sn[k]]:=KR
  refine As [0,10] [] ?_;refine Ds 0 1 2 3 ?_;refine Ds 4 5 6 7 ?_;refine Ds 8 9 10 11 ?_;refine dN 12 ?_;apply Lx;rfl;rfl;rfl;rfl;exact Lr;exact La;intro _;refine dk ?_;refine dN 13 ?_;refine Qa (ys:=[pkR r.Aa.next sn[k]]) (Dh (pkR r.Aa.next sn[k]) (by show (0:Nat)≤maxLen;exact Nat.zero_le _)) Hq fun a7 c7 F7=>?_;refine dk ?_;refine dt 14 ?_;refine dd ?_;exact EF
 have hk:k=sn.length:=FJ
 subst hk;rw [List.take_length];have ep:Fj r=sn.map (pkR r.Aa.next):=by unfold Fj;rw [hsn]
 rw [ep];refine go ?_;by_cases hL:C8 r=[]
 ·refine Ax rfl (fun h=>absurd h (by rw [hL];decide)) (fun _=>?_);rw [Ajj hL,Ard hL];refine go ?_;refine A4 (E:=Av) fun F8=>?_;refine Ev (a1:=a5) ⟨r.Be,r.Ai+1,r.Aa,Ok r d⟩ ?_;refine ret ⟨_,_,_,_,_,[],_,_,_,_,_,_⟩ trivial rfl
 ·have hl0:=List.length_pos_iff.2 hL;refine Ax rfl (fun _=>?_) (fun h=>absurd h FJ);rw [Aez hL,Ami hL];obtain ⟨hs8,hsr⟩:=Agp hg hL;have hll8:=Ajl r;obtain ⟨hs0,hs1⟩:=Bc.1 hsr;have hll:=Alv hL;obtain ⟨l0,l1⟩:=Bc.1 (Ae0 hg (List.getElem_mem (show (C8 r).length - 1 < (C8 r).length by omega))).1;have hi1:((C8 r).length:Int) - 1=(((C8 r).length - 1:Nat):Int):=FJ
  refine B4 (a1:=a5) r.Aa ?_;generalize G5=FW;refine I5 (xs:=C8 r) ((C8 r).length - 1) ?_;rintro hi b o2 e;rw [e];refine go ?_;refine E4 [4,5,6,7,8,9] [2,3,6,7,10,14] (fun s:GvS=>[(15,Iq s.g 0 0),(16,.slice s.y.ae s.y.es.length s.y.ce)]) (fun s=>[.row s.g 137 0 [] [.int .i64 s.y.y.next,.slice s.y.a s.y.y.Am.length s.y.c] [],.isv Bh (.agg #[.int .i64 s.y.y.next,.slice s.y.a s.y.y.Am.length s.y.c]) s.y.y s.y.F,.ow A8 9 (.slice s.y.ae s.y.es.length s.y.ce) s.y.es s.y.Fe]) (fun s=>s.y.y=Jo r.Aa (Dl (C8 r))∧s.y.es=Jm r.Aa (Dl (C8 r))) ?_ fun s hy=>?_
  ·skip
   refine As [0,7] [] ?_;refine Ds 0 1 2 3 ?_;refine dt 4 ?_;rw [hi1];refine Ed 5 6 ?_;refine dM 7 12 ?_ ?_
   ·refine oC ?_;refine ce (fun w s=>L8 _ _ _ FJ FJ) ?_;rw [←hll];refine dk ?_;refine dM 8 12 ?_ ?_
    ·refine oC ?_;refine Cb (U4 r.Aa (Dl (C8 r)) _ FW w0_ w1_ hs0 hs1 hw8 hit) fun y hy=>?_;refine dk ?_;refine Ed 9 10 ?_;refine dt 11 ?_;refine dN 12 ?_;apply Cr;rfl;intro _;refine dk ?_;refine dN 13 ?_;refine oS ?_;refine dk ?_;refine dt 14 ?_;refine dd ?_;refine Bt (⟨_,y⟩:GvS) hy
    ·apply Cr;rfl;intro _;exact BU
   ·apply Cr;rfl;intro _;refine dk ?_;refine dN 7 ?_;refine oC ?_;refine ce (fun w s=>L8 _ _ _ FJ FJ) ?_;rw [←hll];exact BU
  obtain ⟨g15,y⟩:=s;dsimp only at hy ⊢;obtain ⟨hy1,hy2⟩:=hy;have hmv:=We (t:=Dl (C8 r)) hg.w;have hm0:0≤y.y.next:=by rw [hy1,hmv.1];exact (Kd _ _).1
  have hm1:y.y.next≤65535:=by rw [hy1,hmv.1];exact (Kd _ _).2
  have hes:y.es.length≤100:=by rw [hy2];have:=hmv.2.2.1;have:=@Z0 r.Aa.next (Dl (C8 r));omega
  refine A4 (E:=A8) (xs:=y.es) fun G8=>?_;refine go ?_;apply wO;refine Pm (ys:=y.es) Eh Hj fun a9 c9 F9=>?_;rw [List.nil_append];refine A4 (E:=Av) (xs:=Ok r d) fun F8=>?_;refine go ?_;refine Cb (Afi (Ok r d) y.y z.a z.c F8 _ y.F (by have:=Ae1 r d;omega) (fun q hq=>(Adb hg hq).1) hm0 hm1) fun u2 _=>?_;rw [hy1,Af3 hg hL,←hy1];refine go ?_;refine Cd (x:=y.y) ?_;rintro b1 d1 G1 e5 m1;simp only [Value.agg.injEq,Array.mk.injEq,List.cons.injEq,Value.slice.injEq,true_and,and_true] at e5;obtain ⟨rfl,rfl⟩:=e5;refine A4 (E:=Av) (xs:=Aal (Ok r d) y.y.next) fun F10=>?_
  refine Ev ⟨r.Be,r.Ai+1,y.y,Aal (Ok r d) y.y.next⟩ ?_;rw [←hy2];refine ret ⟨_,_,_,_,_,[],_,_,_,_,_,_⟩ trivial rfl
def Ayx (md:Region.Mode) (ops:Array Oper) (X:Nat→Bool) (listed:Array Bool) (i:Nat):Bool:=(List.range ops.size).all fun j=>!X j || listed.getD j false || T8 md ops i ops.size j
section
variable {P:Program} {md:Region.Mode} {ops:Array Oper} {Q:Exit→Act→World→Prop} {S:World→Prop} {X:Nat→Bool}
theorem Fm.firstL {i:Nat} {oi:Oper} {v:Value} (hi:ops[i]?=some oi) (hsel:∀(j:Nat) (o:Oper) cs b,ops[j]?=some o→o.op≠.select cs b)
  (hQ:∀c a w,Q (.panic c) (a.put oi.dst v) w→Q (.panic c) a w) :
  ∀(f:Nat) (listed:Array Bool) (a:Act) (w:World),(∀j,j < ops.size→X j=true→listed.getD j false=false→T8 md ops i ops.size j=true) →
   (∀j oj,ops[j]?=some oj→j≠i→listed.getD j true=false→(∀e∈oj.after,Region.binds md e=true→e.on≠i)→oi.apart ops oj=true) →
   Aat md ops listed→i∈Region.ready md ops listed→YieldsIf P ops S oi v a→S w→Fm P md ops Q S X f (listed.setIfInBounds i true) (a.put oi.dst v) w→Fm P md ops Q S X (f+1) listed a w:=by
 intro f
 induction f with
 | zero =>
  intro listed a w _ _ _ hr hy hS H;refine ⟨fun h=>IK,fun j hj=>?_⟩;by_cases hji:j=i
  ·exact EU
  ·have:=ready_mono hj hji;rw [H.1] at this;cases this
 | succ f ih =>
  intro listed a w hX hfree hcl hr hy hS H;refine ⟨fun h=>IK,fun j hj=>?_⟩;by_cases hji:j=i
  ·exact EU
  ·obtain ⟨hju,oj,hoj,hall⟩:=mem_ready.1 hj;have hiu:=Zg (mem_ready.1 hr).1;have hnot:∀e∈oj.after,Region.binds md e=true→e.on≠i:=fun e he hb heq=>by
    have h1:=hall e he hb;rw [heq,hiu] at h1;cases h1
   have hXj:X j=false:=by
    cases hx:X j
    ·rfl
    ·have h2:=Xt hcl ops.size j (fun o ho=>by obtain rfl:=Option.some.inj (ho.symm.trans hoj);exact hall) (hX j (Array.getElem?_eq_some_iff.1 hoj).1 hx (Zg hju));rw [hiu] at h2;cases h2
   have h2:=wpOp_putIf hoj (hfree j oj hoj hji hju hnot) (fun cs b=>hsel i oi cs b hi) (fun cs b=>hsel j oj cs b hoj) hQ hy (H.2 j (ready_mono hj hji));refine wpOp_mono (fun a' w' h3=>⟨fun _=>h3.2.1 hXj,ih (listed.setIfInBounds j true) a' w' (fun k hk hx hun=>hX k hk hx ?_) (fun k ok hk hki hun hno=>hfree k ok hk hki ?_ hno) (hcl.set hj) (ready_mono hr (Ne.symm hji)) h3.1 (h3.2.1 hXj) ?_⟩) h2
   ·by_cases hjk:j=k
    ·subst hjk;exact Zg hju
    ·rw [getD_set_ne false hjk] at hun;exact hun
   ·by_cases hjk:j=k
    ·subst hjk;exact hju
    ·rw [getD_set_ne true hjk] at hun;exact hun
   ·rw [Array.setIfInBounds_comm _ _ hji];exact h3.2.2
end
section
variable {c:Cx} {fr:Fr} {H H0:List Pc} {k:List It} {X:List Nat} {ops:Array Oper} {f:Nat} {listed:Array Bool} {d:Nat} {o:Op} {ty:TypeId} {pos:String} {Ci:Array Edge} {v:Value}
theorem dtl (i:Nat) (h:T c ((d,v)::fr) H (.dx k H0 X ops f (listed.setIfInBounds i true))) (ho:ops[i]?=some ⟨some d,o,ty,pos,Ci,none⟩:=by rw [List.getElem?_toArray];rfl) (hy:Yd c.P c.n fr H0 o ty v:=by exact ydE) (hs:Nn H0 H:=by repeat (first|exact Nn.nil|refine Nn.cons FO ?_))
  (h1:Region.noSelect ops=true:=by kernel_rfl) (h2:Region.free .any ops listed i=true:=by kernel_rfl) (h3:(Region.ready .any ops listed).contains i=true:=by kernel_rfl) (h4:Ayx .any ops (fun i=>X.contains i) listed i=true:=by kernel_rfl) (h5:Ns .any ops listed=true:=by kernel_rfl) (hR:Yg c:=by exact Aan) (hd:Nat.blt d c.n=true:=by rfl) :
  T c fr H (.dx k H0 X ops (f+1) listed):=.mk fun a w s g =>
 Fm.firstL ho (Region.noSelect_spec h1) (fun ch a w hp=>by rw [Nd] at hp ⊢;exact hR _ _ _ _ _ hp) f listed a w (fun j hj hx hl=>by
   have:=List.all_eq_true.1 h4 j (List.mem_range.2 hj);dsimp only at this;rw [hx,hl] at this;simpa using this) (Region.free_spec ho h2) (Aky h5) IU (.inl ⟨rfl,fun w' hw'=>hy.h a w' _ _ _ _ g hw'⟩) (fun p hp=>s.on p (hs.all p hp)) (h.h _ _ s (g.put hd))
end
theorem Bdq (fid:FuncId) (bd caps:List Value) (A:List Pc) (hA:A.all (fun p=>!p.mu)=true) (xs:List Ar) (a:Option Addr) (c:Nat) (F:List Nat) (p:Ar→Bool) (hb:Si prog fid=true) (hl:xs.length≤1000000000)
  (hp:∀x∈xs,∀w,Om A w→Calls prog fid (bd++[(.agg #[.int .i64 (x).Cp,.int .i64 (x).Ae,.int .i64 (x).Ap,.int .i64 (x).Fv,.string (x).data]:Value)]++caps).toArray w (RB (.bool (p x)) w)) :
  Fn prog 262 [.slice a xs.length c,.func (.func fid) bd.toArray caps.toArray] (.sl Ak (.slice a xs.length c) xs F::A) [] (fun (_:Unit)=>True) (fun _=>.int .i64 (S0 p xs)) (fun _=>[]):=by
 refine enter func262 rfl ntmps262 (fun w0=>?_) rfl GQ .nil;refine go ?_;refine D8 [0,1,4,7] (fun k:Nat=>[(8,.int .i64 (k:Nat))]) (fun k=>k≤xs.length∧∀j (_:j < k) (hj:j < xs.length),p xs[j]=false) (fun k=>xs.length - k) 0 ⟨Nat.zero_le _,fun j h=>by omega⟩ fun k hk=>?_;obtain ⟨hk1,hk2⟩:=hk;refine go ?_;refine Ax rfl (fun h5=>?_) (fun h5=>?_)
 ·have hh:k < xs.length:=FJ
  refine go ?_;refine Qq (xs:=xs) k ?_;rintro hi b o e sz;rw [e];refine go ?_;apply wO;refine Acs rfl rfl hb X8 ?_;refine cb (fun w st=>hp xs[k] (List.getElem_mem hh) w (fun q hq=>st.on q GR)) ?_;cases hpk:p xs[k]
  ·refine go ?_;refine Xo ?_;refine Ce (hH:=Lz _) (k+1) ⟨hh,fun j hj h=>?_⟩ FJ;rcases Nat.lt_or_eq_of_le (Nat.lt_succ_iff.1 hj) with h2|rfl
   ·exact hk2 j h2 h
   ·exact hpk
  ·refine go ?_;refine ret () trivial ?_;rw [Pp hh hk2 hpk];rfl
 ·obtain rfl:k=xs.length:=FJ
  exact BR
theorem Aue (fid:FuncId) (bd caps:List Value) (A:List Pc) (hA:A.all (fun p=>!p.mu)=true) (xs:List Ar) (a:Option Addr) (c:Nat) (F:List Nat) (p:Ar→Bool) (hb:Si prog fid=true) (hl:xs.length≤1000000000)
  (hp:∀x∈xs,∀w,Om A w→Calls prog fid (bd++[(.agg #[.int .i64 (x).Cp,.int .i64 (x).Ae,.int .i64 (x).Ap,.int .i64 (x).Fv,.string (x).data]:Value)]++caps).toArray w (RB (.bool (p x)) w)) :
  Fn prog 193 [.slice a xs.length c,.func (.func fid) bd.toArray caps.toArray] (.sl Ak (.slice a xs.length c) xs F::A) [] (fun (_:Unit)=>True) (fun _=>.bool (xs.any p)) (fun _=>[]):=by
 refine enter func193 rfl ntmps193 (fun w0=>?_) rfl GQ .nil;refine go ?_;refine cb (fun w st=>(Bdq fid bd caps A hA xs a c F p hb hl hp).val w (fun q hq=>st.on q (by simpa using hq)) GQ) ?_;refine go ?_;refine ret () trivial ?_;rw [Ud];rfl
theorem Bdu (r:Az) (p:Ar) (d:Int) (g t o:Nat) (A B:List Value) (a1:Option Addr) (c1:Nat) (F1:List Nat) (a2:Option Addr) (c2:Nat) (F2:List Nat) (hg:Mv r) (hp:Bw p=true) (d0:1≤d) (d1:d≤8) :
  Fn prog 350 [Iq g o 0,.agg #[.int .i64 p.Cp,.int .i64 p.Ae,.int .i64 p.Ap,.int .i64 p.Fv,.string p.data],.int .i64 d] [] [.row g t o A [.bool r.Be,.int .i64 r.Ai,.int .i64 (r.Aa).next,.slice a1 (r.Aa).Am.length c1,.slice a2 (r.Al).length c2] B,.ow B9 275 (.slice a1 (r.Aa).Am.length c1) (r.Aa).Am F1,.ow Av 250 (.slice a2 (r.Al).length c2) (r.Al) F2] (fun (_:NwS)=>True)
   (fun s=>.slice s.ae (Iv r p).length s.ce) (fun s=>[.row g t o A [.bool (Dm r p d).Be,.int .i64 (Dm r p d).Ai,.int .i64 ((Dm r p d).Aa).next,.slice s.a1 ((Dm r p d).Aa).Am.length s.c1,.slice s.a2 ((Dm r p d).Al).length s.c2] B,.ow B9 275 (.slice s.a1 ((Dm r p d).Aa).Am.length s.c1) ((Dm r p d).Aa).Am s.F1,.ow Av 250 (.slice s.a2 ((Dm r p d).Al).length s.c2) ((Dm r p d).Al) s.F2,.ow A8 9 (.slice s.ae (Iv r p).length s.ce) (Iv r p) s.Fe]):=by
 have k0:=hg.k0;have k1:=hg.k1;obtain ⟨-,q1,q2, -⟩:=Dg.1 hg.q;obtain ⟨n0,n1⟩:=Lb hp;refine enter func350 rfl ntmps350 fun w0=>?_;refine go ?_;intros;by_cases hk1:p.Cp=1
 ·rw [decide_eq_true hk1];rw [show Dm r p d=Lu r p d by unfold Dm Mt;simp [hk1],show Iv r p=Ni r p by unfold Iv Mt;simp [hk1]];exact BJ
 rw [decide_eq_false hk1];refine go ?_;by_cases hk2:p.Cp=2
 ·rw [decide_eq_true hk2];rw [show Dm r p d=Lu r p d by unfold Dm Mt;simp [hk2],show Iv r p=Ni r p by unfold Iv Mt;simp [hk2]];exact BJ
 rw [decide_eq_false hk2];refine go ?_;by_cases hk5:p.Cp=5
 ·rw [decide_eq_true hk5];rw [show Dm r p d=Lu r p d by unfold Dm Mt;simp [hk5],show Iv r p=Ni r p by unfold Iv Mt;simp [hk5]];exact BJ
 rw [decide_eq_false hk5];refine go ?_;refine Dj A8 9 ?_;have eE:Iv r p=[]:=by unfold Iv Mt;simp [hk1,hk2,hk5]
 by_cases hk4:p.Cp=4
 ·rw [decide_eq_true hk4];cases hs:r.Be
  ·rw [show Dm r p d=r by unfold Dm Mt;simp [hk1,hk2,hk5,hs],eE,hs];refine go ?_;refine ret ⟨_,_,_,_,_,_,none,0,_⟩ trivial rfl
  ·rw [show Dm r p d=Aoz r p by unfold Dm Mt;simp [hk4,hs],eE,show (Aoz r p).Be=true from hs];refine go ?_;refine As [0,1,2] [0,18,19,20,21,22] ?_;refine dtp 0 ?_;refine dtl 1 ?_;refine dtl 2 ?_;refine dtl 3 ?_;refine dtl 4 ?_;refine dtl 5 ?_;refine dtl 6 ?_;refine dtl 7 ?_;refine dtl 8 ?_;refine dtl 9 ?_;refine dtl 10 ?_;refine dtl 11 ?_;refine dtl 12 ?_;refine dtl 13 ?_;refine dtl 14 ?_;refine dtl 15 ?_;refine dN 16 ?_;refine oC ?_
   refine cfr (fun w st=>by obtain ⟨Fq, -,hq9⟩:=(st.get (p:=.ow Av 250 (.slice a2 r.Al.length c2) r.Al F2) FK).2.read;exact ⟨[.sl Av (.slice a2 r.Al.length c2) r.Al Fq],En ⟨FM,hq9⟩,rfl,Adl r.Al r.Aa.next p.Ae r.Ai a2 c2 Fq hg.q (Bc.2 ⟨n0,n1⟩) k0 k1⟩) (fun u _=>?_);refine dk ?_;refine dtl 17 ?_;refine dtp 18 ?_;refine dtp 19 ?_;refine dtp 20 ?_;refine dtp 21 ?_;refine dN 22 ?_;refine oS ?_;refine Tx ?_;refine dd ?_;refine go ?_;refine ret ⟨_,_,_,_,_,_,none,0,_⟩ trivial rfl
 rw [decide_eq_false hk4];rw [show Dm r p d=r by unfold Dm Mt;simp [hk1,hk2,hk5,hk4],eE];refine go ?_;refine ret ⟨_,_,_,_,_,_,none,0,_⟩ trivial rfl
structure HaS where
 k:Nat
 a1:Option Addr
 c1:Nat
 F1:List Nat
 a2:Option Addr
 c2:Nat
 F2:List Nat
 ae:Option Addr
 ce:Nat
 Fe:List Nat
structure EcS where
 k:Nat
 a:Option Addr
 c:Nat
 F:List Nat
theorem Sd {α:Type} {O:Br α} {P:Program} {f:FuncId} {args:List Value} {x:α} {A:List Pc} (h:Fn P f args A [] (fun (_:Value × List Nat)=>True) (fun z=>z.1) (fun z=>[.own O z.1 x z.2])) (hA:A.all (fun p=>!p.mu)=true) {w:World} (hH:Om A w):Calls P f args.toArray w (Wt O x w):=by
 refine (h.made w hH (fun _=>rfl) hA).mono ?_;rintro e w' ⟨z, -,he,hh,hn,hF,hB⟩;obtain ⟨h1,h2⟩:=hh (.own O z.1 x z.2) FK;exact ⟨z.1,z.2,he,h2,h1,fun b hb=>hF b KW,hB⟩
theorem Axa (v:Value) (e:Bf) (F:List Nat) (hm:e.Ah.length≤4294967296) (hm2:∀x∈e.Ah,x.Bj.length≤4294967296):Fn prog 77 [v] [.isv Bk v e F] [] (fun (_:Value × List Nat)=>True) (fun z=>z.1) (fun z=>[.own Ca z.1 e z.2]):=by
 refine enter func77 rfl ntmps77 fun w0=>?_;refine Ga ?_;rintro a1 c1 F1 rfl l1;refine Dj Dy 212 ?_;refine go ?_;intros;rename_i g;refine Cj [1,2,3] (fun y:EcS=>[(4,.int .i64 (y.k:Nat))]) (fun y=>[.row g 133 0 [] [.int .i64 e.Ai,.slice y.a (e.Ah.take y.k).length y.c] [],.ow Dy 212 (.slice y.a (e.Ah.take y.k).length y.c) (e.Ah.take y.k) y.F]) (fun y=>y.k≤e.Ah.length) (fun y=>e.Ah.length - y.k) ⟨0,none,0,[]⟩ (Nat.zero_le _) fun y hy0=>?_;obtain ⟨k,ya,yc,yF⟩:=y;dsimp only at hy0 ⊢;have htk:(e.Ah.take k).length=k:=GA
 refine go ?_;refine Ax rfl (fun h1=>?_) (fun h1=>?_)
 ·have hk:k < e.Ah.length:=FJ
  have hfl:=hm2 _ (List.getElem_mem hk);refine U0 (xs:=e.Ah) k ?_;rintro hi b8 o8 a8 c8 F8 e8 l8;rw [e8];refine go ?_;intros;refine As [0,3] [13] ?_;refine Ds 0 1 2 3 ?_;refine Ds 4 5 7 8 ?_;refine dN 6 ?_;refine oC ?_;refine cn (fun w st=>Aco _ e.Ah[k].Bj F8 w (st.get (p:=.sl Bb (.slice a8 e.Ah[k].Bj.length c8) e.Ah[k].Bj F8) FO).2 FJ) fun a9 c9 F9=>?_;refine Nh e.Ah[k] ?_;refine dk ?_;refine dt 9 ?_;refine dN 10 ?_;apply Lx;rfl;rfl;rfl;rfl;exact Lr;exact La;intro _;refine dk ?_;refine dN 11 ?_;refine Ads Rn e.Ah[k] rfl fun x4 d4 G4=>?_;refine dk ?_;refine dt 12 ?_
  refine dN 13 ?_;refine oS ?_;refine Tx ?_;refine dd ?_;rw [←List.take_succ_eq_append_getElem hk];refine go ?_;refine Ce ⟨k+1,x4,d4,G4⟩ hk (by show e.Ah.length - (k+1) < e.Ah.length - k;omega)
 ·rw [show e.Ah.take k=e.Ah from List.take_of_length_le FJ];refine go ?_;refine Fc e ?_;exact BE
theorem Yv (v:Value) (e:Bf) (F:List Nat) (w:World) (h:Jy Bk w v e F) (hm:e.Ah.length≤4294967296) (hm2:∀x∈e.Ah,x.Bj.length≤4294967296):Calls prog 77 #[v] w (Wt Ca e w):=Sd (Axa v e F hm hm2) rfl (En h)
def Gb (e:Bf):Bf:=⟨e.Ai+1,e.Ah.filter fun x=>!decide (x.Ch≤e.Ai+1)⟩
theorem Sl.headIn {α:Type} {E:Br α} {w:World} {b off n cap:Nat} {xs:List α} {F} (h:Sl E w (.slice (some ⟨b,off,none⟩) n cap) xs F) (k:Nat) (hk:k < xs.length):b∈F:=by
 obtain ⟨a',cap',hv,hl,h⟩:=h;cases hv;rcases h with ⟨rfl,_⟩|⟨b,off,F',he,_,rfl,hc⟩
 ·simp at hk
 ·cases he;simp
theorem Axb (v:Value) (e:Bf) (F:List Nat) (w:World) (h:Jy Bk w v e F) (hc:Ld e.Ai=true) (hm:e.Ah.length≤4294967296) (hm2:∀x∈e.Ah,x.Bj.length≤4294967296) :
  Calls prog 245 #[v] w (Bi0 Bk (Gb e) w):=by
 have hcb:=O8.1 hc;have hm2:=Lib.hid hm2;have h0:=h;obtain ⟨_,rfl,v1,rfl,h1⟩:=h;obtain ⟨a,cap,rfl⟩:=h1.slice;have hB0:∀A B:Obj,Below w.heap.size w ((w.alloc A).alloc B):=fun A B=>((Below.refl _ _).alloc (Nat.le_refl _) _).alloc FK _
 go_enter func245,ntmps245
 go_wp2_with fail;refine (Yv _ e F _ (h0.below (hB0 _ _)) hm hm2.out).mono ?_;rintro e' w1 ⟨_,Fo,rfl,⟨_,rfl,v2,rfl,ho⟩,hn,hFo,hb1⟩;obtain ⟨a2,cap2,rfl⟩:=ho.slice;have r0:=Ir.below (g:=w.heap.size) (t:=133) (cs:=[.int .i64 e.Ai,.slice a e.Ah.length cap]) HF hb1;have r1:=Ir.below (g:=w.heap.size+1) (t:=133) (cs:=[.int .i64 0,.slice none 0 0]) HF hb1;obtain ⟨Fr,hFr,hs⟩:=ho.sl Ru;have hFl:=ho.lt;have hB:=tr (hB0 _ _) hb1 (Nat.le_refl _);have d0:=fun A=>(r0.alloc A).cells;have c0:=r0.cells;clear hb1;go_wp2_with fail
 go_loopw [5] (fun i wr=>∃k:Nat,k≤e.Ah.length∧i=.int .i64 k∧∃oa oc F,Hid (Ow Dt 212 wr (.slice oa ((e.Ah.take k).filter fun x=>!decide (x.Ch≤e.Ai+1)).length oc) ((e.Ah.take k).filter fun x=>!decide (x.Ch≤e.Ai+1)) F)∧Hd F∧(∀b,oa=some b→w1.heap.size+1+1≤b.block)∧(∀c∈F,w.heap.size+2≤c∧c≠w1.heap.size∧c≠w1.heap.size+1) ∧
  Ir wr (w.heap.size+1) 133 [.int .i64 0,.slice none 0 0]∧Ir wr w1.heap.size 133 [.int .i64 e.Ai,.slice a2 e.Ah.length cap2]∧Ir wr (w1.heap.size+1) 133 [.int .i64 (e.Ai+1),.slice oa ((e.Ah.take k).filter fun x=>!decide (x.Ch≤e.Ai+1)).length oc]∧Below w1.heap.size w1 wr) (fun i _=>e.Ah.length - (intOf i).toNat)
 case atStart=>exact ⟨0,Nat.zero_le _,rfl,none,0,[],Lib.hid (.inl ⟨rfl,FK,rfl⟩),Hd.nil,FK,FK,(r1.alloc _).alloc _,by simp [Jq],by simp [Jq],((Below.refl _ _).alloc (Nat.le_refl _) _).alloc FK _⟩
 case round =>
  obtain ⟨k,hk,rfl,oa,oc,F2,hO,hd2,hoa,hF2,hr1,hr2,hr3,hB2⟩:=hrel;have c1:=hr2.cells;have c2:=hr3.cells;have c4:=hr1.cells;have f4:=hr1.frozens;by_cases hlt:k < e.Ah.length
  ·obtain ⟨b,off,_,F1,rfl,hx,hFx,ja⟩:=(hs.below FM hB2).at k hlt;obtain ⟨u1,rfl,hf⟩:=id hx;obtain ⟨fa,fc,rfl⟩:=hf.slice;have a0:=ja 0 FM;have a1:=ja 1 FM;have a2:=ja 2 FM;simp only [show Dt.sz=3 from rfl,Nat.add_zero,List.getElem?_cons_zero,List.getElem?_cons_succ] at a0 a1 a2;clear ja;by_cases hq:e.Ah[k].Ch > e.Ai+1
   ·have hqf:=Lib.hid (Hx (q:=fun x:Gs=>!decide (x.Ch≤e.Ai+1)) hlt FR);generalize hys:((e.Ah.take k).filter fun x=>!decide (x.Ch≤e.Ai+1))=ys at *;have hys:=Lib.hid hys;go_wp2_with fail
    go_quiet (fail)
    go_wp2_with fail;have D1:=show Ir (wr.drewN nq) _ _ _ from hr1;have D2:=show Ir (wr.drewN nq) _ _ _ from hr2;have D3:=show Ir (wr.drewN nq) _ _ _ from hr3;have DO:=Lib.hid (show Ow Dt 212 (wr.drewN nq) _ _ _ from hO.out.frame fun _ _=>rfl);have DX:Dt.Ky (wr.drewN nq) _ _ _:=Dt.frame hx fun _ _=>rfl;have DB:=D7 hB2 nq;have b0:(wr.drewN nq).cell? ⟨b,off+k * 3,none⟩=_:=a0;have b1:(wr.drewN nq).cell? ⟨b,off+k * 3+1,none⟩=_:=a1;have b2:(wr.drewN nq).cell? ⟨b,off+k * 3+2,none⟩=_:=a2;clear hr1 hr2 hr3 hO hx hf hB2 a0 a1 a2 c1 c2 c4 f4;generalize wr.drewN nq=w2 at *
    have hbb:=World.block_lt_of_cell? w2 _ b0;simp only at hbb;have DBs:=DB.size;have t3:=fun A=>(D3.alloc A).cells 1;have t0:=D3.cells 1;have o0:=D2.cells 1;simp only [List.getElem?_cons_zero,List.getElem?_cons_succ] at t3 t0 o0;have hyl:ys.length≤4294967295:=by have:=congrArg List.length hys.out;have:=List.length_filter_le (fun x:Gs=>!decide (x.Ch≤e.Ai+1)) (e.Ah.take k);simp at this;omega
    have hA:=(Below.refl w2.heap.size w2).alloc (Nat.le_refl _) (.cells #[.int .i64 e.Ah[k].Ae,.slice fa e.Ah[k].Bj.length fc,.int .i64 e.Ah[k].Ch] 212);have DOd:=Lib.hid ((DO.out.below hA).frame (w':=(w2.alloc (.cells #[.int .i64 e.Ah[k].Ae,.slice fa e.Ah[k].Bj.length fc,.int .i64 e.Ah[k].Ch] 212)).drew) fun _ _=>rfl);have DXd:=Dt.frame (w':=(w2.alloc (.cells #[.int .i64 e.Ah[k].Ae,.slice fa e.Ah[k].Bj.length fc,.int .i64 e.Ah[k].Ch] 212)).drew) (Dt.below DX hA) fun _ _=>rfl
    have E0':=kc hA o0;have E0:(w2.alloc (.cells #[.int .i64 e.Ah[k].Ae,.slice fa e.Ah[k].Bj.length fc,.int .i64 e.Ah[k].Ch] 212)).drew.cell? _=_:=E0';have E1':=kc hA b0;have E1:(w2.alloc (.cells #[.int .i64 e.Ah[k].Ae,.slice fa e.Ah[k].Bj.length fc,.int .i64 e.Ah[k].Ch] 212)).drew.cell? _=_:=E1';have E2':=kc hA b1;have E2:(w2.alloc (.cells #[.int .i64 e.Ah[k].Ae,.slice fa e.Ah[k].Bj.length fc,.int .i64 e.Ah[k].Ch] 212)).drew.cell? _=_:=E2';have E3':=kc hA b2;have E3:(w2.alloc (.cells #[.int .i64 e.Ah[k].Ae,.slice fa e.Ah[k].Bj.length fc,.int .i64 e.Ah[k].Ch] 212)).drew.cell? _=_:=E3'
    have nob:∀c∈(Value.slice oa ys.length oc).ownBlock.toList,w1.heap.size+1+1≤c:=fun c hc=>by
     cases oa with
     | none=>simp [Value.ownBlock] at hc
     | some b=>simp [Value.ownBlock] at hc;subst hc;exact hoa b rfl
    have D3a:=show Ir (w2.alloc (.cells #[.int .i64 e.Ah[k].Ae,.slice fa e.Ah[k].Bj.length fc,.int .i64 e.Ah[k].Ch] 212)).drew _ _ _ from D3.alloc (.cells #[.int .i64 e.Ah[k].Ae,.slice fa e.Ah[k].Bj.length fc,.int .i64 e.Ah[k].Ch] 212);have hFs:∀c∈F1,c < w1.heap.size:=fun c hc=>hs.lt FM c (hFx c hc);have hbw:b < w1.heap.size:=hs.lt FM b (hs.headIn k hlt);have hn1:¬b=w1.heap.size+1:=FJ
    have hn2:¬w1.heap.size+1=b:=FJ
    go_region_law (first|((refine Aq3 Ail FM GG _ _ _ GG 212 (.agg #[.int .i64 0,.slice none 0 0,.int .i64 0]) 40 underlying131 Aba rfl (.slice oa ys.length oc) ys F2 GG DOd.out hd2 (some ⟨w2.heap.size,0,none⟩) [e.Ah[k]] 1 GG [.int .i64 e.Ah[k].Ae,.slice fa e.Ah[k].Bj.length fc,.int .i64 e.Ah[k].Ch] F1 (C1.one DXd) (.inr ⟨_,rfl,World.news_of_block (w:=(w2.alloc (.cells #[.int .i64 e.Ah[k].Ae,.slice fa e.Ah[k].Bj.length fc,.int .i64 e.Ah[k].Ch] 212)).drew) (heap_alloc_new w2 _)⟩) (fun c hc he=>by have h1:=nob c (by rw [he];simp);have h2:=hFs c hc;omega) (by unfold maxLen;simp;omega) FR ?_);intro v4 w4 F4 hA4;obtain ⟨oa2,oc2,rfl⟩:=hA4.val;have D4:=D3a.keepK hA4.Auz (fun hm=>by have:=nob _ hm;omega);have t4:=D4.cells 1;have f4:=D4.frozens 1;simp only [List.getElem?_cons_zero,List.getElem?_cons_succ] at t4))
    all_goals
     have hn4:w1.heap.size+1 ∉ F4:=fun hm=>by
      rcases hA4.mem _ hm with h|h|h
      ·exact (hF2 _ h).2.2 rfl
      ·have:=hFs _ h;omega
      ·have:=D3.lt;simp at h;omega
     have P1:=Lib.hid (hA4.ow.setFar (p:=⟨w1.heap.size+1,1,none⟩) hn4 (.slice oa2 (ys.length+1) oc2));have L1:=((show Ir (w2.alloc (.cells #[.int .i64 e.Ah[k].Ae,.slice fa e.Ah[k].Bj.length fc,.int .i64 e.Ah[k].Ch] 212)).drew _ _ _ from D1.alloc (.cells #[.int .i64 e.Ah[k].Ae,.slice fa e.Ah[k].Bj.length fc,.int .i64 e.Ah[k].Ch] 212)).keepK hA4.Auz (fun hm=>by have:=nob _ hm;have:=r1.lt;omega)).setOther (p:=⟨w1.heap.size+1,1,none⟩) (by have:=r1.lt;simp;omega) (.slice oa2 (ys.length+1) oc2)
     have L2:=((show Ir (w2.alloc (.cells #[.int .i64 e.Ah[k].Ae,.slice fa e.Ah[k].Bj.length fc,.int .i64 e.Ah[k].Ch] 212)).drew _ _ _ from D2.alloc (.cells #[.int .i64 e.Ah[k].Ae,.slice fa e.Ah[k].Bj.length fc,.int .i64 e.Ah[k].Ch] 212)).keepK hA4.Auz (fun hm=>by have:=nob _ hm;omega)).setOther (p:=⟨w1.heap.size+1,1,none⟩) FK (.slice oa2 (ys.length+1) oc2);have L3:=D4.set 1 (.slice oa2 (ys.length+1) oc2);have hoa2:∀b,oa2=some b→w1.heap.size+1+1≤b.block:=fun c hc=>by
      subst hc;rcases hA4.Atq with h|h
      ·simp only [Value.ownBlock] at h;exact nob _ (by cases oa <;> simp_all [Value.ownBlock])
      ·simp [Value.ownBlock] at h;have:=D3.lt;omega
     have hF4:∀c∈F4,w.heap.size+2≤c∧c≠w1.heap.size∧c≠w1.heap.size+1:=fun c hc=>by
      have hs3:=D3.lt;have hsw:=r1.lt;rcases hA4.mem _ hc with h|h|h
      ·exact hF2 _ h
      ·have h1:=hFs _ h;have h2:w.heap.size+2≤c:=(by simpa using hFo c (hFr c (hFx c h)));exact ⟨h2,FJ,FJ⟩
      ·simp at h;exact ⟨FJ,FJ,FJ⟩
     have hB5:Below w1.heap.size w1 (w4.setCell ⟨w1.heap.size+1,1,none⟩ (.slice oa2 (ys.length+1) oc2)) :=
      Below.setCell ((D7 (tr DB hA (Nat.le_refl _)) 1).trans (hA4.Auz.below FR (fun b hb=>by have:=nob b hb;omega))) FK _
     have hd4:=hA4.hd;clear hA4 D1 D2 D3 D4;go_wp2_with fail;exact ⟨⟨k+1,FJ,HX,oa2,oc2,F4,by rw [hqf.out,List.length_append];exact P1,hd4,hoa2,hF4,L1,L2,by rw [hqf.out,List.length_append];exact L3,hB5⟩,GT⟩
   ·have hqf:=Lib.hid (Da (q:=fun x:Gs=>!decide (x.Ch≤e.Ai+1)) hlt FR);generalize hys:((e.Ah.take k).filter fun x=>!decide (x.Ch≤e.Ai+1))=ys at *;have hys:=Lib.hid hys;go_wp2_with fail
    go_quiet (fail)
    go_wp2_with fail;refine ⟨⟨k+1,FJ,HX,oa,oc,F2,?_,hd2,hoa,hF2,hr1,hr2,?_,D7 hB2 _⟩,GT⟩
    ·rw [hqf.out];exact Lib.hid (hO.out.frame fun _ _=>rfl)
    ·rw [hqf.out];exact hr3
  ·have hk:k=e.Ah.length:=FJ
   subst hk;simp only [List.take_length] at hO hr3 c2;obtain ⟨F3,hF3,hs3⟩:=hO.out.read;have hB3:=tr hB hB2 (Nat.le_refl _);go_wp2_with fail;refine bodyPost_ret (v:=.agg #[.int .i64 (e.Ai+1),.slice oa (e.Ah.filter fun x=>!decide (x.Ch≤e.Ai+1)).length oc]) ?_ rfl ?_
   ·simp [results,results245,go_sem,c4,c2,f4]
   ·refine ⟨_,F3,rfl,⟨_,rfl,_,rfl,?_⟩,fun b hb=>by have:=(hF2 b (hF3 b hb)).1;omega,?_⟩
    ·refine hs3.frame fun b hb=>?_;have h2:=(hF2 b (hF3 b hb)).1;rw [Below.heap_setCell _ _ _ _ FR,Below.heap_setCell _ _ _ _ FR]
    ·repeat refine Below.setCell ?_ GF _
     exact hB3
theorem Atm {lo hi:Int} {zs:List Int} (h:Rs lo hi zs=true):(zs.length:Int)≤hi - lo+1∨zs=[]:=by
 by_cases h0:zs=[]
 ·exact .inr h0
 ·left;have key:∀i (hi':i < zs.length),lo+i≤zs[i]∧zs[i]≤hi:=by
   intro i
   induction i with
   | zero =>
    intro hi';have:=Jz h 0 hi';rw [Xj hi'] at this;simp [Gj] at this;exact EN
   | succ i ih =>
    intro hi';have:=Jz h (i+1) hi';rw [Up hi'] at this;have:=ih FJ;simp [Gj] at *;omega
  have hp:=List.length_pos_iff.2 h0;have:=key (zs.length - 1) FJ;omega
theorem Tz {e:Bf} (h:Ba e=true):Ld e.Ai=true∧e.Ah.length≤5∧∀x∈e.Ah,x.Bj.length≤7:=by
 unfold Ba at h;simp only [Bool.and_eq_true,decide_eq_true_eq] at h;refine ⟨h.1.1,h.1.2,fun x hx=>?_⟩;obtain ⟨i,hi,rfl⟩:=List.getElem_of_mem hx;have:=Jz h.2 i hi;rw [Kz hi] at this;simp [Lo] at this;rcases Atm this.1.2.2.1 with h|h
 ·omega
 ·rw [h];simp
def Ly (l:List Int) (n:Int):Nat:=(l.takeWhile fun x=>decide (x < n)).length
def Uw (l:List Int) (n:Int):List Int:=if l[Ly l n]?=some n then l else l.take (Ly l n)++n::l.drop (Ly l n)
def Mw (e:Bf) (n:Int):Nat:=e.Ah.findIdx fun x=>x.Ae == n
def Pk (e:Bf) (n f:Int):Bf:=match e.Ah[Mw e n]? with
 | some x=>⟨e.Ai,e.Ah.set (Mw e n) ⟨x.Ae,Uw x.Bj f,x.Ch⟩⟩
 | none=>if e.Ah.length < 5 then ⟨e.Ai,e.Ah++[⟨n,[f],e.Ai+6⟩]⟩ else e
def Adz (e:Bf) (n:Int):Bool:=!e.Ah.any fun x=>x.Ae == n
def Q2 (e:Bf) (n:Int):Bf:=match e.Ah[Mw e n]? with
 | some _=>⟨e.Ai,e.Ah.take (Mw e n)++e.Ah.drop (Mw e n+1)⟩
 | none=>e
def V1 (e:Bf) (n:Int) (below:List Int):List Int:=match e.Ah[Mw e n]? with
 | some x=>x.Bj.filter fun f=>decide (f∈below)
 | none=>if e.Ah.length=5 then below else []
theorem Sm (e:Bf) (n:Int):(∃(h:Mw e n < e.Ah.length),S0 (fun x=>x.Ae == n) e.Ah=(Mw e n:Nat)∧e.Ah[Mw e n].Ae=n∧Adz e n=false)∨(S0 (fun x=>x.Ae == n) e.Ah=-1∧e.Ah[Mw e n]?=none∧Adz e n=true∧∀x∈e.Ah,x.Ae≠n):=by
 cases h:e.Ah.any fun x=>x.Ae == n
 ·right;have h':=List.any_eq_false.1 h;refine ⟨by unfold S0;rw [h];rfl,?_,by simp [Adz,h],fun x hx=>by have:=h' x hx;simpa using this⟩;have:Mw e n=e.Ah.length:=List.findIdx_eq_length.2 (fun x hx=>by have:=h' x hx;simpa using this);rw [this];simp
 ·left;have h2:Mw e n < e.Ah.length:=by
   obtain ⟨x,hx,hp⟩:=List.any_eq_true.1 h;exact List.findIdx_lt_length_of_exists ⟨x,hx,hp⟩
  refine ⟨h2,by unfold S0;rw [h];rfl,?_,by simp [Adz,h]⟩;have:(e.Ah[Mw e n].Ae == n)=true:=List.findIdx_getElem (p:=fun x:Gs=>x.Ae == n) (xs:=e.Ah) (w:=h2);exact EN
theorem Zx {lo hi:Int} {zs:List Int} (h:Rs lo hi zs=true):zs.Pairwise (· < ·)∧∀z∈zs,lo≤z∧z≤hi:=by
 have hb:∀i (hi':i < zs.length),lo≤zs[i]∧zs[i]≤hi:=fun i hi'=>by
  have:=Jz h i hi';unfold Afw Gj at this;simp only [Bool.and_eq_true,decide_eq_true_eq] at this;rw [List.getD_eq_getElem?_getD,List.getElem?_eq_getElem hi'] at this;simpa using this.1
 refine ⟨?_,fun z hz=>by obtain ⟨i,hi',rfl⟩:=List.getElem_of_mem hz;exact hb i hi'⟩;have step:∀i (hi:i+1 < zs.length),zs[i] < zs[i+1]:=fun i hi'=>by
  have:=Jz h (i+1) hi';rw [Up hi'] at this;simp only [Bool.and_eq_true,decide_eq_true_eq] at this;exact this.2
 refine List.pairwise_iff_getElem.2 fun i j hi' hj hij=>?_;obtain ⟨d,rfl⟩:∃d,j=i+1+d:=⟨j - i - 1,FJ⟩;clear hij
 induction d with
 | zero=>exact step i hj
 | succ d ih=>exact Int.lt_trans (ih FJ) (step (i+1+d) hj)
theorem Al4 {lo hi:Int} {zs:List Int} (h1:zs.Pairwise (· < ·)) (h2:∀z∈zs,lo≤z∧z≤hi):Rs lo hi zs=true:=by
 unfold Rs;refine Me fun i hi'=>?_;have hb:=h2 zs[i] (List.getElem_mem hi');cases i with
 | zero=>rw [Xj hi'];simp [Gj,hb]
 | succ i =>
  rw [Up hi'];have:=List.pairwise_iff_getElem.1 h1 i (i+1) FJ hi' FJ;simp [Gj,hb,this]
theorem Bbq:∀{a b:List Int},a.Pairwise (· < ·)→b.Pairwise (· < ·)→(∀x,x∈a↔x∈b)→a=b
 | [],[],_,_,_=>rfl
 | [],y::b,_,_,h=>absurd ((h y).2 FK) FK
 | x::a,[],_,_,h=>absurd ((h x).1 FK) FK
 | x::a,y::b,h1,h2,h=>by
  have a1:=List.pairwise_cons.1 h1;have b1:=List.pairwise_cons.1 h2;have e:x=y:=by
   rcases List.mem_cons.1 ((h x).1 FK) with e|m
   ·exact e
   ·rcases List.mem_cons.1 ((h y).2 FK) with e|m2
    ·exact e.symm
    ·have:=b1.1 x m;have:=a1.1 y m2;omega
  subst e
  congr 1
  refine Bbq a1.2 b1.2 fun z=>⟨fun hz=>?_,fun hz=>?_⟩
  ·rcases List.mem_cons.1 ((h z).1 JR) with e|m
   ·have:=a1.1 z hz;omega
   ·exact m
  ·rcases List.mem_cons.1 ((h z).2 JR) with e|m
   ·have:=b1.1 z hz;omega
   ·exact m
theorem Apc {a b:List Int} (h1:a.Pairwise (· < ·)) (h2:b.Pairwise (· < ·)):(a.filter fun f=>decide (f∈b))=b.filter fun f=>decide (f∈a) :=
 Bbq (h1.filter _) (h2.filter _) fun x=>by simp [and_comm]
theorem Beg (x:Gs) (gb:Nat) (n:Int) (u:Value) (G:List Nat):FV 356 [u,Iq gb 0 0] [.isv Dt u x G,.cel gb 0 [.int .i64 n]] (.bool (x.Ae == n)):=by
 refine enter func356 rfl ntmps356 fun w0=>?_;refine T5 ?_;rintro a1 c1 F1 rfl l1;refine go ?_;intros;refine ret () trivial ?_;rfl
theorem Amo (e:Bf) (n:Int) (v:Value) (F:List Nat):FV 296 [v,.int .i64 n] [.isv Bk v e F] (.int .i64 (S0 (fun x=>x.Ae == n) e.Ah)):=by
 refine enter func296 rfl ntmps296 fun w0=>?_;refine Ga ?_;rintro a1 c1 F1 rfl l1;refine go ?_;intros;rename_i gb;refine cb (fun w st=>Sy _ (Wx FL) #[Iq gb 0 0] _ e.Ah _ (fun x=>x.Ae == n) w (st.get (p:=.sl Dt (.slice a1 e.Ah.length c1) e.Ah F1) FK).2 (fun k hk wr u G hB hu=>(Beg e.Ah[k] gb n u G).val wr (N0 hu ⟨FK,I0 ((st.below hB).get (p:=.row gb 3 0 [] [.int .i64 n] []) FK)⟩))) ?_;exact AA
theorem Aea (e:Bf) (n:Int) (v:Value) (F:List Nat):FV 173 [v,.int .i64 n] [.isv Bk v e F] (.int .i64 (S0 (fun x=>x.Ae == n) e.Ah)):=by
 refine enter func173 rfl ntmps173 fun w0=>?_;refine Ga ?_;rintro a1 c1 F1 rfl l1;unfold maxLen at l1;refine go ?_;intros;refine D8 [1,2,4] (fun k:Nat=>[(5,.int .i64 (k:Nat))]) (fun k=>k≤e.Ah.length∧∀j (_:j < k) (hj:j < e.Ah.length),(e.Ah[j].Ae == n)=false) (fun k=>e.Ah.length - k) 0 ⟨Nat.zero_le _,fun j h=>by omega⟩ fun k hk=>?_;obtain ⟨hk1,hk2⟩:=hk;refine go ?_;refine Ax rfl (fun h1=>?_) (fun h1=>?_)
 ·have hh:k < e.Ah.length:=FJ
  refine go ?_;refine U0 (xs:=e.Ah) k ?_;rintro hi b o a3 c3 F3 e1 l3;rw [e1];refine go ?_;refine Ax rfl (fun h2=>?_) (fun h2=>?_)
  ·refine go ?_;refine ret () trivial ?_;rw [Pp hh hk2 IH];rfl
  ·refine go ?_;refine Ce (k+1) ⟨hh,fun j hj hl=>?_⟩ FJ;rcases Nat.lt_or_eq_of_le (Nat.lt_succ_iff.1 hj) with h|rfl
   ·exact hk2 j h hl
   ·simpa using h2
 ·obtain rfl:k=e.Ah.length:=FJ
  exact BR
theorem Beu (l:List Int) (n:Int) (a:Option Addr) (c:Nat) (F:List Nat):FV 311 [.slice a l.length c,.int .i64 n] [.sl Bb (.slice a l.length c) l F] (.bool (decide (n∈l))):=by
 refine enter func311 rfl ntmps311 fun w0=>?_;refine Xq (xs:=l) ?_;rintro _ _ _ l2 l3;refine go ?_;refine D8 [0,1,4] (fun k:Nat=>[(5,.int .i64 (k:Nat))]) (fun k=>k≤l.length∧n ∉ l.take k) (fun k=>l.length - k) 0 ⟨Nat.zero_le _,FK⟩ fun k hk=>?_;obtain ⟨hk1,hk2⟩:=hk;refine go ?_;refine Ax rfl (fun h1=>?_) (fun h1=>?_)
 ·have hh:k < l.length:=FJ
  refine go ?_;refine I5 (xs:=l) k ?_;rintro hi b o e1;rw [e1];refine go ?_;refine Ax rfl (fun h2=>?_) (fun h2=>?_)
  ·refine go ?_;refine ret () trivial ?_;rw [decide_eq_true (h2▸List.getElem_mem hh:n∈l)];rfl
  ·refine go ?_;refine Ce (k+1) ⟨hh,fun hm=>?_⟩ FJ;rw [List.take_add_one,List.getElem?_eq_getElem hh] at hm;rcases List.mem_append.1 hm with h|h
   ·exact hk2 h
   ·simp at h;exact h2 h.symm
 ·obtain rfl:k=l.length:=FJ
  rw [List.take_length] at hk2;refine go ?_;refine ret () trivial ?_;rw [decide_eq_false hk2];rfl
theorem Bg1 (n:Int):FV 434 [.int .i64 n] [] (.bool false):=by
 refine enter func434 rfl ntmps434 fun w0=>?_;refine go ?_;refine ret () trivial ?_;simp [Ux]
theorem Bh1 (n:Int):FV 421 [.int .i64 n] [] (.bool false):=by
 refine enter func421 rfl ntmps421 fun w0=>?_;refine go ?_;refine ret () trivial ?_;simp [Ux]
theorem Bd6 (a b:Int):FV 420 [.int .i64 a,.int .i64 b] [] (.bool (decide (a < b))):=by
 refine enter func420 rfl ntmps420 fun w0=>?_;refine go ?_;refine Cb (Bg1 a) fun _ _=>?_;exact AA
def Azt (l:List Int) (n:Int):Bool:=decide (l[Ly l n]?=some n)
theorem Aen {l:List Int} {n:Int} {k:Nat} (h1:k≤l.length) (h2:∀j (_:j < k) (h:j < l.length),l[j] < n) (h3:∀h:k < l.length,¬l[k] < n):Ly l n=k:=Zf h1 (fun j hj h=>by simpa using h2 j hj h) (fun h=>by simpa using h3 h)
theorem Bd5 (xs:List Int) (n:Int) (a:Option Addr) (c:Nat) (F:List Nat) (hs:xs.Pairwise (· < ·)) (hl:xs.length≤1000000):FV 396 [.slice a xs.length c,.int .i64 n] [.sl Bb (.slice a xs.length c) xs F] (.tuple #[.int .i64 (Ly xs n:Nat),.bool (Azt xs n)]):=by
 have hm:=List.pairwise_iff_getElem.1 hs;refine enter func396 rfl ntmps396 fun w0=>?_;refine go ?_;refine D8 [0,1,4,5,6] (fun s:Nat × Nat=>[(7,.int .i64 (s.1:Nat)),(8,.int .i64 (s.2:Nat))]) (fun s=>s.1≤s.2∧s.2≤xs.length∧(∀j (_:j < s.1) (h:j < xs.length),xs[j] < n)∧(∀j (_:s.2≤j) (h:j < xs.length),¬xs[j] < n)) (fun s=>s.2 - s.1) (0,xs.length) ⟨Nat.zero_le _,Nat.le_refl _,fun j h=>by omega,fun j h1 h2=>by omega⟩ fun s hs=>?_;obtain ⟨i,j⟩:=s;obtain ⟨h1,h2,h3,h4⟩:=hs;dsimp only at h1 h2 h3 h4 ⊢;refine go ?_;refine Ax rfl (fun h5=>?_) (fun h5=>?_)
 ·have hh:(i+j) / 2 < xs.length:=FJ
  have e2:((i:Int)+(j:Int)) / 2=(((i+j) / 2:Nat):Int):=FJ
  refine go ?_;apply wO;apply oc;rfl;exact Auc rfl FJ FJ;refine go ?_;apply wO;apply oc;rfl;exact Aod rfl;rw [e2];apply wO;apply oc;rfl;exact Arv rfl FJ FJ;generalize hq:(i+j) / 2=q at hh;refine go ?_;refine I5 (xs:=xs) q ?_;rintro hi b o e;rw [e];refine go ?_;refine Cb (Bd6 _ _) fun _ _=>?_;refine go ?_;refine Ax rfl (fun h6=>?_) (fun h6=>?_)
  ·refine go ?_;refine Xo ?_;refine Ce (hH:=Lz _) (q+1,j) ⟨by show q+1≤j;omega,h2,fun k hk h=>?_,h4⟩ (by show j - (q+1) < j - i;omega);rcases Nat.lt_or_eq_of_le (Nat.lt_succ_iff.1 (show k < q+1 from hk)) with hk|rfl
   ·have:=hm k q h hh hk;omega
   ·exact h6
  ·refine go ?_;refine Xo ?_;refine Ce (hH:=Lz _) (i,q) ⟨by show i≤q;omega,by show q≤xs.length;omega,h3,fun k hk h hn=>h6 ?_⟩ (by show q - i < j - i;omega);rcases Nat.lt_or_eq_of_le (show q≤k from hk) with hk|rfl
   ·have:=hm q k hh h hk;omega
   ·exact hn
 ·have hij:i=j:=FJ
  subst hij;have hk:Ly xs n=i:=Aen h2 h3 (fun h=>h4 i (Nat.le_refl _) h);unfold Azt;rw [hk];refine go ?_;refine Dx rfl rfl (fun h6=>?_) (fun h6=>?_)
  ·have hh:i < xs.length:=FJ
   rw [List.getElem?_eq_getElem hh];refine go ?_;refine I5 (xs:=xs) i ?_;rintro hi b o e;rw [e];refine go ?_;refine Dx rfl rfl (fun h7=>?_) (fun h7=>?_)
   ·refine go ?_;refine ret () trivial ?_;rw [decide_eq_true (by simpa using h7)];rfl
   ·refine go ?_;refine Cb (Bh1 _) fun _ _=>?_;refine go ?_;refine ret () trivial ?_;rw [decide_eq_false (by simpa using h7)];rfl
  ·refine go ?_;refine ret () trivial ?_;rw [List.getElem?_eq_none FJ];rfl
theorem Bhh (xs:List Int) (n:Int) (a:Option Addr) (c:Nat) (F:List Nat):FV 203 [.slice a xs.length c,.int .i64 n] [.sl Bb (.slice a xs.length c) xs F] (.int .i64 (S0 (fun x=>x == n) xs)):=by
 refine enter func203 rfl ntmps203 fun w0=>?_;refine Xq (xs:=xs) ?_;rintro _ _ - l2 l3;refine go ?_;refine D8 [0,1,4,7] (fun k:Nat=>[(8,.int .i64 (k:Nat))]) (fun k=>k≤xs.length∧∀j (_:j < k) (hj:j < xs.length),(xs[j] == n)=false) (fun k=>xs.length - k) 0 ⟨Nat.zero_le _,fun j h=>by omega⟩ fun k hk=>?_;obtain ⟨hk1,hk2⟩:=hk;refine go ?_;refine Ax rfl (fun h1=>?_) (fun h1=>?_)
 ·have hh:k < xs.length:=FJ
  refine go ?_;refine I5 (xs:=xs) k ?_;rintro hi b o e1;rw [e1];refine go ?_;refine Ax rfl (fun h2=>?_) (fun h2=>?_)
  ·refine go ?_;refine ret () trivial ?_;rw [Pp hh hk2 (by simpa using h2.symm)];rfl
  ·refine go ?_;refine Ce (k+1) ⟨hh,fun j hj hl=>?_⟩ FJ;rcases Nat.lt_or_eq_of_le (Nat.lt_succ_iff.1 hj) with h|rfl
   ·exact hk2 j h hl
   ·simpa using fun e=>h2 e.symm
 ·obtain rfl:k=xs.length:=FJ
  exact BR
theorem Bd1 (l:List Int) (n:Int):(l.any fun x=>x == n)=decide (n∈l):=by
 rw [Bool.eq_iff_iff,List.any_eq_true,decide_eq_true_eq];exact ⟨fun ⟨x,hx,h⟩=>by simp at h;exact h▸hx,fun h=>⟨n,h,FK⟩⟩
theorem Azz (xs:List Int) (n:Int) (a:Option Addr) (c:Nat) (F:List Nat):FV 113 [.slice a xs.length c,.int .i64 n] [.sl Bb (.slice a xs.length c) xs F] (.bool (decide (n∈xs))):=by
 refine enter func113 rfl ntmps113 fun w0=>?_;refine go ?_;refine Cb (Bhh xs n _ _ F) fun _ _=>?_;refine go ?_;refine ret () trivial ?_;rw [Ud,Bd1];rfl
theorem Bbv (y:Int) (w:World):C1 Bb w [.int .i64 y] [y] []:=⟨_,[],[],[],FK,FK,⟨rfl,rfl⟩,rfl,rfl⟩
theorem Azc (xs:List Int) (y:Int) (i:Nat) (a:Option Addr) (c vb:Nat) (F:List Nat) (hi:i≤xs.length) (hl:xs.length≤1000000) :
  Fn prog 397 [.slice a xs.length c,.int .i64 i,.slice (some ⟨vb,0,none⟩) 1 1] [] [.ow Bb 3 (.slice a xs.length c) xs F,.row vb 3 0 [] [.int .i64 y] []] (fun (_:Option Addr × Nat × List Nat)=>True)
   (fun z=>.slice z.1 (xs.take i++y::xs.drop i).length z.2.1) (fun z=>[.ow Bb 3 (.slice z.1 (xs.take i++y::xs.drop i).length z.2.1) (xs.take i++y::xs.drop i) z.2.2]):=by
 have hone:∀w':World,∀cs:List Value,C1 Bb w' cs xs []→∀u∈cs,u.oneCell'=true:=fun w' cs h=>h.one' Dd;have hy:=Bbv y;have h1y:∀u∈([.int .i64 y]:List Value),u.oneCell'=true:=IM
 refine enter func397 rfl ntmps397 fun w0=>?_;refine Bco (E:=Bb) fun hc1 hc2=>?_;refine go ?_;apply wO;refine Anj rfl rfl rfl rfl hi (fun _=>?_) hc1;refine go ?_;refine Ax rfl (fun h1=>?_) (fun h1=>?_)
 ·have hin:i=xs.length:=FJ
  subst hin;have e:xs.take xs.length++y::xs.drop xs.length=xs++[y]:=FK
  refine go ?_;apply wO;refine Qa hy Dd fun a2 c2 F2=>?_;rw [e];exact DM
 ·have hlt:i < xs.length:=FJ
  refine An3 (xs:=xs) D0 (by rintro rfl;simp at hlt) ?_;rintro g cs rest rfl - - - hcl hcr hfl;rw [show Bb.sz=1 from rfl] at hcl hcr;have h1c:=hone w0 cs (hfl w0);obtain ⟨A,B,hcs,hA,hB⟩:∃A B,cs=A++B∧A=cs.take (i * 1)∧B=cs.drop (i * 1):=⟨_,_,(List.take_append_drop _ _).symm,rfl,rfl⟩;have hAl:A.length=i * 1:=LN
  have hBl:B.length=(xs.length - i) * 1:=LM
  have hins:∀w,C1 Bb w (A++[.int .i64 y]++B) (xs.take i++y::xs.drop i) []:=fun w=>by rw [hA,hB];exact (hfl w).insL (hy w) i hi
  have h1A:∀u∈A,u.oneCell'=true:=fun u hu=>h1c u IX;have h1B:∀u∈B,u.oneCell'=true:=fun u hu=>h1c u IX;have hlen:(xs.take i++y::xs.drop i).length=xs.length+1:=FR
  clear hA hB hfl hone;subst hcs;have eA:A=((A++B++rest).drop 0).take (i * 1):=IQ
  have eB:B=((A++B++rest).drop (0+i * 1)).take ((xs.length - i) * 1):=HQ
  rw [hlen];refine go ?_;apply wO;apply oc;rfl;exact Aub rfl;refine go ?_;refine Ax rfl (fun h2=>?_) (fun h2=>?_)
  ·refine go ?_;apply wO;apply oc;rfl;exact P9 (i:=i) rfl rfl rfl FJ FJ;refine go ?_;apply wO;refine As7 (k:=xs.length+1 - i) (olds:=A) rfl rfl rfl FJ (Nw (m:=i * 1) (.head _) eA) FJ FM FJ FJ FJ FJ fun g' cp' Z rest' h3 h4 h5 h6=>?_;rw [show i+(xs.length+1 - i)=xs.length+1 by omega] at h3 ⊢;obtain ⟨Z1,Z2,rfl,hZ1,hZ2⟩:∃Z1 Z2,Z=Z1++Z2∧Z1.length=1∧Z2.length=B.length:=⟨Z.take 1,Z.drop 1,(List.take_append_drop _ _).symm,GA,HU⟩;refine go ?_
   apply wO;apply oc;rfl;exact Ln (i:=i) rfl rfl rfl FJ FJ FJ;refine go ?_;apply wO;refine X4 (cs:=[.int .i64 y]) (L':=A++[.int .i64 y]++(Z2++rest')) rfl rfl rfl (Nw (L:=[.int .i64 y]) (o:=0) (m:=1) FO rfl) .here (Aga (M:=Z1) GP FJ (by simpa using hZ1)) (by show 1=min 1 (xs.length+1 - i) * 1;omega) FQ h1y ?_;refine go ?_;refine As [] [] ?_;refine Ds 0 1 2 3 ?_;refine dt 4 ?_ (hy:=Ln (i:=i+1) rfl rfl FJ FJ FJ FJ)
   refine Ed 5 6 ?_;refine dt 7 ?_ (hy:=Ln (i:=i) rfl rfl FJ FJ FJ FJ);refine dN 8 ?_;refine X4 (cs:=B) (L':=A++[.int .i64 y]++B++rest') rfl rfl rfl (Nw FO eB) .here (Aga (P:=A++[.int .i64 y]) (M:=Z2) GP FQ hZ2) HS FQ h1B ?_;refine dk ?_;refine dd ?_
   refine Aew (cs:=A++[.int .i64 y]++B) (rest:=rest') (xs:=xs.take i++y::xs.drop i) cp' rfl hins FJ h4 (by rw [show Bb.sz=1 from rfl];simp only [List.length_append,List.length_cons,List.length_nil] at h6 ⊢;omega) ?_;rw [hlen];refine go ?_;refine ret (_,cp',[g']) trivial rfl
  ·have hcx:xs.length+1≤c:=FJ
   obtain ⟨X,Y,hXY,hX,hY⟩:=Att (B:=B) (R:=rest) 1 FJ;refine go ?_;apply wO;apply oc;rfl;exact P9 (i:=xs.length+1) rfl rfl FJ FJ FJ;refine go ?_;apply wO;apply oc;rfl;exact Ln (i:=i+1) rfl rfl FJ FJ FJ FJ;refine O3 ?_;intros;apply wO
   refine Bbh rfl X8 (ovl (tS:=22) (tR:=4) (run_callFunc_extern func422 FL FL FL (e:=Extern.SlicesOverlaps.overlaps #[22,22] #[4]) FL) (.there .here) (.head _) HC) ?_;refine go ?_;refine As [] [] ?_;refine Ds 0 1 2 3 ?_;refine dt 4 ?_ (hy:=Ln (i:=i+1) rfl rfl FJ FJ FJ FJ);refine Ed 5 6 ?_;refine dt 7 ?_ (hy:=Ln (i:=i) rfl rfl FJ FJ FJ FJ);refine dN 8 ?_
   refine X4 (cs:=B) (L':=A++X++B++rest.drop 1) rfl rfl rfl (Nw FO eB) .here (Aga (P:=A++X) (M:=Y) IE HE hY) HO HE h1B ?_;refine dk ?_;refine dd ?_;refine go ?_;apply wO;apply oc;rfl;exact Ln (i:=i) rfl rfl rfl FJ FJ FJ;refine go ?_;apply wO
   refine X4 (cs:=[.int .i64 y]) (L':=A++[.int .i64 y]++(B++rest.drop 1)) rfl rfl rfl (Nw (L:=[.int .i64 y]) (o:=0) (m:=1) FO rfl) .here (Aga (M:=X) GP FJ (by simpa using hX)) (by show 1=min 1 (xs.length+1 - i) * 1;omega) FQ h1y ?_;refine go ?_
   refine Aew (L:=A++[.int .i64 y]++(B++rest.drop 1)) (cs:=A++[.int .i64 y]++B) (rest:=rest.drop 1) (xs:=xs.take i++y::xs.drop i) c GP hins FJ FJ (by rw [show Bb.sz=1 from rfl];simp only [List.length_append,List.length_cons,List.length_nil,List.length_drop];omega) ?_;rw [hlen];refine ret (_,c,[g]) trivial rfl
theorem Rd (n:Int) (w:World):C1 Bb w [.int .i64 n] [n] []:=⟨_,[],[],[],FK,FK,⟨rfl,rfl⟩,rfl,rfl⟩
theorem Axz (l:List Int) (n:Int):Ly l n≤l.length:=(Se (p:=fun x=>decide (x < n)) (xs:=l)).1
structure Bj8 where
 a:Option Addr
 c:Nat
 F:List Nat
theorem Bev (l:List Int) (n:Int) (a:Option Addr) (c:Nat) (F:List Nat) (hl:l.length≤1000000):Fn prog 314 [.slice a l.length c,.int .i64 n] [] [.ow Bb 3 (.slice a l.length c) l F] (fun (_:Bj8)=>True) (fun s=>.slice s.a (Uw l n).length s.c) (fun s=>[.ow Bb 3 (.slice s.a (Uw l n).length s.c) (Uw l n) s.F]):=by
 refine enter func314 rfl ntmps314 fun w0=>?_;refine go ?_;refine D8 [0,1,4] (fun k:Nat=>[(5,.int .i64 (k:Nat))]) (fun k=>k≤l.length∧∀j (_:j < k) (hj:j < l.length),l[j] < n) (fun k=>l.length - k) 0 ⟨Nat.zero_le _,fun j h=>by omega⟩ fun k hk=>?_;obtain ⟨hk1,hk2⟩:=hk;refine go ?_;refine Dx rfl rfl (fun h1=>?_) (fun h1=>?_)
 ·have hh:k < l.length:=FJ
  refine go ?_;refine P5 (m:=1) D0 k ?_ FP rfl hh;rintro _ g A cs B rfl rfl hr hH;obtain ⟨rfl, -⟩:=hr w0;refine go ?_;refine Pd l[k] hH hr ?_;rw [List.set_getElem_self];refine Ax rfl (fun h2=>?_) (fun h2=>?_)
  ·refine go ?_;refine Ce (k+1) ⟨hh,fun j hj hl=>?_⟩ FJ;rcases Nat.lt_or_eq_of_le (Nat.lt_succ_iff.1 hj) with h|rfl
   ·exact hk2 j h hl
   ·exact h2
  ·have hp:Ly l n=k:=Aen hk1 hk2 (fun _=>h2);refine go ?_;refine Dx rfl rfl (fun h4=>?_) (fun h4=>absurd h1 h4);refine go ?_;refine P5 (m:=1) D0 k ?_ FP rfl hh;rintro _ g A cs B e1 - hr hH;cases e1;obtain ⟨rfl, -⟩:=hr w0;refine go ?_;refine Pd l[k] hH hr ?_;rw [List.set_getElem_self];refine Ax rfl (fun h3=>?_) (fun h3=>?_)
   ·have e:Uw l n=l:=by unfold Uw;rw [hp,List.getElem?_eq_getElem hh,if_pos (by rw [h3])]
    rw [e];exact BD
   ·have e:Uw l n=l.take k++[n]++l.drop k:=by unfold Uw;rw [hp,List.getElem?_eq_getElem hh,if_neg IU];simp
    refine go ?_;refine A4 fun F5=>?_;refine Bct k FJ fun F6 hc1 hc2=>?_;refine As [] [] ?_;refine Ed 1 2 ?_;refine dt 3 ?_ (hy:=P9 (i:=k) rfl rfl rfl FJ FJ);refine Ed 5 8 ?_;refine dt 9 ?_;refine Asd 10 k fun a6 c6 F6=>?_;refine dM 0 6 ?_ ?_
    ·apply Mx;rfl;intro _;refine Dc Bb ?_;refine dk ?_;refine dM 4 6 ?_ ?_
     ·exact CU
     ·apply Lx;rfl;rfl;rfl;rfl;exact Lr;exact La;intro _;exact BB
    ·exact FA
 ·have hp:Ly l n=k:=Aen hk1 hk2 (fun h=>by omega);have e:Uw l n=l.take k++[n]++l.drop k:=by unfold Uw;rw [hp,List.getElem?_eq_none FJ];simp
  refine go ?_;refine Dx rfl rfl (fun h4=>absurd h4 h1) (fun h4=>?_);refine go ?_;refine A4 fun F5=>?_;refine Bct k FJ fun F6 hc1 hc2=>?_;refine As [] [] ?_;refine Ed 1 2 ?_;refine dt 3 ?_ (hy:=P9 (i:=k) rfl rfl rfl FJ FJ);refine Ed 5 8 ?_;refine dt 9 ?_;refine Asd 10 k fun a6 c6 F6=>?_;refine dM 0 6 ?_ ?_
  ·apply Mx;rfl;intro _;refine Dc Bb ?_;refine dk ?_;refine dM 4 6 ?_ ?_
   ·exact CU
   ·apply Lx;rfl;rfl;rfl;rfl;exact Lr;exact La;intro _;exact BB
  ·exact FA
theorem Av2 {c:Cx} {fr:Fr} {H S:List Pc} {Φ:Gl} (x:Bf) {a:Option Addr} {n cp:Nat} {F:List Nat} (hn:n=x.Ah.length) (h:T c fr (.own Ca (.agg #[.int .i64 x.Ai,.slice a n cp]) x F::S) Φ) (hp:Co H (.ow Dy 212 (.slice a n cp) x.Ah F) S:=by exact De):T c fr H Φ:=by
 subst hn;exact Fc x h hp
theorem Aiy {e:Bf} {n f:Int} (h:Mw e n < e.Ah.length):Pk e n f=⟨e.Ai,e.Ah.set (Mw e n) ⟨e.Ah[Mw e n].Ae,Uw e.Ah[Mw e n].Bj f,e.Ah[Mw e n].Ch⟩⟩:=by unfold Pk;rw [List.getElem?_eq_getElem h]
theorem Aix {e:Bf} {n f:Int} (h:e.Ah[Mw e n]?=none) (hl:e.Ah.length < 5):Pk e n f=⟨e.Ai,e.Ah++[⟨n,[f],e.Ai+6⟩]⟩:=by unfold Pk;rw [h];simp [hl]
theorem Aeq {e:Bf} {n f:Int} (h:e.Ah[Mw e n]?=none) (hl:¬e.Ah.length < 5):Pk e n f=e:=by unfold Pk;rw [h];simp [hl]
theorem Acn (e:Bf) (n f:Int) (v:Value) (F:List Nat) (hl:e.Ah.length≤1000000) (hf:∀x∈e.Ah,x.Bj.length≤1000000) (hc0:-1000000≤e.Ai) (hc1:e.Ai≤1000000):Fn prog 252 [v,.int .i64 n,.int .i64 f] [.isv Bk v e F] [] (fun (_:Value × List Nat)=>True) (fun s=>.tuple #[s.1,.bool (Adz e n)]) (fun s=>[.own Ca s.1 (Pk e n f) s.2]):=by
 refine enter func252 rfl ntmps252 fun w0=>?_;refine Ga ?_;rintro a1 c1 F1 rfl l1;refine go ?_;intros;refine cv (fun w st=>Yv _ e _ w (st.get (p:=.isv Bk (.agg #[.int .i64 e.Ai,.slice a1 e.Ah.length c1]) e F) FK) FJ (fun x hx=>Nat.le_trans (hf x hx) FM)) fun u FU=>?_;refine H4 ?_;rintro a2 c2 F2 rfl l2;refine go ?_;intros;refine Cb (Aea e n _ F) fun _ _=>?_;rcases Sm e n with ⟨h,e1,e2,e3⟩|⟨e1,e2,e3,e4⟩
 ·rw [e1,e3,Aiy h];have hfx:=hf e.Ah[Mw e n] (List.getElem_mem h);refine go ?_;refine W5 (m:=3) (Mw e n) ?_ rfl h;rintro _ g A cs B k1 k2 G1 Gi G2 rfl - hc hH;refine Xh ?_;rintro a5 c5 F5 ev l5;obtain rfl:=Uv ev;refine go ?_;intros;refine Cb (Bev _ f a5 c5 F5 hfx) fun z _=>?_;refine go ?_;refine Nh ⟨e.Ah[Mw e n].Ae,Uw e.Ah[Mw e n].Bj f,e.Ah[Mw e n].Ch⟩ ?_;refine Ta _ hH rfl fun F6=>?_;refine Av2 ⟨e.Ai,_⟩ List.length_set.symm ?_;exact BE
 ·rw [e1,e3];refine go ?_;refine Ax rfl (fun h5=>?_) (fun h5=>?_)
  ·rw [Aix e2 FJ];refine go ?_;intros;refine Ll (E:=Bb) (xs:=[f]) (Rd f) ?_ FK;refine Nh ⟨n,[f],e.Ai+6⟩ ?_;apply wO;refine Ads Rn ⟨n,[f],e.Ai+6⟩ rfl fun a3 c3 F3=>?_;refine go ?_;refine Av2 ⟨e.Ai,_⟩ rfl ?_;exact BE
  ·rw [Aeq e2 FJ];refine go ?_;refine Av2 e rfl ?_;exact BE
def Acb (e:Bf) (n:Int) (below:List Int):List Int:=match e.Ah[Mw e n]? with
 | some x=>below.filter fun f=>decide (f∈x.Bj)
 | none=>if e.Ah.length=5 then below else []
theorem Aiu {e:Bf} {n:Int} (h:Mw e n < e.Ah.length):Q2 e n=⟨e.Ai,e.Ah.take (Mw e n)++e.Ah.drop (Mw e n+1)⟩:=by unfold Q2;rw [List.getElem?_eq_getElem h]
theorem Anp {e:Bf} {n:Int} (h:e.Ah[Mw e n]?=none):Q2 e n=e:=by unfold Q2;rw [h]
theorem Bad {e:Bf} {n:Int} {l:List Int} (h:Mw e n < e.Ah.length):Acb e n l=l.filter fun f=>decide (f∈e.Ah[Mw e n].Bj):=by unfold Acb;rw [List.getElem?_eq_getElem h]
theorem Bef {e:Bf} {n:Int} {l:List Int} (h:e.Ah[Mw e n]?=none):Acb e n l=if e.Ah.length=5 then l else []:=by unfold Acb;rw [h]
structure Bgu where
 k:Nat
 a:Option Addr
 c:Nat
 F:List Nat
structure Bka where
 v:Value
 F:List Nat
 a:Option Addr
 c:Nat
 G:List Nat
theorem Afj (e:Bf) (n:Int) (below:List Int) (v:Value) (F:List Nat) (a0:Option Addr) (c0:Nat) (F0:List Nat) (hl:e.Ah.length≤1000000) (hf:∀x∈e.Ah,x.Bj.length≤1000000) (hb:below.length≤1000000):Fn prog 250 [v,.int .i64 n,.slice a0 below.length c0] [.isv Bk v e F,.sl Bb (.slice a0 below.length c0) below F0] [] (fun (_:Bka)=>True) (fun s=>.tuple #[s.v,.slice s.a (Acb e n below).length s.c]) (fun s=>[.own Ca s.v (Q2 e n) s.F,.ow Bb 3 (.slice s.a (Acb e n below).length s.c) (Acb e n below) s.G]):=by
 refine enter func250 rfl ntmps250 fun w0=>?_;refine Ga ?_;rintro a1 c1 F1 rfl l1;refine go ?_;intros;refine cv (fun w st=>Yv _ e _ w (st.get (p:=.isv Bk (.agg #[.int .i64 e.Ai,.slice a1 e.Ah.length c1]) e F) FK) FJ (fun x hx=>Nat.le_trans (hf x hx) FM)) fun u FU=>?_;refine H4 ?_;rintro a2 c2 F2 rfl l2;refine go ?_;intros;refine Cb (Aea e n _ F) fun _ _=>?_;refine Dc Bb ?_;rcases Sm e n with ⟨h,e1,e2,e3⟩|⟨e1,e2,e3,e4⟩
 ·rw [e1,Aiu h,Bad h];have hfx:=hf e.Ah[Mw e n] (List.getElem_mem h);refine go ?_;refine U0 (xs:=e.Ah) (Mw e n) ?_;rintro hi b o a5 c5 F5 e6 l5;generalize Mw e n=i at *;generalize hx:e.Ah[i]=x at *;rw [e6];refine go ?_;refine Cj [2,3,6,7,8,10] (fun s:Bgu=>[(11,.int .i64 (s.k:Nat)),(9,.slice s.a ((below.take s.k).filter fun f=>decide (f∈x.Bj)).length s.c)]) (fun s=>[.ow Bb 3 (.slice s.a ((below.take s.k).filter fun f=>decide (f∈x.Bj)).length s.c) ((below.take s.k).filter fun f=>decide (f∈x.Bj)) s.F]) (fun s=>s.k≤below.length) (fun s=>below.length - s.k) ⟨0,_,_,_⟩ (Nat.zero_le _) fun s hs=>?_
  obtain ⟨k,a3,c3,F3⟩:=s;dsimp only at hs ⊢;refine go ?_;refine Ax rfl (fun h6=>?_) (fun h6=>?_)
  ·have hk:k < below.length:=FJ
   refine I5 (xs:=below) k ?_;rintro hi2 b2 o2 e7;rw [e7];have ht:below.take (k+1)=below.take k++[below[k]]:=by rw [List.take_add_one,List.getElem?_eq_getElem hk];rfl
   have hle:((below.take k).filter fun f=>decide (f∈x.Bj)).length≤k:=Nat.le_trans (List.length_filter_le _ _) FR;refine go ?_;refine As [0,2,7] [] ?_;refine Ds 0 1 2 3 ?_;refine Ds 4 5 6 7 ?_;refine Ed 8 9 ?_;refine dN 10 ?_;refine oC ?_;refine Cb (Beu x.Bj below[k] a5 c5 F5) fun _ _=>?_;refine dk ?_;refine dd ?_;refine go ?_;refine Ax rfl (fun h7=>?_) (fun h7=>?_)
   ·have e8:(below.take (k+1)).filter (fun f=>decide (f∈x.Bj))=((below.take k).filter fun f=>decide (f∈x.Bj))++[below[k]]:=by rw [ht,List.filter_append];simp [h7]
    refine go ?_;intros;apply wO;refine Qa (Rd _) Dd fun a6 c6 F6=>?_;rw [←e8];refine go ?_;refine Ce (⟨k+1,_,_,_⟩:Bgu) hk JF
   ·have e8:(below.take (k+1)).filter (fun f=>decide (f∈x.Bj))=((below.take k).filter fun f=>decide (f∈x.Bj)):=by rw [ht,List.filter_append];simp [h7]
    refine go ?_;rw [←e8];refine Ce (⟨k+1,_,_,_⟩:Bgu) hk JF
  ·have hk:below.take k=below:=List.take_of_length_le FJ;rw [hk];refine go ?_;refine Aex Rn rfl fun ys Fy Gy hyl hym=>?_;refine Bcq i hi hyl hym fun G1 Gi G2=>?_;refine A4 (E:=EC 3) (xs:=ys) fun Fr=>?_;refine Bct (E:=EC 3) (xs:=ys) i FJ fun F6 hc1 hc2=>?_;refine As [8] [13] ?_;refine Ed 1 2 ?_;refine dt 3 ?_;refine dt 4 ?_ (hy:=P9 (i:=i) rfl rfl rfl FJ FJ);refine Ds 6 7 8 9 ?_;refine Asd 10 (i+1) fun a7 c7 F7=>?_;refine dN 0 ?_;apply Mx;rfl;intro _;refine Dc (EC 3) ?_;refine dk ?_;refine dN 5 ?_
   refine Pm (Atc 3) (Mn 3) (fun a6 c6 F6=>?_) (hn:=GA) (h63:=JO) (hby:=JO);refine dk ?_;refine dN 11 ?_;refine Pm (Atc 3) (Mn 3) (fun a8 c8 F8=>?_) (h63:=JO) (hby:=JO);refine dk ?_;refine dt 12 ?_;refine dN 13 ?_;refine oS ?_;refine Tx ?_;refine dd ?_;refine Avi (E:=Dy) ?_;refine Bcp (E:=Dy) (m:=3) (ys:=([]++ys.take i)++ys.drop (i+1)) (cs:=(ys.take i).flatten++(ys.drop (i+1)).flatten) (xs:=e.Ah.take i++e.Ah.drop (i+1)) ?_ rfl FK (by simp [hyl]);refine go ?_
   refine Av2 (n:=(([]++ys.take i)++ys.drop (i+1)).length) ⟨e.Ai,e.Ah.take i++e.Ah.drop (i+1)⟩ (by simp [hyl]) ?_;exact EO
 ·rw [e1,Anp e2,Bef e2];refine go ?_;refine Ax rfl (fun h5=>?_) (fun h5=>?_)
  ·rw [if_pos FJ];refine go ?_;apply wO;refine Pm Dd D0 fun a4 c4 F4=>?_;refine go ?_;refine Av2 e rfl ?_;exact EO
  ·rw [if_neg FJ];refine go ?_;refine Av2 e rfl ?_;exact EO
theorem Ary (e:Bf) (n f:Int) (g t o:Nat) (A B:List Value) (a:Option Addr) (c:Nat) (F:List Nat) (hl:e.Ah.length≤1000000) (hf:∀x∈e.Ah,x.Bj.length≤1000000∧x.Bj.Pairwise (· < ·)) (hc0:-1000000≤e.Ai) (hc1:e.Ai≤1000000) :
  Fn prog 353 [Iq g o 0,.int .i64 n,.int .i64 f] [] [.row g t o A [.int .i64 e.Ai,.slice a e.Ah.length c] B,.ow Dy 212 (.slice a e.Ah.length c) e.Ah F] (fun (_:Option Addr × Nat × List Nat)=>True) (fun _=>.bool (Adz e n)) (fun s=>[.row g t o A [.int .i64 (Pk e n f).Ai,.slice s.1 (Pk e n f).Ah.length s.2.1] B,.ow Dy 212 (.slice s.1 (Pk e n f).Ah.length s.2.1) (Pk e n f).Ah s.2.2]):=by
 refine enter func353 rfl ntmps353 fun w0=>?_;refine go ?_;refine cb (fun w st=>by
  obtain ⟨F', -,hs⟩:=(st.get (p:=.ow Dy 212 (.slice a e.Ah.length c) e.Ah F) FK).2.sl Ru;exact (Amo e n _ F').val w (En ⟨_,rfl,_,rfl,hs⟩)) ?_
 rcases Sm e n with ⟨h,e1,e2,e3⟩|⟨e1,e2,e3,e4⟩
 ·rw [e1,e3,Aiy h];obtain ⟨hfx,hpw⟩:=hf e.Ah[Mw e n] (List.getElem_mem h);have hsl:∀y,(e.Ah.set (Mw e n) y).length=e.Ah.length:=fun y=>List.length_set;refine go ?_;refine W5 (m:=3) (Mw e n) ?_ rfl h;rintro _ g2 A2 cs B2 k1 k2 G1 Gi G2 rfl - hc hH;refine Xh ?_;rintro a5 c5 F5 ev l5;obtain rfl:=Uv ev;refine go ?_;refine cb (fun w st=>by
   obtain ⟨F', -,hs⟩:=(st.get (p:=.ow Bb 3 (.slice a5 e.Ah[Mw e n].Bj.length c5) e.Ah[Mw e n].Bj F5) FK).2.read;exact (Bd5 _ f a5 c5 F' hpw hfx).val w (En ⟨FM,hs⟩)) ?_
  cases hq:Azt e.Ah[Mw e n].Bj f
  ·have ep:Uw e.Ah[Mw e n].Bj f=e.Ah[Mw e n].Bj.take (Ly e.Ah[Mw e n].Bj f)++f::e.Ah[Mw e n].Bj.drop (Ly e.Ah[Mw e n].Bj f):=by unfold Uw;rw [if_neg (by simpa [Azt] using hq)]
   refine go ?_;intros;refine Cb (Azc e.Ah[Mw e n].Bj f (Ly e.Ah[Mw e n].Bj f) a5 c5 _ F5 (Axz _ _) hfx) fun z _=>?_;rw [←ep];refine go ?_;refine Nh ⟨e.Ah[Mw e n].Ae,Uw e.Ah[Mw e n].Bj f,e.Ah[Mw e n].Ch⟩ ?_;refine Ta _ hH rfl fun F6=>?_;dsimp only;rw [←hsl ⟨e.Ah[Mw e n].Ae,Uw e.Ah[Mw e n].Bj f,e.Ah[Mw e n].Ch⟩];exact BM
  ·have ep:Uw e.Ah[Mw e n].Bj f=e.Ah[Mw e n].Bj:=by unfold Uw;rw [if_pos (by simpa [Azt] using hq)]
   rw [ep];refine go ?_;refine Nh ⟨e.Ah[Mw e n].Ae,e.Ah[Mw e n].Bj,e.Ah[Mw e n].Ch⟩ ?_;refine Ta _ hH rfl fun F6=>?_;dsimp only;rw [←hsl ⟨e.Ah[Mw e n].Ae,e.Ah[Mw e n].Bj,e.Ah[Mw e n].Ch⟩];exact BM
 ·rw [e1,e3];refine go ?_;refine Ax rfl (fun h5=>?_) (fun h5=>?_)
  ·rw [Aix e2 FJ];refine go ?_;refine As [0] [18] ?_;refine Ds 0 1 2 3 ?_;refine Ds 4 5 6 8 ?_;refine Ds 9 10 11 12 ?_;refine dN 7 ?_;apply Lx;rfl;rfl;rfl;rfl;exact Lr;exact La;intro _;refine dk ?_;refine dt 13 ?_;refine dN 14 ?_;apply Lx;rfl;rfl;rfl;rfl;exact Lr;exact La;intro _;refine Ll (E:=Bb) (xs:=[f]) (Rd f) ?_ FK;refine Nh ⟨n,[f],e.Ai+6⟩ ?_;refine dk ?_;refine dN 15 ?_;refine Ads Rn ⟨n,[f],e.Ai+6⟩ rfl fun a3 c3 F3=>?_;refine dk ?_;refine Ed 16 17 ?_;refine dN 18 ?_;refine oS ?_;refine Tx ?_;refine dd ?_;refine go ?_;exact BM
  ·rw [Aeq e2 FJ];refine go ?_;exact BM
theorem Bac {e:Bf} {n:Int} {l:List Int} (h:Mw e n < e.Ah.length):V1 e n l=e.Ah[Mw e n].Bj.filter fun f=>decide (f∈l):=by unfold V1;rw [List.getElem?_eq_getElem h]
theorem Bed {e:Bf} {n:Int} {l:List Int} (h:e.Ah[Mw e n]?=none):V1 e n l=if e.Ah.length=5 then l else []:=by unfold V1;rw [h]
theorem Ax9 (x:Int) (gb:Nat) (l:List Int) (a:Option Addr) (c:Nat) (F:List Nat):FV 391 [.int .i64 x,Iq gb 0 0] [.cel gb 0 [.slice a l.length c],.sl Bb (.slice a l.length c) l F] (.bool (!decide (x∈l))):=by
 refine enter func391 rfl ntmps391 fun w0=>?_;refine go ?_;refine Cb (Azz l x _ _ F) fun _ _=>?_;refine go ?_;refine ret () trivial ?_;rw [decide_not];rfl
structure Bkb where
 a:Option Addr
 c:Nat
 F:List Nat
 a2:Option Addr
 c2:Nat
 F2:List Nat
theorem Avq (e:Bf) (n:Int) (below:List Int) (g t o:Nat) (A B:List Value) (a:Option Addr) (c:Nat) (F:List Nat) (a0:Option Addr) (c0:Nat) (F0:List Nat) (hl:e.Ah.length≤1000000) (hf:∀x∈e.Ah,x.Bj.length≤1000000) (hb:below.length≤1000000) :
  Fn prog 351 [Iq g o 0,.int .i64 n,.slice a0 below.length c0] [.sl Bb (.slice a0 below.length c0) below F0] [.row g t o A [.int .i64 e.Ai,.slice a e.Ah.length c] B,.ow Dy 212 (.slice a e.Ah.length c) e.Ah F] (fun (_:Bkb)=>True) (fun s=>.slice s.a2 (V1 e n below).length s.c2) (fun s=>[.row g t o A [.int .i64 (Q2 e n).Ai,.slice s.a (Q2 e n).Ah.length s.c] B,.ow Dy 212 (.slice s.a (Q2 e n).Ah.length s.c) (Q2 e n).Ah s.F,.ow Bb 3 (.slice s.a2 (V1 e n below).length s.c2) (V1 e n below) s.F2]):=by
 refine enter func351 rfl ntmps351 fun w0=>?_;refine go ?_;intros;rename_i gb;refine cb (fun w st=>by
  obtain ⟨F', -,hs⟩:=(st.get (p:=.ow Dy 212 (.slice a e.Ah.length c) e.Ah F) FK).2.sl Ru;exact (Amo e n _ F').val w (En ⟨_,rfl,_,rfl,hs⟩)) ?_
 refine An1 (cs:=[.slice a0 below.length c0]) ?_ FK;rcases Sm e n with ⟨h,e1,e2,e3⟩|⟨e1,e2,e3,e4⟩
 ·rw [e1,Aiu h,Bac h];have hfx:=hf e.Ah[Mw e n] (List.getElem_mem h);refine go ?_;refine Aex Rn rfl fun ys Fy Gy hyl hym=>?_;generalize Mw e n=i at *;generalize hx:e.Ah[i]=x at *;refine Bcq i h hyl hym fun G1 Gi G2=>?_;rw [hx];refine Xh ?_;rintro a5 c5 F5 ev l5;have hyi:ys[i]=[.int .i64 x.Ae,.slice a5 x.Bj.length c5,.int .i64 x.Ch]:=by simpa using ev
  refine P5 (m:=3) (Mn 3) i ?_ FP rfl FJ;rintro _ g2 A2 cs B2 rfl rfl hr hH;obtain ⟨rfl, -⟩:=hr w0;rw [hyi];refine go ?_;refine Cb (Aog 391 [] [Iq gb 0 0] [.cel gb 0 [.slice a0 below.length c0],.sl Bb (.slice a0 below.length c0) below F0] rfl x.Bj a5 c5 F5 (fun z=>!decide (z∈below)) FL FJ (fun z _ w hA=>(Ax9 z gb below a0 c0 F0).val w hA)) fun z _=>?_;have e9:(x.Bj.filter fun z=>!!decide (z∈below))=x.Bj.filter fun z=>decide (z∈below):=by simp only [Bool.not_not]
  rw [e9];rw [←hyi];refine Pd ys[i] hH hr ?_;rw [List.set_getElem_self];refine go ?_;refine Cb (Bgs ys e.Ah.length i _ _ _ _ hyl.symm FJ rfl FJ) fun q _=>?_;refine go ?_;refine Avi (E:=Dy) ?_;refine Bcp (E:=Dy) (m:=3) (ys:=ys.take i++ys.drop (i+1)) (cs:=(ys.take i).flatten++(ys.drop (i+1)).flatten) (xs:=e.Ah.take i++e.Ah.drop (i+1)) ?_ rfl FK (by simp [hyl]);rw [show (ys.take i++ys.drop (i+1)).length=(e.Ah.take i++e.Ah.drop (i+1)).length by simp [hyl]];refine ret ⟨_,_,_,_,_,_⟩ trivial rfl
 ·rw [e1,Anp e2,Bed e2];refine go ?_;refine Ax rfl (fun h5=>?_) (fun h5=>?_)
  ·rw [if_pos FJ];refine go ?_;refine cn (fun w st=>Vo _ below F0 w (st.get (p:=.sl Bb (.slice a0 below.length c0) below F0) FK).2 FJ) fun a6 c6 F6=>?_;exact DZ
  ·rw [if_neg FJ];refine Dj Bb 3 ?_;exact DZ
theorem Ajw (t:Qo) (v:Value) (F:List Nat):FV 109 [v] [.isv Po v t F] (.bool (Kl t)):=by
 refine enter func109 rfl ntmps109 fun w0=>?_;refine N2 ?_;rintro a1 c1 F1 rfl l1;unfold maxLen at l1;refine go ?_;intros;refine D8 [1,2,6,7] (fun k:Nat=>[(8,.int .i64 (k:Nat))]) (fun k=>k≤t.Ad.length∧∀j,j < k→Aft t.Ad j=true) (fun k=>t.Ad.length - k) 0 ⟨Nat.zero_le _,fun j h=>by omega⟩ fun k hk=>?_;obtain ⟨hk1,hk2⟩:=hk;refine go ?_;refine Ax rfl (fun h1=>?_) (fun h1=>?_)
 ·have hh:k < t.Ad.length:=FJ
  refine I5 (xs:=t.Ad) k ?_;rintro hi b o e1;rw [e1];refine go ?_;refine Dx rfl rfl (fun h2=>?_) (fun h2=>?_)
  ·obtain rfl:k=0:=FJ
   refine go ?_;refine Dx rfl rfl (fun h3=>?_) (fun h3=>?_)
   ·refine go ?_;rw [Ach hh (by rw [Un hh];exact decide_eq_false h3)];exact BC
   ·refine go ?_;refine Ce 1 ⟨hh,fun j hj=>by obtain rfl:j=0:=FJ;rw [Un hh];exact decide_eq_true FJ⟩ (by show t.Ad.length - 1 < t.Ad.length - 0;omega)
  ·refine go ?_;refine Dx rfl rfl (fun h3=>?_) (fun h3=>?_)
   ·refine go ?_;refine ce (fun w s=>Ik _ _ _ w) ?_;cases g:Gj 0 t.Ad[k] ((k:Int) - 1)
    ·refine go ?_;rw [Ach hh (by rw [Wj hh FJ];exact g)];exact BC
    ·refine go ?_;refine Ce (k+1) ⟨hh,fun j hj=>?_⟩ (by show t.Ad.length - (k+1) < t.Ad.length - k;omega);rcases Nat.lt_or_eq_of_le (Nat.lt_succ_iff.1 hj) with h|rfl
     ·exact hk2 j h
     ·rw [Wj hh FJ];exact g
   ·exact absurd h3 FJ
 ·obtain rfl:k=t.Ad.length:=FJ
  refine go ?_;refine ce (fun w s=>Ik _ _ _ w) ?_;refine go ?_;refine ret () trivial ?_;unfold Kl;rw [Me hk2,Bool.and_true];rfl
theorem Ba1 (t:Qo) (v:Value) (F:List Nat):FV 79 [v] [.isv Po v t F] (.bool (Kl t)):=by
 refine enter func79 rfl ntmps79 fun w0=>?_;refine N2 ?_;rintro a1 c1 F1 rfl l1;unfold maxLen at l1;refine go ?_;intros;refine ce (fun w s=>Ku _ _ _ w) ?_;cases g0:Gj 2 (t.Ad.length:Int) 8
 ·rw [Awi g0];exact AA
 have hb:2≤t.Ad.length∧t.Ad.length≤8:=by
  unfold Gj at g0;simp only [Bool.and_eq_true,decide_eq_true_eq] at g0;omega
 have h0:0 < t.Ad.length:=FJ
 refine I5 (xs:=t.Ad) 0 ?_;rintro hi b o e1;rw [e1];refine go ?_;refine Ax rfl (fun h2=>?_) (fun h2=>?_)
 ·refine go ?_;rw [Ach h0 (by rw [Un h0];exact decide_eq_false h2)];exact BC
 refine go ?_;refine D8 [1,2,3] (fun k:Nat=>[(4,.int .i64 ((k+1:Nat):Int))]) (fun k=>k+1≤t.Ad.length∧∀j,j < k+1→Aft t.Ad j=true) (fun k=>t.Ad.length - k) 0 ⟨FJ,fun j h=>by obtain rfl:j=0:=FJ;rw [Un h0];exact decide_eq_true FJ⟩ fun k hk=>?_;obtain ⟨hk1,hk2⟩:=hk;refine go ?_;refine Ax rfl (fun h1=>?_) (fun h1=>?_)
 ·have hh:k+1 < t.Ad.length:=FJ
  refine I5 (a:=some ⟨b,o,none⟩) (xs:=t.Ad) (k+1) ?_;rintro hi2 _ _ e2;cases e2;refine go ?_;refine ce (fun w s=>Ku _ _ _ w) ?_;cases g:Gj 0 t.Ad[k+1] (((k+1:Nat):Int) - 1)
  ·refine go ?_;rw [Ach hh (by rw [Wj hh FJ];exact g)];exact BC
  ·refine go ?_;refine Ce (k+1) ⟨hh,fun j hj=>?_⟩ (by show t.Ad.length - (k+1) < t.Ad.length - k;omega);rcases Nat.lt_or_eq_of_le (Nat.lt_succ_iff.1 hj) with h|rfl
   ·exact hk2 j h
   ·rw [Wj hh FJ];exact g
 ·have hk:k+1=t.Ad.length:=FJ
  refine go ?_;refine ret () trivial ?_;unfold Kl;rw [g0,Me (fun j hj=>hk2 j FJ)];rfl
structure KiS where
 k:Nat
 a:Option Addr
 c:Nat
 F:List Nat
theorem Qx (t:Qo) (node:Int) (v:Value) (F:List Nat) (hz:Kt t.Ad node 1=[]) (hl:1≤t.Ad.length∧t.Ad.length≤1000000):Fn prog 167 [v,.int .i64 node] [.isv Po v t F] [] (fun (_:KiS)=>True) (fun z=>.slice z.a (I3 t.Ad node).length z.c) (fun z=>[.ow Bb 3 (.slice z.a (I3 t.Ad node).length z.c) (I3 t.Ad node) z.F]):=by
 refine enter func167 rfl ntmps167 fun w0=>?_;refine N2 ?_;rintro a1 c1 F1 rfl l1;unfold maxLen at l1;refine go ?_;intros;refine Dc Bb ?_;refine Cj [1,2,4] (fun z:KiS=>[(5,.slice z.a (U3 t.Ad node z.k).length z.c),(6,.int .i64 ((z.k+1:Nat):Int))]) (fun z=>[.ow Bb 3 (.slice z.a (U3 t.Ad node z.k).length z.c) (U3 t.Ad node z.k) z.F]) (fun z=>z.k+1≤t.Ad.length) (fun z=>t.Ad.length - z.k) ⟨0,_,_,_⟩ hl.1 fun z hz2=>?_;have hkl:=All t.Ad node z.k;have hl2:=hl.2;refine go ?_;refine Ax rfl (fun h1=>?_) (fun h1=>?_)
 ·have hh:z.k+1 < t.Ad.length:=FJ
  refine I5 (xs:=t.Ad) (z.k+1) ?_;rintro hi b o e1;rw [e1];refine go ?_;refine Ax rfl (fun h2=>?_) (fun h2=>?_)
  ·refine O3 ?_;intros;apply wO;refine Qa (Rd _) Dd fun a9 c9 F9=>?_;refine go ?_;rw [←Aww hh h2];refine Ce ⟨z.k+1,a9,c9,F9⟩ (by show z.k+1+1≤t.Ad.length;omega) (by show t.Ad.length - (z.k+1) < t.Ad.length - z.k;omega)
  ·rw [←Bau hh h2];refine go ?_;refine Ce ⟨z.k+1,z.a,z.c,z.F⟩ (by show z.k+1+1≤t.Ad.length;omega) (by show t.Ad.length - (z.k+1) < t.Ad.length - z.k;omega)
 ·have hk:z.k+1=t.Ad.length:=FJ
  rw [Alk hz hk];exact CL
theorem Yr (t:Qo) (node:Int) (v:Value) (F:List Nat):FV 197 [v,.int .i64 node] [.isv Po v t F] (.bool (Eu t.Ad node)):=by
 refine enter func197 rfl ntmps197 fun w0=>?_;refine N2 ?_;rintro a1 c1 F1 rfl l1;refine go ?_;intros;refine Cb (Azz t.Ad node _ _ F1) fun _ _=>?_;refine go ?_;refine ret () trivial ?_;unfold Eu;rw [←decide_not];rfl
theorem Pa (t:Qo) (node:Int) (v:Value) (F:List Nat) (hg:Vq t.Ad) (h0:0 < node):FV 94 [v,.int .i64 node] [.isv Po v t F] (.bool (Eu t.Ad node)):=by
 refine enter func94 rfl ntmps94 fun w0=>?_;refine N2 ?_;rintro a1 c1 F1 rfl l1;refine go ?_;intros;refine Dx rfl rfl (fun h1=>?_) (fun h1=>?_)
 ·refine go ?_;refine Cb (Qx t node _ F (T3 hg.z FJ) (by have:=hg.n0;have:=hg.n1;omega)) fun q _=>?_;refine go ?_;refine ret () trivial ?_;rw [Axk];by_cases hk:I3 t.Ad node=[]
  ·rw [hk];rfl
  ·rw [decide_eq_false hk,decide_eq_false fun e=>hk (List.length_eq_zero_iff.1 FJ)];rfl
 ·exact absurd h0 h1
theorem Apa {e:Bf} (h:Ba e=true) {x:Gs} (hx:x∈e.Ah):x.Bj.Pairwise (· < ·):=by
 unfold Ba at h;simp only [Bool.and_eq_true] at h;obtain ⟨i,hi,rfl⟩:=List.getElem_of_mem hx;have:=Jz h.2 i hi;rw [Kz hi] at this;simp only [Lo,Bool.and_eq_true] at this;exact (Zx this.1.2.2.1).1
theorem Aut {e:Bf} {n:Int} {l:List Int} (h:Ba e=true) (h2:Rs 1 7 l=true):Acb e n l=V1 e n l:=by
 unfold Acb V1;cases hx:e.Ah[Mw e n]? with
 | none=>rfl
 | some x=>exact (Apc (Apa h (List.mem_of_getElem? hx)) (Zx h2).1).symm
end Go.Proofs.YtkblpelckhegbaaGreatDoor
namespace Go.Proofs.YtkblpelckhegbaaGreatDoor

open Go.RowKit
end Go.Proofs.YtkblpelckhegbaaGreatDoor
namespace Go.Proofs.YtkblpelckhegbaaGreatDoor
open Go.RowKit
def Lw (e:Bf) (n:Int):List Int:=match e.Ah[Mw e n]? with
 | some x=>x.Bj
 | none=>[]
def Gm (e:Bf) (n:Int):List Int × Bool:=if Ba e && Cc n then (Lw e n,true) else ([],false)
theorem U9 {e:Bf} {n:Int} (h:(Ba e && Cc n)=false):Gm e n=([],false):=by unfold Gm;rw [h];rfl
theorem Arz (e:Bf) (n:Int) (v:Value) (F:List Nat):Fn prog 221 [v,.int .i64 n] [.isv Bk v e F] [] (fun (_:Option Addr × Nat × List Nat)=>True) (fun s=>.tuple #[.slice s.1 (Gm e n).1.length s.2.1,.bool (Gm e n).2]) (fun s=>[.ow Bb 3 (.slice s.1 (Gm e n).1.length s.2.1) (Gm e n).1 s.2.2]):=by
 refine enter func221 rfl ntmps221 fun w0=>?_;refine Dj Bb 3 ?_;refine Ga ?_;rintro a1 c1 F1 rfl l1;refine go ?_;intros;refine cb (fun w st=>Vr _ e _ w (st.get (p:=.isv Bk (.agg #[.int .i64 e.Ai,.slice a1 e.Ah.length c1]) e F) FK)) ?_;cases g1:Ba e
 ·skip
  rw [U9 (by simp [g1])];refine go ?_;exact BM
 obtain ⟨hck,hl5,hf7⟩:=Tz g1;refine go ?_;refine ce (fun w s=>Jj n _) ?_;cases g2:Cc n
 ·skip
  rw [U9 (by simp [g1,g2])];refine go ?_;exact BM
 refine go ?_;refine Cb (Amo e n _ F) fun _ _=>?_;rw [show Gm e n=(Lw e n,true) by unfold Gm;rw [g1,g2];rfl];rcases Sm e n with ⟨h,e1,e2,e3⟩|⟨e1,e2,e3,e4⟩
 ·have hfx:=hf7 e.Ah[Mw e n] (List.getElem_mem h);rw [e1,show Lw e n=e.Ah[Mw e n].Bj by unfold Lw;rw [List.getElem?_eq_getElem h]];refine U0 (xs:=e.Ah) (Mw e n) ?_;rintro hi b o a5 c5 F5 e6 l5;rw [e6];refine go ?_;refine cn (fun w st=>Vo _ e.Ah[Mw e n].Bj F5 w (st.get (p:=.sl Bb (.slice a5 e.Ah[Mw e n].Bj.length c5) e.Ah[Mw e n].Bj F5) FK).2 FJ) fun a6 c6 F6=>?_;refine go ?_;exact BM
 ·rw [e1,show Lw e n=[] by unfold Lw;rw [e2]];refine go ?_;exact BM
theorem Ai8 (e:Bf) (n:Int) (v:Value) (F:List Nat):Fn prog 95 [v,.int .i64 n] [.isv Bk v e F] [] (fun (_:Option Addr × Nat × List Nat)=>True) (fun s=>.tuple #[.slice s.1 (Gm e n).1.length s.2.1,.bool (Gm e n).2]) (fun s=>[.ow Bb 3 (.slice s.1 (Gm e n).1.length s.2.1) (Gm e n).1 s.2.2]):=by
 refine enter func95 rfl ntmps95 fun w0=>?_;refine Ga ?_;rintro a1 c1 F1 rfl l1;refine go ?_;intros;refine cb (fun w st=>Aln _ e _ w (st.get (p:=.isv Bk (.agg #[.int .i64 e.Ai,.slice a1 e.Ah.length c1]) e F) FK)) ?_;cases g1:Ba e
 ·skip
  rw [U9 (by simp [g1])];refine go ?_;intros;refine Dc Bb ?_;exact BM
 obtain ⟨hck,hl5,hf7⟩:=Tz g1;refine go ?_;refine ce (fun w s=>Pq n _) ?_;cases g2:Cc n
 ·skip
  rw [U9 (by simp [g1,g2])];refine go ?_;intros;refine Dc Bb ?_;exact BM
 refine go ?_;refine Cb (Aea e n _ F) fun _ _=>?_;rw [show Gm e n=(Lw e n,true) by unfold Gm;rw [g1,g2];rfl];rcases Sm e n with ⟨h,e1,e2,e3⟩|⟨e1,e2,e3,e4⟩
 ·have hfx:=hf7 e.Ah[Mw e n] (List.getElem_mem h);rw [e1,show Lw e n=e.Ah[Mw e n].Bj by unfold Lw;rw [List.getElem?_eq_getElem h]];refine U0 (xs:=e.Ah) (Mw e n) ?_;rintro hi b o a5 c5 F5 e6 l5;rw [e6];refine go ?_;refine cn (fun w st=>Aco _ e.Ah[Mw e n].Bj F5 w (st.get (p:=.sl Bb (.slice a5 e.Ah[Mw e n].Bj.length c5) e.Ah[Mw e n].Bj F5) FK).2 FJ) fun a6 c6 F6=>?_;refine go ?_;exact BM
 ·rw [e1,show Lw e n=[] by unfold Lw;rw [e2]];refine go ?_;intros;refine Dc Bb ?_;exact BM
end Go.Proofs.YtkblpelckhegbaaGreatDoor
namespace Go.Proofs.YtkblpelckhegbaaGreatDoor

theorem Aum {α:Type} (f:α→Nat) (B:Nat):∀xs:List α,(∀x∈xs,f x≤B)→B8 f xs≤xs.length * B
 | [],_=>by simp [B8]
 | x::r,h=>by
  have h1:=h x FK;have h2:=Aum f B r fun y hy=>h y LK;have e:B8 f (x::r)=f x+B8 f r:=by simp [B8]
  rw [e,List.length_cons,Nat.add_mul];omega
open Go.RowKit
end Go.Proofs.YtkblpelckhegbaaGreatDoor
namespace Go.Proofs.YtkblpelckhegbaaGreatDoor
open Go.RowKit
theorem Hg {e:Bf}:Ba e=true↔Ld e.Ai=true∧e.Ah.length≤5∧(∀x∈e.Ah,Lo e.Ai x=true)∧e.Ah.Pairwise fun a b=>a.Ae≠b.Ae:=by
 unfold Ba;simp only [Bool.and_eq_true,decide_eq_true_eq];constructor
 ·rintro ⟨⟨h1,h2⟩,h3⟩;refine ⟨h1,h2,fun x hx=>?_,List.pairwise_iff_getElem.2 fun i j hi hj hij=>?_⟩
  ·obtain ⟨i,hi,rfl⟩:=List.getElem_of_mem hx;have:=Jz h3 i hi;rw [Kz hi,Bool.and_eq_true] at this;exact this.1
  ·have:=Jz h3 j hj;rw [Kz hj,Bool.and_eq_true,Bool.not_eq_true',List.any_eq_false] at this;have:=this.2 e.Ah[i] (List.mem_take_iff_getElem.2 ⟨i,FJ,rfl⟩);exact EN
 ·rintro ⟨h1,h2,h3,h4⟩;refine ⟨⟨h1,h2⟩,Me fun i hi=>?_⟩;rw [Kz hi,h3 _ (List.getElem_mem hi),Bool.true_and,Bool.not_eq_true',List.any_eq_false];intro x hx;obtain ⟨j,hj,rfl⟩:=List.mem_take_iff_getElem.1 hx;have:=List.pairwise_iff_getElem.1 h4 j i FJ hi FJ;exact EN
theorem Qj {c:Int} {x:Gs}:Lo c x=true↔Cc x.Ae=true∧0 < x.Bj.length∧(x.Bj.Pairwise (· < ·)∧∀z∈x.Bj,1≤z∧z≤7)∧c+1≤x.Ch∧x.Ch≤c+6:=by
 unfold Lo Gj;simp only [Bool.and_eq_true,decide_eq_true_eq];exact ⟨fun ⟨a,b,c,d⟩=>⟨a,b,Zx c,d⟩,fun ⟨a,b,c,d⟩=>⟨a,b,Al4 c.1 c.2,d⟩⟩
theorem Aqj (l:List Int) (n:Int):(∀j (_:j < Ly l n) (h:j < l.length),l[j] < n)∧∀h:Ly l n < l.length,¬l[Ly l n] < n:=by
 have:=Se (p:=fun x=>decide (x < n)) (xs:=l);exact ⟨fun j hj h=>of_decide_eq_true (this.2.1 j hj h),fun h=>of_decide_eq_false (this.2.2 h)⟩
theorem Aql {l:List Int} {n x:Int}:x∈Uw l n↔x=n∨x∈l:=by
 unfold Uw
 split
 ·rename_i h;have:=List.mem_of_getElem? h;exact ⟨fun h=>.inr h,fun h=>by rcases h with rfl|h;exact this;exact h⟩
 ·rw [List.mem_append,List.mem_cons];constructor
  ·rintro (h|h|h)
   ·exact .inr (List.mem_of_mem_take h)
   ·exact .inl h
   ·exact .inr (List.mem_of_mem_drop h)
  ·rintro (h|h)
   ·exact .inr (.inl h)
   ·rw [←List.take_append_drop (Ly l n) l,List.mem_append] at h;rcases h with h|h
    ·exact .inl h
    ·exact .inr (.inr h)
theorem Bfa {l:List Int} {n:Int} (h:l.Pairwise (· < ·)):(Uw l n).Pairwise (· < ·):=by
 obtain ⟨s1,s2⟩:=Aqj l n;have hp:=List.pairwise_iff_getElem.1 h;unfold Uw
 split
 ·exact h
 ·rename_i hne;refine List.pairwise_append.2 ⟨h.sublist (List.take_sublist _ _),List.pairwise_cons.2 ⟨fun z hz=>?_,h.sublist (List.drop_sublist _ _)⟩,fun a ha b hb=>?_⟩
  ·obtain ⟨j,hj,rfl⟩:=List.mem_drop_iff_getElem.1 hz;have hk:Ly l n < l.length:=FJ
   have h1:=s2 hk;have h2:l[Ly l n]≠n:=fun e=>hne (by rw [List.getElem?_eq_getElem hk,e]);rcases Nat.eq_zero_or_pos j with rfl|hj0
   ·simp only [Nat.add_zero];omega
   ·have:=hp (Ly l n) (Ly l n+j) hk FJ FJ;omega
  ·obtain ⟨i,hi,rfl⟩:=List.mem_take_iff_getElem.1 ha;have h1:=s1 i FJ FJ;rcases List.mem_cons.1 hb with rfl|hb
   ·exact h1
   ·obtain ⟨j,hj,rfl⟩:=List.mem_drop_iff_getElem.1 hb;exact hp i (Ly l n+j) FJ FJ FJ
theorem O9 {f:Int}:Ra f=true↔1≤f∧f≤7:=by unfold Ra Gj;simp
theorem Awl {e:Bf} {n f:Int} (hg:Ba e=true) (hn:Cc n=true) (hf:Ra f=true):Ba (Pk e n f)=true:=by
 obtain ⟨h1,h2,h3,h4⟩:=Hg.1 hg;obtain ⟨f1,f2⟩:=O9.1 hf;rcases Sm e n with ⟨h, -,e2, -⟩|⟨-,e2, -,e4⟩
 ·rw [Aiy h];have hx:=Qj.1 (h3 _ (List.getElem_mem h));refine Hg.2 ⟨h1,IH,fun x hx'=>?_,?_⟩
  ·rcases List.mem_or_eq_of_mem_set hx' with h'|rfl
   ·exact h3 x h'
   ·refine Qj.2 ⟨hx.1,?_,⟨Bfa hx.2.2.1.1,fun z hz=>?_⟩,hx.2.2.2⟩
    ·exact List.length_pos_of_mem (Aql.2 (.inl rfl))
    ·rcases Aql.1 hz with rfl|hz
     ·exact ⟨f1,f2⟩
     ·exact hx.2.2.1.2 z hz
  ·refine List.pairwise_iff_getElem.2 fun i j hi hj hij=>?_;have hp:=List.pairwise_iff_getElem.1 h4 i j IY IR hij;simp only [List.getElem_set]
   split <;> split <;> simp_all
 ·by_cases hl:e.Ah.length < 5
  ·rw [Aix e2 hl];refine Hg.2 ⟨h1,FR,fun x hx=>?_,?_⟩
   ·rcases List.mem_append.1 hx with h'|h'
    ·exact h3 x h'
    ·simp only [List.mem_cons,List.not_mem_nil,or_false] at h';subst h';exact Qj.2 ⟨hn,FK,⟨FK,by simp [f1,f2]⟩,by show e.Ai+1≤e.Ai+6;omega,by show e.Ai+6≤e.Ai+6;omega⟩
   ·refine List.pairwise_append.2 ⟨h4,FK,fun a ha b hb=>?_⟩;simp only [List.mem_cons,List.not_mem_nil,or_false] at hb;subst hb;exact e4 a ha
  ·rw [Aeq e2 hl];exact hg
theorem Awk {e:Bf} {n:Int} (hg:Ba e=true):Ba (Q2 e n)=true:=by
 obtain ⟨h1,h2,h3,h4⟩:=Hg.1 hg;rcases Sm e n with ⟨h, -,e2, -⟩|⟨-,e2, -,e4⟩
 ·rw [Aiu h];have hs:(e.Ah.take (Mw e n)++e.Ah.drop (Mw e n+1)).Sublist e.Ah:=by
   have:=List.Sublist.append (List.Sublist.refl (e.Ah.take (Mw e n))) (List.drop_sublist_drop_left e.Ah (Nat.le_succ (Mw e n)))
   rwa [List.take_append_drop] at this
  exact Hg.2 ⟨h1,Nat.le_trans hs.length_le h2,fun x hx=>h3 x (hs.subset hx),h4.sublist hs⟩
 ·rw [Anp e2];exact hg
theorem Aca {e:Bf} {n:Int} {l:List Int}:∀z∈V1 e n l,z∈l:=fun z hz=>by
 unfold V1 at hz
 split at hz
 ·have:=(List.mem_filter.1 hz).2;exact EN
 ·split at hz
  ·exact hz
  ·simp at hz
theorem At3 {r:Az} {d:Int} (hg:Mv r) (hk:r.Ai < 9999) (d0:1≤d) (d1:d≤8):M0 (Ok r d) r.Aa.next=true∧∀q∈Ok r d,Jb r.Aa q.Ae=false:=by
 have k0:=hg.k0;obtain ⟨h1,h2,h3,h4⟩:=Dg.1 hg.q;refine ⟨Dg.2 ⟨h1,Nat.le_trans (Ae1 r d) h2,fun q hq=>?_,?_⟩,fun q hq=>(Adb hg hq).2.2⟩
 ·obtain ⟨q',hq',h⟩:=List.mem_filterMap.1 hq;have ho:=Ew.1 (h3 q' hq');unfold Va at h
  split at h
  ·cases h;exact h3 q hq'
  ·split at h
   ·cases h
   ·rename_i hn;have t0:=ho.t0;have t1:=ho.t1
    split at h
    ·cases h;exact Ew.2 ⟨ho.n,ho.g,by show (1:Int)≤2;decide,by show (2:Int)≤3;decide,by show 0≤r.Ai+1+3;omega,by show r.Ai+1+3≤10007;omega,by show 0≤q'.D5+1;omega,by show q'.D5+1≤3;omega⟩
    ·cases h;exact Ew.2 ⟨ho.n,ho.g,by show (1:Int)≤1;decide,by show (1:Int)≤3;decide,by show 0≤r.Ai+1+d;omega,by show r.Ai+1+d≤10007;omega,t0,t1⟩
 ·unfold Ok;refine List.Pairwise.filterMap _ (fun a a' h b hb b' hb'=>?_) h4;rw [An6 hb,An6 hb'];exact h
theorem Ayr {r:Az} {d:Int} (hg:Mv r) (hk:r.Ai < 9999) (d0:1≤d) (d1:d≤8):Mv (Cw r d):=by
 have k0:=hg.k0;obtain ⟨hq,hf⟩:=At3 hg hk d0 d1;by_cases hL:C8 r=[]
 ·rw [Ajj hL];refine ⟨by show 0≤r.Ai+1;omega,by show r.Ai+1≤9999;omega,hg.w,hq,hf,fun hs=>?_⟩;obtain ⟨e1,e2⟩:=hg.z hs;refine ⟨e1,?_⟩;show Ok r d=[];unfold Ok;rw [e2];rfl
 ·have hst:r.Be=true:=by
   cases hs:r.Be
   ·exfalso;apply hL;unfold C8;rw [(hg.z hs).2];rfl
   ·rfl
  rw [Aez hL];obtain ⟨e1, -,e3, -⟩:=We (t:=Dl (C8 r)) hg.w;have hs8:=(Agp hg hL).1;have hgp:=@Z0 r.Aa.next (Dl (C8 r))
  have hw:Cu (Jo r.Aa (Dl (C8 r)))=true:=Afa _ _ hg.w;rw [←Af3 hg hL];refine ⟨by show 0≤r.Ai+1;omega,by show r.Ai+1≤9999;omega,hw,Afr (m:=(Jm r.Aa (Dl (C8 r))).length) FJ hq hw e1,Qi,fun hs=>?_⟩;have:r.Be=false:=hs;rw [hst] at this;cases this
end Go.Proofs.YtkblpelckhegbaaGreatDoor
namespace Go.Proofs.YtkblpelckhegbaaGreatDoor

def Bkn:Ck:=⟨⟨0,0,[]⟩,0,0,[]⟩
end Go.Proofs.YtkblpelckhegbaaGreatDoor
namespace Go.Proofs.YtkblpelckhegbaaGreatDoor
open Go.RowKit
structure Ams where
 a:Option Addr
 c:Nat
 a2:Option Addr
 c2:Nat
 F:List Nat
def Art (x:Ck) (W:Aw):Ck:=⟨W,x.Ai,x.quiet,Ou W x.holds⟩
structure Biz (x:Ck):Prop where
 w:D9 x.Aa=true
 l:x.Aa.Ao.length≤6
 t0:0≤x.Aa.Ap
 t1:x.Aa.Ap≤65535
 k0:0≤x.Ai
 k1:x.Ai≤9999
 m:x.holds.length≤6
 n:∀h∈x.holds,Cc h.Ae=true
 u:∀h∈x.holds,x.Ai+1≤h.Ch
 b:∀h∈x.holds,h.Ch≤x.Ai+3
theorem Lc {x:Ck} (h:C3 x=true):Biz x:=by
 unfold C3 at h;simp only [Bool.and_eq_true] at h;obtain ⟨⟨⟨h1,h2⟩,h3⟩,h4⟩:=h;obtain ⟨⟨t0,t1⟩,⟨s0,s1⟩,s2, -⟩:=Ec.1 h1;obtain ⟨k0,k1⟩:=Amx h2;have hc:∀h∈x.holds,Cc h.Ae=true∧x.Ai+1≤h.Ch∧h.Ch≤x.Ai+3:=fun h hh=>by
  obtain ⟨i,hi,rfl⟩:=List.getElem_of_mem hh;have:=List.all_eq_true.1 h4 i IY;rw [Qs hi] at this;simp only [Bool.and_eq_true,Gj,decide_eq_true_eq] at this;exact ⟨this.1.1.1,this.1.2.1,this.1.2.2⟩
 have hg:∀i,(hi:i < x.holds.length)→(i:Int)≤gp x.Aa.Ap x.holds[i].Ae∧gp x.Aa.Ap x.holds[i].Ae < 6:=by
  intro i
  induction i with
  | zero =>
   intro hi;have:=List.all_eq_true.1 h4 0 IY;rw [Qs hi] at this;simp only [Bool.and_eq_true,Jh,decide_eq_true_eq] at this;have b:=Mf x.Aa.Ap x.holds[0].Ae;exact ⟨FJ,by have:=this.1.1.2;omega⟩
  | succ i ih =>
   intro hi;have p:=ih FJ;have:=List.all_eq_true.1 h4 (i+1) IY;rw [Qs hi] at this;simp only [Bool.and_eq_true,Jh,decide_eq_true_eq,Bool.or_eq_true,Bool.not_eq_true',decide_eq_false_iff_not] at this;have q:=this.2;have q2:=this.1.1.2;simp only [Nat.add_sub_cancel] at q;rcases q with q|q
   ·omega
   ·exact ⟨FJ,FJ⟩
 have hm:x.holds.length≤6:=by
  by_cases h0:x.holds.length≤6
  ·exact h0
  ·have:=hg 6 FJ;omega
 exact ⟨h1,FJ,t0,t1,k0,k1,hm,fun h hh=>(hc h hh).1,fun h hh=>(hc h hh).2.1,fun h hh=>(hc h hh).2.2⟩
def Ajq (hs:List Hz):Prop:=∀h∈hs, -1≤h.Ae∧h.Ae≤65536
theorem Agy {hs:List Hz} (hn:∀h∈hs,Cc h.Ae=true):Ajq hs:=fun h hh=>by have:=Bc.1 (hn h hh);omega
def J8 (W:Aw) (cl:Int) (hs:List Hz):List Hz:=hs.filter fun h=>Jh W h.Ae && decide (cl < h.Ch)
theorem Yu {W:Aw} {cl:Int} {hs:List Hz} (h:∀z∈hs,cl+1≤z.Ch):J8 W cl hs=Ou W hs:=by
 unfold J8 Ou;refine List.filter_congr fun z hz=>?_;rw [decide_eq_true (show cl < z.Ch by have:=h z hz;omega),Bool.and_true]
theorem Bbw (h:Hz) (w:World):C1 Bn w [.int .i64 h.Ae,.int .i64 h.Ch] [h] []:=⟨_,[],[],[],FK,FK,⟨rfl,rfl⟩,rfl,rfl⟩
structure HoS where
 k:Nat
 a:Option Addr
 c:Nat
 F:List Nat
theorem Afh (W:Aw) (hs:List Hz) (cl:Int) (v:Value) (a2:Option Addr) (c2:Nat) (F G:List Nat) (t0:0≤W.Ap) (t1:W.Ap≤65535) (hl:hs.length≤1000) (hn:Ajq hs) :
  Fn prog 304 [.slice a2 hs.length c2,v,.int .i64 cl] [.isv Bv v W F,.sl Bn (.slice a2 hs.length c2) hs G] [] (fun (_:Option Addr × Nat × List Nat)=>True)
   (fun z=>.slice z.1 (J8 W cl hs).length z.2.1) (fun z=>[.ow Bn 215 (.slice z.1 (J8 W cl hs).length z.2.1) (J8 W cl hs) z.2.2]):=by
 refine enter func304 rfl ntmps304 fun w0=>?_;refine Et ?_;rintro a1 c1 F1 rfl l1;refine go ?_;intros;refine Dc Bn ?_;refine Cj [0,2,4,6] (fun s:HoS=>[(7,.slice s.a (J8 W cl (hs.take s.k)).length s.c),(8,.int .i64 s.k)]) (fun s=>[.ow Bn 215 (.slice s.a (J8 W cl (hs.take s.k)).length s.c) (J8 W cl (hs.take s.k)) s.F]) (fun s=>s.k≤hs.length) (fun s=>hs.length - s.k) ⟨0,_,0,_⟩ (Nat.zero_le _) fun s hk=>?_;obtain ⟨k,a5,c5,F5⟩:=s;dsimp only at hk ⊢;refine go ?_;refine Ax rfl (fun h3=>?_) (fun h3=>?_)
 ·have hk3:k < hs.length:=FJ
  obtain ⟨n0,n1⟩:=hn hs[k] (List.getElem_mem hk3);have hkl:(J8 W cl (hs.take k)).length≤1000:=by have:=List.length_filter_le (fun h:Hz=>Jh W h.Ae && decide (cl < h.Ch)) (hs.take k);unfold J8;simp only [List.length_take] at this;omega
  refine Ww (xs:=hs) k ?_;rintro hi b o e;rw [e];cases g5:Jh W hs[k].Ae
  ·refine O3 ?_;intros;refine As [0,2] [] ?_;refine Ds 0 1 2 3 ?_;refine Ed 4 5 ?_;refine dN 6 ?_;refine oC ?_;refine cb (fun w st=>(Zs W hs[k].Ae _ _ t0 t1 n0 n1).val w (En (st.get (p:=.isv Bv (.agg #[.int .i64 W.Ap,.int .i64 W.size,.slice a1 W.Ao.length c1]) W F) FK))) ?_;rw [g5];refine dk ?_;refine dt 7 ?_;refine ds 8 ?_;refine ds 9 ?_;refine ds 10 ?_;refine ds 11 ?_;refine ds 12 ?_;refine ds 13 ?_;refine ds 14 ?_;refine dt 15 ?_;refine dd ?_;refine go ?_;have hf:J8 W cl (hs.take (k+1))=J8 W cl (hs.take k):=Da hk3 (by rw [g5];rfl);rw [←hf]
   refine Ce ⟨k+1,a5,c5,F5⟩ hk3 KQ
  ·refine O3 ?_;intros;refine As [0,2] [] ?_;refine Ds 0 1 2 3 ?_;refine Ed 4 5 ?_;refine dN 6 ?_;refine oC ?_;refine cb (fun w st=>(Zs W hs[k].Ae _ _ t0 t1 n0 n1).val w (En (st.get (p:=.isv Bv (.agg #[.int .i64 W.Ap,.int .i64 W.size,.slice a1 W.Ao.length c1]) W F) FK))) ?_;rw [g5];refine dk ?_;refine dt 7 ?_;refine Dr 8 ?_;refine Dr 9 ?_;refine Dr 10 ?_;refine Dr 11 ?_;refine Dr 12 ?_;refine Dr 13 ?_;refine Dr 14 ?_;refine dt 15 ?_;refine dd ?_;refine go ?_;refine Ax rfl (fun h5=>?_) (fun h5=>?_)
   ·refine go ?_;intros;apply wO;refine Qa (Bbw hs[k]) Jp fun a6 c6 F6=>?_;have hf:J8 W cl (hs.take (k+1))=J8 W cl (hs.take k)++[hs[k]]:=Hx hk3 (by rw [g5,decide_eq_true h5];rfl);rw [←hf];refine go ?_;refine Ce ⟨k+1,a6,c6,F6⟩ hk3 KQ
   ·refine go ?_;have hf:J8 W cl (hs.take (k+1))=J8 W cl (hs.take k):=Da hk3 (by rw [g5,decide_eq_false h5];rfl);rw [←hf];refine Ce ⟨k+1,a5,c5,F5⟩ hk3 KQ
 ·have hkl:k=hs.length:=FJ
  subst hkl;rw [List.take_length];refine go ?_;refine ret (a5,c5,F5) trivial rfl
def Zi (x:Ck) (W:Aw):Ck:=⟨W,x.Ai,x.quiet,J8 W x.Ai x.holds⟩
theorem Bdh {x:Ck} {W:Aw} (h:∀z∈x.holds,x.Ai+1≤z.Ch):Zi x W=Art x W:=by unfold Zi Art;rw [Yu h]
theorem Ug (x:Ck) (W:Aw) (v vw:Value) (F Fw:List Nat) (y0:0≤W.Ap) (y1:W.Ap≤65535) (hl:x.holds.length≤1000) (hn:Ajq x.holds) :
  Fn prog 240 [v,vw] [.isv Do v x F,.isv Bv vw W Fw] [] (fun (_:Ams)=>True) (fun s=>.agg #[.int .i64 W.Ap,.int .i64 W.size,.slice s.a W.Ao.length s.c,.int .i64 x.Ai,.int .i64 x.quiet,.slice s.a2 (J8 W x.Ai x.holds).length s.c2])
   (fun s=>[.isv Do (.agg #[.int .i64 W.Ap,.int .i64 W.size,.slice s.a W.Ao.length s.c,.int .i64 x.Ai,.int .i64 x.quiet,.slice s.a2 (J8 W x.Ai x.holds).length s.c2]) (Zi x W) s.F]):=by
 refine enter func240 rfl ntmps240 fun w0=>?_;refine Ht ?_;rintro a1 c1 F1 a2 c2 F2 rfl l1 l2;refine Et (x:=W) (F:=Fw) ?_;rintro a3 c3 F3 rfl l3;refine go ?_;intros;refine As [1,2] [] ?_;refine Ds 0 1 2 3 ?_;refine Ds 4 5 6 7 ?_;refine Ed 8 9 ?_;refine dN 10 ?_;refine oC ?_;refine Cb (Afh W x.holds x.Ai _ a2 c2 Fw F2 y0 y1 FJ hn) fun z _=>?_;refine dk ?_;refine dt 11 ?_;refine dN 12 ?_;refine oS ?_;refine dk ?_;refine dd ?_;refine go ?_;refine A4 (E:=Bn) fun F9=>?_;refine Gt (Zi x W) ?_;exact EO
theorem Aw5 (x:Ck) (W:Aw) (v vw:Value) (F Fw:List Nat) (y0:0≤W.Ap) (y1:W.Ap≤65535) (hl:x.holds.length≤1000) (hn:∀h∈x.holds,Cc h.Ae=true) (hu:∀h∈x.holds,x.Ai+1≤h.Ch) :
  Fn prog 240 [v,vw] [.isv Do v x F,.isv Bv vw W Fw] [] (fun (_:Ams)=>True) (fun s=>.agg #[.int .i64 W.Ap,.int .i64 W.size,.slice s.a W.Ao.length s.c,.int .i64 x.Ai,.int .i64 x.quiet,.slice s.a2 (Ou W x.holds).length s.c2])
   (fun s=>[.isv Do (.agg #[.int .i64 W.Ap,.int .i64 W.size,.slice s.a W.Ao.length s.c,.int .i64 x.Ai,.int .i64 x.quiet,.slice s.a2 (Ou W x.holds).length s.c2]) (Art x W) s.F]):=by
 have h:=Ug x W v vw F Fw y0 y1 hl (Agy hn);rw [Bdh hu,Yu hu] at h;exact h
end Go.Proofs.YtkblpelckhegbaaGreatDoor
namespace Go.Proofs.YtkblpelckhegbaaGreatDoor

open Go.RowKit Go.Shelf
end Go.Proofs.YtkblpelckhegbaaGreatDoor
namespace Go.Proofs.YtkblpelckhegbaaGreatDoor
open Go.RowKit
theorem Jy.frame {α:Type} {E:Br α} {w w':World} {v x F} (h:Jy E w v x F) (hF:∀b∈F,w'.heap[b]?=w.heap[b]?):Jy E w' v x F:=by
 obtain ⟨cs,hv,h⟩:=h;exact ⟨cs,hv,E.frame h hF⟩
theorem Auj (t n:Int):Ci (Ci t 1) (n - 1)=Ci t n:=by unfold Ci;omega
def Dn (x:Aw):Aw:=if (x.Ao.length:Int)=x.size then ⟨Ci x.Ap 1,x.size,x.Ao.drop 1⟩ else x
def Di (x:Aw) (s:ByteArray):Aw:=⟨(Dn x).Ap,x.size,(Dn x).Ao++[s]⟩
def Dv (x:Aw) (s:ByteArray):Ar:=⟨1,Ci x.Ap x.Ao.length,(Dn x).Ap,Ci (Dn x).Ap ((Dn x).Ao.length+1),s⟩
theorem I4 (t z:Int) (a:Option Addr) (n c:Nat) (w:World) (h0:0≤t) (h1:t≤65535) (hn:n≤4294967296) :
  Calls prog 216 #[.agg #[.int .i64 t,.int .i64 z,.slice a n c]] w (RB (.int .i64 (Ci t n)) w):=by
 go_enter func216,ntmps216
 go_wp2_with fail;refine (Th _ _ _ FJ FJ).mono ?_;rintro e w' ⟨rfl,rfl⟩;go_wp2_with fail
 go_ret
 exact ⟨rfl,(Below.refl _ _).alloc (Nat.le_refl _) _⟩
theorem Ui (t z:Int) (a:Option Addr) (n c:Nat) (w:World) (h0:0≤t) (h1:t≤65535) (hn:n≤4294967296) :
  Calls prog 87 #[.agg #[.int .i64 t,.int .i64 z,.slice a n c]] w (RB (.int .i64 (Ci t n)) w):=by
 go_enter func87,ntmps87
 go_wp2_with fail;refine (L8 _ _ _ FJ FJ).mono ?_;rintro e w' ⟨rfl,rfl⟩;go_wp2_with fail
 go_ret
 exact ⟨rfl,(Below.refl _ _).alloc (Nat.le_refl _) _⟩
structure Bj6 where
 Bgm:List ByteArray
 Bgg:ByteArray
 Bjo:Int
end Go.Proofs.YtkblpelckhegbaaGreatDoor
namespace Go.Proofs.YtkblpelckhegbaaGreatDoor

open Go.RowKit Go.Shelf
end Go.Proofs.YtkblpelckhegbaaGreatDoor
namespace Go.Proofs.YtkblpelckhegbaaGreatDoor
open Go.RowKit
structure Bko (x:Bj6):Prop where
 l:x.Bgm.length≤8
 q:∀s∈x.Bgm,s.size≤60
 f:x.Bgg.size≤40
 u0:0≤x.Bjo
 u1:x.Bjo≤x.Bgg.size
end Go.Proofs.YtkblpelckhegbaaGreatDoor
namespace Go.Proofs.YtkblpelckhegbaaGreatDoor

open Go.RowKit Go.Shelf
end Go.Proofs.YtkblpelckhegbaaGreatDoor
namespace Go.Proofs.YtkblpelckhegbaaGreatDoor
open Go.RowKit
section
variable {c:Cx} {fr:Fr} {H:List Pc} {Φ:Gl}
end
end Go.Proofs.YtkblpelckhegbaaGreatDoor
namespace Go.Proofs.YtkblpelckhegbaaGreatDoor

open Go.RowKit
end Go.Proofs.YtkblpelckhegbaaGreatDoor
namespace Go.Proofs.YtkblpelckhegbaaGreatDoor
open Go.RowKit
structure PuS where
 a:Option Addr
 c:Nat
 F:List Nat
theorem T6 {x:Aw} (t0:0≤x.Ap) (t1:x.Ap≤65535):0≤(Dn x).Ap∧(Dn x).Ap≤65535:=by
 unfold Dn
 split
 ·exact Kd _ _
 ·exact ⟨t0,t1⟩
theorem Bdz (x:Aw) (k:Nat) (g t o:Nat) (A B:List Value) (r1 r2 r3:Value) (a:Option Addr) (c:Nat) (F:List Nat) (hl:x.Ao.length≤6) (hk:k≤x.Ao.length) (t0:0≤x.Ap) (t1:x.Ap≤65535) :
  Fn prog 339 [Iq g o 0,.int .i64 (k:Nat)] [] [.row g t o A [.int .i64 x.Ap,.int .i64 x.size,.slice a x.Ao.length c,r1,r2,r3] B,.ow A8 9 (.slice a x.Ao.length c) x.Ao F] (fun (_:PuS)=>True) (fun _=>.tuple #[]) (fun z=>[.row g t o A [.int .i64 (Ci x.Ap k),.int .i64 x.size,.slice z.a (x.Ao.drop k).length z.c,r1,r2,r3] B,.ow A8 9 (.slice z.a (x.Ao.drop k).length z.c) (x.Ao.drop k) z.F]):=by
 refine enter func339 rfl ntmps339 fun w0=>?_;refine A4 (E:=A8) (xs:=x.Ao) fun Fr=>?_;refine go ?_;apply wO;refine sld k fun a2 c2 F2=>?_;refine go ?_;refine cn (fun w st=>Abw _ _ _ _ (st.get (p:=.sl A8 (.slice a2 (x.Ao.drop k).length c2) (x.Ao.drop k) F2) FO).2 HU) fun a6 c6 F6=>?_;refine go ?_;refine ce (fun w st=>Th x.Ap k w FJ FJ) ?_;refine go ?_;refine Xp ?_;refine ret ⟨a6,c6,F6⟩ trivial rfl
theorem Bhp (x:Aw) (s:ByteArray) (g t o:Nat) (A B:List Value) (r1 r2 r3:Value) (a:Option Addr) (c:Nat) (F:List Nat) (hl:x.Ao.length≤6) (ht:Cc x.Ap=true) (hs:s.size≤maxLen) (hz:1≤x.size) :
  Fn prog 280 [Iq g o 0,.string s] [] [.row g t o A [.int .i64 x.Ap,.int .i64 x.size,.slice a x.Ao.length c,r1,r2,r3] B,.ow A8 9 (.slice a x.Ao.length c) x.Ao F] (fun (_:PuS)=>True) (fun _=>.agg #[.int .i64 1,.int .i64 (Dv x s).Ae,.int .i64 (Dv x s).Ap,.int .i64 (Dv x s).Fv,.string s])
   (fun z=>[.row g t o A [.int .i64 (Di x s).Ap,.int .i64 (Di x s).size,.slice z.a (Di x s).Ao.length z.c,r1,r2,r3] B,.ow A8 9 (.slice z.a (Di x s).Ao.length z.c) (Di x s).Ao z.F]):=by
 obtain ⟨t0,t1⟩:=Bc.1 ht;obtain ⟨R,hR⟩:∃R,Dn x=R:=⟨_,rfl⟩;have hb:=T6 t0 t1;have hRl:R.Ao.length≤6:=by
  rw [←hR];unfold Dn
  split
  ·show (x.Ao.drop 1).length≤6;rw [List.length_drop];omega
  ·exact hl
 have hnum:Ci R.Ap R.Ao.length=Ci x.Ap x.Ao.length:=by
  rw [←hR];unfold Dn
  split
  ·rename_i h;show Ci (Ci x.Ap 1) ((x.Ao.drop 1).length:Nat)=_;rw [List.length_drop,show ((x.Ao.length - 1:Nat):Int)=(x.Ao.length:Int) - 1 by omega,Auj]
  ·rfl
 rw [show Di x s=⟨R.Ap,x.size,R.Ao++[s]⟩ by unfold Di;rw [hR],show Dv x s=⟨1,Ci x.Ap x.Ao.length,R.Ap,Ci R.Ap (R.Ao.length+1),s⟩ by unfold Dv;rw [hR]];dsimp only;rw [hR] at hb;refine enter func280 rfl ntmps280 fun w0=>?_;refine go ?_;intros;refine cb (fun w st=>I4 _ _ _ _ _ w t0 t1 FJ) ?_;refine go ?_;refine As [1] [] ?_;refine Ds 0 1 2 3 ?_;refine Ds 4 5 6 7 ?_;refine Ed 8 9 ?_;refine dd ?_;refine go ?_
 refine E4 [0,1,4,5] [0] (fun _:PuS=>[]) (fun z=>[.row g t o A [.int .i64 R.Ap,.int .i64 x.size,.slice z.a R.Ao.length z.c,r1,r2,r3] B,.ow A8 9 (.slice z.a R.Ao.length z.c) R.Ao z.F]) (fun _=>True) ?_ fun z _=>?_
 ·refine Ax rfl (fun h1=>?_) (fun h1=>?_)
  ·have e:R=⟨Ci x.Ap 1,x.size,x.Ao.drop 1⟩:=by rw [←hR];unfold Dn;rw [if_pos h1]
   rw [e];refine go ?_;refine Cb (Bdz x 1 g t o A B _ _ _ a c F hl FJ t0 t1) fun z _=>?_;refine go ?_;refine Bt z trivial
  ·have e:R=x:=by rw [←hR];unfold Dn;rw [if_neg h1]
   rw [e];refine go ?_;refine Bt ⟨a,c,F⟩ trivial
 refine go ?_;intros;apply wO;refine Qa (E:=A8) (ys:=[s]) (fun w=>⟨[.string s],[],[],[],rfl,rfl,⟨rfl,hs,rfl⟩,rfl,rfl⟩) Eh fun a7 c7 F7=>?_;have hla:((R.Ao++[s]).length:Int)=R.Ao.length+1:=FK
 refine go ?_;dsimp only [List.append];refine As [1] [] ?_;refine Ds 0 1 2 3 ?_;refine Ds 4 5 6 7 ?_;refine dt 9 ?_;refine dN 8 ?_;refine oC ?_;refine cb (fun w st=>I4 _ _ _ _ _ w hb.1 hb.2 FJ) ?_;refine dk ?_;refine dt 10 ?_;refine dN 11 ?_;refine oS ?_;refine dk ?_;refine dd ?_;refine go ?_;refine ret ⟨a7,c7,F7⟩ trivial ?_;rw [hla];rfl
theorem Aee (x:Aw) (k:Nat) (v:Value) (F:List Nat) (hl:x.Ao.length≤4294967296) (hk:k≤x.Ao.length) (t0:0≤x.Ap) (t1:x.Ap≤65535) :
  Fn prog 241 [v,.int .i64 (k:Nat)] [.isv Bv v x F] [] (fun (_:PuS)=>True) (fun z=>.agg #[.int .i64 (Ci x.Ap k),.int .i64 x.size,.slice z.a (x.Ao.drop k).length z.c]) (fun z=>[.ow A8 9 (.slice z.a (x.Ao.drop k).length z.c) (x.Ao.drop k) z.F]):=by
 refine enter func241 rfl ntmps241 fun w0=>?_;refine Et ?_;rintro a1 c1 F1 rfl l1;have hdk:(x.Ao.drop k).length=x.Ao.length - k:=List.length_drop;refine go ?_;intros;refine As [1,2] [] ?_;refine Ds 0 1 2 4 ?_;refine Ds 5 7 8 9 ?_;refine Asd 10 k fun a5 c5 F5=>?_;refine dM 3 6 ?_ ?_
 ·refine oC ?_;refine ce (fun w st=>L8 x.Ap k w FJ FJ) ?_;refine dk ?_;refine dN 6 ?_;apply Mx;rfl;intro _;refine Dc A8 ?_;exact BZ
 ·apply Mx;rfl;intro _;refine Dc A8 ?_;refine dk ?_;refine dN 3 ?_;refine oC ?_;refine ce (fun w st=>L8 x.Ap k w FJ FJ) ?_;exact BZ
theorem Ba2 (x:Aw) (s:ByteArray) (v:Value) (F:List Nat) (hl:x.Ao.length≤6) (t0:0≤x.Ap) (t1:x.Ap≤65535) (hs:s.size≤maxLen) (hz:1≤x.size) :
  Fn prog 242 [v,.string s] [.isv Bv v x F] [] (fun (_:Value × List Nat)=>True) (fun z=>.tuple #[z.1,.agg #[.int .i64 1,.int .i64 (Dv x s).Ae,.int .i64 (Dv x s).Ap,.int .i64 (Dv x s).Fv,.string s]]) (fun z=>[.isv Bv z.1 (Di x s) z.2]):=by
 have e0:Ci x.Ap ((0:Nat):Int)=x.Ap:=by unfold Ci;omega
 obtain ⟨R,hR⟩:∃R,Dn x=R:=⟨_,rfl⟩;have hb:=T6 t0 t1;have hRl:R.Ao.length≤6:=by
  rw [←hR];unfold Dn
  split
  ·show (x.Ao.drop 1).length≤6;rw [List.length_drop];omega
  ·exact hl
 have hnum:Ci R.Ap R.Ao.length=Ci x.Ap x.Ao.length:=by
  rw [←hR];unfold Dn
  split
  ·rename_i h;show Ci (Ci x.Ap 1) ((x.Ao.drop 1).length:Nat)=_;rw [List.length_drop,show ((x.Ao.length - 1:Nat):Int)=(x.Ao.length:Int) - 1 by omega,Auj]
  ·rfl
 rw [show Di x s=⟨R.Ap,x.size,R.Ao++[s]⟩ by unfold Di;rw [hR],show Dv x s=⟨1,Ci x.Ap x.Ao.length,R.Ap,Ci R.Ap (R.Ao.length+1),s⟩ by unfold Dv;rw [hR]];dsimp only;rw [hR] at hb;refine enter func242 rfl ntmps242 fun w0=>?_;refine Et ?_;rintro a1 c1 F1 rfl l1;refine go ?_;intros;refine Cb (Aee x 0 _ F FJ (Nat.zero_le _) t0 t1) fun y _=>?_;rw [e0,List.drop_zero];refine go ?_;intros;rename_i g
 refine E4 [1,2,4,5,6] [2,3,4,5,6] (fun _:PuS=>[]) (fun z=>[.row g 42 0 [] [.int .i64 R.Ap,.int .i64 x.size,.slice z.a R.Ao.length z.c] [],.ow A8 9 (.slice z.a R.Ao.length z.c) R.Ao z.F]) (fun _=>True) ?_ fun z _=>?_
 ·refine Ax rfl (fun h1=>?_) (fun h1=>?_)
  ·have e:R=⟨Ci x.Ap 1,x.size,x.Ao.drop 1⟩:=by rw [←hR];unfold Dn;rw [if_pos h1]
   rw [e];refine go ?_;refine Cb (Aee x 1 _ F FJ FJ t0 t1) fun z _=>?_;refine go ?_;refine Bt z trivial
  ·have e:R=x:=by rw [←hR];unfold Dn;rw [if_neg h1]
   rw [e];refine go ?_;refine Bt ⟨y.a,y.c,y.F⟩ trivial
 refine go ?_;refine cb (fun w st=>Ui _ _ _ _ _ w hb.1 hb.2 FJ) ?_;rw [hnum];refine go ?_;intros;apply wO;refine Qa (E:=A8) (ys:=[s]) (fun w=>⟨[.string s],[],[],[],rfl,rfl,⟨rfl,hs,rfl⟩,rfl,rfl⟩) Eh fun a7 c7 F7=>?_;have hla:((R.Ao++[s]).length:Int)=R.Ao.length+1:=FK
 refine go ?_;dsimp only [List.append];refine As [1] [] ?_;refine Ds 0 1 2 3 ?_;refine Ed 4 6 ?_;refine dN 5 ?_;refine oC ?_;refine cb (fun w st=>Ui _ _ _ _ _ w hb.1 hb.2 FJ) ?_;refine dk ?_;refine dt 7 ?_;refine dN 8 ?_;refine oS ?_;refine dk ?_;refine dN 9 ?_;refine oS ?_;refine dk ?_;refine dd ?_;refine A4 (E:=A8) (xs:=R.Ao++[s]) fun F8=>?_;refine Cv ⟨R.Ap,x.size,R.Ao++[s]⟩ ?_;refine go ?_;refine ret (_,_) trivial ?_;rw [hla];rfl
structure SeS where
 a:Option Addr
 c:Nat
 F:List Nat
 a2:Option Addr
 c2:Nat
 F2:List Nat
theorem Bdx (x:Aw) (s:ByteArray) (hs:List Hz) (g t o:Nat) (A B:List Value) (a a2:Option Addr) (c c2:Nat) (cl q:Int) (F F2:List Nat) (hl:x.Ao.length≤6) (t0:0≤x.Ap) (t1:x.Ap≤65535) (hss:s.size≤maxLen) (hz:1≤x.size) (hn:∀h∈hs,Cc h.Ae=true) :
  Fn prog 211 [Iq g o 0,.string s] [] [.row g t o A [.int .i64 x.Ap,.int .i64 x.size,.slice a x.Ao.length c,.int .i64 cl,.int .i64 q,.slice a2 hs.length c2] B,.ow Bn 215 (.slice a2 hs.length c2) hs F2,.ow A8 9 (.slice a x.Ao.length c) x.Ao F] (fun (_:SeS)=>True) (fun _=>.agg #[.int .i64 1,.int .i64 (Dv x s).Ae,.int .i64 (Dv x s).Ap,.int .i64 (Dv x s).Fv,.string s])
   (fun z=>[.row g t o A [.int .i64 (Di x s).Ap,.int .i64 (Di x s).size,.slice z.a (Di x s).Ao.length z.c,.int .i64 cl,.int .i64 0,.slice z.a2 (Ou (Di x s) hs).length z.c2] B,.ow Bn 215 (.slice z.a2 (Ou (Di x s) hs).length z.c2) (Ou (Di x s) hs) z.F2,.ow A8 9 (.slice z.a (Di x s).Ao.length z.c) (Di x s).Ao z.F]):=by
 have hb:=T6 t0 t1;refine enter func211 rfl ntmps211 fun w0=>?_;refine go ?_;intros;refine Cb (Bhp x s g t o A B _ _ _ a c F hl (Bc.2 ⟨t0,t1⟩) hss hz) fun z _=>?_;refine go ?_;intros;refine Cb (Aps (Di x s) hs g t o A B z.a a2 z.c c2 cl 0 z.F F2 hb.1 hb.2 hn) fun y _=>?_;refine go ?_;refine ret ⟨z.a,z.c,z.F,y.1,y.2.1,y.2.2⟩ trivial rfl
def Sv (x:Ck) (s:ByteArray):Ck:=⟨Di x.Aa s,x.Ai,0,Ou (Di x.Aa s) x.holds⟩
def zPk:Ar:=⟨0,0,0,0,⟨#[]⟩⟩
def Abm (x:Aw) (s:ByteArray):Bool:=D9 x && R5 s
end Go.Proofs.YtkblpelckhegbaaGreatDoor
namespace Go.Proofs.YtkblpelckhegbaaGreatDoor

open Go.RowKit
end Go.Proofs.YtkblpelckhegbaaGreatDoor
namespace Go.Proofs.YtkblpelckhegbaaGreatDoor
open Go.RowKit
def Mi (x:Aw):Int:=Ci x.Ap x.Ao.length
def Ad6 (x:Aw) (n:Int):ByteArray:=x.Ao.getD (gp x.Ap n).toNat ⟨#[]⟩
def Bbi (x:Aw) (n:Int):Bool:=D9 x && Cc n && Jh x n
def Te (x:Aw):Ar:=⟨5,x.Ap,x.Ap,Mi x,⟨#[]⟩⟩
def Lh (x:Aw) (p:Ar):Bool:=D9 x && Bw p && decide (p.Cp=3) && Jh x p.Ae
def Aor (x:Aw) (n:Int):Ar:=⟨2,n,x.Ap,Mi x,Ad6 x n⟩
def Dz (x:Aw) (p:Ar):Ar × Bool:=if Lh x p then (Aor x p.Ae,true) else (zPk,false)
theorem Acp (x:Aw):0≤Mi x∧Mi x≤65535:=Kd _ _
theorem Aqy {x:Aw} (h1:1≤x.size):Mi (Dn x)=Mi x:=by
 unfold Dn
 split
 ·rename_i h;unfold Mi;simp only [List.length_drop];unfold Ci;omega
 ·rfl
theorem Ate {x:Aw} {s:ByteArray} (h:Abm x s=true):D9 x=true∧D9 (Di x s)=true∧Bbi (Di x s) (Dv x s).Ae=true∧Ad6 (Di x s) (Dv x s).Ae=s∧(Dv x s).Ae=Mi x∧gp (Mi x) (Mi (Di x s))=1∧(Dv x s).Fv=Mi (Di x s)∧(Dv x s).Ap=(Di x s).Ap:=by
 unfold Abm at h;simp only [Bool.and_eq_true] at h;obtain ⟨hg,hs⟩:=h;obtain ⟨⟨t0,t1⟩,⟨z0,z1⟩,hl,hi⟩:=Ec.1 hg;have hr:0≤(Dn x).Ap∧(Dn x).Ap≤65535:=T6 t0 t1;have hn:((Dn x).Ao.length:Int)+1≤x.size∧(Dn x).Ao.all R5=true:=by
  unfold Dn
  split
  ·rename_i h;refine ⟨by simp only [List.length_drop];omega,?_⟩;rw [List.all_eq_true] at hi ⊢;exact fun z hz=>hi z (List.mem_of_mem_drop hz)
  ·exact ⟨FJ,hi⟩
 have hlead:=Aqy (x:=x) z0;have hgo:D9 (Di x s)=true:=by
  refine Ec.2 ⟨hr,⟨z0,z1⟩,?_,?_⟩
  ·show (((Dn x).Ao++[s]).length:Int)≤x.size;simp only [List.length_append,List.length_cons,List.length_nil];omega
  ·show ((Dn x).Ao++[s]).all R5=true;simp [hn.2,hs]
 have hnum:(Dv x s).Ae=Mi x:=rfl;have hgap:gp (Di x s).Ap (Mi x)=((Dn x).Ao.length:Nat):=by
  rw [←hlead];show gp (Dn x).Ap (Mi (Dn x))=_;unfold Mi gp Ci;omega
 have b:=Acp x;refine ⟨hg,hgo,?_,?_,rfl,?_,?_,rfl⟩
 ·unfold Bbi;rw [hgo,hnum,Bc.2 b,Jh,hgap];show decide (((Dn x).Ao.length:Int) < (((Dn x).Ao++[s]).length:Nat))=true;simp only [List.length_append,List.length_cons,List.length_nil,decide_eq_true_eq];omega
 ·unfold Ad6;rw [hnum,hgap];show ((Dn x).Ao++[s]).getD _ _=s;simp
 ·rw [←hlead];show gp (Mi (Dn x)) (Ci (Dn x).Ap (((Dn x).Ao++[s]).length:Nat))=1;unfold Mi gp Ci;simp only [List.length_append,List.length_cons,List.length_nil];omega
 ·show Ci (Dn x).Ap (((Dn x).Ao.length:Nat)+1)=Ci (Dn x).Ap ((((Dn x).Ao++[s]).length:Nat));simp
theorem Aq1 (t z:Int) (a:Option Addr) (n c:Nat) (h0:0≤t) (h1:t≤65535) (hn:n≤4294967296):FV 343 [.agg #[.int .i64 t,.int .i64 z,.slice a n c]] [] (.agg #[.int .i64 5,.int .i64 t,.int .i64 t,.int .i64 (Ci t n),.string ⟨#[]⟩]):=by
 refine enter func343 rfl ntmps343 fun w0=>?_;refine go ?_;intros;refine As [1] [7] ?_;refine Ds 0 1 2 3 ?_;refine dt 4 ?_;refine dN 5 ?_;refine oC ?_;refine cb (fun w _=>I4 t z a n c w h0 h1 hn) ?_;refine dk ?_;refine dt 6 ?_;refine dN 7 ?_;refine oS ?_;refine Tx ?_;exact CR
theorem Abf (t z:Int) (a:Option Addr) (n c:Nat) (h0:0≤t) (h1:t≤65535) (hn:n≤4294967296):FV 305 [.agg #[.int .i64 t,.int .i64 z,.slice a n c]] [] (.agg #[.int .i64 5,.int .i64 t,.int .i64 t,.int .i64 (Ci t n),.string ⟨#[]⟩]):=by
 refine enter func305 rfl ntmps305 fun w0=>?_;refine go ?_;intros;refine As [1] [7] ?_;refine Ds 0 1 2 3 ?_;refine dt 4 ?_;refine dN 5 ?_;refine oC ?_;refine cb (fun w _=>Ui t z a n c w h0 h1 hn) ?_;refine dk ?_;refine dt 6 ?_;refine dN 7 ?_;refine oS ?_;refine Tx ?_;exact CR
def Wb (cl:Int) (hs:List Hz):List Hz:=hs.filter fun h=>!decide (h.Ch≤cl)
def X5 (q:Int):Int:=if q+1 < 4 then q+1 else 0
def Oj (x:Aw) (q:Int):List Ar:=if q+1 < 4 then [] else [Te x]
def N4 (x:Ck):Ck:=⟨x.Aa,x.Ai+1,X5 x.quiet,Wb (x.Ai+1) x.holds⟩
theorem Aqp {x:Ck} (h:C3 x=true):0≤x.quiet∧x.quiet≤3:=by
 unfold C3 Gj at h;simp only [Bool.and_eq_true,decide_eq_true_eq] at h;exact h.1.2
theorem Awj {x:Ck} (h:C3 x=true):∀z∈x.holds,Jh x.Aa z.Ae=true:=fun z hz=>by
 unfold C3 at h;simp only [Bool.and_eq_true] at h;obtain ⟨i,hi,rfl⟩:=List.getElem_of_mem hz;have:=List.all_eq_true.1 h.2 i IY;rw [Qs hi] at this;simp only [Bool.and_eq_true] at this;exact this.1.1.2
structure TiS where
 a:Option Addr
 c:Nat
 a2:Option Addr
 c2:Nat
 F:List Nat
 ae:Option Addr
 ce:Nat
 Fe:List Nat
theorem Bft (h:Hz) (gb g o:Nat) (u v0 v1 v2 q Hs:Value) (cl:Int) (G:List Nat) :
  FV 342 [u,Iq gb 0 0] [.isv Bn u h G,.cel gb 0 [Iq g o 0],.cel g o [v0,v1,v2,.int .i64 cl,q,Hs]] (.bool (decide (h.Ch≤cl))):=by
 refine enter func342 rfl ntmps342 fun w0=>?_;refine Aqe ?_;rintro _ rfl;refine go ?_;intros;refine As [0,2,3] [] ?_;refine Ds 0 1 2 3 ?_;refine Ds 4 5 6 7 ?_;exact CR
theorem Bfu (hs:List Hz) (gb tb g t o:Nat) (A B:List Value) (v0 v1 v2:Value) (v3:Value) (a2:Option Addr) (c2:Nat) (cl q:Int) (F2:List Nat) :
  Fn prog 340 [.slice a2 hs.length c2,.func (.func 342) #[] #[Iq gb 0 0]] [] [.ow Bn 215 (.slice a2 hs.length c2) hs F2,.row gb tb 0 [] [Iq g o 0] [],.row g t o A [v0,v1,v2,.int .i64 cl,.int .i64 q,v3] B] (fun (_:Option Addr × Nat × List Nat)=>True)
   (fun z=>.slice z.1 (Wb cl hs).length z.2.1) (fun z=>[.ow Bn 215 (.slice z.1 (Wb cl hs).length z.2.1) (Wb cl hs) z.2.2,.row gb tb 0 [] [Iq g o 0] [],.row g t o A [v0,v1,v2,.int .i64 cl,.int .i64 q,v3] B]):=by
 refine Asm rfl fun w ⟨hnd,ho⟩ _ hk=>?_;refine (Xx _ (Wx FL) #[Iq gb 0 0] _ hs F2 (fun h=>decide (h.Ch≤cl)) w ho hnd fun k hk2 wr u G hK hu=>?_).mono ?_
 ·have hr:=hk wr hK;have r1:=hr (.row gb tb 0 [] [Iq g o 0] []) FK;have r2:=hr (.row g t o A [v0,v1,v2,.int .i64 cl,.int .i64 q,v3] B) FK;refine (Bft hs[k] gb g o u v0 v1 v2 (.int .i64 q) v3 cl G).val wr ?_;intro p hp;simp only [List.mem_cons,List.not_mem_nil,or_false] at hp;rcases hp with rfl|rfl|rfl
  ·exact hu
  ·exact ⟨FK,I0 r1⟩
  ·exact ⟨FK,I0 r2⟩
 ·rintro e w' ⟨v',F',rfl,h1,h2,h3,h4⟩;have e:(hs.filter fun x=>!(fun h:Hz=>decide (h.Ch≤cl)) x)=Wb cl hs:=rfl;rw [e] at h1;exact CP
theorem Bdy (W:Aw) (hs:List Hz) (g t o:Nat) (A B:List Value) (a a2:Option Addr) (c c2:Nat) (cl q:Int) (F2:List Nat) (t0:0≤W.Ap) (t1:W.Ap≤65535) (hl:W.Ao.length≤6) (k0:0≤cl) (k1:cl≤9999) (q0:0≤q) (q3:q≤3) :
  Fn prog 282 [Iq g o 0] [] [.row g t o A [.int .i64 W.Ap,.int .i64 W.size,.slice a W.Ao.length c,.int .i64 cl,.int .i64 q,.slice a2 hs.length c2] B,.ow Bn 215 (.slice a2 hs.length c2) hs F2] (fun (_:TiS)=>True)
   (fun z=>.slice z.ae (Oj W q).length z.ce) (fun z=>[.row g t o A [.int .i64 W.Ap,.int .i64 W.size,.slice a W.Ao.length c,.int .i64 (cl+1),.int .i64 (X5 q),.slice z.a2 (Wb (cl+1) hs).length z.c2] B,.ow Bn 215 (.slice z.a2 (Wb (cl+1) hs).length z.c2) (Wb (cl+1) hs) z.F,.ow Ak 223 (.slice z.ae (Oj W q).length z.ce) (Oj W q) z.Fe]):=by
 refine enter func282 rfl ntmps282 fun w0=>?_;refine go ?_;intros;refine As [0,1] [9] ?_;refine Ds 0 1 2 3 ?_;refine Ed 4 5 ?_;refine dN 6 ?_;refine oC ?_;refine Cb (Bfu hs _ _ g t o A B _ _ _ _ a2 c2 (cl+1) q F2) fun z _=>?_;refine dk ?_;refine Ed 7 8 ?_;refine dN 9 ?_;refine oS ?_;refine Tx ?_;refine dd ?_;refine go ?_;refine Ax rfl (fun h1=>?_) (fun h1=>?_)
 ·refine Dj Ak 223 ?_;refine go ?_;rw [show X5 q=q+1 from if_pos h1,show Oj W q=[] from if_pos h1];refine ret ⟨none,0,z.1,z.2.1,z.2.2,none,0,[]⟩ trivial rfl
 ·refine go ?_;refine Cb (Aq1 W.Ap W.size a W.Ao.length c t0 t1 FJ) fun _ _=>?_;refine go ?_;intros;refine Ll (xs:=[Te W]) (Dh _ ID) ?_ FK;rw [show X5 q=0 from if_neg h1,show Oj W q=[Te W] from if_neg h1];refine ret ⟨none,0,z.1,z.2.1,z.2.2,_,_,_⟩ trivial rfl
theorem T4 (x:Aw) (v:Value) (F:List Nat) (t0:0≤x.Ap) (t1:x.Ap≤65535) (hl:x.Ao.length≤4294967296):Fn prog 241 [v,.int .i64 0] [.isv Bv v x F] [] (fun (_:Value × List Nat)=>True) (fun s=>s.1) (fun s=>[.own Kw s.1 x s.2]):=by
 have e0:Ci x.Ap ((0:Nat):Int)=x.Ap:=by unfold Ci;omega
 have h:=Aee x 0 v F hl (Nat.zero_le _) t0 t1;rw [e0,List.drop_zero] at h;refine Beh fun w hA=>(h.made w hA (fun _=>rfl)).mono ?_;rintro e w' ⟨z, -,he,hh,hn,hF,hB⟩;obtain ⟨h1,h2⟩:=hh (.ow A8 9 (.slice z.a x.Ao.length z.c) x.Ao z.F) FK;exact ⟨(_,z.F),trivial,he,⟨h1,_,rfl,_,rfl,h2⟩,fun b hb=>hF b KW,hB⟩
theorem Ber {W:Aw} {cl:Int} {hs:List Hz} (h:∀z∈hs,Jh W z.Ae=true):J8 W cl hs=Wb cl hs:=by
 unfold J8 Wb;refine List.filter_congr fun z hz=>?_;rw [h z hz,Bool.true_and];by_cases hc:cl < z.Ch
 ·rw [decide_eq_true hc,decide_eq_false FJ];rfl
 ·rw [decide_eq_false hc,decide_eq_true FJ];rfl
def O2 (x:Ck):Ck:=⟨x.Aa,x.Ai+1,X5 x.quiet,J8 x.Aa (x.Ai+1) x.holds⟩
theorem Asx (x:Ck) (v:Value) (F:List Nat) (t0:0≤x.Aa.Ap) (t1:x.Aa.Ap≤65535) (hl:x.Aa.Ao.length≤6) (k0:0≤x.Ai) (k1:x.Ai≤99999) (q0:0≤x.quiet) (q3:x.quiet≤3) (hm:x.holds.length≤1000) (hn:Ajq x.holds) :
  Fn prog 244 [v] [.isv Do v x F] [] (fun (_:TiS)=>True) (fun s=>.tuple #[.agg #[.int .i64 (O2 x).Aa.Ap,.int .i64 (O2 x).Aa.size,.slice s.a (O2 x).Aa.Ao.length s.c,.int .i64 (O2 x).Ai,.int .i64 (O2 x).quiet,.slice s.a2 (O2 x).holds.length s.c2],.slice s.ae (Oj x.Aa x.quiet).length s.ce])
   (fun s=>[.isv Do (.agg #[.int .i64 (O2 x).Aa.Ap,.int .i64 (O2 x).Aa.size,.slice s.a (O2 x).Aa.Ao.length s.c,.int .i64 (O2 x).Ai,.int .i64 (O2 x).quiet,.slice s.a2 (O2 x).holds.length s.c2]) (O2 x) s.F,.ow Ak 223 (.slice s.ae (Oj x.Aa x.quiet).length s.ce) (Oj x.Aa x.quiet) s.Fe]):=by
 refine enter func244 rfl ntmps244 fun w0=>?_;refine Ht ?_;rintro a1 c1 F1 a2 c2 F2 rfl l1 l2;refine Cv x.Aa (a1:=a1) ?_;refine go ?_;intros;refine Cb (T4 x.Aa _ F1 t0 t1 FJ) fun y _=>?_;refine Hy ?_;rintro a5 c5 F5 e5 l5;rw [e5];have hH:=fun v a c F G=>Afh x.Aa x.holds (x.Ai+1) v a c F G t0 t1 FJ hn;refine go ?_;intros;refine A4 (xs:=x.Aa.Ao) fun F8=>?_;refine Cv x.Aa (a1:=a5) ?_;refine As [2,4] [] ?_;refine Ds 0 1 2 3 ?_;refine Ds 4 5 6 7 ?_;refine Ds 8 9 10 11 ?_;refine dt 12 ?_;refine dM 13 15 ?_ ?_
 ·refine oC ?_;refine Cb (hH _ a2 c2 _ _) fun z _=>?_;refine dk ?_;refine dt 14 ?_;refine dN 15 ?_;apply Cr;rfl;intro _;refine dk ?_;refine dN 16 ?_;refine oS ?_;refine dk ?_;refine dd ?_;refine go ?_;refine Ax rfl (fun h1=>?_) (fun h1=>?_)
  ·rw [show O2 x=⟨x.Aa,x.Ai+1,0,J8 x.Aa (x.Ai+1) x.holds⟩ from by unfold O2 X5;rw [if_neg FJ],show Oj x.Aa x.quiet=[Te x.Aa] from if_neg FJ];refine go ?_;refine A4 (E:=Bn) fun F9=>?_;refine Gt ⟨x.Aa,x.Ai+1,0,J8 x.Aa (x.Ai+1) x.holds⟩ (a1:=a5) ?_;refine As [2,5] [] ?_;refine Ed 0 1 ?_;refine dN 2 ?_;refine oC ?_;refine Cb (Abf x.Aa.Ap x.Aa.size _ x.Aa.Ao.length _ t0 t1 FJ) fun _ _=>?_;refine dk ?_;refine dM 3 4 ?_ ?_
   ·apply Lx;rfl;rfl;rfl;rfl;exact Lr;exact La;intro _;refine dk ?_;refine dN 4 ?_;refine oS ?_;exact AL
   ·refine oS ?_;refine dk ?_;refine dN 3 ?_;apply Lx;rfl;rfl;rfl;rfl;exact Lr;exact La;intro _;exact AL
  ·exact BH
 ·apply Cr;rfl;intro _;refine dk ?_;refine dN 13 ?_;refine oC ?_;refine Cb (hH _ a2 c2 _ _) fun z _=>?_;refine dk ?_;refine dt 14 ?_;refine dN 16 ?_;refine oS ?_;refine dk ?_;refine dd ?_;refine go ?_;refine Ax rfl (fun h1=>?_) (fun h1=>?_)
  ·rw [show O2 x=⟨x.Aa,x.Ai+1,0,J8 x.Aa (x.Ai+1) x.holds⟩ from by unfold O2 X5;rw [if_neg FJ],show Oj x.Aa x.quiet=[Te x.Aa] from if_neg FJ];refine go ?_;refine A4 (E:=Bn) fun F9=>?_;refine Gt ⟨x.Aa,x.Ai+1,0,J8 x.Aa (x.Ai+1) x.holds⟩ (a1:=a5) ?_;refine As [2,5] [] ?_;refine Ed 0 1 ?_;refine dN 2 ?_;refine oC ?_;refine Cb (Abf x.Aa.Ap x.Aa.size _ x.Aa.Ao.length _ t0 t1 FJ) fun _ _=>?_;refine dk ?_;refine dM 3 4 ?_ ?_
   ·apply Lx;rfl;rfl;rfl;rfl;exact Lr;exact La;intro _;refine dk ?_;refine dN 4 ?_;refine oS ?_;exact AL
   ·refine oS ?_;refine dk ?_;refine dN 3 ?_;apply Lx;rfl;rfl;rfl;rfl;exact Lr;exact La;intro _;exact AL
  ·exact BH
theorem Bcx {x:Ck} (hg:C3 x=true):O2 x=N4 x:=by unfold O2 N4;rw [Ber (Awj hg)]
theorem Aw4 (x:Ck) (v:Value) (F:List Nat) (hg:C3 x=true) :
  Fn prog 244 [v] [.isv Do v x F] [] (fun (_:TiS)=>True) (fun s=>.tuple #[.agg #[.int .i64 (N4 x).Aa.Ap,.int .i64 (N4 x).Aa.size,.slice s.a (N4 x).Aa.Ao.length s.c,.int .i64 (N4 x).Ai,.int .i64 (N4 x).quiet,.slice s.a2 (N4 x).holds.length s.c2],.slice s.ae (Oj x.Aa x.quiet).length s.ce])
   (fun s=>[.isv Do (.agg #[.int .i64 (N4 x).Aa.Ap,.int .i64 (N4 x).Aa.size,.slice s.a (N4 x).Aa.Ao.length s.c,.int .i64 (N4 x).Ai,.int .i64 (N4 x).quiet,.slice s.a2 (N4 x).holds.length s.c2]) (N4 x) s.F,.ow Ak 223 (.slice s.ae (Oj x.Aa x.quiet).length s.ce) (Oj x.Aa x.quiet) s.Fe]):=by
 obtain ⟨gw,hl,t0,t1,k0,k1,hm,hn,hu,hb⟩:=Lc hg;obtain ⟨q0,q3⟩:=Aqp hg;have h:=Asx x v F t0 t1 hl k0 FJ q0 q3 FJ (Agy hn);rw [Bcx hg] at h;exact h
theorem Mm {x:Aw} {p:Ar} (h:Lh x p=false):Dz x p=(zPk,false):=by unfold Dz;rw [h];rfl
theorem Aao {x:Aw} {p:Ar} (h:Lh x p=true):Dz x p=(Aor x p.Ae,true):=by unfold Dz;rw [h];rfl
theorem Agn {x:Aw} {n:Int} (h:Jh x n=true):(gp x.Ap n).toNat < x.Ao.length:=by
 have b:=Mf x.Ap n;unfold Jh at h;simp only [decide_eq_true_eq] at h;omega
theorem Zq {x:Aw} {n:Int} (h:(gp x.Ap n).toNat < x.Ao.length):Ad6 x n=x.Ao[(gp x.Ap n).toNat]:=by
 unfold Ad6;rw [List.getD_eq_getElem?_getD,List.getElem?_eq_getElem h];rfl
theorem Agz (x:Aw) (p:Ar) (v:Value) (F:List Nat) (hs:p.data.size≤maxLen):FV 395 [v,.agg #[.int .i64 p.Cp,.int .i64 p.Ae,.int .i64 p.Ap,.int .i64 p.Fv,.string p.data]] [.isv Bv v x F] (.tuple #[.agg #[.int .i64 (Dz x p).1.Cp,.int .i64 (Dz x p).1.Ae,.int .i64 (Dz x p).1.Ap,.int .i64 (Dz x p).1.Fv,.string (Dz x p).1.data],.bool (Dz x p).2]):=by
 refine enter func395 rfl ntmps395 fun w0=>?_;refine Et ?_;rintro a1 c1 F1 rfl l1;refine go ?_;intros;refine cb (fun w st=>Tb _ x _ w (st.get (p:=.isv Bv (.agg #[.int .i64 x.Ap,.int .i64 x.size,.slice a1 x.Ao.length c1]) x F) FK)) ?_;cases g1:D9 x
 ·refine go ?_;rw [Mm (by unfold Lh;rw [g1];rfl)];exact BC
 obtain ⟨⟨t0,t1⟩,⟨z0,z1⟩,hl,hi⟩:=Ec.1 g1;have hl6:x.Ao.length≤6:=FJ
 refine go ?_;refine Cb (Xy p hs) fun _ _=>?_;cases g2:Bw p
 ·refine go ?_;rw [Mm (by unfold Lh;rw [g1,g2];rfl)];exact BC
 obtain ⟨n0,n1⟩:=Lb g2;refine go ?_;refine Dx rfl rfl (fun h3=>?_) (fun h3=>?_)
 ·refine go ?_;rw [Mm (by unfold Lh;rw [g1,g2,decide_eq_false h3];rfl)];exact BC
 have h3:=Decidable.not_not.1 h3;refine go ?_;refine cb (fun w st=>(Yq x p.Ae _ F t0 t1 n0 n1).val w (En (st.get (p:=.isv Bv (.agg #[.int .i64 x.Ap,.int .i64 x.size,.slice a1 x.Ao.length c1]) x F) FK))) ?_;cases g3:Jh x p.Ae
 ·refine go ?_;rw [Mm (by unfold Lh;rw [g1,g2,g3];simp)];exact BC
 rw [Aao (by unfold Lh;rw [g1,g2,g3,decide_eq_true h3];rfl)];have b:=Mf x.Ap p.Ae;have hk3:=Agn g3;rw [show Aor x p.Ae=⟨2,p.Ae,x.Ap,Mi x,x.Ao[(gp x.Ap p.Ae).toNat]⟩ by unfold Aor;rw [Zq hk3]];refine Nq (xs:=x.Ao) (gp x.Ap p.Ae).toNat ?_;rintro hi b2 o2 e s1;rw [e];refine O3 ?_;intros;refine As [0,2,3] [] ?_;refine Ds 0 1 2 3 ?_;refine Ds 4 6 7 8 ?_;refine Ed 9 10 ?_;refine dt 11 ?_;refine dN 5 ?_;refine oC ?_;refine cb (fun w _=>I4 _ _ _ _ _ w t0 t1 FJ) ?_;refine dk ?_;refine dN 12 ?_;refine oC ?_;refine ce (fun w s=>Qg _ _ _ FJ FJ FJ FJ) ?_;refine dk ?_
 refine Ed 13 14 ?_;refine dt 15 ?_;refine dN 16 ?_;refine oS ?_;refine dk ?_;refine dt 17 ?_;exact CR
theorem Ai7 (x:Aw) (p:Ar) (v:Value) (F:List Nat) (hs:p.data.size≤maxLen):FV 313 [v,.agg #[.int .i64 p.Cp,.int .i64 p.Ae,.int .i64 p.Ap,.int .i64 p.Fv,.string p.data]] [.isv Bv v x F] (.tuple #[.agg #[.int .i64 (Dz x p).1.Cp,.int .i64 (Dz x p).1.Ae,.int .i64 (Dz x p).1.Ap,.int .i64 (Dz x p).1.Fv,.string (Dz x p).1.data],.bool (Dz x p).2]):=by
 refine enter func313 rfl ntmps313 fun w0=>?_;refine Et ?_;rintro a1 c1 F1 rfl l1;refine go ?_;intros;refine cb (fun w st=>Ap0 _ x _ w (st.get (p:=.isv Bv (.agg #[.int .i64 x.Ap,.int .i64 x.size,.slice a1 x.Ao.length c1]) x F) FK)) ?_;cases g1:D9 x
 ·refine go ?_;rw [Mm (by unfold Lh;rw [g1];rfl)];exact BC
 obtain ⟨⟨t0,t1⟩,⟨z0,z1⟩,hl,hi⟩:=Ec.1 g1;have hl6:x.Ao.length≤6:=FJ
 refine go ?_;refine Cb (Apz p hs) fun _ _=>?_;cases g2:Bw p
 ·refine go ?_;rw [Mm (by unfold Lh;rw [g1,g2];rfl)];exact BC
 obtain ⟨n0,n1⟩:=Lb g2;refine go ?_;refine Dx rfl rfl (fun h3=>?_) (fun h3=>?_)
 ·refine go ?_;rw [Mm (by unfold Lh;rw [g1,g2,decide_eq_false h3];rfl)];exact BC
 have h3:=Decidable.not_not.1 h3;refine go ?_;refine cb (fun w st=>(Ap1 x p.Ae _ F t0 t1 n0 n1).val w (En (st.get (p:=.isv Bv (.agg #[.int .i64 x.Ap,.int .i64 x.size,.slice a1 x.Ao.length c1]) x F) FK))) ?_;cases g3:Jh x p.Ae
 ·refine go ?_;rw [Mm (by unfold Lh;rw [g1,g2,g3];simp)];exact BC
 rw [Aao (by unfold Lh;rw [g1,g2,g3,decide_eq_true h3];rfl)];have b:=Mf x.Ap p.Ae;have hk3:=Agn g3;rw [show Aor x p.Ae=⟨2,p.Ae,x.Ap,Mi x,x.Ao[(gp x.Ap p.Ae).toNat]⟩ by unfold Aor;rw [Zq hk3]];refine Nq (xs:=x.Ao) (gp x.Ap p.Ae).toNat ?_;rintro hi b2 o2 e s1;rw [e];refine O3 ?_;intros;refine As [0,2,3] [] ?_;refine Ds 0 1 2 3 ?_;refine Ds 4 6 7 8 ?_;refine Ed 9 10 ?_;refine dt 11 ?_;refine dN 5 ?_;refine oC ?_;refine cb (fun w _=>Ui _ _ _ _ _ w t0 t1 FJ) ?_;refine dk ?_;refine dN 12 ?_;refine oC ?_;refine ce (fun w s=>Ju _ _ _ FJ FJ) ?_;refine dk ?_;refine Ed 13 14 ?_
 refine dt 15 ?_;refine dN 16 ?_;refine oS ?_;refine dk ?_;refine dt 17 ?_;exact CR
end Go.Proofs.YtkblpelckhegbaaGreatDoor
