/- Part 5 of the proof: 35 texts, one behind the other. -/
import Derived.Test.YtbmlecejkacpnaaGreatDoorM4
open _root_.Go.Proofs.Tryz
set_option maxRecDepth 100000
set_option maxHeartbeats 8000000
set_option linter.all false
set_option linter.unusedVariables false
set_option linter.unusedSimpArgs false
namespace Go.Proofs.YtbmlecejkacpnaaGreatDoor
open Go.RowKit
theorem Ajy {t a b:Int} (ha:0≤a∧a≤65535) (hb:0≤b∧b≤65535) (h:gp t a=gp t b):a=b:=by unfold gp at h;omega
def srt (t:Int) (hs:List G0):Prop:=hs.Pairwise fun a b=>gp t a.Ad < gp t b.Ad
theorem Ej {x:Ch}:Cd x=true↔Do x.Aa=true∧Ix x.Ai=true∧Hq 0 x.quiet 3=true∧(∀h∈x.holds,Ca h.Ad=true∧Gw x.Aa h.Ad=true∧Hq (x.Ai+1) h.Cf (x.Ai+3)=true)∧srt x.Aa.Ak x.holds:=by
 unfold Cd
 simp only [Bool.and_eq_true,List.all_eq_true,List.mem_range]
 constructor
 ·rintro ⟨⟨⟨h1,h2⟩,h3⟩,h4⟩
  refine ⟨h1,h2,h3,fun h hh=>?_,?_⟩
  ·obtain ⟨i,hi,rfl⟩:=List.getElem_of_mem hh
   have:=h4 i hi
   rw [Mf hi] at this
   simp only [Bool.and_eq_true] at this
   exact ⟨this.1.1.1,this.1.1.2,this.1.2⟩
  ·have step:∀i (hi:i+1 < x.holds.length),gp x.Aa.Ak x.holds[i].Ad < gp x.Aa.Ak x.holds[i+1].Ad:=fun i hi=>by
    have:=h4 (i+1) hi
    rw [Mf hi] at this
    simp only [Bool.and_eq_true,Bool.or_eq_true,decide_eq_true_eq,Bool.not_eq_true',decide_eq_false_iff_not] at this
    have h:=this.2
    rcases h with h|h
    ·omega
    ·simpa using h
   refine List.pairwise_iff_getElem.2 fun i j hi hj hij=>?_
   obtain ⟨d,rfl⟩:∃d,j=i+1+d:=⟨j - i - 1,by omega⟩
   clear hij
   induction d with
   | zero=>exact step i hj
   | succ d ih=>exact Int.lt_trans (ih (by omega)) (step (i+1+d) hj)
 ·rintro ⟨h1,h2,h3,h4,h5⟩
  refine ⟨⟨⟨h1,h2⟩,h3⟩,fun i hi=>?_⟩
  rw [Mf hi]
  obtain ⟨a,b,c⟩:=h4 x.holds[i] (List.getElem_mem hi)
  rw [a,b,c]
  simp only [Bool.true_and,Bool.or_eq_true,decide_eq_true_eq,Bool.not_eq_true',decide_eq_false_iff_not]
  rcases Nat.eq_zero_or_pos i with h0|h0
  ·exact .inl h0
  ·have:=List.pairwise_iff_getElem.1 h5 (i - 1) i (by omega) hi (by omega)
   right;omega
def Ek (t:Int) (hs:List G0) (n:Int):Nat:=(hs.takeWhile fun h=>decide (gp t h.Ad < gp t n)).length
def Lp (t:Int) (hs:List G0) (n:Int):Bool:=match hs[Ek t hs n]? with|some h=>decide (h.Ad=n)|none=>false
def onB (hs:List G0) (n:Int):Bool:=hs.any fun h=>decide (h.Ad=n)
def Iv (hs:List G0) (k:Nat) (h:G0):List G0:=hs.take k++h::hs.drop k
def Su (W:Ax) (n:Int):As:=⟨4,n,W.Ak,J4 W,⟨#[]⟩⟩
def Kn (x:Ch) (n:Int):Ch:=if Gw x.Aa n && !Lp x.Aa.Ak x.holds n then ⟨x.Aa,x.Ai,x.quiet,Iv x.holds (Ek x.Aa.Ak x.holds n) ⟨n,x.Ai+3⟩⟩ else Sb x x.Aa
def J8 (x:Ch) (p:As):List As:=if Gw x.Aa p.Ad then (if Lp x.Aa.Ak x.holds p.Ad then [Su x.Aa p.Ad] else [Su x.Aa p.Ad,(Da x.Aa p).1]) else [Nr x.Aa]
def I0 (x:Ch) (n:Int):Ch:=if Gw x.Aa n && !Lp x.Aa.Ak x.holds n then ⟨x.Aa,x.Ai,x.quiet,Iv x.holds (Ek x.Aa.Ak x.holds n) ⟨n,x.Ai+3⟩⟩ else x
theorem Tm {x:Ch} (hg:Cd x=true):Fm x.Aa x.Ai x.holds=x.holds:=by
 obtain ⟨-, -, -,h4, -⟩:=Ej.1 hg
 unfold Fm
 refine List.filter_eq_self.2 fun h hh=>?_
 obtain ⟨a,b,c⟩:=h4 h hh
 unfold Hq at c
 simp only [Bool.and_eq_true,decide_eq_true_eq] at c
 rw [b,decide_eq_true (by omega)];rfl
theorem Ak3 {x:Ch} (hg:Cd x=true) (n:Int):Kn x n=I0 x n:=by
 unfold Kn I0 Sb
 rw [Tm hg]
theorem Sh (t:Int) (hs:List G0) (n:Int):Ek t hs n≤hs.length:=Ng.1
theorem Alo {t n:Int} {hs:List G0} (hn:0≤n∧n≤65535) (hser:∀h∈hs,Ca h.Ad=true) (hs':srt t hs):Lp t hs n=onB hs n:=by
 obtain ⟨h1,h2,h3⟩:=Ng (p:=fun h:G0=>decide (gp t h.Ad < gp t n)) (xs:=hs)
 unfold Lp onB
 have hle:=Sh t hs n
 rw [Bool.eq_iff_iff,List.any_eq_true]
 constructor
 ·intro h
  split at h
  ·rename_i z hz
   exact ⟨z,List.mem_of_getElem? hz,h⟩
  ·cases h
 ·rintro ⟨z,hz,he⟩
  simp only [decide_eq_true_eq] at he
  obtain ⟨i,hi,rfl⟩:=List.getElem_of_mem hz
  have hk:Ek t hs n=i:=by
   refine R8 (by omega) (fun j hj h=>?_) (fun h=>?_)
   ·have:=List.pairwise_iff_getElem.1 hs' j i h hi hj
    simp only [decide_eq_true_eq];rw [←he];exact this
   ·simp only [decide_eq_false_iff_not];rw [he];omega
  rw [hk,List.getElem?_eq_getElem hi]
  simpa using he
theorem Anq {t n:Int} {hs:List G0} (u:Int) (hn:0≤n∧n≤65535) (hser:∀h∈hs,Ca h.Ad=true) (hs':srt t hs) (ht:Lp t hs n=false):srt t (Iv hs (Ek t hs n) ⟨n,u⟩):=by
 obtain ⟨h1,h2,h3⟩:=Ng (p:=fun h:G0=>decide (gp t h.Ad < gp t n)) (xs:=hs)
 have hle:=Sh t hs n
 have hon:onB hs n=false:=by rw [←Alo hn hser hs'];exact ht
 have hne:∀h∈hs,gp t h.Ad≠gp t n:=fun h hh e=>by
  have:=Ajy (Ba.1 (hser h hh)) hn e
  have h0:onB hs n=true:=List.any_eq_true.2 ⟨h,hh,by simp [this]⟩
  rw [hon] at h0;cases h0
 unfold Iv srt
 rw [List.pairwise_append]
 refine ⟨hs'.sublist (List.take_sublist _ _),?_,?_⟩
 ·rw [List.pairwise_cons]
  refine ⟨fun b hb=>?_,hs'.sublist (List.drop_sublist _ _)⟩
  obtain ⟨j,hj,rfl⟩:=List.getElem_of_mem hb
  rw [List.getElem_drop]
  rw [List.length_drop] at hj
  have hk:Ek t hs n < hs.length:=by omega
  have h0:=h3 hk
  simp only [decide_eq_false_iff_not,Int.not_lt] at h0
  have h00:gp t n≤gp t (hs[Ek t hs n]'hk).Ad:=h0
  have hd:=hne _ (List.getElem_mem hk)
  rcases Nat.eq_zero_or_pos j with e|e
  ·subst e;show gp t n < gp t (hs[Ek t hs n+0]).Ad;simp only [Nat.add_zero];omega
  ·have h5:=List.pairwise_iff_getElem.1 hs' (Ek t hs n) (Ek t hs n+j) hk (by omega) (by omega)
   show gp t n < _;omega
 ·intro a ha b hb
  obtain ⟨i,hi,rfl⟩:=List.getElem_of_mem ha
  rw [List.length_take] at hi
  rw [List.getElem_take]
  have ha2:=h2 i (by show i < Ek t hs n;omega) (by omega)
  simp only [decide_eq_true_eq] at ha2
  rcases List.mem_cons.1 hb with rfl|hb
  ·exact ha2
  ·obtain ⟨j,hj,rfl⟩:=List.getElem_of_mem hb
   rw [List.getElem_drop]
   rw [List.length_drop] at hj
   exact List.pairwise_iff_getElem.1 hs' i _ (by omega) (by omega) (by omega)
theorem Ajx {x:Ch} {n:Int} (hg:Cd x=true) (hn:0≤n∧n≤65535):Cd (I0 x n)=true:=by
 unfold I0
 split
 ·rename_i h
  simp only [Bool.and_eq_true,Bool.not_eq_true'] at h
  obtain ⟨hh,ht⟩:=h
  obtain ⟨h1,h2,h3,h4,h5⟩:=Ej.1 hg
  refine Ej.2 ⟨h1,h2,h3,fun z hz=>?_,Anq _ hn (fun z hz=>(h4 z hz).1) h5 ht⟩
  have:z∈x.holds∨z=⟨n,x.Ai+3⟩:=by
   unfold Iv at hz
   simp only [List.mem_append,List.mem_cons] at hz
   rcases hz with h|h|h
   ·exact .inl (List.mem_of_mem_take h)
   ·exact .inr h
   ·exact .inl (List.mem_of_mem_drop h)
  rcases this with h|rfl
  ·exact h4 z h
  ·exact ⟨Ba.2 hn,hh,by unfold Hq;simp⟩
 ·exact hg
theorem Ahh {x:Ch} (hg:Cd x=true) (hc:x.Ai < 9999):Cd (Jv x)=true:=by
 obtain ⟨h1,h2,h3,h4,h5⟩:=Ej.1 hg
 have hk:=Abe h2
 refine Ej.2 ⟨h1,?_,?_,fun z hz=>?_,h5.sublist (List.filter_sublist)⟩
 ·unfold Jv Ix Hq;simp;omega
 ·unfold Hq at h3
  simp only [Bool.and_eq_true,decide_eq_true_eq] at h3
  unfold Jv N2 Hq
  dsimp only
  split <;> simp <;> omega
 ·unfold Jv P2 at hz
  simp only [List.mem_filter] at hz
  obtain ⟨z1,z2⟩:=hz
  obtain ⟨a,b,c⟩:=h4 z z1
  refine ⟨a,b,?_⟩
  unfold Hq at c ⊢
  simp only [Bool.and_eq_true,decide_eq_true_eq,Bool.not_eq_true',decide_eq_false_iff_not] at c z2 ⊢
  show x.Ai+1+1≤z.Cf∧z.Cf≤x.Ai+1+3
  omega
theorem Yb {x:Ch} {W:Ax} (k:Nat) (q:Int) (hg:Cd x=true) (hw:Do W=true) (hq:Hq 0 q 3=true) (hk:k≤6) (ht:W.Ak=Bn x.Aa.Ak k):Cd ⟨W,x.Ai,q,K9 W x.holds⟩=true:=by
 obtain ⟨h1,h2,h3,h4,h5⟩:=Ej.1 hg
 obtain ⟨-,⟨z0,z1⟩,hl, -⟩:=Dw.1 hw
 have key:∀n,Gw W n=true→gp x.Aa.Ak n=gp W.Ak n+k:=fun n hn=>by
  unfold Gw at hn
  simp only [decide_eq_true_eq] at hn
  rw [ht] at hn ⊢
  have:=In (Bn x.Aa.Ak k) n
  unfold gp Bn at *
  omega
 refine Ej.2 ⟨hw,h2,hq,fun z hz=>?_,?_⟩
 ·unfold K9 at hz
  simp only [List.mem_filter] at hz
  obtain ⟨a,b,c⟩:=h4 z hz.1
  exact ⟨a,hz.2,c⟩
 ·unfold K9 srt
  show List.Pairwise (fun a b=>gp W.Ak a.Ad < gp W.Ak b.Ad) (x.holds.filter fun h=>Gw W h.Ad)
  have hp:List.Pairwise (fun a b=>gp x.Aa.Ak a.Ad < gp x.Aa.Ak b.Ad) (x.holds.filter fun h=>Gw W h.Ad):=h5.sublist (List.filter_sublist)
  refine List.Pairwise.imp_of_mem (fun {a b} ha hb h=>?_) hp
  simp only [List.mem_filter] at ha hb
  have e1:=key _ ha.2
  have e2:=key _ hb.2
  omega
theorem Ahg {x:Ch} {s:ByteArray} (hg:Cd x=true) (hs:N1 s=true):Cd (Nq x s)=true:=by
 have hw:=(Ej.1 hg).1
 obtain ⟨-,hw2, -⟩:=Ae7 (x:=x.Aa) (s:=s) (by unfold Tr;rw [hw,hs];rfl)
 obtain ⟨⟨t0,t1⟩, -⟩:=Dw.1 hw
 by_cases h:(x.Aa.Aj.length:Int)=x.Aa.size
 ·refine Yb 1 0 hg hw2 (by decide) (by omega) ?_
  show (Cr x.Aa).Ak=_
  unfold Cr;rw [if_pos h];rfl
 ·refine Yb 0 0 hg hw2 (by decide) (by omega) ?_
  show (Cr x.Aa).Ak=_
  unfold Cr Bn;rw [if_neg h];omega
def Pj (n:Eg) (i:Nat):Bt:=n.Af.getD i ⟨0,[]⟩
def Wx (n:Eg) (i:Nat):Bc:=n.Ae.getD i Afs
def Sw (n:Eg) (i:Nat):List Int:=Fv n.An.Ac ((i:Nat):Int)
def Ww (n:Eg) (i:Nat) (p:As):List Int:=if p.C2=2 then Pt (Pj n i) p.Ad (Sw n i) else Sw n i
def Ci (n:Eg) (i:Nat) (p:As):Eg × List ByteArray :=
 if Hw n.An.Ac ((i:Nat):Int) then (⟨n.An,n.Ab,n.Af,n.Ae.set i (C9 (Wx n i) p (Ke i)),n.down,n.up⟩,Ny i (Ff (Wx n i) p))
 else (⟨n.An,n.Ab,if p.C2=2 then n.Af.set i (Mm (Pj n i) p.Ad) else n.Af,n.Ae,Dd n.down (Ww n i p) [p],n.up⟩,[])
def Sq (n:Eg) (i:Nat):Nat:=(n.An.Ac.getD i 0).toNat
def Ti (p:As):As:=⟨4,p.Ad,p.Ak,p.D0,⟨#[]⟩⟩
def Lx (n:Eg) (i:Nat) (p:As):Eg :=
 if Sq n i=0 then ⟨n.An,I0 n.Ab p.Ad,n.Af,n.Ae,Dd n.down [((i:Nat):Int)] (J8 n.Ab p),n.up⟩
 else ⟨n.An,n.Ab,n.Af.set (Sq n i) (Ks (Pj n (Sq n i)) p.Ad ((i:Nat):Int)),n.Ae,Dd n.down [((i:Nat):Int)] [Ti p],if Vb (Pj n (Sq n i)) p.Ad then n.up.modify (Sq n i) fun q=>Eq q [p] else n.up⟩
def J9 (n:Eg) (i:Nat):Eg × List ByteArray :=
 if Hw n.An.Ac ((i:Nat):Int) then (⟨n.An,n.Ab,n.Af,n.Ae.set i (Cj (Wx n i) (Ke i)),n.down,n.up.modify i fun q=>Eq q (D9 (Wx n i))⟩,Ny i (Ev (Wx n i)))
 else (⟨n.An,n.Ab,n.Af.set i (Dx (Pj n i)),n.Ae,n.down,n.up⟩,[])
def Aor (n:Eg):Eg:=⟨n.An,Jv n.Ab,n.Af,n.Ae,Dd n.down (Sw n 0) (Ka n.Ab.Aa n.Ab.quiet),n.up⟩
def Bb (n:Eg):Nat→Eg × List ByteArray
 | 0=>(Aor n,[])
 | k+1=>((J9 (Bb n k).1 (k+1)).1,(Bb n k).2++(J9 (Bb n k).1 (k+1)).2)
def Bp (n:Eg):Eg × List ByteArray:=Bb n (n.An.Ac.length - 1)
def Mn (n:Eg) (s:ByteArray):Eg:=⟨n.An,Nq n.Ab s,n.Af,n.Ae,Dd n.down (Sw n 0) [Dg n.Ab.Aa s],n.up⟩
def Jx (n:Eg) (i:Nat):Eg:=⟨n.An,n.Ab,n.Af,n.Ae,n.down.modify i (·.drop 1),n.up⟩
def Iq (n:Eg) (i:Nat):Eg:=⟨n.An,n.Ab,n.Af,n.Ae,n.down,n.up.modify i (·.drop 1)⟩
structure GN (ck:Nat→Int) (n:Eg):Prop where
 t:El n.An=true
 s:Cd n.Ab=true
 l:L7 n=true
 a:∀i (h1:i < n.Af.length) (h2:i < n.Ae.length) (h3:i < n.down.length) (h4:i < n.up.length),Qy n.An.Ac (ck i) i n.Af[i] n.Ae[i] n.down[i] n.up[i]=true
theorem A1 {n:Eg}:A8 n=true↔GN (fun _=>n.Ab.Ai) n:=by
 rw [Wc]
 constructor
 ·rintro ⟨h1,h2,h3,h4⟩
  obtain ⟨q1,q2,q3,q4⟩:=Bz.1 h3
  exact ⟨h1,h2,h3,fun i a b c d=>by rw [←U6 a b c d];exact h4 i (by omega)⟩
 ·rintro ⟨h1,h2,h3,h4⟩
  obtain ⟨q1,q2,q3,q4⟩:=Bz.1 h3
  exact ⟨h1,h2,h3,fun i hi=>by rw [U6 (by omega) (by omega) (by omega) (by omega)];exact h4 i _ _ _ _⟩
def Wz (ck:Nat→Int) (i:Nat) (c:Int):Nat→Int:=fun j=>if j=i then c else ck j
structure RN (par:List Int) (clk:Int) (i:Nat) (e:Bt) (r:Bc) (d u:List As):Prop where
 hd:H3 d=true
 hu:H3 u=true
 hk:upQ u=true
 hz:i=0→Qf e=true∧Sc r=true∧d.length=0∧u.length=0
 hf:i≠0→Hw par ((i:Nat):Int)=true→Qf e=true∧Hc r=true∧r.Ai=clk
 hn:i≠0→Hw par ((i:Nat):Int)=false→Bw e=true∧e.Ai=clk∧Sc r=true
theorem Lf {par:List Int} {clk:Int} {i:Nat} {e:Bt} {r:Bc} {d u:List As}:Qy par clk i e r d u=true↔RN par clk i e r d u:=by
 unfold Qy
 constructor
 ·intro h
  simp only [Bool.and_eq_true] at h
  obtain ⟨⟨⟨h1,h2⟩,h3⟩,h4⟩:=h
  refine ⟨h1,h2,h3,fun e=>?_,fun e l=>?_,fun e l=>?_⟩
  ·rw [if_pos e] at h4
   simp only [Bool.and_eq_true,decide_eq_true_eq] at h4
   exact ⟨h4.1.1.1,h4.1.1.2,h4.1.2,h4.2⟩
  ·rw [if_neg e,if_pos l] at h4
   simp only [Bool.and_eq_true,decide_eq_true_eq] at h4
   exact ⟨h4.1.1,h4.1.2,h4.2⟩
  ·rw [if_neg e,if_neg (by rw [l];decide)] at h4
   simp only [Bool.and_eq_true,decide_eq_true_eq] at h4
   exact ⟨h4.1.1,h4.1.2,h4.2⟩
 ·intro h
  rw [h.hd,h.hu,h.hk,Bool.true_and,Bool.true_and,Bool.true_and]
  by_cases e:i=0
  ·rw [if_pos e]
   obtain ⟨a,b,c,d⟩:=h.hz e
   rw [a,b,decide_eq_true c,decide_eq_true d];rfl
  ·rw [if_neg e]
   cases l:Hw par ((i:Nat):Int)
   ·obtain ⟨a,b,c⟩:=h.hn e l
    rw [if_neg (by decide),a,decide_eq_true b,c];rfl
   ·obtain ⟨a,b,c⟩:=h.hf e l
    rw [if_pos rfl,a,b,decide_eq_true c];rfl
theorem GN.rn {ck:Nat→Int} {n:Eg} (h:GN ck n) {i:Nat} (hi:i < n.An.Ac.length):∃(h1:i < n.Af.length) (h2:i < n.Ae.length) (h3:i < n.down.length) (h4:i < n.up.length),RN n.An.Ac (ck i) i n.Af[i] n.Ae[i] n.down[i] n.up[i]:=by
 obtain ⟨q1,q2,q3,q4⟩:=Bz.1 h.l
 exact ⟨by omega,by omega,by omega,by omega,Lf.1 (h.a i _ _ _ _)⟩
theorem GN.mk' {ck:Nat→Int} {n:Eg} (h1:El n.An=true) (h2:Cd n.Ab=true) (h3:L7 n=true) (h4:∀i (h1:i < n.Af.length) (h2:i < n.Ae.length) (h3:i < n.down.length) (h4:i < n.up.length),RN n.An.Ac (ck i) i n.Af[i] n.Ae[i] n.down[i] n.up[i]):GN ck n :=
 ⟨h1,h2,h3,fun i a b c d=>Lf.2 (h4 i a b c d)⟩
theorem GN.src {ck:Nat→Int} {n:Eg} {s:Ch} (h:GN ck n) (hs:Cd s=true):GN ck ⟨n.An,s,n.Af,n.Ae,n.down,n.up⟩:=⟨h.t,hs,h.l,h.a⟩
theorem GN.el {ck:Nat→Int} {n:Eg} {i:Nat} {e:Bt} (h:GN ck n) (h0:i≠0) (hl:Hw n.An.Ac ((i:Nat):Int)=false) (he:Bw e=true):GN (Wz ck i e.Ai) ⟨n.An,n.Ab,n.Af.set i e,n.Ae,n.down,n.up⟩:=by
 obtain ⟨q1,q2,q3,q4⟩:=Bz.1 h.l
 refine .mk' h.t h.s (Bz.2 ⟨by simpa using q1,q2,q3,q4⟩) fun j h1 h2 h3 h4=>?_
 have h1':j < n.Af.length:=by simpa using h1
 have r:=Lf.1 (h.a j h1' h2 h3 h4)
 refine ⟨r.hd,r.hu,r.hk,fun e0=>?_,fun e0 l=>?_,fun e0 l=>?_⟩
 ·have:=r.hz e0
  rwa [List.getElem_set_ne (by omega)]
 ·have hne:i≠j:=fun e1=>by subst e1;rw [hl] at l;cases l
  have:=r.hf e0 l
  rw [List.getElem_set_ne hne]
  unfold Wz;rw [if_neg (Ne.symm hne)];exact this
 ·have:=r.hn e0 l
  by_cases e1:i=j
  ·subst e1
   rw [List.getElem_set_self]
   unfold Wz;rw [if_pos rfl];exact ⟨he,rfl,this.2.2⟩
  ·rw [List.getElem_set_ne e1]
   unfold Wz;rw [if_neg (Ne.symm e1)];exact this
theorem GN.rc {ck:Nat→Int} {n:Eg} {i:Nat} {x:Bc} (h:GN ck n) (h0:i≠0) (hl:Hw n.An.Ac ((i:Nat):Int)=true) (he:Hc x=true):GN (Wz ck i x.Ai) ⟨n.An,n.Ab,n.Af,n.Ae.set i x,n.down,n.up⟩:=by
 obtain ⟨q1,q2,q3,q4⟩:=Bz.1 h.l
 refine .mk' h.t h.s (Bz.2 ⟨q1,by simpa using q2,q3,q4⟩) fun j h1 h2 h3 h4=>?_
 have h2':j < n.Ae.length:=by simpa using h2
 have r:=Lf.1 (h.a j h1 h2' h3 h4)
 refine ⟨r.hd,r.hu,r.hk,fun e0=>?_,fun e0 l=>?_,fun e0 l=>?_⟩
 ·have:=r.hz e0
  rwa [List.getElem_set_ne (by omega)]
 ·have:=r.hf e0 l
  by_cases e1:i=j
  ·subst e1
   rw [List.getElem_set_self]
   unfold Wz;rw [if_pos rfl];exact ⟨this.1,he,rfl⟩
  ·rw [List.getElem_set_ne e1]
   unfold Wz;rw [if_neg (Ne.symm e1)];exact this
 ·have hne:i≠j:=fun e1=>by subst e1;rw [hl] at l;cases l
  have:=r.hn e0 l
  rw [List.getElem_set_ne hne]
  unfold Wz;rw [if_neg (Ne.symm hne)];exact this
theorem Agf {q ps:List As} (hq:upQ q=true) (hp:∀p∈ps,p.C2=3):upQ (Eq q ps)=true:=by
 unfold upQ Eq at *
 rw [List.all_append,hq,Bool.true_and,List.all_eq_true]
 exact fun p h=>decide_eq_true (hp p (List.mem_of_mem_take h))
theorem GN.dn {ck:Nat→Int} {n:Eg} (h:GN ck n) (i:Nat) (f:List As→List As) (h0:i=0→f []=[]) (hf:∀q,H3 q=true→H3 (f q)=true):GN ck ⟨n.An,n.Ab,n.Af,n.Ae,n.down.modify i f,n.up⟩:=by
 obtain ⟨q1,q2,q3,q4⟩:=Bz.1 h.l
 refine .mk' h.t h.s (Bz.2 ⟨q1,q2,by simpa using q3,q4⟩) fun j h1 h2 h3 h4=>?_
 have h3':j < n.down.length:=by simpa using h3
 have r:=Lf.1 (h.a j h1 h2 h3' h4)
 by_cases e1:i=j
 ·subst e1
  simp only [List.getElem_modify_eq]
  refine ⟨hf _ r.hd,r.hu,r.hk,fun e0=>?_,r.hf,r.hn⟩
  obtain ⟨a,b,c,d⟩:=r.hz e0
  refine ⟨a,b,?_,d⟩
  rw [List.length_eq_zero_iff.1 c,h0 e0];rfl
 ·simp only [List.getElem_modify,if_neg e1]
  exact r
theorem GN.un {ck:Nat→Int} {n:Eg} (h:GN ck n) (i:Nat) (f:List As→List As) (h0:i=0→f []=[]) (hf:∀q,H3 q=true→upQ q=true→H3 (f q)=true∧upQ (f q)=true):GN ck ⟨n.An,n.Ab,n.Af,n.Ae,n.down,n.up.modify i f⟩:=by
 obtain ⟨q1,q2,q3,q4⟩:=Bz.1 h.l
 refine .mk' h.t h.s (Bz.2 ⟨q1,q2,q3,by simpa using q4⟩) fun j h1 h2 h3 h4=>?_
 have h4':j < n.up.length:=by simpa using h4
 have r:=Lf.1 (h.a j h1 h2 h3 h4')
 by_cases e1:i=j
 ·subst e1
  simp only [List.getElem_modify_eq]
  refine ⟨r.hd,(hf _ r.hu r.hk).1,(hf _ r.hu r.hk).2,fun e0=>?_,r.hf,r.hn⟩
  obtain ⟨a,b,c,d⟩:=r.hz e0
  refine ⟨a,b,c,?_⟩
  rw [List.length_eq_zero_iff.1 d,h0 e0];rfl
 ·simp only [List.getElem_modify,if_neg e1]
  exact r
theorem GN.sp {ck:Nat→Int} {ps:List As} (hp:∀p∈ps,Bk p=true):∀{nodes:List Int} {n:Eg},GN ck n→(∀x∈nodes,x.toNat≠0)→GN ck ⟨n.An,n.Ab,n.Af,n.Ae,Dd n.down nodes ps,n.up⟩
 | [],_,h,_=>h
 | x::r,n,h,hx=>GN.sp hp (nodes:=r) (n:=⟨n.An,n.Ab,n.Af,n.Ae,n.down.modify x.toNat fun q=>Eq q ps,n.up⟩) (h.dn x.toNat _ (fun e=>absurd e (hx x (by simp))) fun q hq=>Vr hq hp) fun y hy=>hx y (by simp [hy])
theorem X9 {q:List As} (h:H3 q=true):H3 (q.drop 1)=true:=by
 unfold H3 at *
 simp only [Bool.and_eq_true,decide_eq_true_eq,List.all_eq_true] at h ⊢
 exact ⟨by rw [List.length_drop];omega,fun p hp=>h.2 p (List.mem_of_mem_drop hp)⟩
theorem Alt {q:List As} (h:upQ q=true):upQ (q.drop 1)=true:=by
 unfold upQ at *
 simp only [List.all_eq_true] at h ⊢
 exact fun p hp=>h p (List.mem_of_mem_drop hp)
theorem GN.pd {ck:Nat→Int} {n:Eg} (h:GN ck n) (i:Nat):GN ck (Jx n i):=h.dn i _ (fun _=>rfl) fun _=>X9
theorem GN.pu {ck:Nat→Int} {n:Eg} (h:GN ck n) (i:Nat):GN ck (Iq n i):=h.un i _ (fun _=>rfl) fun _ a b=>⟨X9 a,Alt b⟩
def Q0 (l:List Ha):Prop:=∀s∈l,s.Ds.size≤8
theorem Aat {s:ByteArray} (h:s.size≤8):(Adt s).size≤9:=by
 unfold Adt
 have:(⟨#[43]⟩:ByteArray).size=1:=rfl
 rw [ByteArray.size_append];omega
theorem Aff {l:List Ha} (h:Q0 l):(Em l).size≤9:=by
 unfold Em
 cases l with
 | nil=>decide
 | cons s r =>
  dsimp only
  split
  ·exact Aat (h s (by simp))
  ·decide
theorem Aky:∀(l:List Ha) (n:Int),Q0 l→∀e∈(rel n l).2.2,e.size≤9
 | [],_,_,e,he=>by simp [rel] at he
 | s::r,n,h,e,he=>by
  unfold rel at he
  split at he
  ·rcases List.mem_cons.1 he with rfl|he
   ·exact Aat (h s (by simp))
   ·exact Aky r _ (fun x hx=>h x (by simp [hx])) e he
  ·simp at he
theorem Agh {w:Am} (h:Q0 w.Ao):∀e∈Mv w,e.size≤9:=Aky w.Ao w.next h
theorem Af4:∀(k:Nat) (w:Am),Q0 w.Ao→(∀e∈Km k w,e.size≤9)∧Q0 (Fj k w).Ao
 | 0,w,h=>⟨fun e he=>by simp [Km] at he,h⟩
 | k+1,w,h=>by
  have ih:=Af4 k (Sr w) fun s hs=>h s (List.mem_of_mem_drop hs)
  refine ⟨fun e he=>?_,ih.2⟩
  unfold Km at he
  rcases List.mem_cons.1 he with rfl|he
  ·exact Aff h
  ·exact ih.1 e he
theorem Tx {w:Am} (h:Df w=true):Q0 w.Ao:=fun s hs=>by
 obtain ⟨n0,n1,hl,hit⟩:=Xb h
 exact hit s hs
theorem Adk {w:Am} {t:Int} (h:Q0 w.Ao):∀e∈E6 w t,e.size≤9:=fun e he=>by
 have hg:=Af4 (Dj w.next t) w h
 unfold E6 at he
 rcases List.mem_append.1 he with he|he
 ·exact hg.1 e he
 ·exact Agh hg.2 e he
theorem Ah4 {w:Am} {t:Int} (h:Df w=true):(E6 w t).length≤40000:=by
 have h1:=(Ot (t:=t) h).2.2.1
 have h2:Dj w.next t≤32767:=by
  unfold Dj
  split
  ·rename_i hb
   unfold Oa Hq at hb
   simp only [Bool.and_eq_true,decide_eq_true_eq] at hb
   omega
  ·omega
 omega
theorem Anh {x:Am} {k:Nat} {s:Ha} (h:Q0 x.Ao) (hs:s.Ds.size≤8):Q0 (Jc x k s):=fun y hy=>by
 unfold Jc at hy
 rcases List.mem_or_eq_of_mem_set hy with hy|rfl
 ·unfold Jl at hy
  rcases List.mem_append.1 hy with hy|hy
  ·exact h y hy
  ·rw [List.eq_of_mem_replicate hy];decide
 ·exact hs
theorem Amt {r:Bc} {p:As} (hg:I9 r) (hp:Bk p=true):∀e∈Ff r p,e.size≤1000000:=fun e he=>by
 have hd:p.data.size≤8:=by
  unfold Bk N1 at hp
  simp only [Bool.and_eq_true,decide_eq_true_eq] at hp
  omega
 have hst:=(M9 hg hp).1
 have htk:=(Oz hg hp).1
 unfold Ff at he
 split at he
 ·unfold Jj at he
  rcases List.mem_append.1 he with he|he
  ·unfold Id at he
   split at he
   ·simp at he
   ·unfold Ia at he
    split at he
    ·simp at he
    ·have:=Agh (w:=N6 (Dm r p) p.Ad p.data) (Anh (s:=⟨true,p.data⟩) (Tx hst) hd) e he;omega
  ·unfold Lo at he
   split at he
   ·split at he
    ·have:=Adk (Tx htk) e he;omega
    ·rw [List.mem_singleton] at he;subst he;decide
   ·simp at he
 ·simp at he
theorem Vy {r:Bc} (hg:I9 r):(∀e∈Ev r,e.size≤1000000)∧(Ev r).length≤40000:=by
 unfold Ev
 split
 ·exact ⟨fun e he=>by simp at he,by simp⟩
 ·exact ⟨fun e he=>by have:=Adk (Tx hg.w) e he;omega,Ah4 hg.w⟩
theorem Yt {w:World} {t:TypeId} {a:Option Addr} {c:Nat} {l:List Int} {F:List Nat} (h:(Pc.ow Bd t (.slice a l.length c) l F).P w):∃F',(Pc.isv O5 (.agg #[.slice a l.length c]) ⟨l⟩ F').P w:=by
 obtain ⟨F', -,hs⟩:=h.2.read
 exact ⟨F',_,rfl,_,rfl,hs⟩
theorem Th (t:Mu) (node:Int) (v:Value) (F:List Nat) (hl:t.Ac.length≤1000000):Fn prog 77 [v,.int .i64 node] [.isv O5 v t F] [] (fun (_:KiS)=>True) (fun z=>.slice z.a (Fv t.Ac node).length z.c) (fun z=>[.ow Bd 3 (.slice z.a (Fv t.Ac node).length z.c) (Fv t.Ac node) z.F]):=by
 refine enter func77 rfl ntmps77 fun w0=>?_
 refine No ?_
 rintro a1 c1 F1 rfl l1
 refine Bx Bd 3 ?_
 refine go ?_;intros
 refine Ck [1,4,9,10] (fun z:KiS=>[(5,.slice z.a (Ib t.Ac node z.k).length z.c),(11,.int .i64 (z.k:Nat))]) (fun z=>[.ow Bd 3 (.slice z.a (Ib t.Ac node z.k).length z.c) (Ib t.Ac node z.k) z.F]) (fun z=>z.k≤t.Ac.length) (fun z=>t.Ac.length - z.k) ⟨0,_,_,_⟩ (Nat.zero_le _) fun z hz=>?_
 have hkl:=Yh t.Ac node z.k
 refine go ?_;intros
 refine Bf rfl (fun h1=>?_) (fun h1=>?_)
 ·have hh:z.k < t.Ac.length:=by omega
  refine Je (xs:=t.Ac) z.k ?_
  rintro hi b o e1
  rw [e1]
  refine go ?_;intros
  refine Bf rfl (fun h2=>?_) (fun h2=>?_)
  ·refine Kx ?_;intros
   apply wO
   refine Lh (Ma _) Db fun a9 c9 F9=>?_
   refine go ?_;intros
   rw [←Ae2 hh h2]
   refine Ct ⟨z.k+1,a9,c9,F9⟩ (by show z.k+1≤t.Ac.length;omega) (by show t.Ac.length - (z.k+1) < t.Ac.length - z.k;omega)
  ·rw [←Aho hh h2]
   refine go ?_;intros
   refine Ct ⟨z.k+1,z.a,z.c,z.F⟩ (by show z.k+1≤t.Ac.length;omega) (by show t.Ac.length - (z.k+1) < t.Ac.length - z.k;omega)
 ·rw [show Ib t.Ac node z.k=Fv t.Ac node by unfold Fv;rw [show z.k=t.Ac.length by omega]]
  refine go ?_;intros
  refine ret z trivial rfl
theorem Yf {r:Bc} {p:As} (hg:I9 r) (hp:Bk p=true):∀e∈Ff r p,e.size≤1000000:=Amt hg hp
theorem Af6:∀(l:List Int) (lo:Int),l.Pairwise (· < ·)→(∀z∈l,lo≤z∧z≤7)→(l.length:Int)≤max 0 (8 - lo)
 | [],_,_,_=>by simp;omega
 | x::r,lo,hp,hb=>by
  rw [List.pairwise_cons] at hp
  have:=Af6 r (x+1) hp.2 fun z hz=>⟨by have:=hp.1 z hz;omega,(hb z (by simp [hz])).2⟩
  have:=hb x (by simp)
  rw [List.length_cons];omega
theorem L5 {e:Bt} (hg:Bw e=true) {x:Fa} (hx:x∈e.Ah):x.Bj.length≤7:=by
 have h:=(L9.1 ((Ey.1 hg).2.2.1 x hx)).2.2.1
 have:=Af6 x.Bj 1 h.1 h.2
 omega
theorem U8 {i:Nat}:1≤Ke i∧Ke i≤8:=by unfold Ke;omega
theorem Jo {n:Eg} {i:Nat} (h:i < n.Ae.length):Wx n i=n.Ae[i]:=Nu h _
theorem Iw {n:Eg} {i:Nat} (h:i < n.Af.length):Pj n i=n.Af[i]:=Nu h _
theorem Ag0 (n:Eg) (i:Nat) (p:As) (g:Nat) (a1:Option Addr) (c1:Nat) (F1:List Nat) (a2:Option Addr) (c2:Nat) (F2:List Nat) (a3:Option Addr) (c3:Nat) (F3:List Nat) (a4:Option Addr) (c4:Nat) (F4:List Nat) (a5:Option Addr) (c5:Nat) (F5:List Nat) (a6:Option Addr) (c6:Nat) (F6:List Nat) (a7:Option Addr) (c7:Nat) (F7:List Nat) (FT:List Nat) (hl:L7 n=true) (hi:i < n.An.Ac.length) (h8:Mw n.An.Ac) (hr:Hw n.An.Ac (i:Nat)=true→Hc (Wx n i)=true) (he:Hw n.An.Ac (i:Nat)=false→Bw (Pj n i)=true) (hp:Bk p=true) (hps:p.data.size≤maxLen) :
  Fn prog 134 [Eu g 0 0,.int .i64 (i:Nat),.agg #[.int .i64 (p).C2,.int .i64 (p).Ad,.int .i64 (p).Ak,.int .i64 (p).D0,.string (p).data]] [Mt FT] [.row g 39 0 [] [.slice a1 n.An.Ac.length c1,.int .i64 n.Ab.Aa.Ak,.int .i64 n.Ab.Aa.size,.slice a2 n.Ab.Aa.Aj.length c2,.int .i64 n.Ab.Ai,.int .i64 n.Ab.quiet,.slice a3 n.Ab.holds.length c3,.slice a4 n.Af.length c4,.slice a5 n.Ae.length c5,.slice a6 n.down.length c6,.slice a7 n.up.length c7] [],.ow Bd 3 (.slice a1 n.An.Ac.length c1) n.An.Ac F1,.ow A9 9 (.slice a2 n.Ab.Aa.Aj.length c2) n.Ab.Aa.Aj F2,.ow Bh 137 (.slice a3 n.Ab.holds.length c3) n.Ab.holds F3,.ow Bm 96 (.slice a4 n.Af.length c4) n.Af F4,.ow Bi 55 (.slice a5 n.Ae.length c5) n.Ae F5,.ow (Gt Al 108) 99 (.slice a6 n.down.length c6) n.down F6,.ow (Gt Al 108) 99 (.slice a7 n.up.length c7) n.up F7] (fun (_:NV × KA)=>True) (fun z=>.slice z.2.a (Ci n i p).2.length z.2.c) (fun z=>[.row g 39 0 [] [.slice z.1.a1 n.An.Ac.length z.1.c1,.int .i64 (Ci n i p).1.Ab.Aa.Ak,.int .i64 (Ci n i p).1.Ab.Aa.size,.slice z.1.a2 (Ci n i p).1.Ab.Aa.Aj.length z.1.c2,.int .i64 (Ci n i p).1.Ab.Ai,.int .i64 (Ci n i p).1.Ab.quiet,.slice z.1.a3 (Ci n i p).1.Ab.holds.length z.1.c3,.slice z.1.a4 n.Af.length z.1.c4,.slice z.1.a5 n.Ae.length z.1.c5,.slice z.1.a6 n.down.length z.1.c6,.slice z.1.a7 n.up.length z.1.c7] [],.ow Bd 3 (.slice z.1.a1 n.An.Ac.length z.1.c1) (Ci n i p).1.An.Ac z.1.F1,.ow A9 9 (.slice z.1.a2 (Ci n i p).1.Ab.Aa.Aj.length z.1.c2) (Ci n i p).1.Ab.Aa.Aj z.1.F2,.ow Bh 137 (.slice z.1.a3 (Ci n i p).1.Ab.holds.length z.1.c3) (Ci n i p).1.Ab.holds z.1.F3,.ow Bm 96 (.slice z.1.a4 n.Af.length z.1.c4) (Ci n i p).1.Af z.1.F4,.ow Bi 55 (.slice z.1.a5 n.Ae.length z.1.c5) (Ci n i p).1.Ae z.1.F5,.ow (Gt Al 108) 99 (.slice z.1.a6 n.down.length z.1.c6) (Ci n i p).1.down z.1.F6,.ow (Gt Al 108) 99 (.slice z.1.a7 n.up.length z.1.c7) (Ci n i p).1.up z.1.F7,.ow A9 9 (.slice z.2.a (Ci n i p).2.length z.2.c) (Ci n i p).2 z.2.F]):=by
 obtain ⟨q1,q2,q3,q4⟩:=Bz.1 hl
 have hn8:=h8.n1
 obtain ⟨d0,d1_⟩:=U8 (i:=i)
 refine enter func134 rfl ntmps134 fun w0=>?_
 refine go ?_;intros
 refine cfr (fun w st=>by obtain ⟨Fq,hq⟩:=Yt (st.get (p:=.ow Bd 3 (.slice a1 n.An.Ac.length c1) n.An.Ac F1) (by exact B8));exact ⟨_,H9 hq,rfl,Yg n.An i _ Fq⟩) (fun _ _=>?_)
 refine Ar ?_
 cases hlf:Hw n.An.Ac (i:Nat)
 rotate_left
 ·have hir:i < n.Ae.length:=by omega
  have hgr:=Gm.1 (Jo hir▸hr hlf)
  have hev:=(Pw (d:=Ke i) hgr hp d0 d1_).2
  rw [show Ci n i p=(⟨n.An,n.Ab,n.Af,n.Ae.set i (C9 n.Ae[i] p (Ke i)),n.down,n.up⟩,Ny i (Ff n.Ae[i] p)) by unfold Ci;rw [if_pos hlf,Jo hir]]
  refine go ?_;intros
  refine Va (xs:=n.Ae) (m:=5) i ?_ rfl hir
  rintro _ g5 A5 cs B5 k1 k2 J1 Ji J2 rfl - hc5 hH5
  refine Hp ?_
  rintro b1 d1 G1 b2 d2 G2 ev l1 l2
  obtain rfl:cs=[.bool n.Ae[i].Bg,.int .i64 n.Ae[i].Ai,.int .i64 n.Ae[i].Aa.next,.slice b1 n.Ae[i].Aa.Ao.length d1,.slice b2 n.Ae[i].Ap.length d2]:=by simpa using ev
  refine Aw [5,6] [] ?_
  refine dt 0 ?_
  refine dt 1 ?_
  refine dt 2 ?_
  refine dt 3 ?_
  refine dt 4 ?_
  refine dt 5 ?_
  refine dt 6 ?_
  refine dt 7 ?_
  refine dt 8 ?_
  refine dO 9 (by kernel_rfl) (by rw [List.getElem?_toArray];rfl) ?_
  apply At;rfl;kernel_rfl;exact Be
  refine cf (Z6 i (by omega)) fun _ _=>?_
  refine Ar ?_
  refine dk ?_
  refine dO 10 (by kernel_rfl) (by rw [List.getElem?_toArray];rfl) ?_
  apply At;rfl;kernel_rfl;exact Be
  refine cf (Al6 n.Ae[i] p (Ke i) g5 55 (0+i * 5) A5 B5 b1 d1 G1 b2 d2 G2 hgr hp d0 d1_) fun s _=>?_
  refine Ar ?_
  refine dk ?_
  refine dO 11 (by kernel_rfl) (by rw [List.getElem?_toArray];rfl) ?_
  apply At;rfl;kernel_rfl;exact Be
  refine cfr (fun w st=>by obtain ⟨Fq, -,hq⟩:=(st.get (p:=.ow A9 9 (.slice s.ae (Ff n.Ae[i] p).length s.ce) (Ff n.Ae[i] p) s.Fe) (by exact B8)).2.read;exact ⟨[.sl A9 (.slice s.ae (Ff n.Ae[i] p).length s.ce) (Ff n.Ae[i] p) Fq,Mt FT],Qm ⟨by decide,hq⟩ (st.get (p:=Mt FT) (by exact B8)),rfl,Alq i _ _ _ Fq FT (by omega) (by omega) (Yf hgr hp)⟩) (fun u _=>?_)
  refine Ar ?_
  refine dk ?_
  refine dt 12 ?_
  refine dd ?_
  refine go ?_;intros
  refine Jg (C9 n.Ae[i] p (Ke i)) ?_
  refine Q5 _ hH5 rfl fun J5=>?_
  refine ret (⟨a1,c1,F1,a2,c2,F2,a3,c3,F3,a4,c4,F4,_,c5,J5,a6,c6,F6,a7,c7,F7⟩,⟨0,_,_,_⟩) trivial rfl
 ·have hir:i < n.Af.length:=by omega
  have hge:Bw n.Af[i]=true:=Iw hir▸he hlf
  have hel:=(Ey.1 hge).2.1
  have hkl:=P3 n.An.Ac ((i:Nat):Int)
  have hkx:∀x∈Fv n.An.Ac ((i:Nat):Int),0≤x∧x.toNat < n.down.length:=fun x hx=>by have:=Iy h8 hx;omega
  refine go ?_;intros
  refine cfr (fun w st=>by obtain ⟨Fq,hq⟩:=Yt (st.get (p:=.ow Bd 3 (.slice a1 n.An.Ac.length c1) n.An.Ac F1) (by exact B8));exact ⟨_,H9 hq,rfl,Th n.An ((i:Nat):Int) _ Fq (by show n.An.Ac.length≤1000000;omega)⟩) (fun u _=>?_)
  refine Ar ?_
  refine Ay (E:=Bd) (xs:=Fv n.An.Ac ((i:Nat):Int)) fun Fk=>?_
  refine Bx A9 9 ?_
  refine go ?_;intros
  refine Bf rfl (fun hk=>?_) (fun hk=>?_)
  ·rw [show Ci n i p=(⟨n.An,n.Ab,n.Af.set i (Mm n.Af[i] p.Ad),n.Ae,Dd n.down (Pt n.Af[i] p.Ad (Fv n.An.Ac ((i:Nat):Int))) [p],n.up⟩,[]) by unfold Ci Ww Sw;rw [if_neg (by rw [hlf];decide),if_pos hk,if_pos hk,Iw hir]]
   refine go ?_;intros
   refine Va (xs:=n.Af) (m:=2) i ?_ rfl hir
   rintro _ g5 A5 cs B5 k1 k2 J1 Ji J2 rfl - hc5 hH5
   refine Gh ?_
   rintro b1 d1 G1 ev l1
   obtain rfl:cs=[.int .i64 n.Af[i].Ai,.slice b1 n.Af[i].Ah.length d1]:=by simpa using ev
   refine Aw [6,7] [] ?_
   refine dt 0 ?_
   refine dt 1 ?_
   refine dt 2 ?_
   refine dt 3 ?_
   refine dt 4 ?_
   refine dt 5 ?_
   refine dt 6 ?_
   refine dt 7 ?_
   refine dt 8 ?_
   refine dO 9 (by kernel_rfl) (by rw [List.getElem?_toArray];rfl) ?_
   apply At;rfl;kernel_rfl;exact Be
   refine cf (Agr n.Af[i] p.Ad (Fv n.An.Ac ((i:Nat):Int)) g5 96 (0+i * 2) A5 B5 b1 d1 G1 u.a u.c Fk (by omega) (fun x hx=>by have:=L5 hge hx;omega) (by omega)) fun s _=>?_
   refine Ar ?_
   refine dk ?_
   refine dt 10 ?_
   refine dd ?_
   refine E5 (Mm n.Af[i] p.Ad) ?_
   refine Q5 _ hH5 rfl fun J5=>?_
   refine Ay (E:=Bd) (xs:=Pt n.Af[i] p.Ad (Fv n.An.Ac ((i:Nat):Int))) fun Fk2=>?_
   refine Kx ?_;intros
   refine Dz (E:=Al) (xs:=[p]) (C4 p hps) ?_ (by simp)
   refine Ay (E:=Al) (xs:=[p]) fun Fp=>?_
   refine go ?_;intros
   refine cf (Tj n.down (Pt n.Af[i] p.Ad (Fv n.An.Ac ((i:Nat):Int))) [p] g _ _ _ _ _ _ _ _ _ _ a6 _ c6 F6 _ _ Fk2 _ _ Fp rfl (fun x hx=>hkx x (Ud x hx))) fun J6 _=>?_
   refine Ar ?_
   refine go ?_;intros
   refine ret (⟨a1,c1,F1,a2,c2,F2,a3,c3,F3,_,c4,J5,a5,c5,F5,a6,c6,J6,a7,c7,F7⟩,⟨0,none,0,[]⟩) trivial rfl
  ·rw [show Ci n i p=(⟨n.An,n.Ab,n.Af,n.Ae,Dd n.down (Fv n.An.Ac ((i:Nat):Int)) [p],n.up⟩,[]) by unfold Ci Ww Sw;rw [if_neg (by rw [hlf];decide),if_neg hk,if_neg hk]]
   refine Kx ?_;intros
   refine Dz (E:=Al) (xs:=[p]) (C4 p hps) ?_ (by simp)
   refine Ay (E:=Al) (xs:=[p]) fun Fp=>?_
   refine go ?_;intros
   refine cf (Tj n.down (Fv n.An.Ac ((i:Nat):Int)) [p] g _ _ _ _ _ _ _ _ _ _ a6 _ c6 F6 _ _ Fk _ _ Fp rfl hkx) fun J6 _=>?_
   refine Ar ?_
   refine go ?_;intros
   refine ret (⟨a1,c1,F1,a2,c2,F2,a3,c3,F3,a4,c4,F4,a5,c5,F5,a6,c6,J6,a7,c7,F7⟩,⟨0,none,0,[]⟩) trivial rfl
theorem Qa (y:G0) (w:World):Cq Bh w [.int .i64 y.Ad,.int .i64 y.Cf] [y] []:=⟨_,[],[],[],by simp,by simp,⟨rfl,rfl⟩,rfl,rfl⟩
theorem Ags (xs:List G0) (y:G0) (i:Nat) (a:Option Addr) (c vb:Nat) (F:List Nat) (hi:i≤xs.length) (hl:xs.length≤1000000) :
  Fn prog 236 [.slice a xs.length c,.int .i64 i,.slice (some ⟨vb,0,none⟩) 1 1] [] [.ow Bh 137 (.slice a xs.length c) xs F,.row vb 137 0 [] [.int .i64 y.Ad,.int .i64 y.Cf] []] (fun (_:Option Addr × Nat × List Nat)=>True)
   (fun z=>.slice z.1 (xs.take i++y::xs.drop i).length z.2.1) (fun z=>[.ow Bh 137 (.slice z.1 (xs.take i++y::xs.drop i).length z.2.1) (xs.take i++y::xs.drop i) z.2.2]):=by
 have hone:∀w':World,∀cs:List Value,Cq Bh w' cs xs []→∀u∈cs,u.oneCell'=true:=fun w' cs h=>h.one' Hl
 have hy:=Qa y
 have h1y:∀u∈([.int .i64 y.Ad,.int .i64 y.Cf]:List Value),u.oneCell'=true:=by intro u hu;simp at hu;rcases hu with rfl|rfl|rfl|rfl <;> rfl
 refine enter func236 rfl ntmps236 fun w0=>?_
 refine Agj (E:=Bh) fun hc1 hc2=>?_
 refine go ?_;intros
 apply wO
 refine Abt rfl rfl rfl rfl hi (fun _=>?_) hc1
 refine go ?_;intros
 refine Bf rfl (fun h1=>?_) (fun h1=>?_)
 ·have hin:i=xs.length:=by omega
  subst hin
  have e:xs.take xs.length++y::xs.drop xs.length=xs++[y]:=by simp
  refine go ?_;intros
  apply wO
  refine Lh hy Hl fun a2 c2 F2=>?_
  rw [e]
  refine go ?_;intros
  refine ret (a2,c2,F2) trivial rfl
 ·have hlt:i < xs.length:=by omega
  refine Ab5 (xs:=xs) I8 (by rintro rfl;simp at hlt) ?_
  rintro g cs rest rfl - - - hcl hcr hfl
  rw [show Bh.sz=2 from rfl] at hcl hcr
  have h1c:=hone w0 cs (hfl w0)
  obtain ⟨A,B,hcs,hA,hB⟩:∃A B,cs=A++B∧A=cs.take (i * 2)∧B=cs.drop (i * 2):=⟨_,_,(List.take_append_drop _ _).symm,rfl,rfl⟩
  have hAl:A.length=i * 2:=by rw [hA,List.length_take];omega
  have hBl:B.length=(xs.length - i) * 2:=by rw [hB,List.length_drop];omega
  have hins:∀w,Cq Bh w (A++[.int .i64 y.Ad,.int .i64 y.Cf]++B) (xs.take i++y::xs.drop i) []:=fun w=>by rw [hA,hB];exact (hfl w).insL (hy w) i hi
  have h1A:∀u∈A,u.oneCell'=true:=fun u hu=>h1c u (by rw [hcs];simp [hu])
  have h1B:∀u∈B,u.oneCell'=true:=fun u hu=>h1c u (by rw [hcs];simp [hu])
  have hlen:(xs.take i++y::xs.drop i).length=xs.length+1:=by simp;omega
  clear hA hB hfl hone
  subst hcs
  have eA:A=((A++B++rest).drop 0).take (i * 2):=by rw [List.drop_zero,List.append_assoc,List.take_left' hAl]
  have eB:B=((A++B++rest).drop (0+i * 2)).take ((xs.length - i) * 2):=by rw [Nat.zero_add,List.append_assoc,List.drop_left' hAl,List.take_left' hBl]
  rw [hlen]
  refine go ?_;intros
  apply wO;apply oc;rfl;exact Afq rfl
  refine go ?_;intros
  refine Bf rfl (fun h2=>?_) (fun h2=>?_)
  ·refine go ?_;intros
   apply wO;apply oc;rfl;exact Lq (i:=i) rfl rfl rfl (by omega) (by omega)
   refine go ?_;intros
   apply wO
   refine Ae6 (k:=xs.length+1 - i) (olds:=A) rfl rfl rfl (by omega) (Jz (m:=i * 2) (.head _) eA) (by omega) (by decide) (by omega) (by omega) (by omega) (by omega) fun g' cp' Z rest' h3 h4 h5 h6=>?_
   rw [show i+(xs.length+1 - i)=xs.length+1 by omega] at h3 ⊢
   obtain ⟨Z1,Z2,rfl,hZ1,hZ2⟩:∃Z1 Z2,Z=Z1++Z2∧Z1.length=2∧Z2.length=B.length:=⟨Z.take 2,Z.drop 2,(List.take_append_drop _ _).symm,by rw [List.length_take];omega,by rw [List.length_drop];omega⟩
   refine go ?_;intros
   apply wO;apply oc;rfl;exact Ik (i:=i) rfl rfl rfl (by omega) (by omega) (by omega)
   refine go ?_;intros
   apply wO
   refine Rd (cs:=[.int .i64 y.Ad,.int .i64 y.Cf]) (L':=A++[.int .i64 y.Ad,.int .i64 y.Cf]++(Z2++rest')) rfl rfl rfl (Jz (L:=[.int .i64 y.Ad,.int .i64 y.Cf]) (o:=0) (m:=2) (by exact B8) rfl) .here (Wv (M:=Z1) (by simp [List.append_assoc]) (by omega) (by simpa using hZ1)) (by show 2=min 1 (xs.length+1 - i) * 2;omega) (by simp only [List.length_append,List.length_cons,List.length_nil];omega) h1y ?_
   refine go ?_;intros
   refine Aw [] [] ?_
   refine dt 0 ?_
   refine dt 1 ?_
   refine dt 2 ?_
   refine dt 3 ?_
   refine dt 4 ?_ (hy:=Ik (i:=i+1) rfl rfl (by omega) (by omega) (by omega) (by omega))
   refine dt 5 ?_
   refine dt 6 ?_
   refine dt 7 ?_ (hy:=Ik (i:=i) rfl rfl (by omega) (by omega) (by omega) (by omega))
   refine dO 8 (by kernel_rfl) (by rw [List.getElem?_toArray];rfl) ?_
   refine Rd (cs:=B) (L':=A++[.int .i64 y.Ad,.int .i64 y.Cf]++B++rest') rfl rfl rfl (Jz (by exact B8) eB) .here (Wv (P:=A++[.int .i64 y.Ad,.int .i64 y.Cf]) (M:=Z2) (by simp [List.append_assoc]) (by simp only [List.length_append,List.length_cons,List.length_nil];omega) hZ2) (by rw [hBl];congr 1;show _=min (xs.length - i) (xs.length+1 - (i+1));omega) (by simp only [List.length_append,List.length_cons,List.length_nil];omega) h1B ?_
   refine dk ?_
   refine dd ?_
   refine Vw (cs:=A++[.int .i64 y.Ad,.int .i64 y.Cf]++B) (rest:=rest') (xs:=xs.take i++y::xs.drop i) cp' rfl hins (by omega) h4 (by rw [show Bh.sz=2 from rfl];simp only [List.length_append,List.length_cons,List.length_nil] at h6 ⊢;omega) ?_
   rw [hlen]
   refine go ?_;intros
   refine ret (_,cp',[g']) trivial rfl
  ·have hcx:xs.length+1≤c:=by omega
   obtain ⟨X,Y,hXY,hX,hY⟩:=Afg (B:=B) (R:=rest) 2 (by omega)
   refine go ?_;intros
   apply wO;apply oc;rfl;exact Lq (i:=xs.length+1) rfl rfl (by omega) (by omega) (by omega)
   refine go ?_;intros
   apply wO;apply oc;rfl;exact Ik (i:=i+1) rfl rfl (by omega) (by omega) (by omega) (by omega)
   refine Kx ?_;intros
   apply wO
   refine Akl rfl Be (ovl (tS:=32) (tR:=4) (run_callFunc_extern func263 (by kernel_rfl) (by kernel_rfl) (by kernel_rfl) (e:=Extern.SlicesOverlaps.overlaps #[32,32] #[4]) (by kernel_rfl)) (.there .here) (.head _) (by intro e;have:=congrArg List.length e;simp only [List.length_append,List.length_nil] at this;omega)) ?_
   refine go ?_;intros
   refine Aw [] [] ?_
   refine dt 0 ?_
   refine dt 1 ?_
   refine dt 2 ?_
   refine dt 3 ?_
   refine dt 4 ?_ (hy:=Ik (i:=i+1) rfl rfl (by omega) (by omega) (by omega) (by omega))
   refine dt 5 ?_
   refine dt 6 ?_
   refine dt 7 ?_ (hy:=Ik (i:=i) rfl rfl (by omega) (by omega) (by omega) (by omega))
   refine dO 8 (by kernel_rfl) (by rw [List.getElem?_toArray];rfl) ?_
   refine Rd (cs:=B) (L':=A++X++B++rest.drop 2) rfl rfl rfl (Jz (by exact B8) eB) .here (Wv (P:=A++X) (M:=Y) (by rw [List.append_assoc A B rest,hXY];simp [List.append_assoc]) (by simp only [List.length_append];omega) hY) (by rw [hBl];congr 1;show _=min (xs.length+1 - i) (xs.length+1 - (i+1));omega) (by simp only [List.length_append];omega) h1B ?_
   refine dk ?_
   refine dd ?_
   refine go ?_;intros
   apply wO;apply oc;rfl;exact Ik (i:=i) rfl rfl rfl (by omega) (by omega) (by omega)
   refine go ?_;intros
   apply wO
   refine Rd (cs:=[.int .i64 y.Ad,.int .i64 y.Cf]) (L':=A++[.int .i64 y.Ad,.int .i64 y.Cf]++(B++rest.drop 2)) rfl rfl rfl (Jz (L:=[.int .i64 y.Ad,.int .i64 y.Cf]) (o:=0) (m:=2) (by exact B8) rfl) .here (Wv (M:=X) (by simp [List.append_assoc]) (by omega) (by simpa using hX)) (by show 2=min 1 (xs.length+1 - i) * 2;omega) (by simp only [List.length_append,List.length_cons,List.length_nil];omega) h1y ?_
   refine go ?_;intros
   refine Vw (L:=A++[.int .i64 y.Ad,.int .i64 y.Cf]++(B++rest.drop 2)) (cs:=A++[.int .i64 y.Ad,.int .i64 y.Cf]++B) (rest:=rest.drop 2) (xs:=xs.take i++y::xs.drop i) c (by simp [List.append_assoc]) hins (by omega) (by omega) (by rw [show Bh.sz=2 from rfl];simp only [List.length_append,List.length_cons,List.length_nil,List.length_drop];omega) ?_
   rw [hlen]
   refine ret (_,c,[g]) trivial rfl
instance:IntC prog 153 .u64:=⟨underlying153⟩
theorem Ael (fid:FuncId) (caps:List Value) (A:List Pc) (hA:A.all (fun p=>!p.mu)=true) (xs:List G0) (a:Option Addr) (c:Nat) (F:List Nat) (tv:Value) (f:G0→Int) (hm:∀i j (_:i≤j) (hj:j < xs.length),f xs[j] < 0→f (xs[i]'(by omega)) < 0) (hb:N0 prog fid=true) (hl:xs.length≤1000000)
  (hp:∀x∈xs,∀w,Ms A w→Calls prog fid ([.agg #[.int .i64 x.Ad,.int .i64 x.Cf],tv]++caps).toArray w fun e w'=>e=.returned (.int .i64 (f x))∧Below w.heap.size w w') :
  Fn prog 261 [.slice a xs.length c,tv,.func (.func fid) #[] caps.toArray] (.sl Bh (.slice a xs.length c) xs F::A) [] (fun (_:Unit)=>True) (fun _=>.tuple #[.int .i64 ((xs.takeWhile fun x=>decide (f x < 0)).length:Nat),.bool (Amu f xs[(xs.takeWhile fun x=>decide (f x < 0)).length]?)]) (fun _=>[]):=by
 refine enter func261 rfl ntmps261 (fun w0=>?_) rfl (by simpa [Pc.mu] using hA) .nil
 refine go ?_;intros
 refine H2 [0,1,2,6,7,8] (fun s:Nat × Nat=>[(9,.int .i64 (s.1:Nat)),(10,.int .i64 (s.2:Nat))]) (fun s=>s.1≤s.2∧s.2≤xs.length∧(∀j (_:j < s.1) (h:j < xs.length),f xs[j] < 0)∧(∀j (_:s.2≤j) (h:j < xs.length),¬f xs[j] < 0)) (fun s=>s.2 - s.1) (0,xs.length) ⟨Nat.zero_le _,Nat.le_refl _,fun j h=>by omega,fun j h1 h2=>by omega⟩ fun s hs=>?_
 obtain ⟨i,j⟩:=s
 obtain ⟨h1,h2,h3,h4⟩:=hs
 dsimp only at h1 h2 h3 h4 ⊢
 refine go ?_;intros
 refine Bf rfl (fun h5=>?_) (fun h5=>?_)
 ·have hh:(i+j) / 2 < xs.length:=by omega
  have e2:((i:Int)+(j:Int)) / 2=(((i+j) / 2:Nat):Int):=by omega
  refine go ?_;intros
  apply wO;apply oc;rfl;exact Afr rfl (by omega) (by omega)
  refine go ?_;intros
  apply wO;apply oc;rfl;exact Ab8 rfl
  rw [e2]
  apply wO;apply oc;rfl;exact Ago rfl (by omega) (by omega)
  generalize hq:(i+j) / 2=q at hh
  refine go ?_;intros
  refine Rk (xs:=xs) q ?_
  rintro hi b o e
  rw [e]
  refine go ?_;intros
  apply wO
  refine Xh rfl rfl hb Be ?_
  refine cb (fun w st=>hp xs[q] (List.getElem_mem hh) w (fun p hp=>st.on p (by simp [hp]))) ?_
  refine go ?_;intros
  refine Bf rfl (fun h6=>?_) (fun h6=>?_)
  ·refine go ?_;intros
   refine Q3 ?_
   refine Ct (hH:=Ir _) (q+1,j) ⟨by show q+1≤j;omega,h2,fun k hk h=>hm k q (by have:k < q+1:=hk;omega) hh h6,h4⟩ (by show j - (q+1) < j - i;omega)
  ·refine go ?_;intros
   refine Q3 ?_
   refine Ct (hH:=Ir _) (i,q) ⟨by show i≤q;omega,by show q≤xs.length;omega,h3,fun k hk h hn=>h6 (hm q k hk h hn)⟩ (by show q - i < j - i;omega)
 ·have hij:i=j:=by omega
  subst hij
  have hk:(xs.takeWhile fun x=>decide (f x < 0)).length=i:=R8 h2 (fun j hj h=>decide_eq_true (h3 j hj h)) (fun h=>decide_eq_false (h4 i (Nat.le_refl _) h))
  rw [hk]
  refine go ?_;intros
  refine Ee rfl rfl (fun h6=>?_) (fun h6=>?_)
  ·have hh:i < xs.length:=by omega
   rw [List.getElem?_eq_getElem hh]
   refine go ?_;intros
   refine Rk (xs:=xs) i ?_
   rintro hi b o e
   rw [e]
   refine go ?_;intros
   apply wO
   refine Xh rfl rfl hb Be ?_
   refine cb (fun w st=>hp xs[i] (List.getElem_mem hh) w (fun p hp=>st.on p (by simp [hp]))) ?_
   refine go ?_;intros
   refine ret () trivial rfl
  ·rw [List.getElem?_eq_none (by omega)]
   refine go ?_;intros
   refine ret () trivial rfl
theorem Xy {W:Ax} {p:As} (hg:Do W=true):(Da W p).1.data.size≤maxLen:=by
 unfold Da
 split
 ·rename_i h
  unfold Hx at h
  simp only [Bool.and_eq_true] at h
  have hk:=Uj h.2
  show (Qn W p.Ad).size≤maxLen
  rw [P0 hk]
  have:=List.all_eq_true.1 (Dw.1 hg).2.2.2 _ (List.getElem_mem hk)
  unfold N1 at this
  simp only [Bool.and_eq_true,decide_eq_true_eq] at this
  unfold maxLen
  omega
 ·decide
theorem Ail {t n:Int} {hs:List G0} (hser:∀h∈hs,Ca h.Ad=true) (hn:0≤n∧n≤65535):(hs.takeWhile fun x=>decide (gp t x.Ad - gp t n < 0)).length=Ek t hs n ∧
  Amu (fun x:G0=>gp t x.Ad - gp t n) hs[(hs.takeWhile fun x=>decide (gp t x.Ad - gp t n < 0)).length]?=Lp t hs n:=by
 have e:(fun x:G0=>decide (gp t x.Ad - gp t n < 0))=fun h=>decide (gp t h.Ad < gp t n):=by
  funext x;rw [decide_eq_decide];omega
 have e1:(hs.takeWhile fun x=>decide (gp t x.Ad - gp t n < 0)).length=Ek t hs n:=by unfold Ek;rw [e]
 refine ⟨e1,?_⟩
 rw [e1]
 unfold Lp
 cases hq:hs[Ek t hs n]? with
 | none=>rfl
 | some z =>
  show decide (gp t z.Ad - gp t n=0)=decide (z.Ad=n)
  rw [decide_eq_decide]
  have hz:=Ba.1 (hser z (List.mem_of_getElem? hq))
  exact ⟨fun h=>Ajy (t:=t) hz hn (by omega),fun h=>by rw [h];omega⟩
theorem Aq6 (h:G0) (n t:Int) (gb g o:Nat) (v1 v2 v3 v4 v5:Value) (t0:0≤t) (t1:t≤65535) (n0:0≤n) (n1:n≤65535) (m0:0≤h.Ad) (m1:h.Ad≤65535) :
  Fn prog 262 [.agg #[.int .i64 h.Ad,.int .i64 h.Cf],.int .i64 n,Eu gb 0 0] [.cel gb 0 [Eu g o 0],.cel g o [.int .i64 t,v1,v2,v3,v4,v5]] [] (fun (_:Unit)=>True) (fun _=>.int .i64 (gp t h.Ad - gp t n)) (fun _=>[]):=by
 have b1:=In t h.Ad
 have b2:=In t n
 refine enter func262 rfl ntmps262 fun w0=>?_
 refine go ?_;intros
 refine Aw [0,1,2] [] ?_
 refine dt 0 ?_
 refine dt 1 ?_
 refine dt 2 ?_
 refine dt 3 ?_
 refine dt 4 ?_
 refine dt 5 ?_
 refine dt 6 ?_
 refine dt 8 ?_
 refine dt 9 ?_
 refine dt 10 ?_
 refine dt 11 ?_
 refine dt 12 ?_
 refine dt 13 ?_
 refine dO 7 (by kernel_rfl) (by rw [List.getElem?_toArray];rfl) ?_
 apply At;rfl;kernel_rfl;exact Be
 refine ce (fun w s=>Ls _ _ _ (by omega) (by omega) (by omega) (by omega)) ?_
 refine dk ?_
 refine dO 14 (by kernel_rfl) (by rw [List.getElem?_toArray];rfl) ?_
 apply At;rfl;kernel_rfl;exact Be
 refine ce (fun w s=>Ls _ _ _ (by omega) (by omega) (by omega) (by omega)) ?_
 refine dk ?_
 refine dt 15 ?_
 refine dt 16 ?_
 refine dd ?_
 refine go ?_;intros
 refine ret () trivial rfl
theorem Aeu (W:Ax) (hs:List G0) (n:Int) (g t o:Nat) (A B:List Value) (a a2:Option Addr) (c c2:Nat) (cl q:Int) (F2:List Nat) (t0:0≤W.Ak) (t1:W.Ak≤65535) (n0:0≤n) (n1:n≤65535) (hser:∀h∈hs,Ca h.Ad=true) (hsr:srt W.Ak hs) (hl:hs.length≤1000000) :
  Fn prog 235 [Eu g o 0,.int .i64 n] [] [.row g t o A [.int .i64 W.Ak,.int .i64 W.size,.slice a W.Aj.length c,.int .i64 cl,.int .i64 q,.slice a2 hs.length c2] B,.ow Bh 137 (.slice a2 hs.length c2) hs F2] (fun (_:Unit)=>True) (fun _=>.tuple #[.int .i64 (Ek W.Ak hs n:Nat),.bool (Lp W.Ak hs n)]) (fun _=>[.row g t o A [.int .i64 W.Ak,.int .i64 W.size,.slice a W.Aj.length c,.int .i64 cl,.int .i64 q,.slice a2 hs.length c2] B,.ow Bh 137 (.slice a2 hs.length c2) hs F2]):=by
 have hs1:=Ail (t:=W.Ak) hser ⟨n0,n1⟩
 refine enter func235 rfl ntmps235 fun w0=>?_
 refine go ?_;intros
 rename_i gb
 refine cb (fun w st=>by
  have r1:=st.get (p:=.row gb 167 0 [] [Eu g o 0] []) (by simp)
  have r2:=st.get (p:=.row g t o A [.int .i64 W.Ak,.int .i64 W.size,.slice a W.Aj.length c,.int .i64 cl,.int .i64 q,.slice a2 hs.length c2] B) (by simp)
  obtain ⟨Fw, -,hw⟩:=(st.get (p:=.ow Bh 137 (.slice a2 hs.length c2) hs F2) (by simp)).2.read
  refine (Ael 262 [Eu gb 0 0] [.cel gb 0 [Eu g o 0],.cel g o [.int .i64 W.Ak,.int .i64 W.size,.slice a W.Aj.length c,.int .i64 cl,.int .i64 q,.slice a2 hs.length c2]] rfl hs a2 c2 Fw (.int .i64 n) (fun h=>gp W.Ak h.Ad - gp W.Ak n) (fun i j hij hj h=>?_) (by kernel_rfl) hl fun x hx w' hA=>?_).val w ?_
  ·rcases Nat.lt_or_eq_of_le hij with h2|rfl
   ·have:=List.pairwise_iff_getElem.1 hsr i j (by omega) hj h2;omega
   ·exact h
  ·obtain ⟨m0,m1⟩:=Ba.1 (hser x hx)
   exact (Aq6 x n W.Ak gb g o _ _ _ _ _ t0 t1 n0 n1 m0 m1).val w' hA
  ·intro p hp
   simp only [List.mem_cons,List.not_mem_nil,or_false] at hp
   rcases hp with rfl|rfl|rfl
   ·exact ⟨by decide,hw⟩
   ·exact ⟨by simp,Fg r1⟩
   ·exact ⟨by simp,Fg r2⟩) ?_
 rw [hs1.2]
 rw [hs1.1]
 refine go ?_;intros
 refine ret () trivial rfl
structure ReS where
 a:Option Addr
 c:Nat
 a2:Option Addr
 c2:Nat
 F:List Nat
 ae:Option Addr
 ce:Nat
 Fe:List Nat
theorem Xx (W:Ax) (hs:List G0) (p:As) (g t o:Nat) (A B:List Value) (a a2:Option Addr) (c c2:Nat) (cl q:Int) (F F2:List Nat) (hg:Cd ⟨W,cl,q,hs⟩=true) (n0:0≤p.Ad) (n1:p.Ad≤65535) (hps:p.data.size≤maxLen) :
  Fn prog 197 [Eu g o 0,.agg #[.int .i64 p.C2,.int .i64 p.Ad,.int .i64 p.Ak,.int .i64 p.D0,.string p.data]] [] [.row g t o A [.int .i64 W.Ak,.int .i64 W.size,.slice a W.Aj.length c,.int .i64 cl,.int .i64 q,.slice a2 hs.length c2] B,.ow Bh 137 (.slice a2 hs.length c2) hs F2,.ow A9 9 (.slice a W.Aj.length c) W.Aj F] (fun (_:ReS)=>True)
   (fun z=>.slice z.ae (J8 ⟨W,cl,q,hs⟩ p).length z.ce) (fun z=>[.row g t o A [.int .i64 W.Ak,.int .i64 W.size,.slice a W.Aj.length c,.int .i64 cl,.int .i64 q,.slice z.a2 (I0 ⟨W,cl,q,hs⟩ p.Ad).holds.length z.c2] B,.ow Bh 137 (.slice z.a2 (I0 ⟨W,cl,q,hs⟩ p.Ad).holds.length z.c2) (I0 ⟨W,cl,q,hs⟩ p.Ad).holds z.F,.ow A9 9 (.slice a W.Aj.length c) W.Aj F,.ow Al 108 (.slice z.ae (J8 ⟨W,cl,q,hs⟩ p).length z.ce) (J8 ⟨W,cl,q,hs⟩ p) z.Fe]):=by
 obtain ⟨gw,hl,t0,t1,k0,k1,hm,hn,hu,hbb⟩:=Mi hg
 have hsr:=(Ej.1 hg).2.2.2.2
 dsimp only at gw hl t0 t1 k0 k1 hm hn hu hbb hsr
 have hl2:hs.length≤1000000:=by omega
 have hW:Do W=true:=gw
 refine enter func197 rfl ntmps197 fun w0=>?_
 cases hb:Gw W p.Ad
 ·have e1:I0 ⟨W,cl,q,hs⟩ p.Ad=⟨W,cl,q,hs⟩:=by unfold I0;dsimp only;rw [hb];rfl
  have e2:J8 ⟨W,cl,q,hs⟩ p=[Nr W]:=by unfold J8;dsimp only;rw [hb];rfl
  rw [e1,e2]
  refine go ?_;intros
  refine Aw [0,1] [] ?_
  refine dt 0 ?_
  refine dt 1 ?_
  refine dt 2 ?_
  refine dt 3 ?_
  refine dt 4 ?_
  refine dt 5 ?_
  refine dO 6 (by kernel_rfl) (by rw [List.getElem?_toArray];rfl) ?_
  apply At;rfl;kernel_rfl;exact Be
  refine cb (fun w st=>by obtain ⟨Fw, -,hw⟩:=(st.get (p:=.ow A9 9 (.slice a W.Aj.length c) W.Aj F) (by simp)).2.read;exact (Rq W p.Ad (.agg #[.int .i64 W.Ak,.int .i64 W.size,.slice a W.Aj.length c]) Fw t0 t1 n0 n1).val w (H9 ⟨_,rfl,_,rfl,hw⟩)) ?_
  rw [hb]
  refine dk ?_
  refine dt 7 ?_
  refine dd ?_
  refine go ?_;intros
  refine cf (Ad5 W.Ak W.size a W.Aj.length c t0 t1 (by omega)) fun _ _=>?_
  refine Ar ?_
  refine go ?_;intros
  refine Dz (xs:=[Nr W]) (C4 _ (by show (⟨#[]⟩:ByteArray).size≤maxLen;decide)) ?_ (by simp)
  refine ret ⟨a,c,a2,c2,F2,_,_,_⟩ trivial rfl
 refine go ?_;intros
 refine Aw [0,1] [] ?_
 refine dt 0 ?_
 refine dt 1 ?_
 refine dt 2 ?_
 refine dt 3 ?_
 refine dt 4 ?_
 refine dt 5 ?_
 refine dO 6 (by kernel_rfl) (by rw [List.getElem?_toArray];rfl) ?_
 apply At;rfl;kernel_rfl;exact Be
 refine cb (fun w st=>by obtain ⟨Fw, -,hw⟩:=(st.get (p:=.ow A9 9 (.slice a W.Aj.length c) W.Aj F) (by simp)).2.read;exact (Rq W p.Ad (.agg #[.int .i64 W.Ak,.int .i64 W.size,.slice a W.Aj.length c]) Fw t0 t1 n0 n1).val w (H9 ⟨_,rfl,_,rfl,hw⟩)) ?_
 rw [hb]
 refine dk ?_
 refine dt 7 ?_
 refine dd ?_
 refine go ?_;intros
 refine Aw [0,1] [] ?_
 refine dt 0 ?_
 refine dt 1 ?_
 refine dt 2 ?_
 refine dt 3 ?_
 refine dt 4 ?_
 refine dt 5 ?_
 refine dt 6 ?_
 refine dt 7 ?_
 refine dt 8 ?_
 refine dt 9 ?_
 refine dt 10 ?_
 refine dO 11 (by kernel_rfl) (by rw [List.getElem?_toArray];rfl) ?_
 apply At;rfl;kernel_rfl;exact Be
 refine cb (fun w _=>Iu _ _ _ _ _ w t0 t1 (by omega)) ?_
 refine dk ?_
 refine dt 12 ?_
 refine dO 13 (by kernel_rfl) (by rw [List.getElem?_toArray];rfl) ?_
 apply Hh;rfl;rfl;rfl;rfl;exact Hb;exact Gp;intro _
 refine dk ?_
 refine dt 14 ?_
 refine dd ?_
 refine Kx ?_;intros
 refine Dz (xs:=[Su W p.Ad]) (C4 _ (by show (⟨#[]⟩:ByteArray).size≤maxLen;decide)) ?_ (by simp)
 refine go ?_;intros
 refine cf (Aeu W hs p.Ad g t o A B a a2 c c2 cl q F2 t0 t1 n0 n1 hn hsr hl2) fun _ _=>?_
 refine Ar ?_
 cases ht:Lp W.Ak hs p.Ad
 ·have e1:I0 ⟨W,cl,q,hs⟩ p.Ad=⟨W,cl,q,Iv hs (Ek W.Ak hs p.Ad) ⟨p.Ad,cl+3⟩⟩:=by unfold I0;dsimp only;rw [hb,ht];rfl
  have e2:J8 ⟨W,cl,q,hs⟩ p=[Su W p.Ad]++[(Da W p).1]:=by unfold J8;dsimp only;rw [hb,ht];rfl
  rw [e1,e2]
  refine go ?_;intros
  refine Aw [0,3] [18] ?_
  refine dt 0 ?_
  refine dt 1 ?_
  refine dt 2 ?_
  refine dt 3 ?_
  refine dt 4 ?_
  refine dt 5 ?_
  refine dt 6 ?_
  refine dt 7 ?_
  refine dt 8 ?_
  refine dt 9 ?_
  refine dt 10 ?_
  refine dt 11 ?_
  refine dt 12 ?_
  refine dt 13 ?_
  refine dO 14 (by kernel_rfl) (by rw [List.getElem?_toArray];rfl) ?_
  apply Hh;rfl;rfl;rfl;rfl;exact Hb;exact Gp;intro _
  refine dk ?_
  refine dO 15 (by kernel_rfl) (by rw [List.getElem?_toArray];rfl) ?_
  apply At;rfl;kernel_rfl;exact Be
  refine cf (Ags hs ⟨p.Ad,cl+3⟩ (Ek W.Ak hs p.Ad) a2 c2 _ F2 (Sh _ _ _) hl2) fun z _=>?_
  refine Ar ?_
  refine dk ?_
  refine dt 16 ?_
  refine dt 17 ?_
  refine dO 18 (by kernel_rfl) (by rw [List.getElem?_toArray];rfl) ?_
  apply Cu;rfl;rfl;rfl;(first|exact AggC.s|exact OneC.s);rfl;exact Cw;exact Cv;rfl
  refine Mg ?_
  refine dd ?_
  refine go ?_;intros
  refine Aw [1,3] [] ?_
  refine dt 0 ?_
  refine dt 1 ?_
  refine dt 2 ?_
  refine dt 3 ?_
  refine dt 4 ?_
  refine Ob 5 9 (by kernel_rfl) (by rw [List.getElem?_toArray];rfl) (by rw [List.getElem?_toArray];rfl) ?_ ?_
  ·apply At;rfl;kernel_rfl;exact Be
   refine cb (fun w st=>by obtain ⟨Fw, -,hw⟩:=(st.get (p:=.ow A9 9 (.slice a W.Aj.length c) W.Aj F) (by simp)).2.read;exact (Xp W p (.agg #[.int .i64 W.Ak,.int .i64 W.size,.slice a W.Aj.length c]) Fw hps).val w (H9 ⟨_,rfl,_,rfl,hw⟩)) ?_
   refine dk ?_
   refine dt 6 ?_
   refine dt 7 ?_
   refine dt 8 ?_
   refine dO 9 (by kernel_rfl) (by rw [List.getElem?_toArray];rfl) ?_
   apply Co;rfl;intro _
   refine dk ?_
   refine dO 10 (by kernel_rfl) (by rw [List.getElem?_toArray];rfl) ?_
   apply Cu;rfl;rfl;rfl;(first|exact AggC.s|exact OneC.s);rfl;exact Cw;exact Cv;rfl
   refine dk ?_
   refine dt 11 ?_
   refine dd ?_
   refine go ?_;intros
   apply wO
   refine Lh (C4 (Da W p).1 (Xy hW)) Gz fun a9 c9 F9=>?_
   refine go ?_;intros
   refine ret ⟨a,c,z.1,z.2.1,_,a9,c9,F9⟩ trivial rfl
  ·apply Co;rfl;intro _
   refine dk ?_
   refine dO 5 (by kernel_rfl) (by rw [List.getElem?_toArray];rfl) ?_
   apply At;rfl;kernel_rfl;exact Be
   refine cb (fun w st=>by obtain ⟨Fw, -,hw⟩:=(st.get (p:=.ow A9 9 (.slice a W.Aj.length c) W.Aj F) (by simp)).2.read;exact (Xp W p (.agg #[.int .i64 W.Ak,.int .i64 W.size,.slice a W.Aj.length c]) Fw hps).val w (H9 ⟨_,rfl,_,rfl,hw⟩)) ?_
   refine dk ?_
   refine dt 6 ?_
   refine dt 7 ?_
   refine dt 8 ?_
   refine dO 10 (by kernel_rfl) (by rw [List.getElem?_toArray];rfl) ?_
   apply Cu;rfl;rfl;rfl;(first|exact AggC.s|exact OneC.s);rfl;exact Cw;exact Cv;rfl
   refine dk ?_
   refine dt 11 ?_
   refine dd ?_
   refine go ?_;intros
   apply wO
   refine Lh (C4 (Da W p).1 (Xy hW)) Gz fun a9 c9 F9=>?_
   refine go ?_;intros
   refine ret ⟨a,c,z.1,z.2.1,_,a9,c9,F9⟩ trivial rfl
 ·have e1:I0 ⟨W,cl,q,hs⟩ p.Ad=⟨W,cl,q,hs⟩:=by unfold I0;dsimp only;rw [hb,ht];rfl
  have e2:J8 ⟨W,cl,q,hs⟩ p=[Su W p.Ad]:=by unfold J8;dsimp only;rw [hb,ht];rfl
  rw [e1,e2]
  refine go ?_;intros
  refine ret ⟨a,c,a2,c2,F2,_,_,_⟩ trivial rfl
theorem Ap0 (x:Ch) (n:Int):(I0 x n).Aa=x.Aa:=by unfold I0;split <;> rfl
theorem Apy (x:Ch) (n:Int):(I0 x n).Ai=x.Ai:=by unfold I0;split <;> rfl
theorem Apz (x:Ch) (n:Int):(I0 x n).quiet=x.quiet:=by unfold I0;split <;> rfl
theorem Agd {n:Eg} {i k:Nat} (hg:Mw n.An.Ac) (hi:i < n.An.Ac.length) (h0:i≠0) (h:Sq n i=k):n.An.Ac[i]=((k:Nat):Int)∧k < i∧Hw n.An.Ac ((k:Nat):Int)=false:=by
 have h1:=hg.p i hi (by omega)
 have e:n.An.Ac.getD i 0=n.An.Ac[i]:=Nu hi 0
 unfold Sq at h
 rw [e] at h
 have e2:n.An.Ac[i]=((k:Nat):Int):=by omega
 refine ⟨e2,by omega,?_⟩
 unfold Hw
 rw [←e2,decide_eq_true (List.getElem_mem hi)];rfl
theorem Alu (n:Eg) (i:Nat) (p:As) (g:Nat) (a1:Option Addr) (c1:Nat) (F1:List Nat) (a2:Option Addr) (c2:Nat) (F2:List Nat) (a3:Option Addr) (c3:Nat) (F3:List Nat) (a4:Option Addr) (c4:Nat) (F4:List Nat) (a5:Option Addr) (c5:Nat) (F5:List Nat) (a6:Option Addr) (c6:Nat) (F6:List Nat) (a7:Option Addr) (c7:Nat) (F7:List Nat) (hl:L7 n=true) (h0:i≠0) (hi:i < n.An.Ac.length) (h8:Mw n.An.Ac) (hsrc:Cd n.Ab=true) (he:∀k,k≠0→k < n.An.Ac.length→Hw n.An.Ac (k:Nat)=false→Bw (Pj n k)=true) (hp:Bk p=true) (hps:p.data.size≤maxLen) :
  Fn prog 135 [Eu g 0 0,.int .i64 (i:Nat),.agg #[.int .i64 (p).C2,.int .i64 (p).Ad,.int .i64 (p).Ak,.int .i64 (p).D0,.string (p).data]] [] [.row g 39 0 [] [.slice a1 n.An.Ac.length c1,.int .i64 n.Ab.Aa.Ak,.int .i64 n.Ab.Aa.size,.slice a2 n.Ab.Aa.Aj.length c2,.int .i64 n.Ab.Ai,.int .i64 n.Ab.quiet,.slice a3 n.Ab.holds.length c3,.slice a4 n.Af.length c4,.slice a5 n.Ae.length c5,.slice a6 n.down.length c6,.slice a7 n.up.length c7] [],.ow Bd 3 (.slice a1 n.An.Ac.length c1) n.An.Ac F1,.ow A9 9 (.slice a2 n.Ab.Aa.Aj.length c2) n.Ab.Aa.Aj F2,.ow Bh 137 (.slice a3 n.Ab.holds.length c3) n.Ab.holds F3,.ow Bm 96 (.slice a4 n.Af.length c4) n.Af F4,.ow Bi 55 (.slice a5 n.Ae.length c5) n.Ae F5,.ow (Gt Al 108) 99 (.slice a6 n.down.length c6) n.down F6,.ow (Gt Al 108) 99 (.slice a7 n.up.length c7) n.up F7] (fun (_:NV)=>True) (fun _=>.tuple #[]) (fun z=>[.row g 39 0 [] [.slice z.a1 n.An.Ac.length z.c1,.int .i64 (Lx n i p).Ab.Aa.Ak,.int .i64 (Lx n i p).Ab.Aa.size,.slice z.a2 (Lx n i p).Ab.Aa.Aj.length z.c2,.int .i64 (Lx n i p).Ab.Ai,.int .i64 (Lx n i p).Ab.quiet,.slice z.a3 (Lx n i p).Ab.holds.length z.c3,.slice z.a4 n.Af.length z.c4,.slice z.a5 n.Ae.length z.c5,.slice z.a6 n.down.length z.c6,.slice z.a7 n.up.length z.c7] [],.ow Bd 3 (.slice z.a1 n.An.Ac.length z.c1) (Lx n i p).An.Ac z.F1,.ow A9 9 (.slice z.a2 (Lx n i p).Ab.Aa.Aj.length z.c2) (Lx n i p).Ab.Aa.Aj z.F2,.ow Bh 137 (.slice z.a3 (Lx n i p).Ab.holds.length z.c3) (Lx n i p).Ab.holds z.F3,.ow Bm 96 (.slice z.a4 n.Af.length z.c4) (Lx n i p).Af z.F4,.ow Bi 55 (.slice z.a5 n.Ae.length z.c5) (Lx n i p).Ae z.F5,.ow (Gt Al 108) 99 (.slice z.a6 n.down.length z.c6) (Lx n i p).down z.F6,.ow (Gt Al 108) 99 (.slice z.a7 n.up.length z.c7) (Lx n i p).up z.F7]):=by
 obtain ⟨q1,q2,q3,q4⟩:=Bz.1 hl
 have hn8:=h8.n1
 obtain ⟨n0,n1⟩:=H5 hp
 have hone:∀x∈[((i:Nat):Int)],0≤x∧x.toNat < n.down.length:=fun x hx=>by
  rw [List.mem_singleton] at hx;subst hx;omega
 obtain ⟨k,hk⟩:∃k,Sq n i=k:=⟨_,rfl⟩
 obtain ⟨e1,e2,e3⟩:=Agd h8 hi h0 hk
 refine enter func135 rfl ntmps135 fun w0=>?_
 refine Nl (xs:=n.An.Ac) (m:=1) Dl i ?_ (by repeat (first|exact .here|apply C1.there)) rfl hi
 rintro _ gp A0 cs B0 rfl rfl hr hH
 obtain ⟨rfl, -⟩:=hr w0
 rw [e1]
 refine go ?_;intros
 refine Mr ((k:Nat):Int) hH (fun w=>⟨rfl,rfl⟩) ?_
 rw [show n.An.Ac.set i ((k:Nat):Int)=n.An.Ac by rw [←e1,List.set_getElem_self]]
 refine Bf rfl (fun h5=>?_) (fun h5=>?_)
 ·obtain rfl:k=0:=by omega
  rw [show Lx n i p=⟨n.An,I0 n.Ab p.Ad,n.Af,n.Ae,Dd n.down [((i:Nat):Int)] (J8 n.Ab p),n.up⟩ by unfold Lx;rw [if_pos hk]]
  dsimp only
  rw [Ap0,Apy,Apz]
  refine go ?_;intros
  refine Agl [.slice (some ⟨gp,0,none⟩) n.An.Ac.length c1] [.int .i64 n.Ab.Aa.Ak,.int .i64 n.Ab.Aa.size,.slice a2 n.Ab.Aa.Aj.length c2,.int .i64 n.Ab.Ai,.int .i64 n.Ab.quiet,.slice a3 n.Ab.holds.length c3] [.slice a4 n.Af.length c4,.slice a5 n.Ae.length c5,.slice a6 n.down.length c6,.slice a7 n.up.length c7] ?_
  refine Aw [2] [] ?_
  refine dt 0 ?_
  refine dt 1 ?_
  refine dt 3 ?_
  refine dt 4 ?_
  refine dt 5 ?_
  refine dt 6 ?_
  refine Ob 2 7 (by kernel_rfl) (by rw [List.getElem?_toArray];rfl) (by rw [List.getElem?_toArray];rfl) ?_ ?_
  ·apply Hh;rfl;rfl;rfl;rfl;exact Hb;exact Gp;intro _
   refine Dz (E:=Bd) (xs:=[((i:Nat):Int)]) (Ma _) ?_ (by simp)
   refine Ay (E:=Bd) (xs:=[((i:Nat):Int)]) fun Fo=>?_
   refine dk ?_
   refine dO 7 (by kernel_rfl) (by rw [List.getElem?_toArray];rfl) ?_
   apply At;rfl;kernel_rfl;exact Be
   refine cf (Xx n.Ab.Aa n.Ab.holds p g 39 (0+1) _ _ a2 a3 c2 c3 n.Ab.Ai n.Ab.quiet F2 F3 hsrc n0 n1 hps) fun z _=>?_
   refine Ar ?_
   refine Y9 [.slice (some ⟨gp,0,none⟩) n.An.Ac.length c1] [.int .i64 n.Ab.Aa.Ak,.int .i64 n.Ab.Aa.size,.slice a2 n.Ab.Aa.Aj.length c2,.int .i64 n.Ab.Ai,.int .i64 n.Ab.quiet,.slice z.a2 (I0 n.Ab p.Ad).holds.length z.c2] [.slice a4 n.Af.length c4,.slice a5 n.Ae.length c5,.slice a6 n.down.length c6,.slice a7 n.up.length c7] ?_
   refine Ay (E:=Al) (xs:=J8 n.Ab p) fun Fq=>?_
   refine dk ?_
   refine dO 8 (by kernel_rfl) (by rw [List.getElem?_toArray];rfl) ?_
   apply At;rfl;kernel_rfl;exact Be
   refine cf (Tj n.down [((i:Nat):Int)] (J8 n.Ab p) g _ _ _ _ _ _ _ _ _ _ a6 _ c6 F6 _ _ Fo _ _ Fq rfl hone) fun J6 _=>?_
   refine Ar ?_
   refine dk ?_
   refine dd ?_
   refine go ?_;intros
   refine ret (⟨some ⟨gp,0,none⟩,c1,[gp],a2,c2,F2,z.a2,z.c2,z.F,a4,c4,F4,a5,c5,F5,a6,c6,J6,a7,c7,F7⟩:NV) trivial rfl
  ·apply At;rfl;kernel_rfl;exact Be
   refine cf (Xx n.Ab.Aa n.Ab.holds p g 39 (0+1) _ _ a2 a3 c2 c3 n.Ab.Ai n.Ab.quiet F2 F3 hsrc n0 n1 hps) fun z _=>?_
   refine Ar ?_
   refine Y9 [.slice (some ⟨gp,0,none⟩) n.An.Ac.length c1] [.int .i64 n.Ab.Aa.Ak,.int .i64 n.Ab.Aa.size,.slice a2 n.Ab.Aa.Aj.length c2,.int .i64 n.Ab.Ai,.int .i64 n.Ab.quiet,.slice z.a2 (I0 n.Ab p.Ad).holds.length z.c2] [.slice a4 n.Af.length c4,.slice a5 n.Ae.length c5,.slice a6 n.down.length c6,.slice a7 n.up.length c7] ?_
   refine Ay (E:=Al) (xs:=J8 n.Ab p) fun Fq=>?_
   refine dk ?_
   refine dO 2 (by kernel_rfl) (by rw [List.getElem?_toArray];rfl) ?_
   apply Hh;rfl;rfl;rfl;rfl;exact Hb;exact Gp;intro _
   refine Dz (E:=Bd) (xs:=[((i:Nat):Int)]) (Ma _) ?_ (by simp)
   refine Ay (E:=Bd) (xs:=[((i:Nat):Int)]) fun Fo=>?_
   refine dk ?_
   refine dO 8 (by kernel_rfl) (by rw [List.getElem?_toArray];rfl) ?_
   apply At;rfl;kernel_rfl;exact Be
   refine cf (Tj n.down [((i:Nat):Int)] (J8 n.Ab p) g _ _ _ _ _ _ _ _ _ _ a6 _ c6 F6 _ _ Fo _ _ Fq rfl hone) fun J6 _=>?_
   refine Ar ?_
   refine dk ?_
   refine dd ?_
   refine go ?_;intros
   refine ret (⟨some ⟨gp,0,none⟩,c1,[gp],a2,c2,F2,z.a2,z.c2,z.F,a4,c4,F4,a5,c5,F5,a6,c6,J6,a7,c7,F7⟩:NV) trivial rfl
 have h6:k≠0:=by omega
 have hkl:k < n.Af.length:=by omega
 have hku:k < n.up.length:=by omega
 have hge:Bw n.Af[k]=true:=Iw hkl▸he k h6 (by omega) e3
 have hel:=(Ey.1 hge).2.1
 obtain ⟨hc0,hc1⟩:=Lk.1 (Ey.1 hge).1
 rw [show Lx n i p=⟨n.An,n.Ab,n.Af.set k (Ks n.Af[k] p.Ad ((i:Nat):Int)),n.Ae,Dd n.down [((i:Nat):Int)] [Ti p],if Vb n.Af[k] p.Ad then n.up.modify k fun q=>Eq q [p] else n.up⟩ by unfold Lx;rw [if_neg (by omega),hk,Iw hkl]]
 refine go ?_;intros
 refine Va (xs:=n.Af) (m:=2) k ?_ rfl hkl
 rintro _ g5 A5 cs B5 k1 k2 J1 Ji J2 rfl - hc5 hH5
 refine Gh ?_
 rintro b1 d1 G1 ev l1
 obtain rfl:cs=[.int .i64 n.Af[k].Ai,.slice b1 n.Af[k].Ah.length d1]:=by simpa using ev
 refine Aw [5,6] [] ?_
 refine dt 0 ?_
 refine dt 1 ?_
 refine dt 2 ?_
 refine dt 3 ?_
 refine dt 4 ?_
 refine dt 5 ?_
 refine dt 6 ?_
 refine dt 7 ?_
 refine dt 8 ?_
 refine dO 9 (by kernel_rfl) (by rw [List.getElem?_toArray];rfl) ?_
 apply At;rfl;kernel_rfl;exact Be
 refine cf (Aej n.Af[k] p.Ad ((i:Nat):Int) g5 96 (0+k * 2) A5 B5 b1 d1 G1 (by omega) (fun x hx=>⟨by have:=L5 hge hx;omega,Acz hge hx⟩) (by omega) (by omega)) fun s _=>?_
 refine Ar ?_
 refine dk ?_
 refine dt 10 ?_
 refine dd ?_
 refine E5 (Ks n.Af[k] p.Ad ((i:Nat):Int)) ?_
 refine Q5 _ hH5 rfl fun J5=>?_
 refine Kx ?_;intros
 refine Dz (E:=Bd) (xs:=[((i:Nat):Int)]) (Ma _) ?_ (by simp)
 refine Ay (E:=Bd) (xs:=[((i:Nat):Int)]) fun Fo=>?_
 refine Dz (E:=Al) (xs:=[Ti p]) (C4 (Ti p) (Nat.zero_le _)) ?_ (by simp)
 refine Ay (E:=Al) (xs:=[Ti p]) fun Fp=>?_
 refine go ?_;intros
 refine cf (Tj n.down [((i:Nat):Int)] [Ti p] g _ _ _ _ _ _ _ _ _ _ a6 _ c6 F6 _ _ Fo _ _ Fp rfl hone) fun J6 _=>?_
 refine Ar ?_
 cases hf:Vb n.Af[k] p.Ad
 ·rw [if_neg (by decide)]
  refine go ?_;intros
  refine Q4 ?_
  refine ret (⟨some ⟨gp,0,none⟩,c1,[gp],a2,c2,F2,a3,c3,F3,_,c4,J5,a5,c5,F5,a6,c6,J6,a7,c7,F7⟩:NV) trivial rfl
 ·rw [if_pos rfl,show (n.up.modify k fun q=>Eq q [p])=n.up.set k (P8 n.up[k] p) by rw [Fb hku,Akt]]
  refine go ?_;intros
  refine Aw [0,6] [] ?_
  refine dt 0 ?_
  refine dt 1 ?_
  refine dt 2 ?_
  refine dt 3 ?_
  refine dt 4 ?_
  refine dt 5 ?_
  refine dO 6 (by kernel_rfl) (by rw [List.getElem?_toArray];rfl) ?_
  apply At;rfl;kernel_rfl;exact Be
  refine cf (Vm n.up k p a7 _ c7 F7 rfl hku hps) fun J7 _=>?_
  refine Ar ?_
  refine dk ?_
  refine dd ?_
  refine go ?_;intros
  refine Q4 ?_
  refine ret (⟨some ⟨gp,0,none⟩,c1,[gp],a2,c2,F2,a3,c3,F3,_,c4,J5,a5,c5,F5,a6,c6,J6,a7,c7,J7⟩:NV) trivial rfl
def Ake (es:List Fa) (ck:Int):List Fa:=es.filter fun x=>!decide (x.Cf≤ck)
theorem Ajp (x:Fa) (ck:Int) (gb g o:Nat) (u q:Value) (G:List Nat):Fn prog 141 [u,Eu gb 0 0] [.isv Dc u x G,.cel gb 0 [Eu g o 0],.cel g o [.int .i64 ck,q]] [] (fun (_:Unit)=>True) (fun _=>.bool (decide (x.Cf≤ck))) (fun _=>[]):=by
 refine enter func141 rfl ntmps141 fun w0=>?_
 refine Aar ?_
 rintro a1 c1 F1 rfl l1
 refine go ?_;intros
 refine Aw [0,3,4] [] ?_
 refine dt 0 ?_
 refine dt 1 ?_
 refine dt 2 ?_
 refine dt 3 ?_
 refine dt 4 ?_
 refine dt 5 ?_
 refine dt 6 ?_
 refine dt 7 ?_
 refine dd ?_
 refine go ?_;intros
 refine ret () trivial rfl
theorem Ajq (es:List Fa) (ck:Int) (gb tb g t o:Nat) (A B:List Value) (a:Option Addr) (c:Nat) (F:List Nat) :
  Fn prog 140 [.slice a es.length c,.func (.func 141) #[] #[Eu gb 0 0]] [] [.ow D5 139 (.slice a es.length c) es F,.row gb tb 0 [] [Eu g o 0] [],.row g t o A [.int .i64 ck,.slice a es.length c] B] (fun (_:Option Addr × Nat × List Nat)=>True)
   (fun z=>.slice z.1 (Ake es ck).length z.2.1) (fun z=>[.ow D5 139 (.slice z.1 (Ake es ck).length z.2.1) (Ake es ck) z.2.2,.row gb tb 0 [] [Eu g o 0] [],.row g t o A [.int .i64 ck,.slice a es.length c] B]):=by
 refine Aev rfl fun w ⟨hnd,ho⟩ _ hk=>?_
 refine (Uz _ (Qj (by kernel_rfl)) #[Eu gb 0 0] _ es F (fun x=>decide (x.Cf≤ck)) w ho hnd fun k hk2 wr u G hK hu=>?_).mono ?_
 ·have hr:=hk wr hK
  have r1:=hr (.row gb tb 0 [] [Eu g o 0] []) (by simp)
  have r2:=hr (.row g t o A [.int .i64 ck,.slice a es.length c] B) (by simp)
  refine (Ajp es[k] ck gb g o u (.slice a es.length c) G).val wr ?_
  intro p hp
  simp only [List.mem_cons,List.not_mem_nil,or_false] at hp
  rcases hp with rfl|rfl|rfl
  ·exact hu
  ·exact ⟨by simp,Fg r1⟩
  ·exact ⟨by simp,Fg r2⟩
 ·rintro e w' ⟨v',F',rfl,h1,h2,h3,h4⟩
  obtain ⟨a',c',rfl⟩:=h1.slice
  exact ⟨(a',c',F'),trivial,rfl,⟨h2,h1⟩,fun b hb=>.inl (h3 b hb),h4⟩
theorem Al3 (e:Bt) (g t o:Nat) (A B:List Value) (a:Option Addr) (c:Nat) (F:List Nat) (h0:-1000000≤e.Ai) (h1:e.Ai≤1000000) :
  Fn prog 82 [Eu g o 0] [] [.row g t o A [.int .i64 e.Ai,.slice a e.Ah.length c] B,.ow D5 139 (.slice a e.Ah.length c) e.Ah F] (fun (_:Option Addr × Nat × List Nat)=>True)
   (fun _=>.tuple #[]) (fun z=>[.row g t o A [.int .i64 (Dx e).Ai,.slice z.1 (Dx e).Ah.length z.2.1] B,.ow D5 139 (.slice z.1 (Dx e).Ah.length z.2.1) (Dx e).Ah z.2.2]):=by
 refine enter func82 rfl ntmps82 fun w0=>?_
 refine go ?_;intros
 refine Aw [0,1] [9] ?_
 refine dt 0 ?_
 refine dt 1 ?_
 refine dt 2 ?_
 refine dt 3 ?_
 refine dt 4 ?_
 refine dt 5 ?_
 refine dO 6 (by kernel_rfl) (by rw [List.getElem?_toArray];rfl) ?_
 apply At;rfl;kernel_rfl;exact Be
 refine cf (Ajq e.Ah (e.Ai+1) _ _ g t o A B a c F) fun z _=>?_
 refine Ar ?_
 refine dk ?_
 refine dt 7 ?_
 refine dt 8 ?_
 refine dO 9 (by kernel_rfl) (by rw [List.getElem?_toArray];rfl) ?_
 apply Cu;rfl;rfl;rfl;(first|exact AggC.s|exact OneC.s);rfl;exact Cw;exact Cv;rfl
 refine Mg ?_
 refine dd ?_
 refine Q4 ?_
 refine ret (_,_,_) trivial rfl
theorem Aez {e:Bt} (h:Bw e=true) (hc:e.Ai < 9999):Bw (Dx e)=true:=by
 obtain ⟨h1,h2,h3,h4⟩:=Ey.1 h
 have h5:=Lk.1 h1
 unfold Dx
 refine Ey.2 ⟨Lk.2 ⟨by show 0≤e.Ai+1;omega,by show e.Ai+1≤9999;omega⟩,Nat.le_trans (List.length_filter_le _ _) h2,fun x hx=>?_,h4.filter _⟩
 obtain ⟨hx1,hx2⟩:=List.mem_filter.1 hx
 obtain ⟨a,b,c,d,f⟩:=L9.1 (h3 x hx1)
 simp only [Bool.not_eq_true',decide_eq_false_iff_not] at hx2
 exact L9.2 ⟨a,b,c,by show e.Ai+1+1≤x.Cf;omega,by show x.Cf≤e.Ai+1+6;omega⟩
theorem Ah3 {k n t l:Int} {s:ByteArray} (hk:1≤k∧k≤5) (hn:Ca n=true) (ht:Ca t=true) (hl:Ca l=true) (hg:gp t l≤32767) (hs:N1 s=true) (he:s=⟨#[]⟩∨k≤2):Bk ⟨k,n,t,l,s⟩=true:=by
 unfold Bk Hq
 simp only [Bool.and_eq_true,Bool.or_eq_true,decide_eq_true_eq]
 refine ⟨⟨⟨⟨⟨⟨hk,hn⟩,ht⟩,hl⟩,hs⟩,hg⟩,?_⟩
 rcases he with h|h
 ·exact .inl (.inl h)
 ·by_cases h1:k=1
  ·exact .inl (.inr h1)
  ·exact .inr (by omega)
theorem Xg:N1 ⟨#[]⟩=true:=by decide
theorem Abp {x:Ax} (h:Do x=true):Ca x.Ak=true∧Ca (J4 x)=true∧gp x.Ak (J4 x)≤32767:=by
 obtain ⟨⟨t0,t1⟩,⟨s0,s1⟩,hl, -⟩:=Dw.1 h
 refine ⟨Ba.2 ⟨t0,t1⟩,Lv _ _,?_⟩
 unfold J4 gp Bn
 omega
theorem Aa1 {x:Ax} (h:Do x=true):Bk (Nr x)=true:=by
 obtain ⟨a,b,c⟩:=Abp h
 exact Ah3 (by decide) a a b c Xg (.inl rfl)
theorem Afk {x:Ax} {q:Int} (h:Do x=true):∀p∈Ka x q,Bk p=true:=fun p hp=>by
 unfold Ka at hp
 split at hp
 ·simp at hp
 ·rw [List.mem_singleton] at hp;subst hp;exact Aa1 h
theorem Ajd {x:Ax} {n:Int} (h:Do x=true) (hn:Ca n=true) (hh:Gw x n=true):Bk (Acm x n)=true:=by
 obtain ⟨a,b,c⟩:=Abp h
 have hi:=(Dw.1 h).2.2.2
 have hl:=Uj hh
 exact Ah3 (by decide) hn a b c (by rw [P0 hl];exact List.all_eq_true.1 hi _ (List.getElem_mem hl)) (.inr (by decide))
theorem Z5 {x:Ax} {n:Int} (h:Do x=true) (hn:Ca n=true):Bk (Su x n)=true:=by
 obtain ⟨a,b,c⟩:=Abp h
 exact Ah3 (by decide) hn a b c Xg (.inl rfl)
theorem Aif {x:Ch} {p:As} (h:Do x.Aa=true) (hp:Bk p=true) (hk:p.C2=3):∀r∈J8 x p,Bk r=true:=fun r hr=>by
 have hn:=Ba.2 (H5 hp)
 unfold J8 at hr
 split at hr
 ·rename_i hh
  split at hr
  ·rw [List.mem_singleton] at hr;subst hr;exact Z5 h hn
  ·simp only [List.mem_cons,List.not_mem_nil,or_false] at hr
   rcases hr with rfl|rfl
   ·exact Z5 h hn
   ·rw [show Da x.Aa p=(Acm x.Aa p.Ad,true) by unfold Da Hx;rw [h,hp,hh,decide_eq_true hk];rfl]
    exact Ajd h hn hh
 ·rw [List.mem_singleton] at hr;subst hr;exact Aa1 h
theorem Ah9 {x:Ax} {s:ByteArray} (h:Do x=true) (hs:N1 s=true):Bk (Dg x s)=true:=by
 obtain ⟨⟨t0,t1⟩,⟨s0,s1⟩,hl, -⟩:=Dw.1 h
 have hr:=M7 t0 t1
 have hrl:(Cr x).Aj.length≤6:=by
  unfold Cr
  split
  ·show (x.Aj.drop 1).length≤6
   rw [List.length_drop];omega
  ·omega
 refine Ah3 (by decide) (Lv _ _) (Ba.2 hr) (Lv _ _) ?_ hs (.inr (by decide))
 unfold gp Bn
 omega
theorem Ajj {p:As} (h:Bk p=true):Bk (Ti p)=true:=by
 unfold Bk at h
 simp only [Bool.and_eq_true,decide_eq_true_eq] at h
 exact Ah3 (by decide) h.1.1.1.1.1.2 h.1.1.1.1.2 h.1.1.1.2 h.1.2 Xg (.inl rfl)
theorem Wr {r:Bc} (h:I9 r):∀p∈D9 r,Bk p=true∧p.C2=3:=fun p hp=>by
 unfold D9 at hp
 obtain ⟨k,hk,rfl⟩:=List.mem_map.1 hp
 obtain ⟨q,hq,hs⟩:=List.mem_filterMap.1 hk
 obtain ⟨-, -,q2, -⟩:=Dr.1 h.q
 have hn:=(Ea.1 (q2 q hq)).n
 have hw:=Xb h.w
 have e:k=q.Ad:=by
  unfold Mz at hs
  split at hs
  ·cases hs
  ·split at hs
   ·cases hs
   ·split at hs
    ·exact (Option.some.inj hs).symm
    ·cases hs
 subst e
 have hx:=Ba.2 ⟨hw.n0,hw.n1⟩
 exact ⟨Ah3 (by decide) hn hx hx (by unfold gp;omega) Xg (.inl rfl),rfl⟩
theorem GN.ck {ck ck':Nat→Int} {n:Eg} (h:GN ck n) (he:∀i,i≠0→i < n.An.Ac.length→ck i=ck' i):GN ck' n:=by
 obtain ⟨q1,q2,q3,q4⟩:=Bz.1 h.l
 refine .mk' h.t h.s h.l fun i h1 h2 h3 h4=>?_
 have r:=Lf.1 (h.a i h1 h2 h3 h4)
 exact ⟨r.hd,r.hu,r.hk,r.hz,fun e0 l=>by rw [←he i e0 (by omega)];exact r.hf e0 l,fun e0 l=>by rw [←he i e0 (by omega)];exact r.hn e0 l⟩
theorem Xd {l:List Int} (hg:Mw l) (i:Nat):∀x∈Fv l ((i:Nat):Int),x.toNat≠0:=fun x hx=>by have:=Iy hg hx;omega
theorem Afj {ck:Nat→Int} {n:Eg} {i:Nat} (h:GN ck n) (h0:i≠0) (hi:i < n.An.Ac.length) (hc:ck i < 9999):GN (Wz ck i (ck i+1)) (J9 n i).1:=by
 obtain ⟨h1,h2,h3,h4,r⟩:=h.rn hi
 obtain ⟨d0,d1⟩:1≤Ke i∧Ke i≤8:=by unfold Ke;omega
 unfold J9
 cases hl:Hw n.An.Ac ((i:Nat):Int)
 ·rw [if_neg (by decide)]
  obtain ⟨he,e2,e3⟩:=r.hn h0 hl
  have e:Pj n i=n.Af[i]:=by unfold Pj;rw [List.getD_eq_getElem?_getD,List.getElem?_eq_getElem h1];rfl
  have:=h.el h0 hl (Aez (e:=n.Af[i]) he (by omega))
  rw [show (Dx n.Af[i]).Ai=ck i+1 by rw [←e2];rfl] at this
  rw [e];exact this
 ·rw [if_pos rfl]
  obtain ⟨he,e2,e3⟩:=r.hf h0 hl
  have e:Wx n i=n.Ae[i]:=by unfold Wx;rw [List.getD_eq_getElem?_getD,List.getElem?_eq_getElem h2];rfl
  have hg:=Gm.1 e2
  have ht:=Aip hg (by omega) d0 d1
  have:=h.rc h0 hl (Gm.2 ht)
  rw [show (Cj n.Ae[i] (Ke i)).Ai=ck i+1 by unfold Cj;split <;> (show n.Ae[i].Ai+1=_;rw [e3])] at this
  rw [e]
  exact this.un i _ (fun e=>absurd e h0) fun q a b=>⟨Vr a fun p hp=>(Wr hg p hp).1,Agf b fun p hp=>(Wr hg p hp).2⟩
theorem T0 (n:Eg) (i:Nat):(J9 n i).1.An=n.An∧(J9 n i).1.Ab=n.Ab:=by unfold J9;split <;> exact ⟨rfl,rfl⟩
def ckT (c:Int) (k:Nat):Nat→Int:=fun j=>if j≤k then c+1 else c
theorem Mb {n:Eg} (hg:A8 n=true) (hc:n.Ab.Ai < 9999):∀k,k+1≤n.An.Ac.length→GN (ckT n.Ab.Ai k) (Bb n k).1∧(Bb n k).1.An=n.An∧(Bb n k).1.Ab=Jv n.Ab
 | 0,_=>by
  have h:=A1.1 hg
  have ht:=Ex h.t
  refine ⟨?_,rfl,rfl⟩
  have h2:=((h.src (Ahh h.s hc)).sp (Afk (q:=n.Ab.quiet) (Ej.1 h.s).1) (Xd ht 0)).ck (ck':=ckT n.Ab.Ai 0) fun i h0 _=>by unfold ckT;rw [if_neg (by omega)]
  exact h2
 | k+1,hk=>by
  obtain ⟨h1,h2,h3⟩:=Mb hg hc k (by omega)
  obtain ⟨t1,t2⟩:=T0 (Bb n k).1 (k+1)
  have e:ckT n.Ab.Ai k (k+1)=n.Ab.Ai:=by unfold ckT;rw [if_neg (by omega)]
  have:=Afj h1 (i:=k+1) (by omega) (by rw [h2];omega) (by rw [e];exact hc)
  refine ⟨this.ck fun i h0 hi=>?_,t1.trans h2,t2.trans h3⟩
  rw [e]
  unfold Wz ckT
  by_cases c1:i=k+1
  ·rw [if_pos c1,if_pos (by omega)]
  ·rw [if_neg c1]
   by_cases c2:i≤k
   ·rw [if_pos c2,if_pos (by omega)]
   ·rw [if_neg c2,if_neg (by omega)]
theorem O0 {n:Eg} (hg:A8 n=true) (hc:n.Ab.Ai < 9999):A8 (Bp n).1=true:=by
 have h:=A1.1 hg
 have ht:=Ex h.t
 have:=ht.n0
 obtain ⟨h1,h2,h3⟩:=Mb hg hc (n.An.Ac.length - 1) (by omega)
 refine A1.2 ?_
 show GN (fun _=>(Bb n (n.An.Ac.length - 1)).1.Ab.Ai) _
 rw [h3]
 exact h1.ck fun i h0 hi=>by rw [h2] at hi;unfold ckT;rw [if_pos (by omega)];rfl
theorem Ak6 {g t o k:Nat} {A B X cs Y:List Value} (hk:X.length=k) {w:World}:(Pc.row g t (o+k) (A++X) cs (Y++B)).P w↔(Pc.row g t o A (X++cs++Y) B).P w:=by
 show ((A++X).length=o+k∧Hm w g t (A++X++cs++(Y++B)))↔(A.length=o∧Hm w g t (A++(X++cs++Y)++B))
 rw [List.length_append,hk]
 have e:A++X++cs++(Y++B)=A++(X++cs++Y)++B:=by simp [List.append_assoc]
 rw [e]
 exact ⟨fun h=>⟨by omega,h.2⟩,fun h=>⟨by omega,h.2⟩⟩
theorem Aj0 {p q:Pc} {R:List Pc} {w:World} (h:p.P w→q.P w) (hH:Ms (p::R) w):Ms (q::R) w:=fun x hx=>by
 rcases List.mem_cons.1 hx with rfl|hx
 ·exact h (hH p (by simp))
 ·exact hH x (by simp [hx])
theorem Ak8 {p q:Pc} {R:List Pc} (hm:p.mu=q.mu) (hF:p.F=q.F) (hS:O6 (p::R)):O6 (q::R):=⟨fun x hx hmu b hb=>hS.1 x hx (by rw [hm];exact hmu) b (by rw [hF];exact hb),hS.2⟩
theorem Ajv {P:Program} {f:FuncId} {args:List Value} {A M':List Pc} {g t o k:Nat} {A' B X cs Y L:List Value} {σ:Type} {C:σ→Prop} {v:σ→Value} {cs' L':σ→List Value} {N':σ→List Pc}
  (h:Fn P f args A (.row g t (o+k) (A'++X) cs (Y++B)::M') C v (fun s=>.row g t (o+k) (A'++X) (cs' s) (Y++B)::N' s)) (hk:X.length=k) (hL:L=X++cs++Y) (hL':∀s,L' s=X++cs' s++Y) :
  Fn P f args A (.row g t o A' L B::M') C v (fun s=>.row g t o A' (L' s) B::N' s):=fun w hH hS=>by
 subst hL
 refine (h w (Aj0 (Ak6 hk).2 hH) (Ak8 rfl rfl hS)).mono ?_
 rintro e w' ⟨s,hC,he,h1,h2,h3,h4⟩
 refine ⟨s,hC,he,?_,Ak8 rfl rfl h2,?_,?_⟩
 ·show Ms (.row g t o A' (L' s) B::N' s) w'
  rw [hL' s]
  exact Aj0 (Ak6 hk).1 h1
 ·simpa [fp,Pc.mu,Pc.F] using h3
 ·intro p hp b hb
  have hp':∃q∈(Pc.row g t (o+k) (A'++X) (cs' s) (Y++B)::N' s),q.mu=p.mu∧b∈q.F:=by
   rcases List.mem_cons.1 hp with rfl|hp
   ·exact ⟨_,.head _,rfl,hb⟩
   ·exact ⟨p,.tail _ hp,rfl,hb⟩
  obtain ⟨q,hq,hm,hbq⟩:=hp'
  rcases h4 q hq b hbq with h|⟨x,hx,hbx⟩|⟨hm2,x,hx,hbx⟩
  ·exact .inl h
  ·refine .inr (.inl ?_)
   rcases List.mem_cons.1 hx with rfl|hx
   ·exact ⟨_,.head _,hbx⟩
   ·exact ⟨x,.tail _ hx,hbx⟩
  ·exact .inr (.inr ⟨by rw [←hm];exact hm2,x,hx,hbx⟩)
section
variable {c:Cx} {fr:Fr} {H:List Pc} {k:List It} {Φ:Gl} {ops:Array Oper} {o:Op} {d:Nat} {v:Value} {ty:TypeId} {pos:String} {Bn:Array Edge} {H0:List Pc} {X:List Nat} {f:Nat} {listed:Array Bool}
theorem dsI {id:Nat} {l:List Oper} (H0:List Pc) (X:List Nat) (h:T c fr H (.dx k H0 X l.toArray l.length (Array.replicate l.length false))) (hm:c.P.follows .mixedOrders=true:=by kernel_rfl):T c fr H (.Bl k (Code.region id l.toArray true)):=.mk fun a w s g=>by
 refine C3.start (S:=Ms H0) (X:=fun i=>X.contains i) hm ?_
 have:=h.h a w.drew (s.below (Hk (Below.refl _ _) 1)) g
 simpa [Gl.sem] using this
theorem dtI (i:Nat) (hI:∀w,Ms H w→Ms H0 w) (h:T c ((d,v)::fr) H (.dx k H0 X ops f (listed.setIfInBounds i true))) (ho:ops[i]?=some ⟨some d,o,ty,pos,Bn,none⟩:=by rw [List.getElem?_toArray];rfl) (hy:Yd c.P c.n fr H0 o ty v:=by exact ydE)
  (h1:Region.noSelect ops=true:=by kernel_rfl) (h2:Region.free .any ops listed i=true:=by kernel_rfl) (h3:(Region.ready .any ops listed).contains i=true:=by kernel_rfl) (h4:Ns .any ops (fun i=>X.contains i) i=true:=by kernel_rfl) (h5:N4 .any ops listed=true:=by kernel_rfl) (hR:T8 c:=by exact Wm) (hd:Nat.blt d c.n=true:=by rfl) :
  T c fr H (.dx k H0 X ops (f+1) listed):=.mk fun a w s g =>
 C3.take (v:=v) ho h1 h2 h3 h4 h5 (fun ch a w hp=>by rw [Jq] at hp ⊢;exact hR _ _ _ _ _ hp) (.inl ⟨rfl,fun w' hw'=>hy.h a w' _ _ _ _ g hw'⟩) (hI w s.on) (h.h _ _ s (g.put hd))
theorem dkI {i:Nat} (hI:∀w,Ms H w→Ms H0 w) (h:T c fr H (.dx k H0 X ops f listed)):T c fr H (.dk i k H0 X ops f listed):=.mk fun a w s g=>⟨fun _=>hI w s.on,h.h a w s g⟩
end
theorem E8 {g t:Nat} {x:Value} {r:List Value} {w:World} (h:(Pc.row g t 0 [] (x::r) []).P w):(Pc.cel g 0 [x]).P w:=⟨by simp,fun j u hu=>by
 cases j with
 | zero=>exact Fg h 0 u (by simpa using hu)
 | succ j=>simp at hu⟩
structure TkN where
 k:Nat
 z:NV
 a:Option Addr
 c:Nat
 F:List Nat
theorem Afv (n:Eg) (g:Nat) (a1:Option Addr) (c1:Nat) (F1:List Nat) (a2:Option Addr) (c2:Nat) (F2:List Nat) (a3:Option Addr) (c3:Nat) (F3:List Nat) (a4:Option Addr) (c4:Nat) (F4:List Nat) (a5:Option Addr) (c5:Nat) (F5:List Nat) (a6:Option Addr) (c6:Nat) (F6:List Nat) (a7:Option Addr) (c7:Nat) (F7:List Nat) (FT:List Nat) (hg:A8 n=true) (hc:n.Ab.Ai < 9999) :
  Fn prog 39 [Eu g 0 0] [Mt FT] [.row g 39 0 [] [.slice a1 n.An.Ac.length c1,.int .i64 n.Ab.Aa.Ak,.int .i64 n.Ab.Aa.size,.slice a2 n.Ab.Aa.Aj.length c2,.int .i64 n.Ab.Ai,.int .i64 n.Ab.quiet,.slice a3 n.Ab.holds.length c3,.slice a4 n.Af.length c4,.slice a5 n.Ae.length c5,.slice a6 n.down.length c6,.slice a7 n.up.length c7] [],.ow Bd 3 (.slice a1 n.An.Ac.length c1) n.An.Ac F1,.ow A9 9 (.slice a2 n.Ab.Aa.Aj.length c2) n.Ab.Aa.Aj F2,.ow Bh 137 (.slice a3 n.Ab.holds.length c3) n.Ab.holds F3,.ow Bm 96 (.slice a4 n.Af.length c4) n.Af F4,.ow Bi 55 (.slice a5 n.Ae.length c5) n.Ae F5,.ow (Gt Al 108) 99 (.slice a6 n.down.length c6) n.down F6,.ow (Gt Al 108) 99 (.slice a7 n.up.length c7) n.up F7] (fun (_:NV × KA)=>True) (fun z=>.slice z.2.a (Bp n).2.length z.2.c) (fun z=>[.row g 39 0 [] [.slice z.1.a1 n.An.Ac.length z.1.c1,.int .i64 (Bp n).1.Ab.Aa.Ak,.int .i64 (Bp n).1.Ab.Aa.size,.slice z.1.a2 (Bp n).1.Ab.Aa.Aj.length z.1.c2,.int .i64 (Bp n).1.Ab.Ai,.int .i64 (Bp n).1.Ab.quiet,.slice z.1.a3 (Bp n).1.Ab.holds.length z.1.c3,.slice z.1.a4 n.Af.length z.1.c4,.slice z.1.a5 n.Ae.length z.1.c5,.slice z.1.a6 n.down.length z.1.c6,.slice z.1.a7 n.up.length z.1.c7] [],.ow Bd 3 (.slice z.1.a1 n.An.Ac.length z.1.c1) (Bp n).1.An.Ac z.1.F1,.ow A9 9 (.slice z.1.a2 (Bp n).1.Ab.Aa.Aj.length z.1.c2) (Bp n).1.Ab.Aa.Aj z.1.F2,.ow Bh 137 (.slice z.1.a3 (Bp n).1.Ab.holds.length z.1.c3) (Bp n).1.Ab.holds z.1.F3,.ow Bm 96 (.slice z.1.a4 n.Af.length z.1.c4) (Bp n).1.Af z.1.F4,.ow Bi 55 (.slice z.1.a5 n.Ae.length z.1.c5) (Bp n).1.Ae z.1.F5,.ow (Gt Al 108) 99 (.slice z.1.a6 n.down.length z.1.c6) (Bp n).1.down z.1.F6,.ow (Gt Al 108) 99 (.slice z.1.a7 n.up.length z.1.c7) (Bp n).1.up z.1.F7,.ow A9 9 (.slice z.2.a (Bp n).2.length z.2.c) (Bp n).2 z.2.F]):=by
 have hG:=A1.1 hg
 have h8:=Ex hG.t
 have hn8:=h8.n1
 have hn2:=h8.n0
 obtain ⟨q1,q2,q3,q4⟩:=Bz.1 hG.l
 have hS:=Mi hG.s
 obtain ⟨hq0,hq3⟩:=Adz hG.s
 have hkl:=P3 n.An.Ac 0
 have hkx:∀x∈Fv n.An.Ac 0,0≤x∧x.toNat < n.down.length:=fun x hx=>by have:=Iy (i:=0) h8 hx;omega
 refine enter func39 rfl ntmps39 fun w0=>?_
 refine go ?_;intros
 refine dsI [.cel g 0 [.slice a1 n.An.Ac.length c1]] [] ?_
 refine dtI 0 (fun w h=>H9 (E8 (h (.row g _ 0 [] _ []) (by exact B8)))) ?_
 refine dtI 1 (fun w h=>H9 (E8 (h (.row g _ 0 [] _ []) (by exact B8)))) ?_
 refine dtI 2 (fun w h=>H9 (E8 (h (.row g _ 0 [] _ []) (by exact B8)))) ?_
 refine dtI 3 (fun w h=>H9 (E8 (h (.row g _ 0 [] _ []) (by exact B8)))) ?_
 refine dtI 4 (fun w h=>H9 (E8 (h (.row g _ 0 [] _ []) (by exact B8)))) ?_
 refine dtI 6 (fun w h=>H9 (E8 (h (.row g _ 0 [] _ []) (by exact B8)))) ?_
 refine dtI 7 (fun w h=>H9 (E8 (h (.row g _ 0 [] _ []) (by exact B8)))) ?_
 refine dtI 8 (fun w h=>H9 (E8 (h (.row g _ 0 [] _ []) (by exact B8)))) ?_
 refine dO 5 (by kernel_rfl) (by rw [List.getElem?_toArray];rfl) ?_
 apply At;rfl;kernel_rfl;exact Be
 refine cfr (fun w st=>by obtain ⟨Fq,hq⟩:=Yt (st.get (p:=.ow Bd 3 (.slice a1 n.An.Ac.length c1) n.An.Ac F1) (by exact B8));exact ⟨_,H9 hq,rfl,Th n.An 0 _ Fq (by show n.An.Ac.length≤1000000;omega)⟩) (fun u _=>?_)
 refine Ar ?_
 refine Ay (E:=Bd) (xs:=Fv n.An.Ac 0) fun Fk=>?_
 refine dkI (fun w h=>H9 (E8 (h (.row g _ 0 [] _ []) (by exact B8)))) ?_
 refine dO 9 (by kernel_rfl) (by rw [List.getElem?_toArray];rfl) ?_
 apply At;rfl;kernel_rfl;exact Be
 refine cf (Ajv (X:=[.slice a1 n.An.Ac.length c1]) (cs:=[.int .i64 n.Ab.Aa.Ak,.int .i64 n.Ab.Aa.size,.slice a2 n.Ab.Aa.Aj.length c2,.int .i64 n.Ab.Ai,.int .i64 n.Ab.quiet,.slice a3 n.Ab.holds.length c3]) (Y:=[.slice a4 n.Af.length c4,.slice a5 n.Ae.length c5,.slice a6 n.down.length c6,.slice a7 n.up.length c7]) (L:=[.slice a1 n.An.Ac.length c1,.int .i64 n.Ab.Aa.Ak,.int .i64 n.Ab.Aa.size,.slice a2 n.Ab.Aa.Aj.length c2,.int .i64 n.Ab.Ai,.int .i64 n.Ab.quiet,.slice a3 n.Ab.holds.length c3,.slice a4 n.Af.length c4,.slice a5 n.Ae.length c5,.slice a6 n.down.length c6,.slice a7 n.up.length c7]) (L':=fun z:TiS=>[.slice a1 n.An.Ac.length c1,.int .i64 n.Ab.Aa.Ak,.int .i64 n.Ab.Aa.size,.slice a2 n.Ab.Aa.Aj.length c2,.int .i64 (n.Ab.Ai+1),.int .i64 (N2 n.Ab.quiet),.slice z.a2 (P2 (n.Ab.Ai+1) n.Ab.holds).length z.c2,.slice a4 n.Af.length c4,.slice a5 n.Ae.length c5,.slice a6 n.down.length c6,.slice a7 n.up.length c7]) (cs':=fun z:TiS=>[.int .i64 n.Ab.Aa.Ak,.int .i64 n.Ab.Aa.size,.slice a2 n.Ab.Aa.Aj.length c2,.int .i64 (n.Ab.Ai+1),.int .i64 (N2 n.Ab.quiet),.slice z.a2 (P2 (n.Ab.Ai+1) n.Ab.holds).length z.c2]) (Ama n.Ab.Aa n.Ab.holds g 39 (0+1) _ _ a2 a3 c2 c3 n.Ab.Ai n.Ab.quiet F3 hS.t0 hS.t1 hS.l hS.k0 hS.k1 hq0 hq3) rfl rfl (fun _=>rfl)) fun z _=>?_
 refine Ar ?_
 refine Ay (E:=Al) (xs:=Ka n.Ab.Aa n.Ab.quiet) fun Fp=>?_
 refine dkI (fun w h=>H9 (E8 (h (.row g _ 0 [] _ []) (by exact B8)))) ?_
 refine dO 10 (by kernel_rfl) (by rw [List.getElem?_toArray];rfl) ?_
 apply At;rfl;kernel_rfl;exact Be
 refine cf (Tj n.down (Fv n.An.Ac 0) (Ka n.Ab.Aa n.Ab.quiet) g _ _ _ _ _ _ _ _ _ _ a6 _ c6 F6 _ _ Fk _ _ Fp rfl hkx) fun J6 _=>?_
 refine Ar ?_
 refine dkI (fun w h=>H9 (E8 (h (.row g _ 0 [] _ []) (by exact B8)))) ?_
 refine dd ?_
 refine Bx A9 9 ?_
 rw [show Dd n.down (Fv n.An.Ac 0) (Ka n.Ab.Aa n.Ab.quiet)=(Bb n 0).1.down from rfl]
 refine go ?_;intros
 refine Ck [0,2] (fun s:TkN=>[(3,.slice s.a (Bb n s.k).2.length s.c),(4,.int .i64 ((s.k+1:Nat):Int))]) (fun s=>[.row g 39 0 [] [.slice s.z.a1 n.An.Ac.length s.z.c1,.int .i64 (Bb n s.k).1.Ab.Aa.Ak,.int .i64 (Bb n s.k).1.Ab.Aa.size,.slice s.z.a2 (Bb n s.k).1.Ab.Aa.Aj.length s.z.c2,.int .i64 (Bb n s.k).1.Ab.Ai,.int .i64 (Bb n s.k).1.Ab.quiet,.slice s.z.a3 (Bb n s.k).1.Ab.holds.length s.z.c3,.slice s.z.a4 n.Af.length s.z.c4,.slice s.z.a5 n.Ae.length s.z.c5,.slice s.z.a6 n.down.length s.z.c6,.slice s.z.a7 n.up.length s.z.c7] [],.ow Bd 3 (.slice s.z.a1 n.An.Ac.length s.z.c1) (Bb n s.k).1.An.Ac s.z.F1,.ow A9 9 (.slice s.z.a2 (Bb n s.k).1.Ab.Aa.Aj.length s.z.c2) (Bb n s.k).1.Ab.Aa.Aj s.z.F2,.ow Bh 137 (.slice s.z.a3 (Bb n s.k).1.Ab.holds.length s.z.c3) (Bb n s.k).1.Ab.holds s.z.F3,.ow Bm 96 (.slice s.z.a4 n.Af.length s.z.c4) (Bb n s.k).1.Af s.z.F4,.ow Bi 55 (.slice s.z.a5 n.Ae.length s.z.c5) (Bb n s.k).1.Ae s.z.F5,.ow (Gt Al 108) 99 (.slice s.z.a6 n.down.length s.z.c6) (Bb n s.k).1.down s.z.F6,.ow (Gt Al 108) 99 (.slice s.z.a7 n.up.length s.z.c7) (Bb n s.k).1.up s.z.F7,.ow A9 9 (.slice s.a (Bb n s.k).2.length s.c) (Bb n s.k).2 s.F]) (fun s=>s.k+1≤n.An.Ac.length∧(Bb n s.k).2.length≤40000 * s.k) (fun s=>n.An.Ac.length - s.k) ⟨0,⟨a1,c1,F1,a2,c2,F2,z.a2,z.c2,z.F,a4,c4,F4,a5,c5,F5,a6,c6,J6,a7,c7,F7⟩,none,0,[]⟩ ⟨by show 0+1≤_;omega,Nat.le_refl _⟩ fun s hs0=>?_
 obtain ⟨k,⟨x1,w1,K1,x2,w2,K2,x3,w3,K3,x4,w4,K4,x5,w5,K5,x6,w6,K6,x7,w7,K7⟩,ea,ec,eF⟩:=s
 obtain ⟨hk,hel⟩:=hs0
 dsimp only at hk hel ⊢
 obtain ⟨hGN,hT,hSrc⟩:=Mb hg hc k (by omega)
 obtain ⟨r1,r2,r3,r4⟩:=Bz.1 hGN.l
 rw [hT] at r1 r2 r3 r4
 rw [hT,hSrc]
 refine go ?_;intros
 refine Bf rfl (fun h1=>?_) (fun h1=>?_)
 ·have hj:k+1 < n.An.Ac.length:=by omega
  obtain ⟨i1,i2,i3,i4,hrn⟩:=hGN.rn (i:=k+1) (by rw [hT];exact hj)
  rw [hT] at hrn
  obtain ⟨d0,d1_⟩:=U8 (i:=k+1)
  refine go ?_;intros
  refine cfr (fun w st=>by obtain ⟨Fq,hq⟩:=Yt (st.get (p:=.ow Bd 3 (.slice x1 n.An.Ac.length w1) n.An.Ac K1) (by exact B8));exact ⟨_,H9 hq,rfl,Yg n.An ((k+1:Nat):Int) _ Fq⟩) (fun _ _=>?_)
  refine Ar ?_
  cases hlf:Hw n.An.Ac ((k+1:Nat):Int)
  ·obtain ⟨hge,hck, -⟩:=hrn.hn (by omega) hlf
   obtain ⟨hc0,hc1⟩:=Lk.1 (Ey.1 hge).1
   have hnx:Bb n (k+1)=(⟨n.An,Jv n.Ab,(Bb n k).1.Af.set (k+1) (Dx (Bb n k).1.Af[k+1]),(Bb n k).1.Ae,(Bb n k).1.down,(Bb n k).1.up⟩,(Bb n k).2++[]):=by
    show ((J9 (Bb n k).1 (k+1)).1,(Bb n k).2++(J9 (Bb n k).1 (k+1)).2)=_
    unfold J9
    rw [hT,hlf,if_neg (by decide),Iw i1,hSrc]
   rw [List.append_nil] at hnx
   refine Va (xs:=(Bb n k).1.Af) (m:=2) (k+1) ?_ rfl i1
   rintro _ g5 A5 cs B5 k1 k2 J1 Ji J2 e5 - hc5 hH5
   rw [e5]
   refine Gh ?_
   rintro b1 d1 G1 ev l1
   obtain rfl:cs=[.int .i64 (Bb n k).1.Af[k+1].Ai,.slice b1 (Bb n k).1.Af[k+1].Ah.length d1]:=by simpa using ev
   refine go ?_;intros
   refine cf (Al3 (Bb n k).1.Af[k+1] g5 96 (0+(k+1) * 2) A5 B5 b1 d1 G1 (by omega) (by omega)) fun s9 _=>?_
   refine Ar ?_
   refine E5 (Dx (Bb n k).1.Af[k+1]) ?_
   refine Q5 _ hH5 rfl fun J5=>?_
   refine go ?_;intros
   refine Ct ⟨k+1,⟨x1,w1,K1,x2,w2,K2,x3,w3,K3,_,w4,J5,x5,w5,K5,x6,w6,K6,x7,w7,K7⟩,ea,ec,eF⟩ ⟨by show k+1+1≤_;omega,by rw [hnx];dsimp only;omega⟩ (by show n.An.Ac.length - (k+1) < n.An.Ac.length - k;omega) (by dsimp only;rw [hnx];exact frE) (by dsimp only;rw [hnx];exact hsE)
  ·obtain ⟨-,hgr0,hck⟩:=hrn.hf (by omega) hlf
   have hgr:=Gm.1 hgr0
   obtain ⟨hsm,hfew⟩:=Vy hgr
   have hnx:Bb n (k+1)=(⟨n.An,Jv n.Ab,(Bb n k).1.Af,(Bb n k).1.Ae.set (k+1) (Cj (Bb n k).1.Ae[k+1] (Ke (k+1))),(Bb n k).1.down,Np (Bb n k).1.up (k+1) (D9 (Bb n k).1.Ae[k+1])⟩,(Bb n k).2++Ny (k+1) (Ev (Bb n k).1.Ae[k+1])):=by
    show ((J9 (Bb n k).1 (k+1)).1,(Bb n k).2++(J9 (Bb n k).1 (k+1)).2)=_
    unfold J9
    rw [hT,hlf,if_pos rfl,Jo i2,hSrc];rfl
   have htl:(Ny (k+1) (Ev (Bb n k).1.Ae[k+1])).length=(Ev (Bb n k).1.Ae[k+1]).length:=List.length_map ..
   generalize hR:(Bb n k).1.Ae[k+1]=R at *
   refine go ?_;intros
   refine Va (xs:=(Bb n k).1.Ae) (m:=5) (k+1) ?_ rfl i2
   rintro _ g5 A5 cs B5 k1 k2 J1 Ji J2 e5 - hc5 hH5
   rw [e5,hR]
   refine Hp ?_
   rintro b1 d1 G1 b2 d2 G2 ev l1 l2
   obtain rfl:cs=[.bool R.Bg,.int .i64 R.Ai,.int .i64 R.Aa.next,.slice b1 R.Aa.Ao.length d1,.slice b2 R.Ap.length d2]:=by simpa using ev
   refine Aw [5] [] ?_
   refine dt 0 ?_
   refine dt 1 ?_
   refine dt 2 ?_
   refine dt 3 ?_
   refine dt 4 ?_
   refine dt 5 ?_
   refine dt 6 ?_
   refine dO 7 (by kernel_rfl) (by rw [List.getElem?_toArray];rfl) ?_
   apply At;rfl;kernel_rfl;exact Be
   refine cf (Z6 (k+1) (by omega)) fun _ _=>?_
   refine Ar ?_
   refine dk ?_
   refine dO 8 (by kernel_rfl) (by rw [List.getElem?_toArray];rfl) ?_
   apply At;rfl;kernel_rfl;exact Be
   refine cf (Al8 R (Ke (k+1)) g5 55 (0+(k+1) * 5) A5 B5 b1 d1 G1 b2 d2 G2 hgr (by omega) (by omega)) fun s9 _=>?_
   refine Ar ?_
   refine dk ?_
   refine dt 9 ?_
   refine dt 10 ?_
   refine dt 11 ?_
   refine dt 12 ?_
   refine dt 13 ?_
   refine dd ?_
   refine Jg (Cj R (Ke (k+1))) ?_
   refine Q5 _ hH5 rfl fun J5=>?_
   refine Ay (E:=Al) (xs:=D9 R) fun Fp=>?_
   refine Ab2 (E:=Al) (fun p:As=>p.data.size≤maxLen) (fun w cs x F h=>by obtain ⟨_,h,_⟩:=h;exact h) ?_
   intro hz
   refine Wy (E:=Al) (xs:=D9 R) ?_
   rintro pa pc e9 hp1 hp2
   clear e9
   refine go ?_;intros
   rw [show (Bb n k).1.up=Np (Bb n k).1.up (k+1) ((D9 R).take 0) by rw [List.take_zero,Aav]]
   refine Ck [0,2,3,4,6,56,57] (fun y:KF=>[(58,.int .i64 (y.k:Nat))]) (fun y=>[.ow (Gt Al 108) 99 (.slice x7 n.up.length w7) (Np (Bb n k).1.up (k+1) ((D9 R).take y.k)) y.F]) (fun y=>y.k≤(D9 R).length) (fun y=>(D9 R).length - y.k) ⟨0,K7⟩ (Nat.zero_le _) fun y hy0=>?_
   have hpl:=Aau (Bb n k).1.up (k+1) ((D9 R).take y.k)
   refine go ?_;intros
   refine Bf rfl (fun h2=>?_) (fun h2=>?_)
   ·have hm:y.k < (D9 R).length:=by omega
    refine Ok (xs:=D9 R) y.k ?_
    rintro hi3 b3 o3 e3 s3
    rw [e3]
    refine go ?_;intros
    refine Aw [0,6] [] ?_
    refine dt 0 ?_
    refine dt 1 ?_
    refine dt 2 ?_
    refine dt 3 ?_
    refine dt 4 ?_
    refine dt 5 ?_
    refine dO 6 (by kernel_rfl) (by rw [List.getElem?_toArray];rfl) ?_
    apply At;rfl;kernel_rfl;exact Be
    refine cf (Vm (Np (Bb n k).1.up (k+1) ((D9 R).take y.k)) (k+1) (D9 R)[y.k] x7 _ w7 y.F (by omega) (by omega) s3) fun f1 _=>?_
    refine Ar ?_
    rw [Ys i4 hm]
    refine dk ?_
    refine dd ?_
    refine go ?_;intros
    refine Ct ⟨y.k+1,f1⟩ hm (by show (D9 R).length - (y.k+1) < (D9 R).length - y.k;omega)
   ·rw [show (D9 R).take y.k=D9 R from List.take_of_length_le (by omega)]
    refine go ?_;intros
    refine cfr (fun w st=>by obtain ⟨Fq, -,hq⟩:=(st.get (p:=.ow A9 9 (.slice s9.a4 (Ev R).length s9.c4) (Ev R) s9.F4) (by exact B8)).2.read;exact ⟨[.sl A9 (.slice s9.a4 (Ev R).length s9.c4) (Ev R) Fq,Mt FT],Qm ⟨by decide,hq⟩ (st.get (p:=Mt FT) (by exact B8)),rfl,Alq (k+1) _ _ _ Fq FT (by omega) (by omega) hsm⟩) (fun u9 _=>?_)
    refine Ar ?_
    refine Ay (E:=A9) (xs:=Ny (k+1) (Ev R)) fun F8=>?_
    apply wO
    refine Ku (E:=A9) (xs:=(Bb n k).2) (ys:=Ny (k+1) (Ev R)) Dh E4 fun a9 c9 F9=>?_
    refine go ?_;intros
    refine Ct ⟨k+1,⟨x1,w1,K1,x2,w2,K2,x3,w3,K3,x4,w4,K4,_,w5,J5,x6,w6,K6,x7,w7,y.F⟩,a9,c9,F9⟩ ⟨by show k+1+1≤_;omega,by rw [hnx];dsimp only;rw [List.length_append,htl];omega⟩ (by show n.An.Ac.length - (k+1) < n.An.Ac.length - k;omega) (by dsimp only;rw [hnx];exact frE) (by dsimp only;rw [hnx];exact hsE)
 ·have hke:n.An.Ac.length - 1=k:=by omega
  rw [show Bp n=Bb n k by unfold Bp;rw [hke],hT,hSrc]
  refine go ?_;intros
  refine ret (⟨x1,w1,K1,x2,w2,K2,x3,w3,K3,x4,w4,K4,x5,w5,K5,x6,w6,K6,x7,w7,K7⟩,⟨0,ea,ec,eF⟩) trivial rfl
structure I4 where
 C2:Int
 node:Int
 data:ByteArray
def Ri:Br I4 where
 sz:=3
 Jr _ cs x F:=cs=[.int .i64 x.C2,.int .i64 x.node,.string x.data]∧x.data.size≤maxLen∧F=[]
 len h:=by obtain ⟨rfl,s1,rfl⟩:=h;rfl
 lt h:=by obtain ⟨rfl,s1,rfl⟩:=h;simp
 frame h _:=h
theorem Vo:U2 Ri:=fun h u hu=>by
 obtain ⟨rfl,s1,rfl⟩:=h
 simp only [List.mem_cons,List.not_mem_nil,or_false] at hu
 rcases hu with rfl|rfl|rfl
 ·rfl
 ·rfl
 ·rfl
def Eo (s:I4):Bool:=if s.C2=1 then decide (s.node=0) && N1 s.data else if s.C2=4 then decide (s.node=0) && decide (s.data=⟨#[]⟩) else Hq 1 s.C2 6 && L6 s.node && decide (s.data=⟨#[]⟩)
def Py (s:I4):Bool:=decide (s.C2=5) || decide (s.C2=6)
def Ov (n:Eg) (s:I4):List As:=(if Py s then n.up else n.down).getD s.node.toNat []
def Ei (n:Eg) (s:I4):Eg:=if Py s then Iq n s.node.toNat else Jx n s.node.toNat
def Cs (n:Eg) (s:I4):Option (Eg × List ByteArray) :=
 if (n.An.Ac.length:Int)≤s.node then none
 else if (Ov n s).length=0 then none
 else if s.C2=2 then some (Ci (Ei n s) s.node.toNat (Kk (Ov n s)))
 else if s.C2=5 then some (Lx (Ei n s) s.node.toNat (Kk (Ov n s)),[])
 else some (Ei n s,[])
def Bo (n:Eg) (s:I4):Option (Eg × List ByteArray) :=
 if s.C2=1 then some (Mn n s.data,[])
 else if s.C2=4 then (if n.Ab.Ai=9999 then none else some (Bp n))
 else Cs n s
def E7 (n:Eg) (r:Option (Eg × List ByteArray)):Eg:=match r with|some x=>x.1|none=>n
def Uq (r:Option (Eg × List ByteArray)):List ByteArray:=match r with|some x=>x.2|none=>[]
theorem Aii {n:Eg} {s:ByteArray} (h:A8 n=true) (hs:N1 s=true):A8 (Mn n s)=true:=by
 have hg:=A1.1 h
 have ht:=Ex hg.t
 exact A1.2 (((hg.src (Ahg hg.s hs)).sp (fun p hp=>by rw [List.mem_singleton] at hp;subst hp;exact Ah9 (Ej.1 hg.s).1 hs) (Xd ht 0)))
theorem V4 {ck:Nat→Int} {i:Nat} {c:Int} (h:ck i=c):Wz ck i c=ck:=by
 funext j;unfold Wz
 by_cases e:j=i
 ·rw [if_pos e,e,h]
 ·rw [if_neg e]
theorem Ag2 {e:Bt} {n:Int} {l:List Int}:∀x∈Pt e n l,x∈l:=Ud
theorem Ac7 (r:Bc) (p:As) (d:Int):(C9 r p d).Ai=r.Ai:=by
 unfold C9
 split
 ·rfl
 ·split <;> rfl
theorem Afa (e:Bt) (n f:Int):(Ks e n f).Ai=e.Ai:=by
 unfold Ks
 split
 ·rfl
 ·split <;> rfl
theorem Ae9 (e:Bt) (n:Int):(Mm e n).Ai=e.Ai:=by unfold Mm;split <;> rfl
theorem Aeq {n:Eg} {i:Nat} {p:As} (h:A8 n=true) (h0:i≠0) (hi:i < n.An.Ac.length) (hp:Bk p=true):A8 (Ci n i p).1=true:=by
 have hg:=A1.1 h
 have ht:=Ex hg.t
 obtain ⟨h1,h2,h3,h4,r⟩:=hg.rn hi
 have d0:1≤Ke i∧Ke i≤8:=by unfold Ke;omega
 have ee:Pj n i=n.Af[i]:=by unfold Pj;rw [List.getD_eq_getElem?_getD,List.getElem?_eq_getElem h1];rfl
 have er:Wx n i=n.Ae[i]:=by unfold Wx;rw [List.getD_eq_getElem?_getD,List.getElem?_eq_getElem h2];rfl
 have hps:∀q∈[p],Bk q=true:=fun q hq=>by rw [List.mem_singleton] at hq;rw [hq];exact hp
 unfold Ci
 cases hl:Hw n.An.Ac ((i:Nat):Int)
 ·rw [if_neg (by decide)]
  obtain ⟨he,e2, -⟩:=r.hn h0 hl
  by_cases hk:p.C2=2
  ·have:=(hg.el h0 hl (Ahe (n:=p.Ad) he)).sp hps (nodes:=Pt n.Af[i] p.Ad (Sw n i)) (fun x hx=>Xd ht i x (Ag2 x hx))
   rw [V4 (show (fun _=>n.Ab.Ai) i=(Mm n.Af[i] p.Ad).Ai by rw [Ae9,e2])] at this
   unfold Ww
   rw [if_pos hk,if_pos hk,ee]
   exact A1.2 this
  ·unfold Ww
   rw [if_neg hk,if_neg hk]
   exact A1.2 (hg.sp hps (Xd ht i))
 ·rw [if_pos rfl,er]
  obtain ⟨-,e2,e3⟩:=r.hf h0 hl
  have:=hg.rc h0 hl (Gm.2 (Pw (d:=Ke i) (Gm.1 e2) hp d0.1 d0.2).1)
  rw [V4 (show (fun _=>n.Ab.Ai) i=(C9 n.Ae[i] p (Ke i)).Ai by rw [Ac7,e3])] at this
  exact A1.2 this
theorem Anz {n:Eg} {i:Nat} {p:As} (h:A8 n=true) (h0:i≠0) (hi:i < n.An.Ac.length) (hp:Bk p=true) (hk:p.C2=3):A8 (Lx n i p)=true:=by
 have hg:=A1.1 h
 have ht:=Ex hg.t
 have hone:∀x∈[((i:Nat):Int)],x.toNat≠0:=fun x hx=>by rw [List.mem_singleton] at hx;subst hx;omega
 have h1:=ht.p i hi (by omega)
 have e:n.An.Ac.getD i 0=n.An.Ac[i]:=by rw [List.getD_eq_getElem?_getD,List.getElem?_eq_getElem hi];rfl
 obtain ⟨k,hkk⟩:∃k,Sq n i=k:=⟨_,rfl⟩
 have hk2:n.An.Ac[i]=((k:Nat):Int):=by unfold Sq at hkk;rw [e] at hkk;omega
 unfold Lx
 rw [hkk]
 by_cases hz:k=0
 ·rw [if_pos hz]
  have:=(hg.src (Ajx (n:=p.Ad) hg.s (H5 hp))).sp (Aif (Ej.1 hg.s).1 hp hk) hone
  refine A1.2 ?_
  rw [show (I0 n.Ab p.Ad).Ai=n.Ab.Ai by unfold I0;split <;> rfl]
  exact this
 ·rw [if_neg hz]
  have hkl:k < n.An.Ac.length:=by omega
  obtain ⟨r1,r2,r3,r4,r⟩:=hg.rn hkl
  have ee:Pj n k=n.Af[k]:=by unfold Pj;rw [List.getD_eq_getElem?_getD,List.getElem?_eq_getElem r1];rfl
  have hl:Hw n.An.Ac ((k:Nat):Int)=false:=by
   unfold Hw;rw [←hk2,decide_eq_true (List.getElem_mem hi)];rfl
  obtain ⟨he,e2, -⟩:=r.hn hz hl
  rw [ee]
  have hf:L6 ((i:Nat):Int)=true:=Kh.2 ⟨by omega,by have:=ht.n1;omega⟩
  have:=(hg.el hz hl (Ahf he (Ba.2 (H5 hp)) hf)).sp (nodes:=[((i:Nat):Int)]) (ps:=[Ti p]) (fun q hq=>by rw [List.mem_singleton] at hq;rw [hq];exact Ajj hp) hone
  rw [V4 (show (fun _=>n.Ab.Ai) k=(Ks n.Af[k] p.Ad ((i:Nat):Int)).Ai by rw [Afa,e2])] at this
  refine A1.2 ?_
  split
  ·exact this.un k _ (fun e=>absurd e hz) fun q a b=>⟨Vr a fun x hx=>by rw [List.mem_singleton] at hx;rw [hx];exact hp,Agf b fun x hx=>by rw [List.mem_singleton] at hx;rw [hx];exact hk⟩
  ·exact this
theorem Jm {n:Eg} {s:I4} (h:A8 n=true):H3 (Ov n s)=true∧(Py s=true→upQ (Ov n s)=true):=by
 have hg:=A1.1 h
 obtain ⟨q1,q2,q3,q4⟩:=Bz.1 hg.l
 unfold Ov
 by_cases hi:s.node.toNat < n.An.Ac.length
 ·obtain ⟨h1,h2,h3,h4,r⟩:=hg.rn hi
  cases Py s
  ·rw [if_neg (by decide),Nu h3]
   exact ⟨r.hd,fun e=>by cases e⟩
  ·rw [if_pos rfl,Nu h4]
   exact ⟨r.hu,fun _=>r.hk⟩
 ·have e:((if Py s then n.up else n.down).getD s.node.toNat [])=[]:=by
   rw [List.getD_eq_getElem?_getD,List.getElem?_eq_none (by split <;> omega)];rfl
  rw [e];exact ⟨rfl,fun _=>rfl⟩
theorem Iz {n:Eg} {s:I4} (h:A8 n=true):A8 (Ei n s)=true:=by
 have hg:=A1.1 h
 unfold Ei
 split
 ·exact A1.2 (hg.pu _)
 ·exact A1.2 (hg.pd _)
theorem Lu {q:List As} (h:0 < q.length):Kk q∈q:=by rw [Rx h];exact List.getElem_mem _
theorem Kg {q:List As} (h:H3 q=true) {p:As} (hp:p∈q):Bk p=true:=by
 unfold H3 at h
 rw [Bool.and_eq_true] at h
 exact List.all_eq_true.1 h.2 p hp
theorem Anx {q:List As} (h:upQ q=true) {p:As} (hp:p∈q):p.C2=3:=of_decide_eq_true (List.all_eq_true.1 h p hp)
theorem Ad9 {n:Eg} {s:I4} {r:Eg × List ByteArray} (h:A8 n=true) (hn:L6 s.node=true) (hr:Cs n s=some r):A8 r.1=true:=by
 have hf:=Kh.1 hn
 have hpg:=Iz (s:=s) h
 have hq:=Jm (s:=s) h
 have htl:(Ei n s).An=n.An:=by unfold Ei;split <;> rfl
 unfold Cs at hr
 split at hr
 ·cases hr
 ·rename_i h1
  split at hr
  ·cases hr
  ·rename_i h2
   have hm:=Lu (q:=Ov n s) (by omega)
   have hpk:=Kg hq.1 hm
   have hi:s.node.toNat < (Ei n s).An.Ac.length:=by rw [htl];omega
   split at hr
   ·cases hr;exact Aeq hpg (by omega) hi hpk
   ·split at hr
    ·rename_i h5
     cases hr
     exact Anz hpg (by omega) hi hpk (Anx (hq.2 (by unfold Py;rw [decide_eq_true h5];rfl)) hm)
    ·cases hr;exact hpg
theorem Qc {x:Ch} (h:Cd x=true):0≤x.Ai∧x.Ai≤9999:=by
 unfold Cd at h
 simp only [Bool.and_eq_true] at h
 exact Lk.1 h.1.1.2
theorem Ie {n:Eg} {s:I4} {r:Eg × List ByteArray} (h:A8 n=true) (hs:Eo s=true) (hr:Bo n s=some r):A8 r.1=true:=by
 unfold Bo at hr
 unfold Eo at hs
 split at hr
 ·rename_i h1
  rw [if_pos h1,Bool.and_eq_true] at hs
  cases hr
  exact Aii h hs.2
 ·rename_i h1
  split at hr
  ·rename_i h4
   split at hr
   ·cases hr
   ·rename_i hc
    cases hr
    have:=Qc (A1.1 h).s
    exact O0 h (by omega)
  ·rename_i h4
   rw [if_neg h1,if_neg h4] at hs
   simp only [Bool.and_eq_true] at hs
   exact Ad9 h hs.1.2 hr
section
variable {c:Cx} {fr:Fr} {H:List Pc} {Φ:Gl}
theorem Ao7 {a:Option Addr} {n cp:Nat} {xs:List I4} {F:List Nat} (i:Nat) (h:∀(hi:i < xs.length) (b o:Nat),a=some ⟨b,o,none⟩→xs[i].data.size≤maxLen→T c fr (.cel b (o+i * 3) [.int .i64 xs[i].C2,.int .i64 xs[i].node,.string xs[i].data]::H) Φ) (hm:.sl Ri (.slice a n cp) xs F∈H:=by exact B8) (hi:i < xs.length:=by omega):T c fr H Φ:=.mk fun ac w s g=>by
 obtain ⟨b,o,cs,G,ha,hrep,hG,hb,hne,hr⟩:=Rz (s.get hm) i hi
 obtain ⟨rfl,s1,rfl⟩:=hrep
 exact (h hi b o  ha s1 ).h ac w (s.ro hm rfl rfl ⟨hne,hr⟩ (by intro x hx;simp [Pc.F] at hx;subst hx;exact hb)) g
theorem X6 (x:I4) (s1:x.data.size≤maxLen) (w:World):Cq Ri w [.int .i64 x.C2,.int .i64 x.node,.string x.data] [x] []:=⟨_,[],[],[],by simp,by simp,⟨rfl,s1,rfl⟩,rfl,rfl⟩
end
theorem Ans (n:Eg) (s:I4) (g:Nat) (a1:Option Addr) (c1:Nat) (F1:List Nat) (a2:Option Addr) (c2:Nat) (F2:List Nat) (a3:Option Addr) (c3:Nat) (F3:List Nat) (a4:Option Addr) (c4:Nat) (F4:List Nat) (a5:Option Addr) (c5:Nat) (F5:List Nat) (a6:Option Addr) (c6:Nat) (F6:List Nat) (a7:Option Addr) (c7:Nat) (F7:List Nat) (FT:List Nat) (hg:A8 n=true) (hf:L6 s.node=true) :
  Fn prog 79 [Eu g 0 0,.agg #[.int .i64 s.C2,.int .i64 s.node,.string s.data]] [Mt FT] [.row g 39 0 [] [.slice a1 n.An.Ac.length c1,.int .i64 n.Ab.Aa.Ak,.int .i64 n.Ab.Aa.size,.slice a2 n.Ab.Aa.Aj.length c2,.int .i64 n.Ab.Ai,.int .i64 n.Ab.quiet,.slice a3 n.Ab.holds.length c3,.slice a4 n.Af.length c4,.slice a5 n.Ae.length c5,.slice a6 n.down.length c6,.slice a7 n.up.length c7] [],.ow Bd 3 (.slice a1 n.An.Ac.length c1) n.An.Ac F1,.ow A9 9 (.slice a2 n.Ab.Aa.Aj.length c2) n.Ab.Aa.Aj F2,.ow Bh 137 (.slice a3 n.Ab.holds.length c3) n.Ab.holds F3,.ow Bm 96 (.slice a4 n.Af.length c4) n.Af F4,.ow Bi 55 (.slice a5 n.Ae.length c5) n.Ae F5,.ow (Gt Al 108) 99 (.slice a6 n.down.length c6) n.down F6,.ow (Gt Al 108) 99 (.slice a7 n.up.length c7) n.up F7] (fun (_:NV × KA)=>True) (fun z=>.tuple #[.slice z.2.a (Uq (Cs n s)).length z.2.c,.bool (Cs n s).isSome]) (fun z=>[.row g 39 0 [] [.slice z.1.a1 n.An.Ac.length z.1.c1,.int .i64 (E7 n (Cs n s)).Ab.Aa.Ak,.int .i64 (E7 n (Cs n s)).Ab.Aa.size,.slice z.1.a2 (E7 n (Cs n s)).Ab.Aa.Aj.length z.1.c2,.int .i64 (E7 n (Cs n s)).Ab.Ai,.int .i64 (E7 n (Cs n s)).Ab.quiet,.slice z.1.a3 (E7 n (Cs n s)).Ab.holds.length z.1.c3,.slice z.1.a4 n.Af.length z.1.c4,.slice z.1.a5 n.Ae.length z.1.c5,.slice z.1.a6 n.down.length z.1.c6,.slice z.1.a7 n.up.length z.1.c7] [],.ow Bd 3 (.slice z.1.a1 n.An.Ac.length z.1.c1) (E7 n (Cs n s)).An.Ac z.1.F1,.ow A9 9 (.slice z.1.a2 (E7 n (Cs n s)).Ab.Aa.Aj.length z.1.c2) (E7 n (Cs n s)).Ab.Aa.Aj z.1.F2,.ow Bh 137 (.slice z.1.a3 (E7 n (Cs n s)).Ab.holds.length z.1.c3) (E7 n (Cs n s)).Ab.holds z.1.F3,.ow Bm 96 (.slice z.1.a4 n.Af.length z.1.c4) (E7 n (Cs n s)).Af z.1.F4,.ow Bi 55 (.slice z.1.a5 n.Ae.length z.1.c5) (E7 n (Cs n s)).Ae z.1.F5,.ow (Gt Al 108) 99 (.slice z.1.a6 n.down.length z.1.c6) (E7 n (Cs n s)).down z.1.F6,.ow (Gt Al 108) 99 (.slice z.1.a7 n.up.length z.1.c7) (E7 n (Cs n s)).up z.1.F7,.ow A9 9 (.slice z.2.a (Uq (Cs n s)).length z.2.c) (Uq (Cs n s)) z.2.F]):=by
 have hG:=A1.1 hg
 have h8:=Ex hG.t
 have hn8:=h8.n1
 obtain ⟨q1,q2,q3,q4⟩:=Bz.1 hG.l
 obtain ⟨f1,f2⟩:=Kh.1 hf
 obtain ⟨i,hi⟩:∃i:Nat,s.node=((i:Nat):Int):=⟨s.node.toNat,by omega⟩
 have i0:i≠0:=by omega
 refine enter func79 rfl ntmps79 fun w0=>?_
 refine Bx A9 9 ?_
 rw [hi]
 refine go ?_;intros
 refine Aw [0,2] [] ?_
 refine dt 0 ?_
 refine dt 1 ?_
 refine dt 2 ?_
 refine dt 3 ?_
 refine dt 4 ?_
 refine dt 5 ?_
 refine dt 6 ?_
 refine dt 7 ?_
 refine dt 8 ?_
 refine dd ?_
 refine go ?_;intros
 refine Bf rfl (fun h1=>?_) (fun h1=>?_)
 ·rw [show Cs n s=none by unfold Cs;rw [if_pos (by omega)]]
  refine go ?_;intros
  refine ret (⟨a1,c1,F1,a2,c2,F2,a3,c3,F3,a4,c4,F4,a5,c5,F5,a6,c6,F6,a7,c7,F7⟩,⟨0,none,0,[]⟩) trivial rfl
 have hil:i < n.An.Ac.length:=by omega
 by_cases k5:s.C2=5
 ·have hu:Py s=true:=by unfold Py;rw [decide_eq_true k5];rfl
  have hq:Ov n s=n.up[i]:=by unfold Ov;rw [hu,if_pos rfl,hi,Int.toNat_natCast];exact Nu (by omega) []
  have hpo:Ei n s=Iq n i:=by unfold Ei;rw [hu,if_pos rfl,hi,Int.toNat_natCast]
  have h6:n.up[i].length≤6:=by
   have:=(Jm (s:=s) hg).1
   rw [hq] at this
   unfold H3 at this
   simp only [Bool.and_eq_true,decide_eq_true_eq] at this
   exact this.1
  refine go ?_;intros
  refine Ee rfl rfl (fun g5=>?_) (fun g5=>?_)
  rotate_left
  ·exact absurd k5 g5
  refine go ?_;intros
  refine cf (Yq n.up i a7 _ c7 F7 rfl (by omega) h6) fun J _=>?_
  refine Ar ?_
  by_cases h0:0 < n.up[i].length
  rotate_left
  ·have hz:n.up[i]=[]:=List.length_eq_zero_iff.1 (by omega)
   rw [show Cs n s=none by unfold Cs;rw [if_neg (by omega),hq,if_pos (by omega)],decide_eq_false h0,show n.up.set i (n.up[i].drop 1)=n.up by rw [hz,List.drop_nil];rw [←hz,List.set_getElem_self]]
   refine go ?_;intros
   refine ret (⟨a1,c1,F1,a2,c2,F2,a3,c3,F3,a4,c4,F4,a5,c5,F5,a6,c6,F6,a7,c7,J⟩,⟨0,none,0,[]⟩) trivial rfl
  have hmem:=Lu h0
  have hpk:Bk (Kk n.up[i])=true:=Kg (hq▸(Jm (s:=s) hg).1) hmem
  have hpz:(Kk n.up[i]).data.size≤maxLen:=by
   have h9:=hpk
   unfold Bk N1 at h9
   simp only [Bool.and_eq_true,decide_eq_true_eq] at h9
   unfold maxLen;omega
  rw [decide_eq_true h0,show n.up.set i (n.up[i].drop 1)=(Iq n i).up from (Fb (by omega)).symm]
  have hgm:A8 (Iq n i)=true:=hpo▸Iz hg
  have hGm:=A1.1 hgm
  have hlm:n.up.length=(Iq n i).up.length:=(List.length_modify ..).symm
  generalize hP:Kk n.up[i]=P at *
  have htk:Cs n s=some (Lx (Iq n i) i P,[]):=by
   unfold Cs
   rw [if_neg (by omega),hq,if_neg (by omega),hpo,hP,hi,Int.toNat_natCast]
   rw [if_neg (by omega),if_pos k5]
  rw [htk]
  refine go ?_;intros
  refine Bf rfl (fun k2=>?_) (fun k2=>?_)
  ·exact absurd k2 (by omega)
  refine go ?_;intros
  refine Bf rfl (fun m5=>?_) (fun m5=>?_)
  rotate_left
  ·exact absurd k5 m5
  refine go ?_;intros
  rw [hlm]
  refine cf (Alu (Iq n i) i P g a1 c1 F1 a2 c2 F2 a3 c3 F3 a4 c4 F4 a5 c5 F5 a6 c6 F6 a7 c7 J hGm.l i0 hil (Ex hGm.t) hGm.s (fun k hk hkl hl=>?_) hpk hpz) fun z _=>?_
  rotate_left
  ·refine Ar ?_
   refine go ?_;intros
   refine ret (z,⟨0,none,0,[]⟩) trivial rfl
  ·obtain ⟨x1,x2,x3,x4,r⟩:=hGm.rn (i:=k) hkl
   rw [Iw x1];exact (r.hn hk hl).1
 by_cases k6:s.C2=6
 ·have hu:Py s=true:=by unfold Py;rw [decide_eq_true k6,Bool.or_true]
  have hq:Ov n s=n.up[i]:=by unfold Ov;rw [hu,if_pos rfl,hi,Int.toNat_natCast];exact Nu (by omega) []
  have hpo:Ei n s=Iq n i:=by unfold Ei;rw [hu,if_pos rfl,hi,Int.toNat_natCast]
  have h6:n.up[i].length≤6:=by
   have:=(Jm (s:=s) hg).1
   rw [hq] at this
   unfold H3 at this
   simp only [Bool.and_eq_true,decide_eq_true_eq] at this
   exact this.1
  refine go ?_;intros
  refine Ee rfl rfl (fun g5=>?_) (fun g5=>?_)
  ·exact absurd g5 (by omega)
  refine go ?_;intros
  refine Bf rfl (fun g6=>?_) (fun g6=>?_)
  rotate_left
  ·exact absurd k6 g6
  refine go ?_;intros
  refine cf (Yq n.up i a7 _ c7 F7 rfl (by omega) h6) fun J _=>?_
  refine Ar ?_
  by_cases h0:0 < n.up[i].length
  rotate_left
  ·have hz:n.up[i]=[]:=List.length_eq_zero_iff.1 (by omega)
   rw [show Cs n s=none by unfold Cs;rw [if_neg (by omega),hq,if_pos (by omega)],decide_eq_false h0,show n.up.set i (n.up[i].drop 1)=n.up by rw [hz,List.drop_nil];rw [←hz,List.set_getElem_self]]
   refine go ?_;intros
   refine ret (⟨a1,c1,F1,a2,c2,F2,a3,c3,F3,a4,c4,F4,a5,c5,F5,a6,c6,F6,a7,c7,J⟩,⟨0,none,0,[]⟩) trivial rfl
  have hmem:=Lu h0
  have hpk:Bk (Kk n.up[i])=true:=Kg (hq▸(Jm (s:=s) hg).1) hmem
  have hpz:(Kk n.up[i]).data.size≤maxLen:=by
   have h9:=hpk
   unfold Bk N1 at h9
   simp only [Bool.and_eq_true,decide_eq_true_eq] at h9
   unfold maxLen;omega
  rw [decide_eq_true h0,show n.up.set i (n.up[i].drop 1)=(Iq n i).up from (Fb (by omega)).symm]
  have hgm:A8 (Iq n i)=true:=hpo▸Iz hg
  have hGm:=A1.1 hgm
  have hlm:n.up.length=(Iq n i).up.length:=(List.length_modify ..).symm
  generalize hP:Kk n.up[i]=P at *
  have htk:Cs n s=some (Iq n i,[]):=by
   unfold Cs
   rw [if_neg (by omega),hq,if_neg (by omega),hpo,hP,hi,Int.toNat_natCast]
   rw [if_neg (by omega),if_neg (by omega)]
  rw [htk]
  refine go ?_;intros
  refine Bf rfl (fun k2=>?_) (fun k2=>?_)
  ·exact absurd k2 (by omega)
  refine go ?_;intros
  refine Bf rfl (fun m5=>?_) (fun m5=>?_)
  ·exact absurd m5 (by omega)
  refine go ?_;intros
  refine ret (⟨a1,c1,F1,a2,c2,F2,a3,c3,F3,a4,c4,F4,a5,c5,F5,a6,c6,F6,a7,c7,J⟩,⟨0,none,0,[]⟩) trivial rfl
 ·have hu:Py s=false:=by unfold Py;rw [decide_eq_false k5,decide_eq_false k6];rfl
  have hq:Ov n s=n.down[i]:=by unfold Ov;rw [hu,if_neg (by decide),hi,Int.toNat_natCast];exact Nu (by omega) []
  have hpo:Ei n s=Jx n i:=by unfold Ei;rw [hu,if_neg (by decide),hi,Int.toNat_natCast]
  have h6:n.down[i].length≤6:=by
   have:=(Jm (s:=s) hg).1
   rw [hq] at this
   unfold H3 at this
   simp only [Bool.and_eq_true,decide_eq_true_eq] at this
   exact this.1
  refine go ?_;intros
  refine Ee rfl rfl (fun g5=>?_) (fun g5=>?_)
  ·exact absurd g5 k5
  refine go ?_;intros
  refine Bf rfl (fun g6=>?_) (fun g6=>?_)
  ·exact absurd g6 k6
  refine go ?_;intros
  refine cf (Yq n.down i a6 _ c6 F6 rfl (by omega) h6) fun J _=>?_
  refine Ar ?_
  by_cases h0:0 < n.down[i].length
  rotate_left
  ·have hz:n.down[i]=[]:=List.length_eq_zero_iff.1 (by omega)
   rw [show Cs n s=none by unfold Cs;rw [if_neg (by omega),hq,if_pos (by omega)],decide_eq_false h0,show n.down.set i (n.down[i].drop 1)=n.down by rw [hz,List.drop_nil];rw [←hz,List.set_getElem_self]]
   refine go ?_;intros
   refine ret (⟨a1,c1,F1,a2,c2,F2,a3,c3,F3,a4,c4,F4,a5,c5,F5,a6,c6,J,a7,c7,F7⟩,⟨0,none,0,[]⟩) trivial rfl
  have hmem:=Lu h0
  have hpk:Bk (Kk n.down[i])=true:=Kg (hq▸(Jm (s:=s) hg).1) hmem
  have hpz:(Kk n.down[i]).data.size≤maxLen:=by
   have h9:=hpk
   unfold Bk N1 at h9
   simp only [Bool.and_eq_true,decide_eq_true_eq] at h9
   unfold maxLen;omega
  rw [decide_eq_true h0,show n.down.set i (n.down[i].drop 1)=(Jx n i).down from (Fb (by omega)).symm]
  have hgm:A8 (Jx n i)=true:=hpo▸Iz hg
  have hGm:=A1.1 hgm
  have hlm:n.down.length=(Jx n i).down.length:=(List.length_modify ..).symm
  generalize hP:Kk n.down[i]=P at *
  have htk:Cs n s=if s.C2=2 then some (Ci (Jx n i) i P) else some (Jx n i,[]):=by
   unfold Cs
   rw [if_neg (by omega),hq,if_neg (by omega),hpo,hP,hi,Int.toNat_natCast]
   split
   ·rfl
   ·first|rfl|rw [if_neg k5]
  rw [htk]
  refine go ?_;intros
  refine Bf rfl (fun k2=>?_) (fun k2=>?_)
  ·rw [if_pos k2]
   refine go ?_;intros
   rw [hlm]
   refine cf (Ag0 (Jx n i) i P g a1 c1 F1 a2 c2 F2 a3 c3 F3 a4 c4 F4 a5 c5 F5 a6 c6 J a7 c7 F7 FT hGm.l hil (Ex hGm.t) (fun hl=>?_) (fun hl=>?_) hpk hpz) fun z _=>?_
   rotate_left
   rotate_left
   ·refine Ar ?_
    refine go ?_;intros
    refine ret (z.1,z.2) trivial rfl
   ·obtain ⟨x1,x2,x3,x4,r⟩:=hGm.rn (i:=i) hil
    rw [Jo x2];exact (r.hf i0 hl).2.1
   ·obtain ⟨x1,x2,x3,x4,r⟩:=hGm.rn (i:=i) hil
    rw [Iw x1];exact (r.hn i0 hl).1
  ·rw [if_neg k2]
   refine go ?_;intros
   refine Bf rfl (fun m5=>?_) (fun m5=>?_)
   ·exact absurd m5 k5
   refine go ?_;intros
   refine ret (⟨a1,c1,F1,a2,c2,F2,a3,c3,F3,a4,c4,F4,a5,c5,F5,a6,c6,J,a7,c7,F7⟩,⟨0,none,0,[]⟩) trivial rfl
theorem Alg (n:Eg) (s:I4) (g:Nat) (a1:Option Addr) (c1:Nat) (F1:List Nat) (a2:Option Addr) (c2:Nat) (F2:List Nat) (a3:Option Addr) (c3:Nat) (F3:List Nat) (a4:Option Addr) (c4:Nat) (F4:List Nat) (a5:Option Addr) (c5:Nat) (F5:List Nat) (a6:Option Addr) (c6:Nat) (F6:List Nat) (a7:Option Addr) (c7:Nat) (F7:List Nat) (FT:List Nat) (hg:A8 n=true) (hs:Eo s=true) (hss:s.data.size≤maxLen) :
  Fn prog 36 [Eu g 0 0,.agg #[.int .i64 s.C2,.int .i64 s.node,.string s.data]] [Mt FT] [.row g 39 0 [] [.slice a1 n.An.Ac.length c1,.int .i64 n.Ab.Aa.Ak,.int .i64 n.Ab.Aa.size,.slice a2 n.Ab.Aa.Aj.length c2,.int .i64 n.Ab.Ai,.int .i64 n.Ab.quiet,.slice a3 n.Ab.holds.length c3,.slice a4 n.Af.length c4,.slice a5 n.Ae.length c5,.slice a6 n.down.length c6,.slice a7 n.up.length c7] [],.ow Bd 3 (.slice a1 n.An.Ac.length c1) n.An.Ac F1,.ow A9 9 (.slice a2 n.Ab.Aa.Aj.length c2) n.Ab.Aa.Aj F2,.ow Bh 137 (.slice a3 n.Ab.holds.length c3) n.Ab.holds F3,.ow Bm 96 (.slice a4 n.Af.length c4) n.Af F4,.ow Bi 55 (.slice a5 n.Ae.length c5) n.Ae F5,.ow (Gt Al 108) 99 (.slice a6 n.down.length c6) n.down F6,.ow (Gt Al 108) 99 (.slice a7 n.up.length c7) n.up F7] (fun (_:NV × KA)=>True) (fun z=>.tuple #[.slice z.2.a (Uq (Bo n s)).length z.2.c,.bool (Bo n s).isSome]) (fun z=>[.row g 39 0 [] [.slice z.1.a1 n.An.Ac.length z.1.c1,.int .i64 (E7 n (Bo n s)).Ab.Aa.Ak,.int .i64 (E7 n (Bo n s)).Ab.Aa.size,.slice z.1.a2 (E7 n (Bo n s)).Ab.Aa.Aj.length z.1.c2,.int .i64 (E7 n (Bo n s)).Ab.Ai,.int .i64 (E7 n (Bo n s)).Ab.quiet,.slice z.1.a3 (E7 n (Bo n s)).Ab.holds.length z.1.c3,.slice z.1.a4 n.Af.length z.1.c4,.slice z.1.a5 n.Ae.length z.1.c5,.slice z.1.a6 n.down.length z.1.c6,.slice z.1.a7 n.up.length z.1.c7] [],.ow Bd 3 (.slice z.1.a1 n.An.Ac.length z.1.c1) (E7 n (Bo n s)).An.Ac z.1.F1,.ow A9 9 (.slice z.1.a2 (E7 n (Bo n s)).Ab.Aa.Aj.length z.1.c2) (E7 n (Bo n s)).Ab.Aa.Aj z.1.F2,.ow Bh 137 (.slice z.1.a3 (E7 n (Bo n s)).Ab.holds.length z.1.c3) (E7 n (Bo n s)).Ab.holds z.1.F3,.ow Bm 96 (.slice z.1.a4 n.Af.length z.1.c4) (E7 n (Bo n s)).Af z.1.F4,.ow Bi 55 (.slice z.1.a5 n.Ae.length z.1.c5) (E7 n (Bo n s)).Ae z.1.F5,.ow (Gt Al 108) 99 (.slice z.1.a6 n.down.length z.1.c6) (E7 n (Bo n s)).down z.1.F6,.ow (Gt Al 108) 99 (.slice z.1.a7 n.up.length z.1.c7) (E7 n (Bo n s)).up z.1.F7,.ow A9 9 (.slice z.2.a (Uq (Bo n s)).length z.2.c) (Uq (Bo n s)) z.2.F]):=by
 have hG:=A1.1 hg
 have h8:=Ex hG.t
 have hn8:=h8.n1
 have hn2:=h8.n0
 obtain ⟨q1,q2,q3,q4⟩:=Bz.1 hG.l
 have hS:=Mi hG.s
 obtain ⟨-,⟨hz1, -⟩, -, -⟩:=Dw.1 hS.w
 have hkl:=P3 n.An.Ac 0
 have hkx:∀x∈Fv n.An.Ac 0,0≤x∧x.toNat < n.down.length:=fun x hx=>by have:=Iy (i:=0) h8 hx;omega
 refine enter func36 rfl ntmps36 fun w0=>?_
 refine Bx A9 9 ?_
 refine go ?_;intros
 rename_i gs
 refine Bf rfl (fun h1=>?_) (fun h1=>?_)
 ·rw [show Bo n s=some (Mn n s.data,[]) by unfold Bo;rw [if_pos h1]]
  refine go ?_;intros
  refine dsI [.cel g 0 [.slice a1 n.An.Ac.length c1],.row gs 48 0 [] [.int .i64 s.C2,.int .i64 s.node,.string s.data] []] [] ?_
  refine dtI 0 (fun w h=>Qm (E8 (h (.row g _ 0 [] _ []) (by exact B8))) (h _ (by exact B8))) ?_
  refine dtI 1 (fun w h=>Qm (E8 (h (.row g _ 0 [] _ []) (by exact B8))) (h _ (by exact B8))) ?_
  refine dtI 2 (fun w h=>Qm (E8 (h (.row g _ 0 [] _ []) (by exact B8))) (h _ (by exact B8))) ?_
  refine dtI 3 (fun w h=>Qm (E8 (h (.row g _ 0 [] _ []) (by exact B8))) (h _ (by exact B8))) ?_
  refine dtI 4 (fun w h=>Qm (E8 (h (.row g _ 0 [] _ []) (by exact B8))) (h _ (by exact B8))) ?_
  refine dtI 6 (fun w h=>Qm (E8 (h (.row g _ 0 [] _ []) (by exact B8))) (h _ (by exact B8))) ?_
  refine dtI 7 (fun w h=>Qm (E8 (h (.row g _ 0 [] _ []) (by exact B8))) (h _ (by exact B8))) ?_
  refine dtI 8 (fun w h=>Qm (E8 (h (.row g _ 0 [] _ []) (by exact B8))) (h _ (by exact B8))) ?_
  refine dtI 9 (fun w h=>Qm (E8 (h (.row g _ 0 [] _ []) (by exact B8))) (h _ (by exact B8))) ?_
  refine dtI 10 (fun w h=>Qm (E8 (h (.row g _ 0 [] _ []) (by exact B8))) (h _ (by exact B8))) ?_
  refine dO 5 (by kernel_rfl) (by rw [List.getElem?_toArray];rfl) ?_
  apply At;rfl;kernel_rfl;exact Be
  refine cfr (fun w st=>by obtain ⟨Fq,hq⟩:=Yt (st.get (p:=.ow Bd 3 (.slice a1 n.An.Ac.length c1) n.An.Ac F1) (by exact B8));exact ⟨_,H9 hq,rfl,Th n.An 0 _ Fq (by show n.An.Ac.length≤1000000;omega)⟩) (fun u _=>?_)
  refine Ar ?_
  refine Ay (E:=Bd) (xs:=Fv n.An.Ac 0) fun Fk=>?_
  refine dkI (fun w h=>Qm (E8 (h (.row g _ 0 [] _ []) (by exact B8))) (h _ (by exact B8))) ?_
  refine dO 11 (by kernel_rfl) (by rw [List.getElem?_toArray];rfl) ?_
  apply At;rfl;kernel_rfl;exact Be
  refine cf (Ajv (X:=[.slice a1 n.An.Ac.length c1]) (cs:=[.int .i64 n.Ab.Aa.Ak,.int .i64 n.Ab.Aa.size,.slice a2 n.Ab.Aa.Aj.length c2,.int .i64 n.Ab.Ai,.int .i64 n.Ab.quiet,.slice a3 n.Ab.holds.length c3]) (Y:=[.slice a4 n.Af.length c4,.slice a5 n.Ae.length c5,.slice a6 n.down.length c6,.slice a7 n.up.length c7]) (L:=[.slice a1 n.An.Ac.length c1,.int .i64 n.Ab.Aa.Ak,.int .i64 n.Ab.Aa.size,.slice a2 n.Ab.Aa.Aj.length c2,.int .i64 n.Ab.Ai,.int .i64 n.Ab.quiet,.slice a3 n.Ab.holds.length c3,.slice a4 n.Af.length c4,.slice a5 n.Ae.length c5,.slice a6 n.down.length c6,.slice a7 n.up.length c7]) (L':=fun z:SeS=>[.slice a1 n.An.Ac.length c1,.int .i64 (C8 n.Ab.Aa s.data).Ak,.int .i64 (C8 n.Ab.Aa s.data).size,.slice z.a (C8 n.Ab.Aa s.data).Aj.length z.c,.int .i64 n.Ab.Ai,.int .i64 0,.slice z.a2 (K9 (C8 n.Ab.Aa s.data) n.Ab.holds).length z.c2,.slice a4 n.Af.length c4,.slice a5 n.Ae.length c5,.slice a6 n.down.length c6,.slice a7 n.up.length c7]) (cs':=fun z:SeS=>[.int .i64 (C8 n.Ab.Aa s.data).Ak,.int .i64 (C8 n.Ab.Aa s.data).size,.slice z.a (C8 n.Ab.Aa s.data).Aj.length z.c,.int .i64 n.Ab.Ai,.int .i64 0,.slice z.a2 (K9 (C8 n.Ab.Aa s.data) n.Ab.holds).length z.c2]) (Al9 n.Ab.Aa s.data n.Ab.holds g 39 (0+1) _ _ a2 a3 c2 c3 n.Ab.Ai n.Ab.quiet F2 F3 hS.l hS.t0 hS.t1 hss hz1 hS.n) rfl rfl (fun _=>rfl)) fun z _=>?_
  refine Ar ?_
  refine dkI (fun w h=>Qm (E8 (h (.row g _ 0 [] _ []) (by exact B8))) (h _ (by exact B8))) ?_
  refine dO 12 (by kernel_rfl) (by rw [List.getElem?_toArray];rfl) ?_
  apply Hh;rfl;rfl;rfl;rfl;exact Hb;exact Gp;intro _
  refine Dz (E:=Al) (xs:=[Dg n.Ab.Aa s.data]) (C4 (Dg n.Ab.Aa s.data) hss) ?_ (by simp)
  refine Ay (E:=Al) (xs:=[Dg n.Ab.Aa s.data]) fun Fp=>?_
  refine dkI (fun w h=>Qm (E8 (h (.row g _ 0 [] _ []) (by exact B8))) (h _ (by exact B8))) ?_
  refine dO 13 (by kernel_rfl) (by rw [List.getElem?_toArray];rfl) ?_
  apply At;rfl;kernel_rfl;exact Be
  refine cf (Tj n.down (Fv n.An.Ac 0) [Dg n.Ab.Aa s.data] g _ _ _ _ _ _ _ _ _ _ a6 _ c6 F6 _ _ Fk _ _ Fp rfl hkx) fun J6 _=>?_
  refine Ar ?_
  refine dkI (fun w h=>Qm (E8 (h (.row g _ 0 [] _ []) (by exact B8))) (h _ (by exact B8))) ?_
  refine dd ?_
  refine go ?_;intros
  refine ret (⟨a1,c1,F1,z.a,z.c,z.F,z.a2,z.c2,z.F2,a4,c4,F4,a5,c5,F5,a6,c6,J6,a7,c7,F7⟩,⟨0,none,0,[]⟩) trivial rfl
 refine go ?_;intros
 refine Bf rfl (fun h4=>?_) (fun h4=>?_)
 ·refine go ?_;intros
  refine Bf rfl (fun hc=>?_) (fun hc=>?_)
  ·rw [show Bo n s=none by unfold Bo;rw [if_neg h1,if_pos h4,if_pos hc]]
   refine go ?_;intros
   refine ret (⟨a1,c1,F1,a2,c2,F2,a3,c3,F3,a4,c4,F4,a5,c5,F5,a6,c6,F6,a7,c7,F7⟩,⟨0,none,0,[]⟩) trivial rfl
  ·rw [show Bo n s=some (Bp n) by unfold Bo;rw [if_neg h1,if_pos h4,if_neg hc]]
   have hck:=Qc hG.s
   refine go ?_;intros
   refine cf (Afv n g a1 c1 F1 a2 c2 F2 a3 c3 F3 a4 c4 F4 a5 c5 F5 a6 c6 F6 a7 c7 F7 FT hg (by omega)) fun z _=>?_
   refine Ar ?_
   refine go ?_;intros
   refine ret (z.1,z.2) trivial rfl
 ·rw [show Bo n s=Cs n s by unfold Bo;rw [if_neg h1,if_neg h4]]
  have hf:L6 s.node=true:=by
   unfold Eo at hs
   rw [if_neg h1,if_neg h4] at hs
   simp only [Bool.and_eq_true] at hs
   exact hs.1.2
  refine go ?_;intros
  refine cf (Ans n s g a1 c1 F1 a2 c2 F2 a3 c3 F3 a4 c4 F4 a5 c5 F5 a6 c6 F6 a7 c7 F7 FT hg hf) fun z _=>?_
  refine Ar ?_
  refine go ?_;intros
  refine ret (z.1,z.2) trivial rfl
theorem Zm (s:I4) (hss:s.data.size≤maxLen):Fn prog 34 [.agg #[.int .i64 s.C2,.int .i64 s.node,.string s.data]] [] [] (fun (_:Unit)=>True) (fun _=>.bool (Eo s)) (fun _=>[]):=by
 refine enter func34 rfl ntmps34 fun w0=>?_
 refine go ?_;intros
 refine Bf rfl (fun h1=>?_) (fun h1=>?_)
 ·rw [show Eo s=(decide (s.node=0) && N1 s.data) by unfold Eo;rw [if_pos h1]]
  refine go ?_;intros
  refine Ee rfl rfl (fun h2=>?_) (fun h2=>?_)
  ·refine go ?_;intros
   refine cb (fun w st=>Uk s.data w hss) ?_
   refine go ?_;intros
   refine ret () trivial ?_
   rw [decide_eq_true h2];rfl
  ·refine go ?_;intros
   refine ret () trivial ?_
   rw [decide_eq_false h2];rfl
 refine go ?_;intros
 refine Bf rfl (fun h4=>?_) (fun h4=>?_)
 ·rw [show Eo s=(decide (s.node=0) && decide (s.data=⟨#[]⟩)) by unfold Eo;rw [if_neg h1,if_pos h4]]
  refine go ?_;intros
  refine Ee rfl rfl (fun h2=>?_) (fun h2=>?_)
  ·refine go ?_;intros
   refine ret () trivial ?_
   rw [decide_eq_true h2];rfl
  ·refine go ?_;intros
   refine ret () trivial ?_
   rw [decide_eq_false h2];rfl
 rw [show Eo s=(Hq 1 s.C2 6 && L6 s.node && decide (s.data=⟨#[]⟩)) by unfold Eo;rw [if_neg h1,if_neg h4]]
 refine go ?_;intros
 refine Bf rfl (fun k2=>?_) (fun k2=>?_)
 ·refine go ?_;intros
  refine Bf rfl (fun _=>?_) (fun hx=>absurd k2 hx)
  refine go ?_;intros
  refine ce (fun w st=>Px s.node _) ?_
  cases g5:L6 s.node
  ·refine go ?_;intros
   refine ret () trivial ?_
   rw [Bool.and_false,Bool.false_and];rfl
  ·refine go ?_;intros
   refine ret () trivial ?_
   rw [show Hq 1 s.C2 6=true by unfold Hq;simp;omega];rfl
 ·refine go ?_;intros
  refine Bf rfl (fun k3=>?_) (fun k3=>?_)
  ·refine go ?_;intros
   refine Bf rfl (fun _=>?_) (fun hx=>absurd k3 hx)
   refine go ?_;intros
   refine ce (fun w st=>Px s.node _) ?_
   cases g5:L6 s.node
   ·refine go ?_;intros
    refine ret () trivial ?_
    rw [Bool.and_false,Bool.false_and];rfl
   ·refine go ?_;intros
    refine ret () trivial ?_
    rw [show Hq 1 s.C2 6=true by unfold Hq;simp;omega];rfl
  ·refine go ?_;intros
   refine Bf rfl (fun k5=>?_) (fun k5=>?_)
   ·refine go ?_;intros
    refine Bf rfl (fun _=>?_) (fun hx=>absurd k5 hx)
    refine go ?_;intros
    refine ce (fun w st=>Px s.node _) ?_
    cases g5:L6 s.node
    ·refine go ?_;intros
     refine ret () trivial ?_
     rw [Bool.and_false,Bool.false_and];rfl
    ·refine go ?_;intros
     refine ret () trivial ?_
     rw [show Hq 1 s.C2 6=true by unfold Hq;simp;omega];rfl
   ·refine go ?_;intros
    refine Bf rfl (fun k6=>?_) (fun k6=>?_)
    ·refine go ?_;intros
     refine ce (fun w st=>Px s.node _) ?_
     cases g5:L6 s.node
     ·refine go ?_;intros
      refine ret () trivial ?_
      rw [Bool.and_false,Bool.false_and];rfl
     ·refine go ?_;intros
      refine ret () trivial ?_
      rw [show Hq 1 s.C2 6=true by unfold Hq;simp;omega];rfl
    ·refine go ?_;intros
     refine ret () trivial ?_
     rw [show Hq 1 s.C2 6=false by unfold Hq;simp;omega];rfl
def Lz:Eg:=⟨⟨[]⟩,Aee,[],[],[],[]⟩
theorem Ky {n:Eg} (h:A8 n=true):(∀x∈n.Af,Bw x=true)∧(∀x∈n.Ae,Hc x=true)∧(∀q∈n.down,H3 q=true)∧∀q∈n.up,H3 q=true:=by
 have hG:=A1.1 h
 obtain ⟨q1,q2,q3,q4⟩:=Bz.1 hG.l
 refine ⟨fun x hx=>?_,fun x hx=>?_,fun x hx=>?_,fun x hx=>?_⟩
 all_goals
  obtain ⟨i,hi,rfl⟩:=List.getElem_of_mem hx
  obtain ⟨h1,h2,h3,h4,r⟩:=hG.rn (i:=i) (by omega)
 ·by_cases e:i=0
  ·exact Yc (r.hz e).1
  ·cases l:Hw n.An.Ac ((i:Nat):Int)
   ·exact (r.hn e l).1
   ·exact Yc (r.hf e l).1
 ·by_cases e:i=0
  ·exact Ye (r.hz e).2.1
  ·cases l:Hw n.An.Ac ((i:Nat):Int)
   ·exact Ye (r.hn e l).2.2
   ·exact (r.hf e l).2.1
 ·exact r.hd
 ·exact r.hu
theorem Gk {q:List As} (h:H3 q=true):q.length≤6∧∀p∈q,Bk p=true:=by
 unfold H3 at h
 simpa [List.all_eq_true] using h
theorem S0 {n:Eg} (h:A8 n=true):Ajc n:=by
 have hG:=A1.1 h
 have h8:=(Ex hG.t).n1
 obtain ⟨q1,q2,q3,q4⟩:=Bz.1 hG.l
 have hS:=Mi hG.s
 have hl:=hS.l
 have hm:=hS.m
 obtain ⟨e1,e2,e3,e4⟩:=Ky h
 refine ⟨by omega,by omega,by omega,by omega,fun x hx=>?_,fun x hx y hy=>?_,by omega,fun x hx=>⟨?_,?_⟩,by omega,fun q hq=>?_,by omega,fun q hq=>?_⟩
 ·have:=(Ey.1 (e1 x hx)).2.1;omega
 ·have:=(Aab (e1 x hx)).2.2 y hy;omega
 ·have:=(I5 (Gm.1 (e2 x hx)).w).1;omega
 ·have:=(Dr.1 (Gm.1 (e2 x hx)).q).2.1;omega
 ·have:=(Gk (e3 q hq)).1;omega
 ·have:=(Gk (e4 q hq)).1;omega
theorem Pb (n:Eg):∀k,(Bb n k).1.An=n.An
 | 0=>rfl
 | k+1=>(T0 _ _).1.trans (Pb n k)
theorem Lm {n:Eg} {s:I4} {r:Eg × List ByteArray} (hr:Bo n s=some r):r.1.An=n.An:=by
 have hd:∀(n:Eg) i p,(Ci n i p).1.An=n.An:=fun n i p=>by unfold Ci;split <;> rfl
 have hu:∀(n:Eg) i p,(Lx n i p).An=n.An:=fun n i p=>by unfold Lx;split <;> rfl
 have hp:(Ei n s).An=n.An:=by unfold Ei;split <;> rfl
 unfold Bo Cs at hr
 split at hr
 ·cases hr;rfl
 split at hr
 ·split at hr
  ·cases hr
  ·cases hr;exact Pb n _
 split at hr
 ·cases hr
 split at hr
 ·cases hr
 split at hr
 ·cases hr;exact (hd _ _ _).trans hp
 split at hr
 ·cases hr;exact (hu _ _ _).trans hp
 ·cases hr;exact hp
theorem Abq {n m:Eg} (h1:A8 n=true) (h2:A8 m=true) (h:m.An=n.An):n.An.Ac.length=m.An.Ac.length∧n.Af.length=m.Af.length∧n.Ae.length=m.Ae.length∧n.down.length=m.down.length∧n.up.length=m.up.length:=by
 obtain ⟨p1,p2,p3,p4⟩:=Bz.1 (A1.1 h1).l
 obtain ⟨q1,q2,q3,q4⟩:=Bz.1 (A1.1 h2).l
 rw [h] at q1 q2 q3 q4
 exact ⟨by rw [h],by omega,by omega,by omega,by omega⟩
def Av (n:Eg) (s:I4):Eg × List ByteArray × Bool:=if A8 n && Eo s then (match Bo n s with
 | some r=>(r.1,r.2,true)
 | none=>(Lz,[],false)) else (Lz,[],false)
theorem Rc (e:Bt) (v:Value) (F:List Nat):Fn prog 120 [v] [.isv Bv v e F] [] (fun (_:Unit)=>True) (fun _=>.bool (Qf e)) (fun _=>[]):=by
 refine enter func120 rfl ntmps120 fun w0=>?_
 refine Er ?_
 rintro a1 c1 F1 rfl l1
 refine go ?_;intros
 refine Ee rfl rfl (fun h1=>?_) (fun h1=>?_)
 ·refine go ?_;intros
  refine ret () trivial ?_
  unfold Qf
  rw [decide_eq_true h1,Bool.true_and]
  by_cases h:e.Ah.length=0
  ·rw [decide_eq_true h,decide_eq_true (by omega)];rfl
  ·rw [decide_eq_false h,decide_eq_false (by omega)];rfl
 ·refine go ?_;intros
  refine ret () trivial ?_
  unfold Qf
  rw [decide_eq_false h1];rfl
theorem Apl (p:As) (hs:p.data.size≤maxLen):Fn prog 172 [.agg #[.int .i64 (p).C2,.int .i64 (p).Ad,.int .i64 (p).Ak,.int .i64 (p).D0,.string (p).data]] [] [] (fun (_:Unit)=>True) (fun _=>.bool (!Bk p)) (fun _=>[]):=by
 refine enter func172 rfl ntmps172 fun w0=>?_
 refine go ?_;intros
 refine cf (Q9 p hs) fun _ _=>?_
 refine Ar ?_
 refine go ?_;intros
 refine ret () trivial rfl
theorem Aag (l:List As) (a:Option Addr) (c:Nat) (F:List Nat):Fn prog 117 [.slice a l.length c] [.sl Al (.slice a l.length c) l F] [] (fun (_:Unit)=>True) (fun _=>.bool (H3 l)) (fun _=>[]):=by
 refine enter func117 rfl ntmps117 fun w0=>?_
 refine Ab2 (E:=Al) (fun p:As=>p.data.size≤maxLen) (fun w cs x F h=>by obtain ⟨_,h,_⟩:=h;exact h) ?_
 intro hz
 refine go ?_;intros
 refine Ee rfl rfl (fun h1=>?_) (fun h1=>?_)
 ·refine go ?_;intros
  refine cb (fun w st=>(Aft 172 [] [] [] rfl l a c F (fun p=>!Bk p) (by kernel_rfl) (by omega) (fun p hp w _=>(Apl p (hz p hp)).val w (by intro q hq;cases hq))).val w (H9 (st.get (p:=.sl Al (.slice a l.length c) l F) (by exact B8)))) ?_
  refine go ?_;intros
  refine ret () trivial ?_
  unfold H3
  rw [decide_eq_true (show l.length≤6 by omega),List.not_any_eq_all_not];simp;rfl
 ·refine go ?_;intros
  refine ret () trivial ?_
  unfold H3
  rw [decide_eq_false (show ¬l.length≤6 by omega)];rfl
theorem Pz (r:Bc) (v:Value) (F:List Nat):Fn prog 121 [v] [.isv Cb v r F] [] (fun (_:Unit)=>True) (fun _=>.bool (Sc r)) (fun _=>[]):=by
 have key:∀b:Bool,(b=(!r.Bg && decide (r.Ai=0) && (decide (r.Aa.next=0) && decide (r.Aa.Ao.length=0) && decide (r.Ap.length=0))))→b=Sc r:=fun b h=>h
 refine enter func121 rfl ntmps121 fun w0=>?_
 refine Ic ?_
 rintro a1 c1 F1 a2 c2 F2 rfl l1 l2
 unfold maxLen at l1 l2
 cases hs:r.Bg <;> rw [hs] at key
 ·refine go ?_;intros
  refine Ee rfl rfl (fun h1=>?_) (fun h1=>?_)
  ·refine go ?_;intros
   refine Ee rfl rfl (fun h2=>?_) (fun h2=>?_)
   ·refine go ?_;intros
    refine Ee rfl rfl (fun h3=>?_) (fun h3=>?_)
    ·refine go ?_;intros
     refine ret () trivial ?_
     rw [←key (decide ((r.Ap.length:Int)=0)) (by simp [h1,h2,show r.Aa.Ao.length=0 by omega])];rfl
    ·refine go ?_;intros
     refine ret () trivial ?_
     rw [←key false (by simp [show ¬r.Aa.Ao=[] from fun e=>h3 (by rw [e];rfl)])];rfl
   ·refine go ?_;intros
    refine ret () trivial ?_
    rw [←key false (by simp [h2])];rfl
  ·refine go ?_;intros
   refine ret () trivial ?_
   rw [←key false (by simp [h1])];rfl
 ·refine go ?_;intros
  refine ret () trivial ?_
  rw [←key false (by simp)];rfl
theorem Apk (p:As):Fn prog 119 [.agg #[.int .i64 (p).C2,.int .i64 (p).Ad,.int .i64 (p).Ak,.int .i64 (p).D0,.string (p).data]] [] [] (fun (_:Unit)=>True) (fun _=>.bool (!decide (p.C2=3))) (fun _=>[]):=by
 refine enter func119 rfl ntmps119 fun w0=>?_
 refine go ?_;intros
 refine ret () trivial ?_
 rw [←decide_not];rfl
theorem Anw (l:List As):(l.any fun p=>!decide (p.C2=3)) = !upQ l:=by
 unfold upQ;rw [List.not_all_eq_any_not]
theorem Akd {α:Type} (l:List α):decide ((l.length:Int)=0)=decide (l.length=0):=by
 by_cases h:l.length=0
 ·rw [decide_eq_true h,decide_eq_true (by omega)]
 ·rw [decide_eq_false h,decide_eq_false (by omega)]
theorem Ak5 {par:List Int} {clk:Int} {i:Nat} {e:Bt} {r:Bc} {d u:List As} (h:(H3 d && H3 u && upQ u)=false):Qy par clk i e r d u=false:=by unfold Qy;rw [h];rfl
theorem Ap1 {par:List Int} {clk:Int} {i:Nat} {e:Bt} {r:Bc} {d u:List As} (h:(H3 d && H3 u && upQ u)=true):Qy par clk i e r d u=(if i=0 then Qf e && Sc r && decide (d.length=0) && decide (u.length=0)
  else if Hw par i then Qf e && Hc r && decide (r.Ai=clk) else Bw e && decide (e.Ai=clk) && Sc r):=by unfold Qy;rw [h,Bool.true_and]
theorem Zs (n:Eg) (i:Nat) (v:Value) (F:List Nat) (hl:L7 n=true) (hi:i < n.An.Ac.length):Fn prog 69 [v,.int .i64 (i:Nat)] [.isv Pp v n F] [] (fun (_:Unit)=>True) (fun _=>.bool (Rl n i)) (fun _=>[]):=by
 obtain ⟨q1,q2,q3,q4⟩:=Bz.1 hl
 rw [U6 (by omega) (by omega) (by omega) (by omega)]
 refine enter func69 rfl ntmps69 fun w0=>?_
 refine Hf ?_
 rintro a1 c1 F1 a2 c2 F2 a3 c3 F3 a4 c4 F4 a5 c5 F5 a6 c6 F6 a7 c7 F7 rfl l1 l2 l3 l4 l5 l6 l7
 unfold maxLen at l1 l2 l3 l4 l5 l6 l7
 refine M3 n.An ?_
 refine U5 (xs:=n.Af) i ?_
 rintro hi4 b4 o4 a8 c8 F8 rfl l8
 refine Ho n.Af[i] ?_
 refine Qh (xs:=n.Ae) i ?_
 rintro hi5 b5 o5 a9 c9 F9 a10 c10 F10 rfl l9 l10
 refine Ga n.Ae[i] ?_
 refine Rm (E:=Al) (hz:=by decide) (xs:=n.down) i ?_
 rintro hi6 b6 o6 a11 c11 F11 rfl l11
 refine Rm (E:=Al) (hz:=by decide) (xs:=n.up) i ?_
 rintro hi7 b7 o7 a12 c12 F12 rfl l12
 unfold maxLen at l8 l9 l10 l11 l12
 refine go ?_;intros
 refine Gc [1,2,4] [0,1,2,3,4,5,6,7,8,9,10,11,12,13,14,15,16,17,18,19,20] (fun z:Nat × Nat=>[(5,Eu z.1 0 0),(6,Eu z.2 0 0)]) (fun z=>[.row z.1 96 0 [] [.int .i64 n.Af[i].Ai,.slice a8 n.Af[i].Ah.length c8] [],.row z.2 55 0 [] [.bool n.Ae[i].Bg,.int .i64 n.Ae[i].Ai,.int .i64 n.Ae[i].Aa.next,.slice a9 n.Ae[i].Aa.Ao.length c9,.slice a10 n.Ae[i].Ap.length c10] []]) (fun _=>True) ?_ fun z _=>?_
 ·refine Aw [0,6,10] [] ?_
  refine dt 0 ?_
  refine dt 1 ?_
  refine dt 2 ?_
  refine dt 3 ?_
  refine dt 4 ?_
  refine dt 5 ?_
  refine dt 6 ?_
  refine dt 7 ?_
  refine dt 8 ?_
  refine dt 9 ?_
  refine Ob 10 11 (by kernel_rfl) (by rw [List.getElem?_toArray];rfl) (by rw [List.getElem?_toArray];rfl) ?_ ?_
  ·apply Co;rfl;intro _
   refine dk ?_
   refine dO 11 (by kernel_rfl) (by rw [List.getElem?_toArray];rfl) ?_
   apply Co;rfl;intro _
   refine dk ?_
   refine dO 12 (by kernel_rfl) (by rw [List.getElem?_toArray];rfl) ?_
   apply Cu;rfl;rfl;rfl;(first|exact AggC.s|exact OneC.s);rfl;exact Cw;exact Cv;rfl
   refine dk ?_
   refine dO 13 (by kernel_rfl) (by rw [List.getElem?_toArray];rfl) ?_
   apply Cu;rfl;rfl;rfl;(first|exact AggC.s|exact OneC.s);rfl;exact Cw;exact Cv;rfl
   refine dk ?_
   refine dd ?_
   refine Cm ((_,_):Nat × Nat) trivial
  ·apply Co;rfl;intro _
   refine dk ?_
   refine dO 10 (by kernel_rfl) (by rw [List.getElem?_toArray];rfl) ?_
   apply Co;rfl;intro _
   refine dk ?_
   refine dO 12 (by kernel_rfl) (by rw [List.getElem?_toArray];rfl) ?_
   apply Cu;rfl;rfl;rfl;(first|exact AggC.s|exact OneC.s);rfl;exact Cw;exact Cv;rfl
   refine dk ?_
   refine dO 13 (by kernel_rfl) (by rw [List.getElem?_toArray];rfl) ?_
   apply Cu;rfl;rfl;rfl;(first|exact AggC.s|exact OneC.s);rfl;exact Cw;exact Cv;rfl
   refine dk ?_
   refine dd ?_
   refine Cm ((_,_):Nat × Nat) trivial
 refine go ?_;intros
 refine cf (Aag n.down[i] _ _ F11) fun _ _=>?_
 refine Ar ?_
 cases g1:H3 n.down[i]
 ·rw [Ak5 (by rw [g1];rfl)]
  refine go ?_;intros
  refine ret () trivial rfl
 refine go ?_;intros
 refine cf (Aag n.up[i] _ _ F12) fun _ _=>?_
 refine Ar ?_
 cases g2:H3 n.up[i]
 ·rw [Ak5 (by rw [g1,g2];rfl)]
  refine go ?_;intros
  refine ret () trivial rfl
 have u6:n.up[i].length≤6:=by
  unfold H3 at g2
  simp only [Bool.and_eq_true,decide_eq_true_eq] at g2
  exact g2.1
 refine go ?_;intros
 refine cb (fun w st=>(Aft 119 [] [] [] rfl n.up[i] a12 c12 F12 (fun p=>!decide (p.C2=3)) (by kernel_rfl) (by omega) (fun p hp w _=>(Apk p).val w (by intro q hq;cases hq))).val w (H9 (st.get (p:=.sl Al (.slice a12 n.up[i].length c12) n.up[i] F12) (by exact B8)))) ?_
 rw [Anw]
 cases g3:upQ n.up[i]
 ·rw [Ak5 (by rw [g1,g2,g3];rfl)]
  refine go ?_;intros
  refine ret () trivial rfl
 rw [Ap1 (by rw [g1,g2,g3];rfl)]
 refine go ?_;intros
 refine Bf rfl (fun h0=>?_) (fun h0=>?_)
 ·obtain rfl:i=0:=by omega
  rw [if_pos rfl]
  refine go ?_;intros
  refine cf (Rc n.Af[0] _ F8) fun _ _=>?_
  refine Ar ?_
  cases g4:Qf n.Af[0]
  ·refine go ?_;intros
   refine ret () trivial rfl
  refine go ?_;intros
  refine cf (Pz n.Ae[0] _ (F9++F10)) fun _ _=>?_
  refine Ar ?_
  cases g5:Sc n.Ae[0]
  ·refine go ?_;intros
   refine ret () trivial rfl
  refine go ?_;intros
  refine Ee rfl rfl (fun h6=>?_) (fun h6=>?_)
  ·refine go ?_;intros
   refine ret () trivial ?_
   rw [←Akd n.down[0],←Akd n.up[0],decide_eq_true h6];rfl
  ·refine go ?_;intros
   refine ret () trivial ?_
   rw [←Akd n.down[0],decide_eq_false h6];rfl
 rw [if_neg (by omega)]
 refine go ?_;intros
 refine cf (Yg n.An i _ F1) fun _ _=>?_
 refine Ar ?_
 cases g6:Hw n.An.Ac i
 ·rw [if_neg (by decide)]
  refine go ?_;intros
  refine cb (fun w st=>U1 _ n.Af[i] F8 w (st.get (p:=.isv Bv (.agg #[.int .i64 n.Af[i].Ai,.slice a8 n.Af[i].Ah.length c8]) n.Af[i] F8) (by exact B8))) ?_
  cases g4:Bw n.Af[i]
  ·refine go ?_;intros
   refine ret () trivial rfl
  refine go ?_;intros
  refine Ee rfl rfl (fun h7=>?_) (fun h7=>?_)
  ·refine go ?_;intros
   refine cf (Pz n.Ae[i] _ (F9++F10)) fun _ _=>?_
   refine Ar ?_
   refine go ?_;intros
   refine ret () trivial ?_
   rw [decide_eq_true h7];rfl
  ·refine go ?_;intros
   refine ret () trivial ?_
   rw [decide_eq_false h7];rfl
 ·rw [if_pos rfl]
  refine go ?_;intros
  refine cf (Rc n.Af[i] _ F8) fun _ _=>?_
  refine Ar ?_
  cases g4:Qf n.Af[i]
  ·refine go ?_;intros
   refine ret () trivial rfl
  refine go ?_;intros
  refine cf (T7 n.Ae[i] _ (F9++F10)) fun _ _=>?_
  refine Ar ?_
  cases g5:Hc n.Ae[i]
  ·refine go ?_;intros
   refine ret () trivial rfl
  refine go ?_;intros
  refine ret () trivial rfl
theorem T6 (n:Eg) (v:Value) (F:List Nat):Fn prog 33 [v] [.isv Pp v n F] [] (fun (_:Unit)=>True) (fun _=>.bool (A8 n)) (fun _=>[]):=by
 refine enter func33 rfl ntmps33 fun w0=>?_
 refine Hf ?_
 rintro a1 c1 F1 a2 c2 F2 a3 c3 F3 a4 c4 F4 a5 c5 F5 a6 c6 F6 a7 c7 F7 rfl l1 l2 l3 l4 l5 l6 l7
 unfold maxLen at l1 l2 l3 l4 l5 l6 l7
 refine M3 n.An ?_
 refine D7 n.Ab ?_
 refine go ?_;intros
 refine cf (Pg n.An _ F1) fun _ _=>?_
 refine Ar ?_
 cases g1:El n.An
 ·rw [show A8 n=false by unfold A8;rw [g1];rfl]
  refine go ?_;intros
  refine ret () trivial rfl
 refine go ?_;intros
 refine cf (Ra n.Ab _ (F2++F3)) fun _ _=>?_
 refine Ar ?_
 cases g2:Cd n.Ab
 ·rw [show A8 n=false by unfold A8;rw [g1,g2];rfl]
  refine go ?_;intros
  refine ret () trivial rfl
 refine go ?_;intros
 refine Ee rfl rfl (fun m0=>?_) (fun m0=>?_)
 ·rw [show A8 n=false by
   have:L7 n=false:=by
    cases hl:L7 n
    ·rfl
    ·obtain ⟨q1,q2,q3,q4⟩:=Bz.1 hl;exact absurd (by omega) m0
   unfold A8;rw [this];simp]
  refine go ?_;intros
  refine ret () trivial rfl
 refine go ?_;intros
 refine Ee rfl rfl (fun m1=>?_) (fun m1=>?_)
 ·rw [show A8 n=false by
   have:L7 n=false:=by
    cases hl:L7 n
    ·rfl
    ·obtain ⟨q1,q2,q3,q4⟩:=Bz.1 hl;exact absurd (by omega) m1
   unfold A8;rw [this];simp]
  refine go ?_;intros
  refine ret () trivial rfl
 refine go ?_;intros
 refine Ee rfl rfl (fun m2=>?_) (fun m2=>?_)
 ·rw [show A8 n=false by
   have:L7 n=false:=by
    cases hl:L7 n
    ·rfl
    ·obtain ⟨q1,q2,q3,q4⟩:=Bz.1 hl;exact absurd (by omega) m2
   unfold A8;rw [this];simp]
  refine go ?_;intros
  refine ret () trivial rfl
 refine go ?_;intros
 refine Bf rfl (fun m3=>?_) (fun m3=>?_)
 ·rw [show A8 n=false by
   have:L7 n=false:=by
    cases hl:L7 n
    ·rfl
    ·obtain ⟨q1,q2,q3,q4⟩:=Bz.1 hl;exact absurd (by omega) m3
   unfold A8;rw [this];simp]
  refine go ?_;intros
  refine ret () trivial rfl
 have q1:n.Af.length=n.An.Ac.length:=by omega
 have q2:n.Ae.length=n.An.Ac.length:=by omega
 have q3:n.down.length=n.An.Ac.length:=by omega
 have q4:n.up.length=n.An.Ac.length:=by omega
 have hl:=Bz.2 ⟨q1,q2,q3,q4⟩
 refine go ?_;intros
 refine H2 [1,2,47] (fun k:Nat=>[(48,.int .i64 (k:Nat))]) (fun k=>k≤n.An.Ac.length∧∀j,j < k→Rl n j=true) (fun k=>n.An.Ac.length - k) 0 ⟨Nat.zero_le _,fun j h=>by omega⟩ fun k hk=>?_
 obtain ⟨hk1,hk2⟩:=hk
 refine go ?_;intros
 refine Bf rfl (fun h1=>?_) (fun h1=>?_)
 ·have hh:k < n.An.Ac.length:=by omega
  refine go ?_;intros
  refine cf (Zs n k _ F hl hh) fun _ _=>?_
  refine Ar ?_
  cases g:Rl n k
  ·rw [Aew hh g]
   refine go ?_;intros
   refine ret () trivial rfl
  refine go ?_;intros
  refine Ct (k+1) ⟨hh,fun j hj=>?_⟩ (by show n.An.Ac.length - (k+1) < n.An.Ac.length - k;omega)
  rcases Nat.lt_or_eq_of_le (Nat.lt_succ_iff.1 hj) with h|rfl
  ·exact hk2 j h
  ·exact g
 ·obtain rfl:k=n.An.Ac.length:=by omega
  refine go ?_;intros
  refine ret () trivial ?_
  rw [Wc.2 ⟨g1,g2,hl,hk2⟩];rfl
structure Wu where
 cs:List Value
 F:List Nat
 a:Option Addr
 c:Nat
 Fe:List Nat
theorem Y7 {n:Eg} {s:I4} (h:(A8 n && Eo s)=false):Av n s=(Lz,[],false):=by unfold Av;rw [h];rfl
theorem Zz (n:Eg) (s:I4) (v:Value) (F FT:List Nat) (hss:s.data.size≤maxLen):Fn prog 10 [v,.agg #[.int .i64 s.C2,.int .i64 s.node,.string s.data]] [.isv Pp v n F,Mt FT] [] (fun (_:Wu)=>True) (fun z=>.tuple #[.agg z.cs.toArray,.slice z.a (Av n s).2.1.length z.c,.bool (Av n s).2.2]) (fun z=>[.own Aek (.agg z.cs.toArray) (Av n s).1 z.F,.ow A9 9 (.slice z.a (Av n s).2.1.length z.c) (Av n s).2.1 z.Fe]):=by
 refine enter func10 rfl ntmps10 fun w0=>?_
 refine Hf ?_
 rintro a1 c1 F1 a2 c2 F2 a3 c3 F3 a4 c4 F4 a5 c5 F5 a6 c6 F6 a7 c7 F7 rfl l1 l2 l3 l4 l5 l6 l7
 refine Bx Bd 3 ?_
 refine Bx A9 9 ?_
 refine Bx Bh 137 ?_
 refine Bx Bm 96 ?_
 refine Bx Bi 55 ?_
 refine Bx (Gt Al 108) 99 ?_
 refine Bx (Gt Al 108) 99 ?_
 refine L4 Lz ?_
 refine Bx A9 9 ?_
 refine go ?_;intros
 refine cf (T6 n _ F) fun _ _=>?_
 refine Ar ?_
 cases g1:A8 n
 ·rw [Y7 (n:=n) (s:=s) (by rw [g1];rfl)]
  refine go ?_;intros
  refine ret (⟨[.slice none 0 0,.int .i64 0,.int .i64 0,.slice none 0 0,.int .i64 0,.int .i64 0,.slice none 0 0,.slice none 0 0,.slice none 0 0,.slice none 0 0,.slice none 0 0],_,none,0,[]⟩:Wu) trivial rfl
 refine go ?_;intros
 refine cf (Zm s hss) fun _ _=>?_
 refine Ar ?_
 cases g2:Eo s
 ·rw [Y7 (n:=n) (s:=s) (by rw [g1,g2];rfl)]
  refine go ?_;intros
  refine ret (⟨[.slice none 0 0,.int .i64 0,.int .i64 0,.slice none 0 0,.int .i64 0,.int .i64 0,.slice none 0 0,.slice none 0 0,.slice none 0 0,.slice none 0 0,.slice none 0 0],_,none,0,[]⟩:Wu) trivial rfl
 refine go ?_;intros
 refine cf (Ace n _ F (S0 g1)) fun z _=>?_
 refine Ar ?_
 refine go ?_;intros
 rename_i g
 refine cf (Alg n s g z.a1 z.c1 z.F1 z.a2 z.c2 z.F2 z.a3 z.c3 z.F3 z.a4 z.c4 z.F4 z.a5 z.c5 z.F5 z.a6 z.c6 z.F6 z.a7 z.c7 z.F7 FT g1 g2 hss) fun y _=>?_
 refine Ar ?_
 cases e:Bo n s with
 | none =>
  rw [show Av n s=(Lz,[],false) by unfold Av;rw [g1,g2,e];rfl]
  refine go ?_;intros
  refine ret (⟨[.slice none 0 0,.int .i64 0,.int .i64 0,.slice none 0 0,.int .i64 0,.int .i64 0,.slice none 0 0,.slice none 0 0,.slice none 0 0,.slice none 0 0,.slice none 0 0],_,none,0,[]⟩:Wu) trivial rfl
 | some r =>
  rw [show Av n s=(r.1,r.2,true) by unfold Av;rw [g1,g2,e];rfl]
  have hr:=Ie g1 g2 e
  obtain ⟨k1,k2,k3,k4,k5⟩:=Abq g1 hr (Lm e)
  change T _ _ (.row g 39 0 [] [.slice y.1.a1 n.An.Ac.length y.1.c1,.int .i64 r.1.Ab.Aa.Ak,.int .i64 r.1.Ab.Aa.size,.slice y.1.a2 r.1.Ab.Aa.Aj.length y.1.c2,.int .i64 r.1.Ab.Ai,.int .i64 r.1.Ab.quiet,.slice y.1.a3 r.1.Ab.holds.length y.1.c3,.slice y.1.a4 n.Af.length y.1.c4,.slice y.1.a5 n.Ae.length y.1.c5,.slice y.1.a6 n.down.length y.1.c6,.slice y.1.a7 n.up.length y.1.c7] []::.ow Bd 3 (.slice y.1.a1 n.An.Ac.length y.1.c1) r.1.An.Ac y.1.F1::.ow A9 9 (.slice y.1.a2 r.1.Ab.Aa.Aj.length y.1.c2) r.1.Ab.Aa.Aj y.1.F2::.ow Bh 137 (.slice y.1.a3 r.1.Ab.holds.length y.1.c3) r.1.Ab.holds y.1.F3::.ow Bm 96 (.slice y.1.a4 n.Af.length y.1.c4) r.1.Af y.1.F4::.ow Bi 55 (.slice y.1.a5 n.Ae.length y.1.c5) r.1.Ae y.1.F5::.ow (Gt Al 108) 99 (.slice y.1.a6 n.down.length y.1.c6) r.1.down y.1.F6::.ow (Gt Al 108) 99 (.slice y.1.a7 n.up.length y.1.c7) r.1.up y.1.F7::.ow A9 9 (.slice y.2.a r.2.length y.2.c) r.2 y.2.F::_) _
  rw [k1,k2,k3,k4,k5]
  refine L4 r.1 ?_
  refine go ?_;intros
  refine ret (⟨[.slice y.1.a1 r.1.An.Ac.length y.1.c1,.int .i64 r.1.Ab.Aa.Ak,.int .i64 r.1.Ab.Aa.size,.slice y.1.a2 r.1.Ab.Aa.Aj.length y.1.c2,.int .i64 r.1.Ab.Ai,.int .i64 r.1.Ab.quiet,.slice y.1.a3 r.1.Ab.holds.length y.1.c3,.slice y.1.a4 r.1.Af.length y.1.c4,.slice y.1.a5 r.1.Ae.length y.1.c5,.slice y.1.a6 r.1.down.length y.1.c6,.slice y.1.a7 r.1.up.length y.1.c7],_,_,_,_⟩:Wu) trivial rfl
theorem Uu {n:Eg} (hg:A8 n=true) (hc:n.Ab.Ai < 9999):∀k,k+1≤n.An.Ac.length→(Bb n k).2.length≤40000 * k
 | 0,_=>Nat.le_refl _
 | k+1,hk=>by
  have h:=Uu hg hc k (by omega)
  obtain ⟨hGN,hT,hSrc⟩:=Mb hg hc k (by omega)
  obtain ⟨i1,i2,i3,i4,hrn⟩:=hGN.rn (i:=k+1) (by rw [hT];omega)
  show ((Bb n k).2++(J9 (Bb n k).1 (k+1)).2).length≤_
  rw [List.length_append]
  have:(J9 (Bb n k).1 (k+1)).2.length≤40000:=by
   unfold J9
   split
   ·rename_i hl
    have hgr:=Gm.1 (hrn.hf (by omega) hl).2.1
    obtain ⟨-,hfew⟩:=Vy hgr
    rw [Jo i2]
    show ((Ev _).map _).length≤_
    rw [List.length_map];omega
   ·exact Nat.zero_le _
  omega
theorem Ad7 {n:Eg} {s:I4} {r:Eg × List ByteArray} (hg:A8 n=true) (hs:Eo s=true) (hr:Bo n s=some r):r.2.length≤400000:=by
 have hG:=A1.1 hg
 have h8:=Ex hG.t
 have hn8:=h8.n1
 have hn2:=h8.n0
 have hck:=Qc hG.s
 have hr0:=hr
 unfold Bo at hr
 split at hr
 ·cases hr;exact Nat.zero_le _
 split at hr
 ·split at hr
  ·cases hr
  ·cases hr
   have:=Uu hg (by omega) (n.An.Ac.length - 1) (by omega)
   show (Bb n (n.An.Ac.length - 1)).2.length≤_
   omega
 unfold Cs at hr
 split at hr
 ·cases hr
 split at hr
 ·cases hr
 split at hr
 ·rename_i h1 h4 hlt h0 hk
  cases hr
  have hgp:=Iz (s:=s) hg
  have hGp:=A1.1 hgp
  have hf:L6 s.node=true:=by
   have:=hs
   unfold Eo at this
   rw [if_neg h1,if_neg h4] at this
   simp only [Bool.and_eq_true] at this
   exact this.1.2
  obtain ⟨f1,f2⟩:=Kh.1 hf
  have hpt:(Ei n s).An=n.An:=by unfold Ei;split <;> rfl
  obtain ⟨i1,i2,i3,i4,hrn⟩:=hGp.rn (i:=s.node.toNat) (by rw [hpt];omega)
  unfold Ci
  split
  ·rename_i hl
   have hgr:=Gm.1 (hrn.hf (by omega) hl).2.1
   obtain ⟨d0,d1⟩:=U8 (i:=s.node.toNat)
   have hp:Bk (Kk (Ov n s))=true:=Kg (Jm (s:=s) hg).1 (Lu (by omega))
   have:=(Pw hgr hp d0 d1).2
   rw [Jo i2]
   show ((Ff _ _).map _).length≤_
   rw [List.length_map];omega
  ·exact Nat.zero_le _
 split at hr
 ·cases hr;exact Nat.zero_le _
 ·cases hr;exact Nat.zero_le _
abbrev NE:=Eg × List ByteArray
def Hg (i:Nat):I4:=⟨2,(i:Int),⟨#[]⟩⟩
def Jb (i:Nat):I4:=⟨5,(i:Int),⟨#[]⟩⟩
def Kt (x:NE) (s:I4):NE:=(E7 x.1 (Bo x.1 s),x.2++Uq (Bo x.1 s))
def Aga (x:NE) (i:Nat):NE:=Kt (Kt x (Hg i)) (Jb i)
def I2 (x:NE):Nat→NE
 | 0=>x
 | k+1=>Aga (I2 x k) (k+1)
def Tv (x:NE):NE:=I2 x (x.1.An.Ac.length - 1)
def Qt (x:NE):Nat→Bool
 | 0=>false
 | k+1=>Qt x k || (Bo (I2 x k).1 (Hg (k+1))).isSome || (Bo (Kt (I2 x k) (Hg (k+1))).1 (Jb (k+1))).isSome
def qd (l:List (List As)):Nat:=(l.map List.length).sum
def Zj (n:Eg):Nat:=qd n.down+qd n.up
def vd (i:Nat):Nat:=8 ^ (7 - i)
def vu (i:Nat):Nat:=524289 * i
def wN (n:Eg):Nat:=Jd vd 0 n.down+Jd vu 0 n.up
def Om:Nat→NE→NE
 | 0,x=>x
 | f+1,x=>if Zj x.1=0 then x else Om f (Tv x)
def drE (x:NE):NE:=Om (wN x.1) x
def O2 (n:Eg):NE:=drE (n,[])
theorem Alw (i:Nat):0 < vd i:=Nat.pow_pos (by decide)
theorem Aot {i:Nat} (h:1≤i):vd i≤262144:=Nat.le_trans (Nat.pow_le_pow_right (n:=8) (by decide) (show 7 - i≤6 by omega)) (by decide)
theorem Alv {nodes:List Int} {i:Nat} (hl:nodes.length≤7) (h:∀x∈nodes,i < x.toNat∧x.toNat≤7):T3 vd nodes+1≤vd i:=by
 cases nodes with
 | nil=>exact Alw i
 | cons x r =>
  obtain ⟨a,b⟩:=h x (by simp)
  have h1:=Aa5 vd (8 ^ (6 - i)) (x::r) fun y hy=>by
   have:=h y hy
   exact Nat.pow_le_pow_right (by decide) (by omega)
  have h2:=Nat.mul_le_mul_right (8 ^ (6 - i)) hl
  have h3:0 < 8 ^ (6 - i):=Nat.pow_pos (by decide)
  have h4:vd i=8 ^ (6 - i) * 8:=by unfold vd;rw [←Nat.pow_succ];congr 1;omega
  omega
theorem Aou {i p:Nat} (h0:1≤i) (h:p < i):2 * vd i+vu p+1≤vu i:=by
 have h1:=Aot h0
 unfold vu
 omega
theorem Aj4 {l:List Int} (hg:Mw l) (i:Nat):(Fv l (i:Int)).length≤7:=by
 have h0:=hg.n0
 have h1:=hg.n1
 rw [←Aah (Od hg.z (Int.natCast_nonneg i)) (k:=l.length - 1) (by omega)]
 have:=Aai l (i:Int) (l.length - 1)
 omega
theorem Acy {e:Bt} (he:Bw e=true) {n:Int} {l:List Int} (hl:l.length≤7):(Pt e n l).length≤7:=by
 unfold Pt
 split
 ·rename_i x hx
  exact Nat.le_trans (List.length_filter_le _ _) ((Aab he).2.2 x (List.mem_of_getElem? hx))
 ·split
  ·exact hl
  ·exact Nat.zero_le _
theorem Amo {n:Eg} (hg:A8 n=true) (i:Nat) (p:As):(Ww n i p).length≤7∧∀x∈Ww n i p,i < x.toNat∧x.toNat≤7:=by
 have hG:=A1.1 hg
 have h8:=Ex hG.t
 have hn8:=h8.n1
 have hk:=Aj4 h8 i
 have hb:∀x∈Sw n i,i < x.toNat∧x.toNat≤7:=fun x hx=>by
  have:=Iy h8 hx
  omega
 unfold Ww
 split
 ·refine ⟨?_,fun x hx=>hb x (Ud x hx)⟩
  by_cases hi:i < n.Af.length
  ·have ee:Pj n i=n.Af[i]:=by unfold Pj;rw [List.getD_eq_getElem?_getD,List.getElem?_eq_getElem hi];rfl
   rw [ee]
   exact Acy ((Ky hg).1 _ (List.getElem_mem hi)) hk
  ·have ee:Pj n i=⟨0,[]⟩:=by unfold Pj;rw [List.getD_eq_getElem?_getD,List.getElem?_eq_none (by omega)];rfl
   rw [ee]
   exact Acy (by decide) hk
 ·exact ⟨hk,hb⟩
theorem Aml {n:Eg} (hg:A8 n=true) (i:Nat) (p:As):wN (Ci n i p).1+1≤wN n+vd i:=by
 have h0:=Alw i
 unfold Ci
 split
 ·show wN n+1≤_
  omega
 ·obtain ⟨h1,h2⟩:=Amo hg i p
  have h3:=Alv h1 h2
  have h4:=Pe vd [p] (Ww n i p) n.down
  show Jd vd 0 (Dd n.down (Ww n i p) [p])+Jd vu 0 n.up+1≤Jd vd 0 n.down+Jd vu 0 n.up+vd i
  simp only [List.length_singleton,Nat.one_mul] at h4
  omega
theorem Ak2 (x:Ch) (p:As):(J8 x p).length≤2:=by
 unfold J8
 split
 ·split
  ·exact (by decide:1≤2)
  ·exact (by decide:2≤2)
 ·exact (by decide:1≤2)
theorem Asj {n:Eg} (hg:A8 n=true) {i:Nat} (h0:1≤i) (hi:i < n.An.Ac.length) (p:As):wN (Lx n i p)+1≤wN n+vu i:=by
 have hG:=A1.1 hg
 have h8:=Ex hG.t
 have hn8:=h8.n1
 have hv:=Aot h0
 have hone:T3 vd [((i:Nat):Int)]=vd i:=by show vd ((i:Nat):Int).toNat+0=_;rfl
 unfold Lx
 split
 ·have h4:=Pe vd (J8 n.Ab p) [((i:Nat):Int)] n.down
  have h5:=Nat.mul_le_mul_right (vd i) (Ak2 n.Ab p)
  rw [hone] at h4
  have h6:=Aou (p:=0) h0 (by omega)
  show Jd vd 0 (Dd n.down [((i:Nat):Int)] (J8 n.Ab p))+Jd vu 0 n.up+1≤Jd vd 0 n.down+Jd vu 0 n.up+vu i
  omega
 ·rename_i hp
  have hlt:Sq n i < i:=by
   have:=h8.p i hi (by omega)
   unfold Sq
   rw [List.getD_eq_getElem?_getD,List.getElem?_eq_getElem hi]
   show (n.An.Ac[i]).toNat < i
   omega
  have h4:=Pe vd [Ti p] [((i:Nat):Int)] n.down
  rw [hone] at h4
  simp only [List.length_singleton,Nat.one_mul] at h4
  have h6:=Aou h0 hlt
  have h7:=Aed vu n.up (Sq n i) [p]
  simp only [List.length_singleton,Nat.one_mul] at h7
  show Jd vd 0 (Dd n.down [((i:Nat):Int)] [Ti p])+Jd vu 0 (if Vb (Pj n (Sq n i)) p.Ad then n.up.modify (Sq n i) fun q=>Eq q [p] else n.up)+1≤Jd vd 0 n.down+Jd vu 0 n.up+vu i
  split <;> omega
theorem Aoo (f:Nat→Nat) {l:List (List As)} {i:Nat} (hi:i < l.length) (h0:¬(l.getD i []).length=0):Jd f 0 (l.modify i (·.drop 1))+f i=Jd f 0 l:=by
 rw [Nu hi] at h0
 rw [Fb hi]
 exact Aly f l i hi (by omega)
theorem Sm {n:Eg} {i:Nat} (hi:i < n.An.Ac.length):Bo n (Hg i)=if (n.down.getD i []).length=0 then none else some (Ci (Jx n i) i (Kk (n.down.getD i []))):=by
 unfold Bo
 rw [if_neg (by show ¬(2:Int)=1;decide),if_neg (by show ¬(2:Int)=4;decide)]
 unfold Cs
 rw [if_neg (by show ¬((n.An.Ac.length:Int)≤(i:Int));omega)]
 rfl
theorem Q1 {n:Eg} {i:Nat} (hi:i < n.An.Ac.length):Bo n (Jb i)=if (n.up.getD i []).length=0 then none else some (Lx (Iq n i) i (Kk (n.up.getD i [])),[]):=by
 unfold Bo
 rw [if_neg (by show ¬(5:Int)=1;decide),if_neg (by show ¬(5:Int)=4;decide)]
 unfold Cs
 rw [if_neg (by show ¬((n.An.Ac.length:Int)≤(i:Int));omega)]
 rfl
theorem Apq {i:Nat} (h0:1≤i) (h:i≤7):Eo (Hg i)=true:=by
 unfold Eo
 rw [if_neg (by show ¬(2:Int)=1;decide),if_neg (by show ¬(2:Int)=4;decide)]
 have:L6 (Hg i).node=true:=Kh.2 (by show 1≤((i:Nat):Int)∧((i:Nat):Int)≤7;omega)
 rw [this];rfl
theorem Anc {i:Nat} (h0:1≤i) (h:i≤7):Eo (Jb i)=true:=by
 unfold Eo
 rw [if_neg (by show ¬(5:Int)=1;decide),if_neg (by show ¬(5:Int)=4;decide)]
 have:L6 (Jb i).node=true:=Kh.2 (by show 1≤((i:Nat):Int)∧((i:Nat):Int)≤7;omega)
 rw [this];rfl
theorem Agz {n:Eg} (hg:A8 n=true) {i:Nat} {p:As} (hp:Bk p=true) (h0:1≤i) (hi:i < n.An.Ac.length):(Ci n i p).2.length≤24:=by
 obtain ⟨i1,i2,i3,i4,hrn⟩:=(A1.1 hg).rn hi
 unfold Ci
 split
 ·rename_i hl
  have hgr:=Gm.1 (hrn.hf (by omega) hl).2.1
  obtain ⟨d0,d1⟩:=U8 (i:=i)
  have:=(Pw hgr hp d0 d1).2
  rw [Jo i2]
  show ((Ff _ _).map _).length≤_
  rw [List.length_map];exact this
 ·exact Nat.zero_le _
theorem Aoe (n:Eg) (i:Nat) (p:As):(Ci n i p).1.Ab=n.Ab:=by unfold Ci;split <;> rfl
theorem Aof (n:Eg) (i:Nat) (p:As):(Lx n i p).Ab.Ai=n.Ab.Ai:=by
 unfold Lx
 split
 ·show (I0 n.Ab p.Ad).Ai=_
  unfold I0
  split <;> rfl
 ·rfl
structure Rj (x y:NE):Prop where
 g:A8 y.1=true
 t:y.1.An=x.1.An
 c:y.1.Ab.Ai=x.1.Ab.Ai
 e:y.2.length+24 * wN y.1≤x.2.length+24 * wN x.1
 w:wN y.1≤wN x.1
theorem Rj.refl {x:NE} (h:A8 x.1=true):Rj x x:=⟨h,rfl,rfl,Nat.le_refl _,Nat.le_refl _⟩
theorem Rj.trans {x y z:NE} (h:Rj x y) (k:Rj y z):Rj x z:=⟨k.g,k.t.trans h.t,k.c.trans h.c,Nat.le_trans k.e h.e,Nat.le_trans k.w h.w⟩
theorem If {x:NE} {s:I4} (h:Bo x.1 s=none):Kt x s=x:=by
 unfold Kt
 rw [h]
 show (x.1,x.2++[])=x
 rw [List.append_nil]
theorem V3 {x:NE} {s:I4} {r:NE} (h:Bo x.1 s=some r):Kt x s=(r.1,x.2++r.2):=by
 unfold Kt
 rw [h];rfl
theorem Als {x:NE} (hg:A8 x.1=true) {i:Nat} (h0:1≤i) (hi:i < x.1.An.Ac.length):Rj x (Kt x (Hg i))∧((Bo x.1 (Hg i)).isSome=true→wN (Kt x (Hg i)).1 < wN x.1):=by
 have hG:=A1.1 hg
 have hn8:=(Ex hG.t).n1
 obtain ⟨q1,q2,q3,q4⟩:=Bz.1 hG.l
 cases e:Bo x.1 (Hg i) with
 | none =>
  rw [If e]
  exact ⟨.refl hg,fun h=>by cases h⟩
 | some r =>
  have hr:=Ie hg (Apq h0 (by omega)) e
  have ht:=Lm e
  rw [V3 e]
  rw [Sm hi] at e
  split at e
  ·cases e
  ·rename_i hq
   cases e
   have hp:=GN.pd (A1.1 hg) i
   have hpg:A8 (Jx x.1 i)=true:=A1.2 hp
   have h1:=Aml hpg i (Kk (x.1.down.getD i []))
   have h2:wN (Jx x.1 i)+vd i=wN x.1:=by
    have:=Aoo vd (l:=x.1.down) (i:=i) (by omega) hq
    show Jd vd 0 (x.1.down.modify i (·.drop 1))+Jd vu 0 x.1.up+vd i=Jd vd 0 x.1.down+Jd vu 0 x.1.up
    omega
   have hpk:Bk (Kk (x.1.down.getD i []))=true:=Kg (Jm (s:=Hg i) hg).1 (Lu (by show 0 < (x.1.down.getD i []).length;omega))
   have h3:=Agz hpg hpk h0 hi
   have hlt:wN (Ci (Jx x.1 i) i (Kk (x.1.down.getD i []))).1 < wN x.1:=by omega
   refine ⟨⟨hr,ht,by rw [Aoe];rfl,?_,Nat.le_of_lt hlt⟩,fun _=>hlt⟩
   show (x.2++_).length+24 * wN (Ci (Jx x.1 i) i (Kk (x.1.down.getD i []))).1≤_
   rw [List.length_append]
   omega
theorem Aos {x:NE} (hg:A8 x.1=true) {i:Nat} (h0:1≤i) (hi:i < x.1.An.Ac.length):Rj x (Kt x (Jb i))∧((Bo x.1 (Jb i)).isSome=true→wN (Kt x (Jb i)).1 < wN x.1)∧(Kt x (Jb i)).2=x.2:=by
 have hG:=A1.1 hg
 have hn8:=(Ex hG.t).n1
 obtain ⟨q1,q2,q3,q4⟩:=Bz.1 hG.l
 cases e:Bo x.1 (Jb i) with
 | none =>
  rw [If e]
  exact ⟨.refl hg,fun h=>(by cases h),rfl⟩
 | some r =>
  have hr:=Ie hg (Anc h0 (by omega)) e
  have ht:=Lm e
  rw [V3 e]
  rw [Q1 hi] at e
  split at e
  ·cases e
  ·rename_i hq
   cases e
   have hp:=GN.pu (A1.1 hg) i
   have hpg:A8 (Iq x.1 i)=true:=A1.2 hp
   have h1:=Asj hpg h0 hi (Kk (x.1.up.getD i []))
   have h2:wN (Iq x.1 i)+vu i=wN x.1:=by
    have:=Aoo vu (l:=x.1.up) (i:=i) (by omega) hq
    show Jd vd 0 x.1.down+Jd vu 0 (x.1.up.modify i (·.drop 1))+vu i=Jd vd 0 x.1.down+Jd vu 0 x.1.up
    omega
   have hlt:wN (Lx (Iq x.1 i) i (Kk (x.1.up.getD i []))) < wN x.1:=by omega
   refine ⟨⟨hr,ht,by rw [Aof];rfl,?_,Nat.le_of_lt hlt⟩,fun _=>hlt,List.append_nil _⟩
   show (x.2++[]).length+24 * wN (Lx (Iq x.1 i) i (Kk (x.1.up.getD i [])))≤_
   rw [List.append_nil]
   omega
theorem Ox {x:NE} (hg:A8 x.1=true):∀k,k+1≤x.1.An.Ac.length→Rj x (I2 x k)∧(Qt x k=true→wN (I2 x k).1 < wN x.1)∧(Qt x k=false→I2 x k=x∧∀i,1≤i→i≤k→Bo x.1 (Hg i)=none∧Bo x.1 (Jb i)=none)
 | 0,_=>⟨.refl hg,fun h=>(by cases h),fun _=>⟨rfl,fun i a b=>by omega⟩⟩
 | k+1,hk=>by
  obtain ⟨f1,m1,z1⟩:=Ox hg k (by omega)
  have hk1:k+1 < (I2 x k).1.An.Ac.length:=by rw [f1.t];omega
  obtain ⟨f2,m2⟩:=Als f1.g (by omega) hk1
  have hk2:k+1 < (Kt (I2 x k) (Hg (k+1))).1.An.Ac.length:=by rw [f2.t];exact hk1
  obtain ⟨f3,m3,e3⟩:=Aos f2.g (by omega) hk2
  have w2:=f2.w
  have w3:=f3.w
  have w1:=f1.w
  refine ⟨(f1.trans f2).trans f3,fun h=>?_,fun h=>?_⟩
  ·show wN (Kt (Kt (I2 x k) (Hg (k+1))) (Jb (k+1))).1 < _
   unfold Qt at h
   rw [Bool.or_eq_true,Bool.or_eq_true] at h
   rcases h with (h|h)|h
   ·have:=m1 h;omega
   ·have:=m2 h;omega
   ·have:=m3 h;omega
  ·unfold Qt at h
   rw [Bool.or_eq_false_iff,Bool.or_eq_false_iff] at h
   obtain ⟨⟨h1,h2⟩,h3⟩:=h
   obtain ⟨e1,z⟩:=z1 h1
   have n2:Bo (I2 x k).1 (Hg (k+1))=none:=by simpa using h2
   have n3:Bo (Kt (I2 x k) (Hg (k+1))).1 (Jb (k+1))=none:=by simpa using h3
   have e2:=If n2
   rw [e2] at n3
   refine ⟨?_,fun i a b=>?_⟩
   ·show Kt (Kt (I2 x k) (Hg (k+1))) (Jb (k+1))=x
    rw [e2,If n3,e1]
   ·by_cases hi:i=k+1
    ·subst hi
     rw [e1] at n2 n3
     exact ⟨n2,n3⟩
    ·exact z i a (by omega)
theorem Xi:∀{l:List (List As)},qd l=0↔∀q∈l,q=[]
 | []=>by simp [qd]
 | x::r=>by
  have ih:=Xi (l:=r)
  show x.length+qd r=0↔_
  rw [Nat.add_eq_zero_iff,List.length_eq_zero_iff,ih]
  simp
theorem Ac4 {l:List (List As)} {i:Nat} (h:qd l=0):(l.getD i []).length=0:=by
 rw [List.getD_eq_getElem?_getD]
 cases e:l[i]? with
 | none=>rfl
 | some q=>rw [Xi.1 h q (List.mem_of_getElem? e)];rfl
theorem Wl {n:Eg} (hg:A8 n=true):(n.down.getD 0 []).length=0∧(n.up.getD 0 []).length=0:=by
 have hG:=A1.1 hg
 have h2:=(Ex hG.t).n0
 obtain ⟨h1,h2,h3,h4,r⟩:=hG.rn (i:=0) (by omega)
 obtain ⟨-, -,a,b⟩:=r.hz rfl
 rw [Nu h3,Nu h4]
 exact ⟨a,b⟩
theorem Ani {n:Eg} (hg:A8 n=true) (h:∀i,1≤i→i < n.An.Ac.length→Bo n (Hg i)=none∧Bo n (Jb i)=none):Zj n=0:=by
 have hG:=A1.1 hg
 obtain ⟨q1,q2,q3,q4⟩:=Bz.1 hG.l
 obtain ⟨z1,z2⟩:=Wl hg
 have hd:qd n.down=0:=Xi.2 fun q hq=>by
  obtain ⟨i,hi,rfl⟩:=List.getElem_of_mem hq
  rw [←List.length_eq_zero_iff,←Nu hi []]
  by_cases e:i=0
  ·rw [e];exact z1
  ·have:=(h i (by omega) (by omega)).1
   rw [Sm (by omega)] at this
   split at this
   ·assumption
   ·cases this
 have hu:qd n.up=0:=Xi.2 fun q hq=>by
  obtain ⟨i,hi,rfl⟩:=List.getElem_of_mem hq
  rw [←List.length_eq_zero_iff,←Nu hi []]
  by_cases e:i=0
  ·rw [e];exact z2
  ·have:=(h i (by omega) (by omega)).2
   rw [Q1 (by omega)] at this
   split at this
   ·assumption
   ·cases this
 unfold Zj
 omega
theorem Akg {x:NE} (hg:A8 x.1=true):Qt x (x.1.An.Ac.length - 1)=false↔Zj x.1=0:=by
 have h2:=(Ex (A1.1 hg).t).n0
 constructor
 ·intro h
  obtain ⟨-,hz⟩:=(Ox hg (x.1.An.Ac.length - 1) (by omega)).2.2 h
  exact Ani hg fun i a b=>hz i a (by omega)
 ·intro h
  have hd:qd x.1.down=0:=by unfold Zj at h;omega
  have hu:qd x.1.up=0:=by unfold Zj at h;omega
  have:∀k,k+1≤x.1.An.Ac.length→Qt x k=false:=by
   intro k
   induction k with
   | zero=>intro _;rfl
   | succ k ih =>
    intro hk
    have h1:=ih (by omega)
    have e1:=((Ox hg k (by omega)).2.2 h1).1
    unfold Qt
    have n1:Bo x.1 (Hg (k+1))=none:=by rw [Sm (by omega),if_pos (Ac4 hd)]
    have n2:Bo x.1 (Jb (k+1))=none:=by rw [Q1 (by omega),if_pos (Ac4 hu)]
    rw [h1,e1,If n1,n1,n2];rfl
  exact this _ (by omega)
theorem Lg {x:NE} (hg:A8 x.1=true):Rj x (Tv x)∧(¬Zj x.1=0→wN (Tv x).1 < wN x.1):=by
 have h2:=(Ex (A1.1 hg).t).n0
 obtain ⟨a,b, -⟩:=Ox hg (x.1.An.Ac.length - 1) (by omega)
 refine ⟨a,fun h=>b ?_⟩
 cases e:Qt x (x.1.An.Ac.length - 1)
 ·exact absurd ((Akg hg).1 e) h
 ·rfl
theorem Nk {f:Nat} {x:NE} (h:Zj x.1=0):Om f x=x:=by
 cases f
 ·rfl
 ·unfold Om;rw [if_pos h]
theorem V9:∀(f g:Nat) {x:NE},A8 x.1=true→wN x.1≤f→wN x.1≤g→Om f x=Om g x
 | 0,g,x,hg,h,_=>by
  have hz:Zj x.1=0:=by
   by_cases h0:Zj x.1=0
   ·exact h0
   ·have:=(Lg hg).2 h0;omega
  rw [Nk hz,Nk hz]
 | f+1,g,x,hg,h,h2=>by
  by_cases hz:Zj x.1=0
  ·rw [Nk hz,Nk hz]
  ·obtain ⟨hf,hw⟩:=Lg hg
   have hw:=hw hz
   obtain ⟨m,rfl⟩:∃m,g=m+1:=⟨g - 1,by omega⟩
   unfold Om
   rw [if_neg hz,if_neg hz]
   exact V9 f m hf.g (by omega) (by omega)
theorem Zq {f:Nat} {x:NE} (hg:A8 x.1=true) (h:wN x.1≤f):Om f x=Om (wN x.1) x:=V9 _ _ hg h (Nat.le_refl _)
theorem X4 {x:NE} (h:Zj x.1=0):drE x=x:=Nk h
theorem Acu {x:NE} (hg:A8 x.1=true) (h:¬Zj x.1=0):drE x=drE (Tv x):=by
 obtain ⟨hf,hw⟩:=Lg hg
 have hw:=hw h
 obtain ⟨m,hm⟩:∃m,wN x.1=m+1:=⟨wN x.1 - 1,by omega⟩
 unfold drE
 rw [hm]
 show (if Zj x.1=0 then x else Om m (Tv x))=_
 rw [if_neg h,Zq hf.g (by omega)]
theorem X3 {x:NE} (hg:A8 x.1=true):Rj x (drE x)∧Zj (drE x).1=0:=by
 obtain ⟨k,hk⟩:∃k,wN x.1≤k:=⟨_,Nat.le_refl _⟩
 induction k generalizing x with
 | zero =>
  have hz:Zj x.1=0:=by
   by_cases h:Zj x.1=0
   ·exact h
   ·have:=(Lg hg).2 h;omega
  rw [X4 hz];exact ⟨.refl hg,hz⟩
 | succ k ih =>
  by_cases h:Zj x.1=0
  ·rw [X4 h];exact ⟨.refl hg,h⟩
  ·obtain ⟨hf,hw⟩:=Lg hg
   have hw:=hw h
   rw [Acu hg h]
   obtain ⟨a,b⟩:=ih hf.g (by omega)
   exact ⟨hf.trans a,b⟩
theorem Ab6 (f:Nat→Nat) (B:Nat):∀(l:List (List As)) (k:Nat),(∀q∈l,q.length≤6)→(∀i,k≤i→i < k+l.length→f i≤B)→Jd f k l≤l.length * (6 * B)
 | [],_,_,_=>Nat.zero_le _
 | x::r,k,h,hB=>by
  have ih:=Ab6 f B r (k+1) (fun q hq=>h q (by simp [hq])) fun i a b=>hB i (by omega) (by simp only [List.length_cons];omega)
  have h1:=Nat.mul_le_mul (h x (by simp)) (hB k (Nat.le_refl _) (by simp only [List.length_cons];omega))
  show x.length * f k+Jd f (k+1) r≤(r.length+1) * (6 * B)
  rw [Nat.succ_mul]
  omega
theorem Aov {n:Eg} (hg:A8 n=true):wN n≤280000000:=by
 have hG:=A1.1 hg
 have h8:=(Ex hG.t).n1
 obtain ⟨q1,q2,q3,q4⟩:=Bz.1 hG.l
 obtain ⟨-, -,e3,e4⟩:=Ky hg
 have h1:=Ab6 vd 2097152 n.down 0 (fun q hq=>(Gk (e3 q hq)).1) fun i _ _=>Nat.le_trans (Nat.pow_le_pow_right (n:=8) (by decide) (show 7 - i≤7 by omega)) (by decide)
 have h2:=Ab6 vu 3670023 n.up 0 (fun q hq=>(Gk (e4 q hq)).1) fun i _ _=>by unfold vu;omega
 have h3:=Nat.mul_le_mul_right (6 * 2097152) (show n.down.length≤8 by omega)
 have h4:=Nat.mul_le_mul_right (6 * 3670023) (show n.up.length≤8 by omega)
 unfold wN
 omega
theorem Abh {n:Eg} (hg:A8 n=true):(O2 n).2.length≤6720000000:=by
 have h:=(X3 (x:=(n,[])) hg).1.e
 have:=Aov hg
 show (drE (n,[])).2.length≤_
 simp only [List.length_nil] at h
 omega
def Cc (n:Eg):Nat→NE
 | 0=>O2 n
 | k+1=>((O2 (Bp (Cc n k).1).1).1,(Cc n k).2++(Bp (Cc n k).1).2++(O2 (Bp (Cc n k).1).1).2)
theorem Vz (n:Eg):∀k,(Bb n k).1.Ab=Jv n.Ab
 | 0=>rfl
 | k+1=>(T0 _ _).2.trans (Vz n k)
theorem Ug {n:Eg} (hg:A8 n=true):∀k:Nat,n.Ab.Ai+(k:Int)≤9999→A8 (Cc n k).1=true∧(Cc n k).1.An=n.An∧(Cc n k).1.Ab.Ai=n.Ab.Ai+(k:Int)∧(Cc n k).2.length≤6720000000+6721000000 * k
 | 0,_=>by
  obtain ⟨h, -⟩:=X3 (x:=(n,[])) hg
  exact ⟨h.g,h.t,by rw [show ((0:Nat):Int)=0 from rfl,Int.add_zero];exact h.c,Abh hg⟩
 | k+1,hk=>by
  obtain ⟨h1,h2,h3,h4⟩:=Ug hg k (by omega)
  have hc:(Cc n k).1.Ab.Ai < 9999:=by omega
  have t1:=O0 h1 hc
  have t2:(Bp (Cc n k).1).1.An=(Cc n k).1.An:=Pb _ _
  have t3:(Bp (Cc n k).1).1.Ab.Ai=(Cc n k).1.Ab.Ai+1:=by
   show (Bb _ _).1.Ab.Ai=_
   rw [Vz];rfl
  have hn8:=(Ex (A1.1 h1).t).n1
  have hn2:=(Ex (A1.1 h1).t).n0
  have t4:(Bp (Cc n k).1).2.length≤40000 * ((Cc n k).1.An.Ac.length - 1):=Uu h1 hc _ (by omega)
  obtain ⟨d, -⟩:=X3 (x:=((Bp (Cc n k).1).1,[])) t1
  have d4:=Abh t1
  refine ⟨d.g,(d.t.trans t2).trans h2,?_,?_⟩
  ·show (O2 (Bp (Cc n k).1).1).1.Ab.Ai=_
   rw [show (O2 (Bp (Cc n k).1).1).1.Ab.Ai=(Bp (Cc n k).1).1.Ab.Ai from d.c,t3,h3]
   omega
  ·show ((Cc n k).2++(Bp (Cc n k).1).2++(O2 (Bp (Cc n k).1).1).2).length≤_
   rw [List.length_append,List.length_append]
   omega
def D6 (x:NE):Nat→NE
 | 0=>x
 | k+1=>Aga (D6 x k) k
theorem Aqa {x:NE} (hg:A8 x.1=true) {i:Nat} (hi:i < x.1.An.Ac.length):Rj x (Kt x (Hg i)):=by
 by_cases h0:i=0
 ·subst h0
  rw [If (by rw [Sm hi,if_pos (Wl hg).1])]
  exact .refl hg
 ·exact (Als hg (by omega) hi).1
theorem Aqb {x:NE} (hg:A8 x.1=true) {i:Nat} (hi:i < x.1.An.Ac.length):Rj x (Kt x (Jb i))∧(Kt x (Jb i)).2=x.2:=by
 by_cases h0:i=0
 ·subst h0
  rw [If (by rw [Q1 hi,if_pos (Wl hg).2])]
  exact ⟨.refl hg,rfl⟩
 ·have:=Aos hg (by omega) hi
  exact ⟨this.1,this.2.2⟩
theorem Wp {x:NE} (hg:A8 x.1=true):∀k,k≤x.1.An.Ac.length→Rj x (D6 x k)
 | 0,_=>.refl hg
 | k+1,hk=>by
  have f1:=Wp hg k (by omega)
  have f2:=Aqa f1.g (i:=k) (by rw [f1.t];omega)
  have f3:=(Aqb f2.g (i:=k) (by rw [f2.t,f1.t];omega)).1
  exact (f1.trans f2).trans f3
theorem Aay {x:NE} (hg:A8 x.1=true):∀k,D6 x (k+1)=I2 x k
 | 0=>by
  have h2:=(Ex (A1.1 hg).t).n0
  show Kt (Kt x (Hg 0)) (Jb 0)=x
  rw [If (x:=x) (s:=Hg 0) (by rw [Sm (by omega),if_pos (Wl hg).1]),If (by rw [Q1 (by omega),if_pos (Wl hg).2])]
 | k+1=>by
  show Aga (D6 x (k+1)) (k+1)=Aga (I2 x k) (k+1)
  rw [Aay hg k]
theorem Afc {x:NE} (hg:A8 x.1=true):D6 x x.1.An.Ac.length=Tv x:=by
 have h2:=(Ex (A1.1 hg).t).n0
 obtain ⟨m,hm⟩:∃m,x.1.An.Ac.length=m+1:=⟨x.1.An.Ac.length - 1,by omega⟩
 unfold Tv
 rw [hm,Aay hg,Nat.add_sub_cancel]
theorem Abw {l:List (List As)} (h:∀q∈l,q.length≤6):∀k,qd (l.take k)≤6 * k:=by
 induction l with
 | nil=>intro k;rw [List.take_nil];exact Nat.zero_le _
 | cons q r ih =>
  intro k
  cases k with
  | zero=>exact Nat.le_refl _
  | succ k =>
   have:=ih (fun q hq=>h q (by simp [hq])) k
   have:=h q (by simp)
   show q.length+qd (r.take k)≤_
   omega
theorem Anj {l:List (List As)} {k:Nat} (hk:k < l.length):qd (l.take (k+1))=qd (l.take k)+l[k].length:=by
 unfold qd
 rw [List.take_succ_eq_append_getElem hk,List.map_append,List.sum_append]
 simp
def Uo (n:Eg) (r:Int):Bool:=A8 n && Hq 0 r 60 && decide (n.Ab.Ai+r≤9999)
def Ec (n:Eg) (r:Int):Eg × List ByteArray × Bool:=if Uo n r then ((Cc n r.toNat).1,(Cc n r.toNat).2,true) else (Lz,[],false)
theorem Akc (a b:Int):Fn prog 247 [.int .i64 a,.int .i64 b] [] [] (fun (_:Unit)=>True) (fun _=>.int .i64 (min a b)) (fun _=>[]):=by
 refine enter func247 rfl ntmps247 fun w0=>?_
 refine go ?_;intros
 refine Bf rfl (fun h=>?_) (fun h=>?_)
 ·refine go ?_;intros
  rw [show min a b=a by omega]
  refine ret () trivial rfl
 ·refine go ?_;intros
  rw [show min a b=b by omega]
  refine ret () trivial rfl
theorem Ahw (r:Bc) (p:As) (d:Int) (v:Value) (F:List Nat) (hg:I9 r) (hp:Bk p=true) (d0:1≤d) (d1:d≤8) :
  Fn prog 218 [v,.agg #[.int .i64 p.C2,.int .i64 p.Ad,.int .i64 p.Ak,.int .i64 p.D0,.string p.data],.int .i64 d] [.isv Cb v r F] [] (fun (_:NwS)=>True) (fun s=>.tuple #[.agg #[.bool ((Io r p d)).Bg,.int .i64 ((Io r p d)).Ai,.int .i64 ((Io r p d)).Aa.next,.slice s.a1 ((Io r p d)).Aa.Ao.length s.c1,.slice s.a2 ((Io r p d)).Ap.length s.c2],.slice s.ae (Jj r p).length s.ce])
   (fun s=>[.isv Cb (.agg #[.bool ((Io r p d)).Bg,.int .i64 ((Io r p d)).Ai,.int .i64 ((Io r p d)).Aa.next,.slice s.a1 ((Io r p d)).Aa.Ao.length s.c1,.slice s.a2 ((Io r p d)).Ap.length s.c2]) (Io r p d) s.F1,.ow A9 9 (.slice s.ae (Jj r p).length s.ce) (Jj r p) s.Fe]):=by
 have k0:=hg.k0
 have k1:=hg.k1
 obtain ⟨-,q1,q2, -⟩:=Dr.1 hg.q
 have hser:∀q∈r.Ap,Ca q.Ad=true:=fun q hq=>(Yz hg hq).1
 obtain ⟨hsg, -⟩:=M9 hg hp
 obtain ⟨htg, -,htl⟩:=Oz hg hp
 obtain ⟨hng,hnq, -,hnl⟩:=Sj hg hp d0 d1 (by omega)
 obtain ⟨s0_,s1_⟩:=Gg hsg
 obtain ⟨w0_,w1_⟩:=Gg htg
 obtain ⟨v0_,v1_⟩:=Gg hng
 obtain ⟨hw8,hit⟩:=I5 hsg
 obtain ⟨hu8,hiu⟩:=I5 htg
 obtain ⟨n0,n1⟩:=H5 hp
 have hrw:=(I5 hg.w).1
 have hp2:=hp
 unfold Bk at hp2
 simp only [Bool.and_eq_true] at hp2
 obtain ⟨t0_,t1_⟩:=Ba.1 hp2.1.1.1.1.2
 obtain ⟨l0_,l1_⟩:=Ba.1 hp2.1.1.1.2
 have hps:p.data.size≤8:=Rs hp2.1.1.2
 refine enter func218 rfl ntmps218 fun w0=>?_
 refine Ic (v:=v) (x:=r) (F:=F) ?_
 rintro a1 c1 F1 a2 c2 F2 rfl - -
 refine go ?_;intros
 refine cf (P4 r _ F (by omega) (by omega)) fun u _=>?_
 refine Ar ?_
 refine Hp ?_
 rintro a5 c5 F5 a6 c6 F6 e6 - -
 rw [e6]
 refine Ay (E:=Cg) fun G5=>?_
 refine Ay (E:=Az) fun G6=>?_
 refine go ?_;intros
 rename_i g3 g4 g6 g8 g9
 refine C6 A9 ?_
 refine Gc [2,4,6,8,9] [0,2,4,5] (fun _:List Nat=>[]) (fun s=>[.row g8 55 0 [] [.bool true,.int .i64 r.Ai,.int .i64 (Dm r p).next,.slice a5 (Dm r p).Ao.length c5,.slice a6 r.Ap.length c6] [],.isv By (.agg #[.int .i64 (Dm r p).next,.slice a5 (Dm r p).Ao.length c5]) (Dm r p) s]) (fun _=>True) ?_ fun G7 _=>?_
 ·cases hs:r.Bg
  ·by_cases hk:p.C2=5
   ·have e:Dm r p=⟨p.D0,r.Aa.Ao⟩:=by unfold Dm;rw [hs,if_pos hk];rfl
    rw [e]
    refine go ?_;intros
    refine Bf rfl (fun _=>?_) (fun h=>absurd hk h)
    refine Cy (a1:=a5) ⟨p.D0,r.Aa.Ao⟩ ?_
    refine go ?_;intros
    refine Cm G5 trivial
   ·have e:Dm r p=⟨p.Ad,r.Aa.Ao⟩:=by unfold Dm;rw [hs,if_neg hk];rfl
    rw [e]
    refine go ?_;intros
    refine Bf rfl (fun h=>absurd h hk) (fun _=>?_)
    refine Cy (a1:=a5) ⟨p.Ad,r.Aa.Ao⟩ ?_
    refine go ?_;intros
    refine Cm G5 trivial
  ·have e:Dm r p=r.Aa:=by unfold Dm;rw [hs];rfl
   rw [e]
   refine Cy (a1:=a5) r.Aa ?_
   refine go ?_;intros
   refine Cm G5 trivial
 repeat (first|apply Aeo|apply Apn|apply Afz)
 refine Amj [2,4,6,8] [3,4,5] (fun s:SkS=>[(9,.slice s.ae (Id r p).length s.ce)]) (fun s=>[.row g8 55 0 [] [.bool true,.int .i64 r.Ai,.int .i64 (D8 r p).next,.slice s.a (D8 r p).Ao.length s.c,.slice a6 r.Ap.length c6] [],.isv By (.agg #[.int .i64 (D8 r p).next,.slice s.a (D8 r p).Ao.length s.c]) (D8 r p) s.F,.ow A9 9 (.slice s.ae (Id r p).length s.ce) (Id r p) s.Fe]) (fun _=>True) ?_ fun s _=>?_
 ·by_cases hk:p.C2=5
  ·have e1:D8 r p=Dm r p:=by unfold D8;rw [if_pos hk]
   have e2:Id r p=[]:=by unfold Id;rw [if_pos hk]
   rw [e1,e2]
   refine go ?_;intros
   rw [decide_eq_false (show ¬ ¬p.C2=5 from fun h=>h hk)]
   refine go ?_;intros
   refine Cm (⟨a5,c5,G7,_,_,_⟩:SkS) trivial
  ·have e1:D8 r p=Ij (Dm r p) p.Ad p.data:=by unfold D8;rw [if_neg hk]
   have e2:Id r p=Ia (Dm r p) p.Ad p.data:=by unfold Id;rw [if_neg hk]
   rw [e1,e2]
   refine go ?_;intros
   rw [decide_eq_true (show ¬p.C2=5 from hk)]
   refine go ?_;intros
   refine cf (Ae3 (Dm r p) p.Ad _ G7 s0_ s1_ n0 n1 hw8) fun _ _=>?_
   refine Ar ?_
   cases hok:Kl (Dm r p) p.Ad
   ·have e:(Ep (Dm r p) p.Ad || !decide (gp (Dm r p).next p.Ad < 8))=true:=by unfold Kl at hok;simp only [Bool.or_eq_false_iff] at hok;rw [hok.1,hok.2];rfl
    have e3:Ij (Dm r p) p.Ad p.data=Dm r p:=by unfold Ij;rw [if_pos e]
    have e4:Ia (Dm r p) p.Ad p.data=[]:=by unfold Ia;rw [if_pos e]
    rw [e3,e4]
    refine go ?_;intros
    refine Cm (⟨a5,c5,G7,_,_,_⟩:SkS) trivial
   ·refine go ?_;intros
    refine cf (Ahp (Dm r p) p.Ad p.data _ G7 s0_ s1_ n0 n1 hw8 hit hps hok) fun y hy=>?_
    refine Ar ?_
    obtain ⟨hy1,hy2⟩:=hy
    have hyl:y.es.length≤8:=by rw [hy2,←e2];exact htl
    refine Ay (E:=A9) (xs:=y.es) fun G8=>?_
    refine go ?_;intros
    apply wO
    refine Ku (ys:=y.es) Dh E4 fun a9 c9 F9=>?_
    rw [List.nil_append]
    rw [←hy1,←hy2]
    refine go ?_;intros
    refine Cm (⟨y.a,y.c,y.F,_,_,_⟩:SkS) trivial
 obtain ⟨a3,c3,F3,ae,cE,Fe⟩:=s
 dsimp only
 refine go ?_;intros
 refine ce (fun w s=>M4 _ _ _ (by omega) (by omega)) ?_
 refine go ?_;intros
 refine Gc [2,4,6,8] [3,4,5] (fun s:SkS=>[(9,.slice s.ae (Jj r p).length s.ce)]) (fun s=>[.row g8 55 0 [] [.bool true,.int .i64 r.Ai,.int .i64 (Ce r p).next,.slice s.a (Ce r p).Ao.length s.c,.slice a6 r.Ap.length c6] [],.isv By (.agg #[.int .i64 (Ce r p).next,.slice s.a (Ce r p).Ao.length s.c]) (Ce r p) s.F,.ow A9 9 (.slice s.ae (Jj r p).length s.ce) (Jj r p) s.Fe]) (fun _=>True) ?_ fun s _=>?_
 ·cases hb:Oa (D8 r p).next p.Ak
  ·have e1:Ce r p=D8 r p:=by show Ko _ _=_;unfold Ko;rw [hb];rfl
   have e2:Jj r p=Id r p:=by unfold Jj Lo;rw [hb];simp
   rw [e1,e2]
   refine go ?_;intros
   refine Cm (⟨a3,c3,F3,_,_,_⟩:SkS) trivial
  refine go ?_;intros
  refine ce (fun w s=>Il _ _ _ (by omega) (by omega)) ?_
  refine go ?_;intros
  refine Bf rfl (fun h4=>?_) (fun h4=>?_)
  ·have e1:Ce r p=Gf (D8 r p) p.Ak:=by show Ko _ _=_;unfold Ko;rw [hb,if_pos rfl,if_pos h4]
   have e2:Jj r p=Id r p++E6 (D8 r p) p.Ak:=by unfold Jj Lo;rw [hb,if_pos rfl,if_pos h4]
   have hl2:=hnl
   rw [e2,List.length_append] at hl2
   refine go ?_;intros
   refine cf (O9 (D8 r p) p.Ak _ F3 w0_ w1_ t0_ t1_ hu8 hiu) fun y hy=>?_
   refine Ar ?_
   obtain ⟨hy1,hy2⟩:=hy
   have hyl:y.es.length≤24:=by rw [hy2];show (E6 (D8 r p) p.Ak).length≤24;omega
   refine Ay (E:=A9) (xs:=y.es) fun G8=>?_
   refine go ?_;intros
   apply wO
   refine Ku (ys:=y.es) Dh E4 fun a9 c9 F9=>?_
   rw [e1,e2,show Gf (D8 r p) p.Ak=y.y from hy1.symm,show E6 (D8 r p) p.Ak=y.es from hy2.symm]
   refine go ?_;intros
   refine Cm (⟨y.a,y.c,y.F,_,_,_⟩:SkS) trivial
  ·have e1:Ce r p=⟨p.Ak,[]⟩:=by show Ko _ _=_;unfold Ko;rw [hb,if_pos rfl,if_neg h4]
   have e2:Jj r p=Id r p++[⟨#[33]⟩]:=by unfold Jj Lo;rw [hb,if_pos rfl,if_neg h4]
   rw [e1,e2]
   refine go ?_;intros
   apply wO
   refine Lh (Pa ⟨#[33]⟩ (by decide)) Dh fun a9 c9 F9=>?_
   refine B9 Cg (by decide) ?_
   refine Cy (a1:=none) ⟨p.Ak,[]⟩ ?_
   refine go ?_;intros
   refine Cm (⟨none,0,_,_,_,_⟩:SkS) trivial
 obtain ⟨a7,c7,F7,ae,cE,Fe⟩:=s
 dsimp only
 refine go ?_;intros
 refine cf (Wg r.Ap (Ce r p) a6 c6 G6 _ F7 (by omega) hser v0_ v1_) fun z _=>?_
 refine Ar ?_
 refine go ?_;intros
 refine ce (fun w s=>M4 _ _ _ (by omega) (by omega)) ?_
 have hNq8:=(Dr.1 hnq).2.1
 cases hb:Oa (Ce r p).next p.D0
 ·have e1:Io r p d=⟨true,r.Ai,Ce r p,Dp r.Ap (Ce r p)⟩:=by unfold Io Kv;rw [hb];rfl
  rw [e1]
  refine go ?_;intros
  refine Ay (E:=Az) (xs:=Dp r.Ap (Ce r p)) fun F8=>?_
  refine C7 (x:=Ce r p) ?_
  rintro b1 dd1 G1 e5 m1
  simp only [Value.agg.injEq,Array.mk.injEq,List.cons.injEq,Value.slice.injEq,true_and,and_true] at e5
  obtain ⟨rfl,rfl⟩:=e5
  refine Ga ⟨true,r.Ai,Ce r p,Dp r.Ap (Ce r p)⟩ ?_
  refine ret ⟨_,_,_,_,_,[],_,_,_⟩ trivial rfl
 obtain ⟨k,hk⟩:∃k,k=Rn (Ce r p) p.D0:=⟨_,rfl⟩
 have hk8:k≤8:=by rw [hk];exact N9 _ _
 have hgb:=In (Ce r p).next p.D0
 have hkm:((k:Nat):Int)=min (gp (Ce r p).next p.D0) 8:=by rw [hk];unfold Rn;omega
 obtain ⟨N,hN⟩:∃N,N=Lc (Ce r p) k:=⟨_,rfl⟩
 have hNl:N.length≤8:=by have:=Vl (Ce r p) k;rw [hN];omega
 have e1:Io r p d=⟨true,r.Ai,Ce r p,Ig (Ce r p).next (r.Ai+d) (Dp r.Ap (Ce r p)) N⟩:=by unfold Io Kv;rw [hb,if_pos rfl,hN,hk]
 rw [e1]
 have Ux:=Hj (Ce r p).next (min (gp (Ce r p).next p.D0) 8)
 have hgp:gp (Ce r p).next (Bn (Ce r p).next (min (gp (Ce r p).next p.D0) 8))=(k:Nat):=by rw [←hkm];unfold gp Bn;omega
 refine go ?_;intros
 refine ce (fun w s=>Il _ _ _ (by omega) (by omega)) ?_
 refine go ?_;intros
 refine cf (Akc _ _) fun _ _=>?_
 refine Ar ?_
 refine go ?_;intros
 refine ce (fun w s=>Ez _ _ _ (by omega) (by omega)) ?_
 refine go ?_;intros
 refine cf (Abl (Ce r p) _ k _ F7 v0_ v1_ (by omega) (by omega) hgp) fun m _=>?_
 refine Ar ?_
 rw [←hN]
 refine Ay (E:=Bd) (xs:=N) fun GN=>?_
 refine Ay (E:=Az) (xs:=Dp r.Ap (Ce r p)) fun F8=>?_
 refine go ?_;intros
 refine Ck [2,6,8,9,14,16] (fun s:AwS=>[(17,.int .i64 (s.i:Nat))]) (fun s=>[.row g8 55 0 [] [.bool true,.int .i64 r.Ai,.int .i64 (Ce r p).next,.slice a7 (Ce r p).Ao.length c7,.slice s.a (Ig (Ce r p).next (r.Ai+d) (Dp r.Ap (Ce r p)) (N.take s.i)).length s.c] [],.sl Az (.slice s.a (Ig (Ce r p).next (r.Ai+d) (Dp r.Ap (Ce r p)) (N.take s.i)).length s.c) (Ig (Ce r p).next (r.Ai+d) (Dp r.Ap (Ce r p)) (N.take s.i)) s.F]) (fun s=>s.i≤N.length) (fun s=>N.length - s.i) ⟨0,z.1,z.2.1,F8⟩ (Nat.zero_le _) fun s hs=>?_
 obtain ⟨i,a3,c3,F3⟩:=s
 dsimp only at hs ⊢
 have hall:=Ni (w:=Ce r p) (u:=r.Ai+d) (by omega) (by omega) (N.take i) (Dp r.Ap (Ce r p)) (fun n hn=>by
  have:=Nn (w:=Ce r p) (n:=n) hk8 (by rw [←hN];exact List.mem_of_mem_take hn)
  exact ⟨this.1,this.2.2⟩) hnq L8
 have hLs:∀h:i < N.length,Ig (Ce r p).next (r.Ai+d) (Dp r.Ap (Ce r p)) (N.take (i+1))=Ph (Ce r p).next (Ig (Ce r p).next (r.Ai+d) (Dp r.Ap (Ce r p)) (N.take i)) N[i] (r.Ai+d):=fun h=>V7 h
 generalize hLd:Ig (Ce r p).next (r.Ai+d) (Dp r.Ap (Ce r p)) (N.take i)=L at *
 have hLq:=hall.1
 have hL8:=(Dr.1 hLq).2.1
 refine go ?_;intros
 refine Bf rfl (fun h4=>?_) (fun h4=>?_)
 ·have hi:i < N.length:=by omega
  have hni:=Nn (w:=Ce r p) (n:=N[i]) hk8 (by rw [←hN];exact List.getElem_mem hi)
  refine Je (xs:=N) i ?_
  rintro hi2 b o2 e
  rw [e]
  refine go ?_;intros
  refine Aw [0,1] [12] ?_
  refine dt 0 ?_
  refine dt 1 ?_
  refine dt 2 ?_
  refine dt 3 ?_
  refine dt 4 ?_
  refine dt 5 ?_
  refine dt 6 ?_
  refine dt 7 ?_
  refine dt 8 ?_
  refine dt 9 ?_
  refine dO 10 (by kernel_rfl) (by rw [List.getElem?_toArray];rfl) ?_
  apply At;rfl;kernel_rfl;exact Be
  refine cf (Aj5 L (Ce r p).next N[i] r.Ai d a3 c3 F3 hLq hni.1 k0 k1 d0 d1) fun u _=>?_
  refine Ar ?_
  rw [←hLs hi]
  refine dk ?_
  refine dt 11 ?_
  refine dO 12 (by kernel_rfl) (by rw [List.getElem?_toArray];rfl) ?_
  apply Cu;rfl;rfl;rfl;(first|exact AggC.s|exact OneC.s);rfl;exact Cw;exact Cv;rfl
  refine Mg ?_
  refine dd ?_
  refine Ay (E:=Az) fun F9=>?_
  refine go ?_;intros
  refine Ct (⟨i+1,_,_,_⟩:AwS) (by show i+1≤N.length;omega) (by show N.length - (i+1) < N.length - i;omega)
 have hi:i=N.length:=by omega
 subst hi
 rw [List.take_length] at hLd
 rw [hLd]
 refine go ?_;intros
 refine C7 (x:=Ce r p) ?_
 rintro b1 dd1 G1 e5 m1
 simp only [Value.agg.injEq,Array.mk.injEq,List.cons.injEq,Value.slice.injEq,true_and,and_true] at e5
 obtain ⟨rfl,rfl⟩:=e5
 refine Ga ⟨true,r.Ai,Ce r p,L⟩ ?_
 refine ret ⟨_,_,_,_,_,[],_,_,_⟩ trivial rfl
theorem Vg (r:Bc) (p:As) (d:Int) (v:Value) (F:List Nat) (hg:I9 r) (hp:Bk p=true) (d0:1≤d) (d1:d≤8) :
  Fn prog 159 [v,.agg #[.int .i64 p.C2,.int .i64 p.Ad,.int .i64 p.Ak,.int .i64 p.D0,.string p.data],.int .i64 d] [.isv Cb v r F] [] (fun (_:NwS)=>True) (fun s=>.tuple #[.agg #[.bool ((C9 r p d)).Bg,.int .i64 ((C9 r p d)).Ai,.int .i64 ((C9 r p d)).Aa.next,.slice s.a1 ((C9 r p d)).Aa.Ao.length s.c1,.slice s.a2 ((C9 r p d)).Ap.length s.c2],.slice s.ae (Ff r p).length s.ce])
   (fun s=>[.isv Cb (.agg #[.bool ((C9 r p d)).Bg,.int .i64 ((C9 r p d)).Ai,.int .i64 ((C9 r p d)).Aa.next,.slice s.a1 ((C9 r p d)).Aa.Ao.length s.c1,.slice s.a2 ((C9 r p d)).Ap.length s.c2]) (C9 r p d) s.F1,.ow A9 9 (.slice s.ae (Ff r p).length s.ce) (Ff r p) s.Fe]):=by
 have k0:=hg.k0
 have k1:=hg.k1
 have hrw:=(I5 hg.w).1
 obtain ⟨-,q1,q2, -⟩:=Dr.1 hg.q
 obtain ⟨n0,n1⟩:=H5 hp
 have hkd:1≤p.C2∧p.C2≤5:=by unfold Bk Hq at hp;simp only [Bool.and_eq_true,decide_eq_true_eq] at hp;exact hp.1.1.1.1.1.1
 refine enter func159 rfl ntmps159 fun w0=>?_
 refine Ic (v:=v) (x:=r) (F:=F) ?_
 rintro a1 c1 F1 a2 c2 F2 rfl - -
 refine go ?_;intros
 by_cases hk4:p.C2=4
 ·have hn:Ii p=false:=by unfold Ii;simp [hk4]
  have eE:Ff r p=[]:=by unfold Ff;rw [hn];rfl
  rw [decide_eq_true hk4]
  cases hs:r.Bg
  ·have eR:C9 r p d=r:=by unfold C9;rw [hn,hs];simp
   refine go ?_;intros
   rw [decide_eq_true hk4]
   refine go ?_;intros
   refine cf (P4 r _ F (by omega) (by omega)) fun u _=>?_
   refine Ar ?_
   refine Hp ?_
   rintro a5 c5 F5 a6 c6 F6 e6 - -
   rw [e6]
   refine Ay (E:=Cg) fun G5=>?_
   refine Ay (E:=Az) fun G6=>?_
   refine go ?_;intros
   refine C6 A9 ?_
   refine Ga (a1:=a5) r ?_
   rw [eR,eE]
   rw [hs]
   refine ret ⟨_,_,_,_,_,[],_,_,_⟩ trivial rfl
  ·have eR:C9 r p d=Acs r p:=by unfold C9;rw [hn,hs,decide_eq_true hk4];rfl
   refine go ?_;intros
   refine cf (P4 r _ F (by omega) (by omega)) fun u _=>?_
   refine Ar ?_
   refine Hp ?_
   rintro a5 c5 F5 a6 c6 F6 e6 - -
   rw [e6]
   refine Ay (E:=Cg) fun G5=>?_
   refine go ?_;intros
   refine cf (Abn r.Ap r.Aa.next p.Ad r.Ai a2 c2 F2 hg.q (Ba.2 ⟨n0,n1⟩) k0 k1) fun y _=>?_
   refine Ar ?_
   refine Ay (E:=Az) (xs:=Nj r.Aa.next r.Ap p.Ad (r.Ai+4)) fun G6=>?_
   refine go ?_;intros
   refine C6 A9 ?_
   refine Ga (a1:=a5) (Acs r p) ?_
   rw [eR,eE]
   refine ret ⟨_,_,_,_,_,[],_,_,_⟩ trivial rfl
 rw [decide_eq_false hk4]
 refine go ?_;intros
 rw [decide_eq_false hk4]
 refine go ?_;intros
 by_cases hk3:p.C2=3
 ·have hn:Ii p=false:=by unfold Ii;simp [hk3]
  have eE:Ff r p=[]:=by unfold Ff;rw [hn];rfl
  have eR:C9 r p d=r:=by unfold C9;rw [hn,decide_eq_false hk4];rfl
  rw [decide_eq_true hk3]
  refine go ?_;intros
  refine cf (P4 r _ F (by omega) (by omega)) fun u _=>?_
  refine Ar ?_
  refine Hp ?_
  rintro a5 c5 F5 a6 c6 F6 e6 - -
  rw [e6]
  refine Ay (E:=Cg) fun G5=>?_
  refine Ay (E:=Az) fun G6=>?_
  refine go ?_;intros
  refine C6 A9 ?_
  refine Ga (a1:=a5) r ?_
  rw [eR,eE]
  refine ret ⟨_,_,_,_,_,[],_,_,_⟩ trivial rfl
 have hn:Ii p=true:=by
  unfold Ii
  have:p.C2=1∨p.C2=2∨p.C2=5:=by omega
  rcases this with h|h|h <;> simp [h]
 have eE:Ff r p=Jj r p:=by unfold Ff;rw [hn];rfl
 have eR:C9 r p d=Io r p d:=by unfold C9;rw [hn];rfl
 rw [decide_eq_false hk3,eE,eR]
 refine go ?_;intros
 refine cf (Ahw r p d _ F hg hp d0 d1) fun s _=>?_
 refine Ar ?_
 refine go ?_;intros
 refine ret ⟨s.a1,s.c1,s.F1,s.a2,s.c2,[],s.ae,s.ce,_⟩ trivial rfl
end Go.Proofs.YtbmlecejkacpnaaGreatDoor
namespace Go.Proofs.YtbmlecejkacpnaaGreatDoor

open Go.RowKit
open Go.RowKit
open Go.RowKit
end Go.Proofs.YtbmlecejkacpnaaGreatDoor
namespace Go.Proofs.YtbmlecejkacpnaaGreatDoor
open Go.RowKit
theorem Alh {n:Eg} {s:I4} (hg:A8 n=true) (hs:Eo s=true) {y:NE} (e:Bo n s=some y):Av n s=(y.1,y.2,true):=by
 unfold Av;rw [hg,hs,e];rfl
theorem Ain {n:Eg} {s:I4} (e:Bo n s=none):(Av n s).2.2=false:=by
 unfold Av;rw [e];cases A8 n <;> cases Eo s <;> rfl
theorem Q2 {n:Eg} {s:I4} (h:(Av n s).2.2=true):A8 (Av n s).1=true:=by
 cases g:A8 n
 ·exact absurd h (by unfold Av;rw [g];cases Eo s <;> exact Bool.false_ne_true)
 cases k:Eo s
 ·exact absurd h (by unfold Av;rw [g,k];exact Bool.false_ne_true)
 cases e:Bo n s with
 | none=>rw [Ain e] at h;cases h
 | some y=>rw [Alh g k e];exact Ie g k e
theorem Ac6 (f:Int) {i j:Nat} (hi:i≤2000) (hj:j≤2000) (h:i≤j):gp (Bn f i) (Bn f j)=((j - i:Nat):Int):=by unfold gp Bn;omega
theorem Apg (f:Int) {i j:Nat} (hi:i≤2000) (hj:j≤2000) (h:j < i):gp (Bn f i) (Bn f j)=65536 - ((i - j:Nat):Int):=by unfold gp Bn;omega
theorem X2 (f:Int) {i j:Nat} (hi:i≤2000) (hj:j≤2000):Oa (Bn f i) (Bn f j)=decide (i < j):=by
 unfold Oa Hq
 by_cases h:i < j
 ·rw [Ac6 f hi hj (by omega),decide_eq_true h,decide_eq_true (by omega),decide_eq_true (by omega)];rfl
 ·rw [decide_eq_false h]
  by_cases e:i=j
  ·subst e
   rw [Ac6 f hi hj (by omega),decide_eq_false (by omega)];rfl
  ·rw [Apg f hi hj (by omega),decide_eq_false (show ¬65536 - ((i - j:Nat):Int)≤32767 by omega),Bool.and_false]
def Amv:ByteArray:=⟨#[33]⟩
def Zi (S:List ByteArray) (k:Nat) (l:List Ha):Prop:=∀(j:Nat) s,l[j]?=some s→s.Ux=true→S[k+j]?=some s.Ds
def Zk (S:List ByteArray) (b:Nat) (es:List ByteArray):Prop:=∀(i:Nat) e,es[i]?=some e→e=Af8∨∃t,S[b+i]?=some t∧e=Adt t
section
variable {S:List ByteArray} {f:Int} {k b:Nat}
theorem Zk.nil:Zk S b []:=fun i e h=>by simp at h
theorem Zk.app {x y:List ByteArray} (h:Zk S b x) (h2:Zk S (b+x.length) y):Zk S b (x++y):=fun i e he=>by
 by_cases hi:i < x.length
 ·rw [List.getElem?_append_left hi] at he;exact h i e he
 ·rw [List.getElem?_append_right (by omega)] at he
  have:=h2 _ e he
  rwa [show b+x.length+(i - x.length)=b+i by omega] at this
theorem Zi.drop {l:List Ha} (h:Zi S k l) (m:Nat):Zi S (k+m) (l.drop m):=fun j s hs hv=>by
 rw [List.getElem?_drop] at hs
 have:=h _ s hs hv
 rwa [show k+(m+j)=k+m+j by omega] at this
theorem Zi.nil:Zi S k []:=fun j s h=>by simp at h
theorem Zk.mono {S2:List ByteArray} {es:List ByteArray} (h:Zk S b es):Zk (S++S2) b es:=fun i e he=>by
 rcases h i e he with h|⟨t,h,e2⟩
 ·exact .inl h
 ·exact .inr ⟨t,by rw [List.getElem?_append_left (List.getElem?_eq_some_iff.1 h).1];exact h,e2⟩
theorem Zi.mono {S2:List ByteArray} {l:List Ha} (h:Zi S k l):Zi (S++S2) k l:=fun j s hs hv=>by
 have:=h j s hs hv
 rw [List.getElem?_append_left (List.getElem?_eq_some_iff.1 this).1];exact this
theorem Akw:∀(l:List Ha) (n:Int) (k:Nat),Zi S k l→k≤S.length→Zk S k (rel n l).2.2∧k+(rel n l).2.2.length≤S.length
 | [],n,k,_,hk=>⟨Zk.nil,hk⟩
 | s::r,n,k,h,hk=>by
  unfold rel
  split
  ·rename_i hs
   have h0:=h 0 s rfl hs
   have hk1:k < S.length:=(List.getElem?_eq_some_iff.1 h0).1
   have ⟨a,c⟩:=Akw r (Bn n 1) (k+1) (h.drop 1) hk1
   refine ⟨fun i e he=>?_,by simp only [List.length_cons];omega⟩
   cases i with
   | zero=>cases he;exact .inr ⟨_,h0,rfl⟩
   | succ i =>
    have:=a i e he
    rwa [show k+1+i=k+(i+1) by omega] at this
  ·exact ⟨Zk.nil,hk⟩
theorem Ajw:∀(m:Nat) (w:Am) (k:Nat),Zi S k w.Ao→Zk S k (Km m w)
 | 0,_,_,_=>Zk.nil
 | m+1,w,k,h=>fun i e he=>by
  have ih:=Ajw m (Sr w) (k+1) (by
   have:=h.drop 1
   rwa [show (Sr w).Ao=w.Ao.drop 1 by simp [Sr]])
  unfold Km at he
  cases i with
  | zero =>
   cases he
   cases hw:w.Ao with
   | nil=>exact .inl rfl
   | cons s r =>
    by_cases hs:s.Ux=true
    ·exact .inr ⟨s.Ds,h 0 s (by rw [hw];rfl) hs,by simp [Em,hs]⟩
    ·exact .inl (by simp [Em,hs])
  | succ i =>
   have:=ih i e he
   rwa [show k+1+i=k+(i+1) by omega] at this
theorem Qk:∀(m:Nat) (w:Am),(Km m w).length=m
 | 0,_=>rfl
 | m+1,w=>by unfold Km;rw [List.length_cons,Qk m]
theorem Af9 {w:Am} {i:Nat} (hg:Df w=true) (hn:w.next=Bn f k) (hs:Zi S k w.Ao) (hk:k≤S.length) (hi:i≤S.length) (hS:S.length≤2000) :
  Zk S k (E6 w (Bn f i))∧k+(E6 w (Bn f i)).length≤S.length∧(Gf w (Bn f i)).next=Bn f ((k+(E6 w (Bn f i)).length:Nat):Int)∧Zi S (k+(E6 w (Bn f i)).length) (Gf w (Bn f i)).Ao∧i≤k+(E6 w (Bn f i)).length:=by
 obtain ⟨e1,e2, -,e4⟩:=Ot (t:=Bn f i) hg
 have hst:k+Dj w.next (Bn f i)≤S.length∧i≤k+Dj w.next (Bn f i):=by
  unfold Dj
  rw [hn,X2 f (by omega) (by omega)]
  by_cases h:k < i
  ·rw [decide_eq_true h,if_pos rfl,Ac6 f (by omega) (by omega) (by omega)];omega
  ·rw [decide_eq_false h,if_neg (by decide)];omega
 have h1:=Ajw (Dj w.next (Bn f i)) w k hs
 have h2:=Akw (Fj (Dj w.next (Bn f i)) w).Ao (Fj (Dj w.next (Bn f i)) w).next (k+Dj w.next (Bn f i)) (by rw [Oo];exact hs.drop _) hst.1
 refine ⟨?_,?_,?_,?_,by omega⟩
 ·unfold E6
  exact h1.app (by rw [Qk];exact h2.1)
 ·unfold E6
  rw [List.length_append,Qk]
  have:=h2.2
  unfold Mv;omega
 ·rw [e1,hn,Nd]
 ·rw [e2];exact hs.drop _
theorem Arh {w:Am} {j:Nat} {t:ByteArray} (hn:w.next=Bn f k) (hs:Zi S k w.Ao) (hk:k≤S.length) (hj:S[j]?=some t) (hkj:k≤j) (hS:S.length≤2000) :
  Zi S k (N6 w (Bn f j) t).Ao:=by
 have hjl:j < S.length:=(List.getElem?_eq_some_iff.1 hj).1
 have hgp:(gp w.next (Bn f j)).toNat=j - k:=by rw [hn,Ac6 f (by omega) (by omega) hkj];rfl
 intro i s h hv
 unfold N6 Jc at h
 rw [hgp] at h
 dsimp only at h
 rw [List.getElem?_set] at h
 split at h
 ·rename_i e
  split at h
  ·cases h
   rw [show k+i=j by omega];exact hj
  ·cases h
 ·unfold Jl at h
  by_cases hi:i < w.Ao.length
  ·rw [List.getElem?_append_left hi] at h;exact hs i s h hv
  ·rw [List.getElem?_append_right (by omega)] at h
   have:=List.mem_of_getElem? h
   rw [(List.mem_replicate.1 this).2] at hv
   cases hv
theorem Ap7 {w:Am} {j:Nat} {t:ByteArray} (hg:Df w=true) (hn:w.next=Bn f k) (hs:Zi S k w.Ao) (hk:k≤S.length) (hj:S[j]?=some t) (hS:S.length≤2000) :
  Zk S k (Ia w (Bn f j) t)∧k+(Ia w (Bn f j) t).length≤S.length∧(Ij w (Bn f j) t).next=Bn f ((k+(Ia w (Bn f j) t).length:Nat):Int)∧Zi S (k+(Ia w (Bn f j) t).length) (Ij w (Bn f j) t).Ao:=by
 have hjl:j < S.length:=(List.getElem?_eq_some_iff.1 hj).1
 unfold Ia Ij
 split
 ·exact ⟨Zk.nil,hk,by rw [hn];rfl,hs⟩
 ·rename_i h
  have hb:Oa (Bn f j) w.next=false:=by
   cases hb:Oa (Bn f j) w.next
   ·rfl
   ·exact absurd (show (Ep w (Bn f j) || _)=true by unfold Ep;rw [hb];rfl) h
  rw [hn,X2 f (by omega) (by omega)] at hb
  have hkj:k≤j:=by simpa using hb
  have h1:=Arh hn hs hk hj hkj hS
  have h2:=Akw (N6 w (Bn f j) t).Ao (N6 w (Bn f j) t).next k h1 hk
  have h3:=Ry (N6 w (Bn f j) t).Ao (N6 w (Bn f j) t).next (Gg hg).1 (Gg hg).2
  have h4:=(P9 (N6 w (Bn f j) t).Ao (N6 w (Bn f j) t).next).1
  refine ⟨h2.1,h2.2,?_,?_⟩
  ·show (rel _ _).1=_
   rw [h3,show (N6 w (Bn f j) t).next=w.next from rfl,hn,Nd];unfold Mv;rw [show (N6 w (Bn f j) t).next=w.next from rfl,hn]
  ·show Zi S _ (rel _ _).2.1
   rw [h4];exact h1.drop _
structure PkI (S:List ByteArray) (f:Int) (p:As):Prop where
 t:Ii p=true→∃i:Nat,i≤S.length∧p.Ak=Bn f i
 l:Ii p=true→∃i:Nat,i≤S.length∧p.D0=Bn f i
 n:Ii p=true→p.C2≠5→∃i:Nat,S[i]?=some p.data∧p.Ad=Bn f i
theorem PkI.mono {S2:List ByteArray} {p:As} (h:PkI S f p):PkI (S++S2) f p :=
 ⟨fun hn=>by obtain ⟨i,a,e⟩:=h.t hn;exact ⟨i,by rw [List.length_append];omega,e⟩,fun hn=>by obtain ⟨i,a,e⟩:=h.l hn;exact ⟨i,by rw [List.length_append];omega,e⟩,
  fun hn h5=>by obtain ⟨i,a,e⟩:=h.n hn h5;exact ⟨i,by rw [List.getElem?_append_left (List.getElem?_eq_some_iff.1 a).1];exact a,e⟩⟩
structure WnI (S:List ByteArray) (f:Int) (w:Am) (es:List ByteArray) (k:Nat):Prop where
 le:k≤S.length
 n:w.next=Bn f k
 s:Zi S k w.Ao
 e:Amv∈es∨∃b,b+es.length=k∧Zk S b es
theorem WnI.on {w w2:Am} {es e2:List ByteArray} (h:WnI S f w es k) (h1:Zk S k e2) (h2:k+e2.length≤S.length) (h3:w2.next=Bn f ((k+e2.length:Nat):Int)) (h4:Zi S (k+e2.length) w2.Ao):WnI S f w2 (es++e2) (k+e2.length) :=
 ⟨h2,h3,h4,by
  rcases h.e with h|⟨b,hb,he⟩
  ·exact .inl (List.mem_append_left _ h)
  ·exact .inr ⟨b,by rw [List.length_append];omega,he.app (by rw [hb];exact h1)⟩⟩
theorem WnI.mono {S2:List ByteArray} {w:Am} {es:List ByteArray} (h:WnI S f w es k):WnI (S++S2) f w es k :=
 ⟨by rw [List.length_append];have:=h.le;omega,h.n,h.s.mono,by
  rcases h.e with h|⟨b,hb,he⟩
  ·exact .inl h
  ·exact .inr ⟨b,hb,he.mono⟩⟩
structure RcI (S:List ByteArray) (f:Int) (r:Bc) (es:List ByteArray):Prop where
 z:r.Bg=false→es=[]
 w:r.Bg=true→∃k,WnI S f r.Aa es k∧∀q∈r.Ap,∃j:Nat,j < S.length∧q.Ad=Bn f j
theorem RcI.mono {S2:List ByteArray} {r:Bc} {es:List ByteArray} (h:RcI S f r es):RcI (S++S2) f r es :=
 ⟨h.z,fun hs=>by obtain ⟨k,a,c⟩:=h.w hs;exact ⟨k,a.mono,fun q hq=>by obtain ⟨j,hj,e⟩:=c q hq;exact ⟨j,by rw [List.length_append];omega,e⟩⟩⟩
theorem Ap4 {w:Am} {es:List ByteArray} {i:Nat} (hg:Df w=true) (h:WnI S f w es k) (hi:i≤S.length) (hS:S.length≤2000):∃k2,k≤k2∧i≤k2∧WnI S f (Ko w (Bn f i)) (es++Lo w (Bn f i)) k2:=by
 have hk:=h.le
 unfold Ko Lo
 cases hb:Oa w.next (Bn f i)
 ·rw [h.n,X2 f (by omega) (by omega),decide_eq_false_iff_not] at hb
  refine ⟨k,Nat.le_refl _,by omega,?_⟩
  rw [if_neg (by decide),if_neg (by decide),List.append_nil]
  exact h
 ·rw [if_pos rfl,if_pos rfl]
  split
  ·obtain ⟨a,b2,c,d,e⟩:=Af9 hg h.n h.s hk hi hS
   exact ⟨_,by omega,e,h.on a b2 c d⟩
  ·rw [h.n,X2 f (by omega) (by omega),decide_eq_true_eq] at hb
   exact ⟨i,by omega,Nat.le_refl _,⟨hi,rfl,Zi.nil,.inl (List.mem_append_right _ (List.mem_singleton.2 rfl))⟩⟩
theorem Yp {base u:Int}:∀(ns:List Int) (l:List A4) {q:A4},q∈Ig base u l ns→q∈l∨q.Ad∈ns
 | [],_,_,h=>.inl h
 | n::ns,l,q,h=>by
  rcases Yp ns (Ph base l n u) h with h|h
  ·rcases Adi h with h|h
   ·exact .inl h
   ·exact .inr (by rw [h];simp)
  ·exact .inr (List.mem_cons_of_mem _ h)
theorem Amg {w:Am} {l:List A4} {i:Nat} {u:Int} (hn:w.next=Bn f k) (hk:k≤S.length) (hi:i≤S.length) (hS:S.length≤2000) (hl:∀q∈l,∃j:Nat,j < S.length∧q.Ad=Bn f j):∀q∈Kv w l (Bn f i) u,∃j:Nat,j < S.length∧q.Ad=Bn f j:=fun q hq=>by
 unfold Kv at hq
 split at hq
 ·rename_i hb
  rw [hn,X2 f (by omega) (by omega),decide_eq_true_eq] at hb
  rcases Yp _ _ hq with h|h
  ·exact hl q h
  ·unfold Lc My at h
   obtain ⟨h1, -⟩:=List.mem_filter.1 h
   obtain ⟨m,hm,e⟩:=List.mem_map.1 h1
   rw [List.mem_range] at hm
   unfold Rn at hm
   rw [hn,Ac6 f (by omega) (by omega) (by omega)] at hm
   exact ⟨k+m,by omega,by rw [←e,hn,Nd]⟩
 ·exact hl q hq
theorem Anr {r:Bc} {es:List ByteArray} {p:As} (hg:I9 r) (h:RcI S f r es) (hp:PkI S f p) (hn:Ii p=true):∃k,WnI S f (Dm r p) es k:=by
 unfold Dm
 cases hs:r.Bg
 ·have e:=h.z hs
  subst e
  rw [if_neg (by decide),(hg.z hs).1]
  by_cases h5:p.C2=5
  ·rw [if_pos h5]
   obtain ⟨i,hi,e⟩:=hp.l hn
   exact ⟨i,hi,e,Zi.nil,.inr ⟨i,rfl,Zk.nil⟩⟩
  ·rw [if_neg h5]
   obtain ⟨i,hi,e⟩:=hp.n hn h5
   have:=(List.getElem?_eq_some_iff.1 hi).1
   exact ⟨i,by omega,e,Zi.nil,.inr ⟨i,rfl,Zk.nil⟩⟩
 ·rw [if_pos rfl]
  obtain ⟨k,a, -⟩:=h.w hs
  exact ⟨k,a⟩
theorem Api {r:Bc} {es:List ByteArray} {p:As} {d:Int} (hg:I9 r) (hpk:Bk p=true) (h:RcI S f r es) (hp:PkI S f p) (hS:S.length≤2000):RcI S f (C9 r p d) (es++Ff r p):=by
 unfold C9 Ff
 cases hn:Ii p
 ·simp only [Bool.false_eq_true,if_false,List.append_nil]
  split
  ·rename_i hc
   rw [Bool.and_eq_true] at hc
   obtain ⟨k,a,c⟩:=h.w hc.2
   refine ⟨h.z,fun _=>⟨k,a,fun q hq=>?_⟩⟩
   obtain ⟨r',hr,e⟩:=Aap hq
   rw [←e];exact c r' hr
  ·exact h
 ·rw [if_pos rfl,if_pos rfl]
  obtain ⟨k,hw⟩:=Anr hg h hp hn
  have hsg:=(M9 hg hpk).1
  have htk:∃k2,WnI S f (D8 r p) (es++Id r p) k2:=by
   unfold D8 Id
   by_cases h5:p.C2=5
   ·rw [if_pos h5,if_pos h5,List.append_nil];exact ⟨k,hw⟩
   ·rw [if_neg h5,if_neg h5]
    obtain ⟨j,hj,e⟩:=hp.n hn h5
    rw [e]
    obtain ⟨a,b2,c,d2⟩:=Ap7 hsg hw.n hw.s hw.le hj hS
    exact ⟨_,hw.on a b2 c d2⟩
  obtain ⟨k2,hw2⟩:=htk
  obtain ⟨i,hi,et⟩:=hp.t hn
  obtain ⟨i2,hi2,el⟩:=hp.l hn
  obtain ⟨k3, -, -,hw3⟩:=Ap4 (Oz hg hpk).1 hw2 hi hS
  rw [←et] at hw3
  refine ⟨fun hs=>(by cases hs),fun _=>⟨k3,?_,?_⟩⟩
  ·show WnI S f (Ce r p) (es++Jj r p) k3
   unfold Jj Ce
   rw [←List.append_assoc];exact hw3
  ·show ∀q∈Kv (Ce r p) (Dp r.Ap (Ce r p)) p.D0 (r.Ai+d),_
   rw [el]
   refine Amg (w:=Ce r p) hw3.n hw3.le hi2 hS fun q hq=>?_
   have hq2:=(List.mem_filter.1 hq).1
   cases hs:r.Bg
   ·rw [(hg.z hs).2] at hq2;cases hq2
   ·obtain ⟨_, -,c⟩:=h.w hs
    exact c q hq2
theorem Ap8 {r:Bc} {es:List ByteArray} {d:Int} (hg:I9 r) (h:RcI S f r es) (hS:S.length≤2000):RcI S f (Cj r d) (es++Ev r):=by
 have hq2:r.Bg=true→∀q∈Kc r d,∃j:Nat,j < S.length∧q.Ad=Bn f j:=fun hs q hq=>by
  obtain ⟨_, -,c⟩:=h.w hs
  obtain ⟨q',hq',e⟩:=List.mem_filterMap.1 hq
  rw [Xn e];exact c q' hq'
 unfold Cj Ev
 split
 ·rw [List.append_nil]
  refine ⟨h.z,fun hs=>?_⟩
  obtain ⟨k,a,c⟩:=h.w hs
  exact ⟨k,a,hq2 hs⟩
 ·rename_i hl
  have hs:r.Bg=true:=by
   cases hs:r.Bg
   ·exact absurd (by unfold Cp;rw [(hg.z hs).2];rfl) hl
   ·rfl
  obtain ⟨k,a,c⟩:=h.w hs
  have hm:(Cp r).getLastD 0∈Cp r:=by
   rw [List.getLastD_eq_getLast?,List.getLast?_eq_some_getLast hl]
   exact List.getLast_mem hl
  obtain ⟨q',hq',e⟩:=List.mem_filterMap.1 hm
  obtain ⟨j,hj,e2⟩:=c q' hq'
  have et:C5 (Cp r)=Bn f ((j+1:Nat):Int):=by
   unfold C5
   rw [Agn e,e2,show Bn (Bn f (j:Nat)) 1=Bn (Bn f (j:Nat)) ((1:Nat):Int) from rfl,Nd]
  obtain ⟨x,b2,c2,d2, -⟩:=Af9 (i:=j+1) hg.w a.n a.s a.le (by omega) hS
  rw [←et] at x b2 c2 d2
  exact ⟨fun h=>(by rw [hs] at h;cases h),fun _=>⟨_,a.on x b2 c2 d2,fun q hq=>hq2 hs q (List.mem_filter.1 hq).1⟩⟩
end
def Eh (f z:Int):Ch × Bool:=if Cd ⟨⟨f,z,[]⟩,0,0,[]⟩ then (⟨⟨f,z,[]⟩,0,0,[]⟩,true) else (Aee,false)
theorem Acg (f z:Int):Fn prog 23 [.int .i64 f,.int .i64 z] [] [] (fun (_:List Nat)=>True) (fun _=>.tuple #[.agg #[.int .i64 (Eh f z).1.Aa.Ak,.int .i64 (Eh f z).1.Aa.size,.slice none 0 0,.int .i64 (Eh f z).1.Ai,.int .i64 (Eh f z).1.quiet,.slice none 0 0],.bool (Eh f z).2]) (fun s=>[.isv Dn (.agg #[.int .i64 (Eh f z).1.Aa.Ak,.int .i64 (Eh f z).1.Aa.size,.slice none 0 0,.int .i64 (Eh f z).1.Ai,.int .i64 (Eh f z).1.quiet,.slice none 0 0]) (Eh f z).1 s]):=by
 refine enter func23 rfl ntmps23 fun w0=>?_
 refine B9 A9 (by decide) ?_
 refine B9 Bh (by decide) ?_
 refine D7 Aee ?_
 refine B9 A9 (by decide) ?_
 refine B9 Bh (by decide) ?_
 refine D7 ⟨⟨f,z,[]⟩,0,0,[]⟩ ?_
 refine go ?_;intros
 refine cb (fun w st=>(Ra ⟨⟨f,z,[]⟩,0,0,[]⟩ _ ([]++[])).val w (H9 (st.get (p:=.isv Dn (.agg #[.int .i64 f,.int .i64 z,.slice none 0 0,.int .i64 0,.int .i64 0,.slice none 0 0]) ⟨⟨f,z,[]⟩,0,0,[]⟩ ([]++[])) (by exact B8)))) ?_
 cases g1:Cd ⟨⟨f,z,[]⟩,0,0,[]⟩
 ·rw [show Eh f z=(Aee,false) by unfold Eh;rw [g1];rfl]
  refine go ?_;intros
  refine ret ([]++[]) trivial rfl
 rw [show Eh f z=(⟨⟨f,z,[]⟩,0,0,[]⟩,true) by unfold Eh;rw [g1];rfl]
 refine go ?_;intros
 refine ret ([]++[]) trivial rfl
theorem Re (f z:Int):Fn prog 26 [.int .i64 f,.int .i64 z] [] [] (fun (_:List Nat)=>True) (fun _=>.tuple #[.agg #[.int .i64 (Eh f z).1.Aa.Ak,.int .i64 (Eh f z).1.Aa.size,.slice none 0 0,.int .i64 (Eh f z).1.Ai,.int .i64 (Eh f z).1.quiet,.slice none 0 0],.bool (Eh f z).2]) (fun s=>[.isv Dn (.agg #[.int .i64 (Eh f z).1.Aa.Ak,.int .i64 (Eh f z).1.Aa.size,.slice none 0 0,.int .i64 (Eh f z).1.Ai,.int .i64 (Eh f z).1.quiet,.slice none 0 0]) (Eh f z).1 s]):=by
 refine enter func26 rfl ntmps26 fun w0=>?_
 refine B9 A9 (by decide) ?_
 refine B9 Bh (by decide) ?_
 refine D7 Aee ?_
 refine B9 A9 (by decide) ?_
 refine B9 Bh (by decide) ?_
 refine D7 ⟨⟨f,z,[]⟩,0,0,[]⟩ ?_
 refine go ?_;intros
 refine cb (fun w st=>(Ahq ⟨⟨f,z,[]⟩,0,0,[]⟩ _ ([]++[])).val w (H9 (st.get (p:=.isv Dn (.agg #[.int .i64 f,.int .i64 z,.slice none 0 0,.int .i64 0,.int .i64 0,.slice none 0 0]) ⟨⟨f,z,[]⟩,0,0,[]⟩ ([]++[])) (by exact B8)))) ?_
 cases g1:Cd ⟨⟨f,z,[]⟩,0,0,[]⟩
 ·rw [show Eh f z=(Aee,false) by unfold Eh;rw [g1];rfl]
  refine go ?_;intros
  refine ret ([]++[]) trivial rfl
 rw [show Eh f z=(⟨⟨f,z,[]⟩,0,0,[]⟩,true) by unfold Eh;rw [g1];rfl]
 refine go ?_;intros
 refine ret ([]++[]) trivial rfl
end Go.Proofs.YtbmlecejkacpnaaGreatDoor
namespace Go.Proofs.YtbmlecejkacpnaaGreatDoor

open Go.RowKit
end Go.Proofs.YtbmlecejkacpnaaGreatDoor
