/- Part 5 of the proof: 34 texts, one behind the other. -/
import Derived.Test.YtcmighgaiacgoaaGreatDoorM4
open _root_.Go.Proofs.Tryz
set_option maxRecDepth 100000
set_option maxHeartbeats 8000000
set_option linter.all false
set_option linter.unusedVariables false
set_option linter.unusedSimpArgs false
namespace Go.Proofs.YtcmighgaiacgoaaGreatDoor
theorem AN{p:Prop}(h:p:=by have h9:=hpk;unfold Bt Rs at h9;simp only [Bool.and_eq_true,decide_eq_true_eq] at h9;unfold maxLen;omega):p:=h
theorem AO{p:Prop}(h:p:=by apply Cr;rfl;intro _;refine dk ?_;refine dN 12 ?_;refine oS ?_;refine dk ?_;refine dN 13 ?_;refine oS ?_;refine dk ?_;refine dd ?_;refine Br ((_,_):Nat × Nat) trivial):p:=h
theorem AW{p:Prop}(h:p:=by have hz:n.up[i]=[]:=List.length_eq_zero_iff.1 (by omega);rw [show C2 n s=none by unfold C2;rw [if_neg (by omega),hq,if_pos (by omega)],decide_eq_false h0,show n.up.set i (n.up[i].drop 1)=n.up by rw [hz,List.drop_nil];rw [←hz,List.set_getElem_self]];refine go ?_;intros;refine ret (⟨a1,c1,F1,a2,c2,F2,a3,c3,F3,a4,c4,F4,a5,c5,F5,a6,c6,F6,a7,c7,J⟩,⟨0,none,0,[]⟩) trivial rfl):p:=h
theorem BA{p:Prop}(h:p:=by refine Ec 3 4 ?_;refine ds 5 ?_;refine ds 6 ?_;refine ds 7 ?_;refine ds 8 ?_;refine ds 9 ?_;refine ds 10 ?_;refine ds 11 ?_;refine ds 12 ?_;refine ds 13 ?_;refine ds 14 ?_;refine ds 15 ?_;refine ds 16 ?_;refine Ec 17 18 ?_;refine dd ?_;exact AA):p:=h
theorem BT{p:Prop}(h:p:=by refine go ?_;refine ret () trivial ?_;rw [show Ga 1 s.Cp 6=true by unfold Ga;simp;omega];rfl):p:=h
theorem CA{p:Prop}(h:p:=by have:=(M0 (s:=s) hg).1;rw [hq] at this;unfold Fc at this;simp only [Bool.and_eq_true,decide_eq_true_eq] at this;exact this.1):p:=h
theorem CD{p:Prop}(h:p:=by refine dN 10 ?_;refine oS ?_;refine dk ?_;refine dt 11 ?_;refine dd ?_;refine go ?_;intros;apply wO;refine Ps (Dc (D0 W p).1 (Ag2 hW)) Hg fun a9 c9 F9=>?_;refine go ?_;refine ret ⟨a,c,z.1,z.2.1,_,a9,c9,F9⟩ trivial rfl):p:=h
theorem CF{p:Prop}(h:p:=by refine go ?_;refine ret () trivial ?_;rw [Bool.and_false,Bool.false_and];rfl):p:=h
theorem CY{p:Prop}(h:p:=by refine go ?_;refine ret () trivial ?_;rw [decide_eq_false h2];rfl):p:=h
theorem DC{p:Prop}(h:p:=by refine go ?_;refine ret () trivial ?_;rw [decide_eq_true h2];rfl):p:=h
theorem DJ{p:Prop}(h:p:=by refine ret ⟨_,_,_,_,_,[],_,_,_⟩ trivial rfl):p:=h
theorem DY{p:Prop}(h:p:=by refine go ?_;refine Cg ⟨z.k+1,z.a,z.c,z.F⟩ (by show z.k+1≤t.Ad.length;omega) (by show t.Ad.length - (z.k+1) < t.Ad.length - z.k;omega)):p:=h
theorem EX{p:Prop}(h:p:=by refine go ?_;refine ret (⟨a1,c1,F1,a2,c2,F2,a3,c3,F3,a4,c4,F4,a5,c5,F5,a6,c6,F6,a7,c7,F7⟩,⟨0,none,0,[]⟩) trivial rfl):p:=h
theorem EY{p:Prop}(h:p:=by refine Cg ⟨z.k+1,a9,c9,F9⟩ (by show z.k+1≤t.Ad.length;omega) (by show t.Ad.length - (z.k+1) < t.Ad.length - z.k;omega)):p:=h
theorem FA{p:Prop}(h:p:=by refine go ?_;refine ret (⟨x1,w1,K1,x2,w2,K2,x3,w3,K3,x4,w4,K4,x5,w5,K5,x6,w6,K6,x7,w7,K7⟩,⟨0,ea,ec,eF⟩) trivial rfl):p:=h
theorem FB{p:Prop}(h:p:=by unfold C2;rw [if_neg (by omega),hq,if_neg (by omega),hpo,hP,hi,Int.toNat_natCast];rw [if_neg (by omega),if_neg (by omega)]):p:=h
theorem FE{p:Prop}(h:p:=by refine ret (⟨some ⟨gp,0,none⟩,c1,[gp],a2,c2,F2,z.a2,z.c2,z.F,a4,c4,F4,a5,c5,F5,a6,c6,J6,a7,c7,F7⟩:NV) trivial rfl):p:=h
theorem FF{p:Prop}(h:p:=by show ((N9 (Be n k).1 (k+1)).1,(Be n k).2++(N9 (Be n k).1 (k+1)).2)=_;unfold N9;rw [hT,hlf,if_neg (by decide),Ju i1,hSrc]):p:=h
theorem GR{p:Prop}(h:p:=by show n.Ao.Ad.length - (k+1) < n.Ao.Ad.length - k;omega):p:=h
theorem GW{p:Prop}(h:p:=by dsimp only;rw [hnx];exact hsE):p:=h
theorem GX{p:Prop}(h:p:=by dsimp only;rw [hnx];exact frE):p:=h
theorem HS{p:Prop}(h:p:=by unfold Hb;rw [hu,if_pos rfl,hi,Int.toNat_natCast]):p:=h
theorem IW{p:Prop}(h:p:=by unfold C2;rw [if_neg (by omega),hq,if_pos (by omega)]):p:=h
theorem KG{p:Prop}(h:p:=by show k+1+1≤_;omega):p:=h
theorem KL{p:Prop}(h:p:=by unfold Qv;rw [List.getD_eq_getElem?_getD,List.getElem?_eq_getElem h2];rfl):p:=h
theorem KM{p:Prop}(h:p:=by unfold Qi;rw [List.getD_eq_getElem?_getD,List.getElem?_eq_getElem h1];rfl):p:=h
theorem KN{p:Prop}(h:p:=by rw [hlf];decide):p:=h
theorem KO{p:Prop}(h:p:=by unfold Va;rw [hu,if_pos rfl,hi,Int.toNat_natCast];exact Qj (by omega) []):p:=h
theorem KP{p:Prop}(h:p:=by unfold Hb;split <;> rfl):p:=h
theorem KQ{p:Prop}(h:p:=by show n.Ao.Ad.length≤1000000;omega):p:=h
theorem LB{p:Prop}(h:p:=by unfold C2;rw [if_pos (by omega)]):p:=h
end Go.Proofs.YtcmighgaiacgoaaGreatDoor
namespace Go.Proofs.YtcmighgaiacgoaaGreatDoor
open Go.RowKit
theorem Bak {t a b:Int} (ha:0≤a∧a≤65535) (hb:0≤b∧b≤65535) (h:gp t a=gp t b):a=b:=by unfold gp at h;omega
def srt (t:Int) (hs:List Hx):Prop:=hs.Pairwise fun a b=>gp t a.Ae < gp t b.Ae
theorem Ff {x:Cj}:Cz x=true↔D8 x.Aa=true∧Ky x.Ai=true∧Ga 0 x.quiet 3=true∧(∀h∈x.holds,B8 h.Ae=true∧Jb x.Aa h.Ae=true∧Ga (x.Ai+1) h.Ce (x.Ai+3)=true)∧srt x.Aa.Ap x.holds:=by
 unfold Cz;simp only [Bool.and_eq_true,List.all_eq_true,List.mem_range];constructor
 ·rintro ⟨⟨⟨h1,h2⟩,h3⟩,h4⟩;refine ⟨h1,h2,h3,fun h hh=>?_,?_⟩
  ·obtain ⟨i,hi,rfl⟩:=List.getElem_of_mem hh;have:=h4 i hi;rw [Qh hi] at this;simp only [Bool.and_eq_true] at this;exact ⟨this.1.1.1,this.1.1.2,this.1.2⟩
  ·have step:∀i (hi:i+1 < x.holds.length),gp x.Aa.Ap x.holds[i].Ae < gp x.Aa.Ap x.holds[i+1].Ae:=fun i hi=>by
    have:=h4 (i+1) hi;rw [Qh hi] at this;simp only [Bool.and_eq_true,Bool.or_eq_true,decide_eq_true_eq,Bool.not_eq_true',decide_eq_false_iff_not] at this;have h:=this.2;rcases h with h|h
    ·omega
    ·simpa using h
   refine List.pairwise_iff_getElem.2 fun i j hi hj hij=>?_;obtain ⟨d,rfl⟩:∃d,j=i+1+d:=⟨j - i - 1,FH⟩;clear hij
   induction d with
   | zero=>exact step i hj
   | succ d ih=>exact Int.lt_trans (ih FH) (step (i+1+d) hj)
 ·rintro ⟨h1,h2,h3,h4,h5⟩;refine ⟨⟨⟨h1,h2⟩,h3⟩,fun i hi=>?_⟩;rw [Qh hi];obtain ⟨a,b,c⟩:=h4 x.holds[i] (List.getElem_mem hi);rw [a,b,c];simp only [Bool.true_and,Bool.or_eq_true,decide_eq_true_eq,Bool.not_eq_true',decide_eq_false_iff_not];rcases Nat.eq_zero_or_pos i with h0|h0
  ·exact .inl h0
  ·have:=List.pairwise_iff_getElem.1 h5 (i - 1) i FH hi FH;right;omega
def Gt (t:Int) (hs:List Hx) (n:Int):Nat:=(hs.takeWhile fun h=>decide (gp t h.Ae < gp t n)).length
def Pe (t:Int) (hs:List Hx) (n:Int):Bool:=match hs[Gt t hs n]? with|some h=>decide (h.Ae=n)|none=>false
def onB (hs:List Hx) (n:Int):Bool:=hs.any fun h=>decide (h.Ae=n)
def Ox (hs:List Hx) (k:Nat) (h:Hx):List Hx:=hs.take k++h::hs.drop k
def Abx (W:Aw) (n:Int):Ar:=⟨4,n,W.Ap,L8 W,⟨#[]⟩⟩
def Pm (x:Cj) (n:Int):Cj:=if Jb x.Aa n && !Pe x.Aa.Ap x.holds n then ⟨x.Aa,x.Ai,x.quiet,Ox x.holds (Gt x.Aa.Ap x.holds n) ⟨n,x.Ai+3⟩⟩ else Y8 x x.Aa
def Oc (x:Cj) (p:Ar):List Ar:=if Jb x.Aa p.Ae then (if Pe x.Aa.Ap x.holds p.Ae then [Abx x.Aa p.Ae] else [Abx x.Aa p.Ae,(D0 x.Aa p).1]) else [S0 x.Aa]
def M3 (x:Cj) (n:Int):Cj:=if Jb x.Aa n && !Pe x.Aa.Ap x.holds n then ⟨x.Aa,x.Ai,x.quiet,Ox x.holds (Gt x.Aa.Ap x.holds n) ⟨n,x.Ai+3⟩⟩ else x
theorem Aa6 {x:Cj} (hg:Cz x=true):Jw x.Aa x.Ai x.holds=x.holds:=by
 obtain ⟨-, -, -,h4, -⟩:=Ff.1 hg;unfold Jw;refine List.filter_eq_self.2 fun h hh=>?_;obtain ⟨a,b,c⟩:=h4 h hh;unfold Ga at c;simp only [Bool.and_eq_true,decide_eq_true_eq] at c;rw [b,decide_eq_true FH];rfl
theorem Bbz {x:Cj} (hg:Cz x=true) (n:Int):Pm x n=M3 x n:=by
 unfold Pm M3 Y8;rw [Aa6 hg]
theorem Zg (t:Int) (hs:List Hx) (n:Int):Gt t hs n≤hs.length:=Rz.1
theorem Bcw {t n:Int} {hs:List Hx} (hn:0≤n∧n≤65535) (hser:∀h∈hs,B8 h.Ae=true) (hs':srt t hs):Pe t hs n=onB hs n:=by
 obtain ⟨h1,h2,h3⟩:=Rz (p:=fun h:Hx=>decide (gp t h.Ae < gp t n)) (xs:=hs);unfold Pe onB;have hle:=Zg t hs n;rw [Bool.eq_iff_iff,List.any_eq_true];constructor
 ·intro h
  split at h
  ·rename_i z hz;exact ⟨z,List.mem_of_getElem? hz,h⟩
  ·cases h
 ·rintro ⟨z,hz,he⟩;simp only [decide_eq_true_eq] at he;obtain ⟨i,hi,rfl⟩:=List.getElem_of_mem hz;have hk:Gt t hs n=i:=by
   refine Y5 FH (fun j hj h=>?_) (fun h=>?_)
   ·have:=List.pairwise_iff_getElem.1 hs' j i h hi hj;simp only [decide_eq_true_eq];rw [←he];exact this
   ·simp only [decide_eq_false_iff_not];rw [he];omega
  rw [hk,List.getElem?_eq_getElem hi];simpa using he
theorem Bfn {t n:Int} {hs:List Hx} (u:Int) (hn:0≤n∧n≤65535) (hser:∀h∈hs,B8 h.Ae=true) (hs':srt t hs) (ht:Pe t hs n=false):srt t (Ox hs (Gt t hs n) ⟨n,u⟩):=by
 obtain ⟨h1,h2,h3⟩:=Rz (p:=fun h:Hx=>decide (gp t h.Ae < gp t n)) (xs:=hs);have hle:=Zg t hs n;have hon:onB hs n=false:=by rw [←Bcw hn hser hs'];exact ht
 have hne:∀h∈hs,gp t h.Ae≠gp t n:=fun h hh e=>by
  have:=Bak (Bc.1 (hser h hh)) hn e;have h0:onB hs n=true:=List.any_eq_true.2 ⟨h,hh,by simp [this]⟩;rw [hon] at h0;cases h0
 unfold Ox srt;rw [List.pairwise_append];refine ⟨hs'.sublist (List.take_sublist _ _),?_,?_⟩
 ·rw [List.pairwise_cons];refine ⟨fun b hb=>?_,hs'.sublist (List.drop_sublist _ _)⟩;obtain ⟨j,hj,rfl⟩:=List.getElem_of_mem hb;rw [List.getElem_drop];rw [List.length_drop] at hj;have hk:Gt t hs n < hs.length:=FH
  have h0:=h3 hk;simp only [decide_eq_false_iff_not,Int.not_lt] at h0;have h00:gp t n≤gp t (hs[Gt t hs n]'hk).Ae:=h0;have hd:=hne _ (List.getElem_mem hk);rcases Nat.eq_zero_or_pos j with e|e
  ·subst e;show gp t n < gp t (hs[Gt t hs n+0]).Ae;simp only [Nat.add_zero];omega
  ·have h5:=List.pairwise_iff_getElem.1 hs' (Gt t hs n) (Gt t hs n+j) hk FH FH;show gp t n < _;omega
 ·intro a ha b hb;obtain ⟨i,hi,rfl⟩:=List.getElem_of_mem ha;rw [List.length_take] at hi;rw [List.getElem_take];have ha2:=h2 i (by show i < Gt t hs n;omega) FH;simp only [decide_eq_true_eq] at ha2;rcases List.mem_cons.1 hb with rfl|hb
  ·exact ha2
  ·obtain ⟨j,hj,rfl⟩:=List.getElem_of_mem hb;rw [List.getElem_drop];rw [List.length_drop] at hj;exact List.pairwise_iff_getElem.1 hs' i _ FH FH FH
theorem Baj {x:Cj} {n:Int} (hg:Cz x=true) (hn:0≤n∧n≤65535):Cz (M3 x n)=true:=by
 unfold M3
 split
 ·rename_i h;simp only [Bool.and_eq_true,Bool.not_eq_true'] at h;obtain ⟨hh,ht⟩:=h;obtain ⟨h1,h2,h3,h4,h5⟩:=Ff.1 hg;refine Ff.2 ⟨h1,h2,h3,fun z hz=>?_,Bfn _ hn (fun z hz=>(h4 z hz).1) h5 ht⟩;have:z∈x.holds∨z=⟨n,x.Ai+3⟩:=by
   unfold Ox at hz;simp only [List.mem_append,List.mem_cons] at hz;rcases hz with h|h|h
   ·exact .inl (List.mem_of_mem_take h)
   ·exact .inr h
   ·exact .inl (List.mem_of_mem_drop h)
  rcases this with h|rfl
  ·exact h4 z h
  ·exact ⟨Bc.2 hn,hh,by unfold Ga;simp⟩
 ·exact hg
theorem Awp {x:Cj} (hg:Cz x=true) (hc:x.Ai < 9999):Cz (Nr x)=true:=by
 obtain ⟨h1,h2,h3,h4,h5⟩:=Ff.1 hg;have hk:=Amu h2;refine Ff.2 ⟨h1,?_,?_,fun z hz=>?_,h5.sublist (List.filter_sublist)⟩
 ·unfold Nr Ky Ga;simp;omega
 ·unfold Ga at h3;simp only [Bool.and_eq_true,decide_eq_true_eq] at h3;unfold Nr Xx Ga;dsimp only
  split <;> simp <;> omega
 ·unfold Nr Vw at hz;simp only [List.mem_filter] at hz;obtain ⟨z1,z2⟩:=hz;obtain ⟨a,b,c⟩:=h4 z z1;refine ⟨a,b,?_⟩;unfold Ga at c ⊢;simp only [Bool.and_eq_true,decide_eq_true_eq,Bool.not_eq_true',decide_eq_false_iff_not] at c z2 ⊢;show x.Ai+1+1≤z.Ce∧z.Ce≤x.Ai+1+3;omega
theorem Ahs {x:Cj} {W:Aw} (k:Nat) (q:Int) (hg:Cz x=true) (hw:D8 W=true) (hq:Ga 0 q 3=true) (hk:k≤6) (ht:W.Ap=Cf x.Aa.Ap k):Cz ⟨W,x.Ai,q,Oi W x.holds⟩=true:=by
 obtain ⟨h1,h2,h3,h4,h5⟩:=Ff.1 hg;obtain ⟨-,⟨z0,z1⟩,hl, -⟩:=Ea.1 hw;have key:∀n,Jb W n=true→gp x.Aa.Ap n=gp W.Ap n+k:=fun n hn=>by
  unfold Jb at hn;simp only [decide_eq_true_eq] at hn;rw [ht] at hn ⊢;have:=Ly (Cf x.Aa.Ap k) n;unfold gp Cf at *;omega
 refine Ff.2 ⟨hw,h2,hq,fun z hz=>?_,?_⟩
 ·unfold Oi at hz;simp only [List.mem_filter] at hz;obtain ⟨a,b,c⟩:=h4 z hz.1;exact ⟨a,hz.2,c⟩
 ·unfold Oi srt;show List.Pairwise (fun a b=>gp W.Ap a.Ae < gp W.Ap b.Ae) (x.holds.filter fun h=>Jb W h.Ae);have hp:List.Pairwise (fun a b=>gp x.Aa.Ap a.Ae < gp x.Aa.Ap b.Ae) (x.holds.filter fun h=>Jb W h.Ae):=h5.sublist (List.filter_sublist);refine List.Pairwise.imp_of_mem (fun {a b} ha hb h=>?_) hp;simp only [List.mem_filter] at ha hb;have e1:=key _ ha.2;have e2:=key _ hb.2;omega
theorem Awo {x:Cj} {s:ByteArray} (hg:Cz x=true) (hs:Rs s=true):Cz (Sn x s)=true:=by
 have hw:=(Ff.1 hg).1;obtain ⟨-,hw2, -⟩:=Atd (x:=x.Aa) (s:=s) (by unfold Abe;rw [hw,hs];rfl);obtain ⟨⟨t0,t1⟩, -⟩:=Ea.1 hw;by_cases h:(x.Aa.An.length:Int)=x.Aa.size
 ·refine Ahs 1 0 hg hw2 FK FH ?_;show (Dk x.Aa).Ap=_;unfold Dk;rw [if_pos h];rfl
 ·refine Ahs 0 0 hg hw2 FK FH ?_;show (Dk x.Aa).Ap=_;unfold Dk Cf;rw [if_neg h];omega
def Qi (n:Dv) (i:Nat):Bf:=n.Af.getD i ⟨0,[]⟩
def Qv (n:Dv) (i:Nat):Ay:=n.Ac.getD i Bkm
def Aaf (n:Dv) (i:Nat):List Int:=Iw n.Ao.Ad ((i:Nat):Int)
def Af4 (n:Dv) (i:Nat) (p:Ar):List Int:=if p.Cp=2 then Vp (Qi n i) p.Ae (Aaf n i) else Aaf n i
def C4 (n:Dv) (i:Nat) (p:Ar):Dv × List ByteArray :=
 if Eo n.Ao.Ad ((i:Nat):Int) then (⟨n.Ao,n.Ab,n.Af,n.Ac.set i (Di (Qv n i) p (Ns i)),n.down,n.up⟩,Vc i (Io (Qv n i) p))
 else (⟨n.Ao,n.Ab,if p.Cp=2 then n.Af.set i (Qr (Qi n i) p.Ae) else n.Af,n.Ac,Dn n.down (Af4 n i p) [p],n.up⟩,[])
def Z4 (n:Dv) (i:Nat):Nat:=(n.Ao.Ad.getD i 0).toNat
def Aax (p:Ar):Ar:=⟨4,p.Ae,p.Ap,p.Fg,⟨#[]⟩⟩
def Q5 (n:Dv) (i:Nat) (p:Ar):Dv :=
 if Z4 n i=0 then ⟨n.Ao,M3 n.Ab p.Ae,n.Af,n.Ac,Dn n.down [((i:Nat):Int)] (Oc n.Ab p),n.up⟩
 else ⟨n.Ao,n.Ab,n.Af.set (Z4 n i) (Pd (Qi n (Z4 n i)) p.Ae ((i:Nat):Int)),n.Ac,Dn n.down [((i:Nat):Int)] [Aax p],if Adp (Qi n (Z4 n i)) p.Ae then n.up.modify (Z4 n i) fun q=>Hq q [p] else n.up⟩
def N9 (n:Dv) (i:Nat):Dv × List ByteArray :=
 if Eo n.Ao.Ad ((i:Nat):Int) then (⟨n.Ao,n.Ab,n.Af,n.Ac.set i (Cv (Qv n i) (Ns i)),n.down,n.up.modify i fun q=>Hq q (E8 (Qv n i))⟩,Vc i (Hw (Qv n i)))
 else (⟨n.Ao,n.Ab,n.Af.set i (Fj (Qi n i)),n.Ac,n.down,n.up⟩,[])
def Bjn (n:Dv):Dv:=⟨n.Ao,Nr n.Ab,n.Af,n.Ac,Dn n.down (Aaf n 0) (Oa n.Ab.Aa n.Ab.quiet),n.up⟩
def Be (n:Dv):Nat→Dv × List ByteArray
 | 0=>(Bjn n,[])
 | k+1=>((N9 (Be n k).1 (k+1)).1,(Be n k).2++(N9 (Be n k).1 (k+1)).2)
def Gp (n:Dv):Dv × List ByteArray:=Be n (n.Ao.Ad.length - 1)
def Aiz (n:Dv) (s:ByteArray):Dv:=⟨n.Ao,Sn n.Ab s,n.Af,n.Ac,Dn n.down (Aaf n 0) [Du n.Ab.Aa s],n.up⟩
def Rf (n:Dv) (i:Nat):Dv:=⟨n.Ao,n.Ab,n.Af,n.Ac,n.down.modify i (·.drop 1),n.up⟩
def Pb (n:Dv) (i:Nat):Dv:=⟨n.Ao,n.Ab,n.Af,n.Ac,n.down,n.up.modify i (·.drop 1)⟩
structure GN (ck:Nat→Int) (n:Dv):Prop where
 t:Kc n.Ao=true
 s:Cz n.Ab=true
 l:L9 n=true
 a:∀i (h1:i < n.Af.length) (h2:i < n.Ac.length) (h3:i < n.down.length) (h4:i < n.up.length),Rk n.Ao.Ad (ck i) i n.Af[i] n.Ac[i] n.down[i] n.up[i]=true
theorem Az {n:Dv}:At n=true↔GN (fun _=>n.Ab.Ai) n:=by
 rw [Uw];constructor
 ·rintro ⟨h1,h2,h3,h4⟩;obtain ⟨q1,q2,q3,q4⟩:=Bl.1 h3;exact ⟨h1,h2,h3,fun i a b c d=>by rw [←Vm a b c d];exact h4 i FH⟩
 ·rintro ⟨h1,h2,h3,h4⟩;obtain ⟨q1,q2,q3,q4⟩:=Bl.1 h3;exact ⟨h1,h2,h3,fun i hi=>by rw [Vm FH FH FH FH];exact h4 i _ _ _ _⟩
def Agd (ck:Nat→Int) (i:Nat) (c:Int):Nat→Int:=fun j=>if j=i then c else ck j
structure RN (par:List Int) (clk:Int) (i:Nat) (e:Bf) (r:Ay) (d u:List Ar):Prop where
 hd:Fc d=true
 hu:Fc u=true
 hk:upQ u=true
 hz:i=0→Na e=true∧Uo r=true∧d.length=0∧u.length=0
 hf:i≠0→Eo par ((i:Nat):Int)=true→Na e=true∧Bv r=true∧r.Ai=clk
 hn:i≠0→Eo par ((i:Nat):Int)=false→Ba e=true∧e.Ai=clk∧Uo r=true
theorem Pw {par:List Int} {clk:Int} {i:Nat} {e:Bf} {r:Ay} {d u:List Ar}:Rk par clk i e r d u=true↔RN par clk i e r d u:=by
 unfold Rk;constructor
 ·intro h;simp only [Bool.and_eq_true] at h;obtain ⟨⟨⟨h1,h2⟩,h3⟩,h4⟩:=h;refine ⟨h1,h2,h3,fun e=>?_,fun e l=>?_,fun e l=>?_⟩
  ·rw [if_pos e] at h4;simp only [Bool.and_eq_true,decide_eq_true_eq] at h4;exact ⟨h4.1.1.1,h4.1.1.2,h4.1.2,h4.2⟩
  ·rw [if_neg e,if_pos l] at h4;simp only [Bool.and_eq_true,decide_eq_true_eq] at h4;exact ⟨h4.1.1,h4.1.2,h4.2⟩
  ·rw [if_neg e,if_neg (by rw [l];decide)] at h4;simp only [Bool.and_eq_true,decide_eq_true_eq] at h4;exact ⟨h4.1.1,h4.1.2,h4.2⟩
 ·intro h;rw [h.hd,h.hu,h.hk,Bool.true_and,Bool.true_and,Bool.true_and];by_cases e:i=0
  ·rw [if_pos e];obtain ⟨a,b,c,d⟩:=h.hz e;rw [a,b,decide_eq_true c,decide_eq_true d];rfl
  ·rw [if_neg e];cases l:Eo par ((i:Nat):Int)
   ·obtain ⟨a,b,c⟩:=h.hn e l;rw [if_neg FK,a,decide_eq_true b,c];rfl
   ·obtain ⟨a,b,c⟩:=h.hf e l;rw [if_pos rfl,a,b,decide_eq_true c];rfl
theorem GN.rn {ck:Nat→Int} {n:Dv} (h:GN ck n) {i:Nat} (hi:i < n.Ao.Ad.length):∃(h1:i < n.Af.length) (h2:i < n.Ac.length) (h3:i < n.down.length) (h4:i < n.up.length),RN n.Ao.Ad (ck i) i n.Af[i] n.Ac[i] n.down[i] n.up[i]:=by
 obtain ⟨q1,q2,q3,q4⟩:=Bl.1 h.l;exact ⟨FH,FH,FH,FH,Pw.1 (h.a i _ _ _ _)⟩
theorem GN.mk' {ck:Nat→Int} {n:Dv} (h1:Kc n.Ao=true) (h2:Cz n.Ab=true) (h3:L9 n=true) (h4:∀i (h1:i < n.Af.length) (h2:i < n.Ac.length) (h3:i < n.down.length) (h4:i < n.up.length),RN n.Ao.Ad (ck i) i n.Af[i] n.Ac[i] n.down[i] n.up[i]):GN ck n :=
 ⟨h1,h2,h3,fun i a b c d=>Pw.2 (h4 i a b c d)⟩
theorem GN.src {ck:Nat→Int} {n:Dv} {s:Cj} (h:GN ck n) (hs:Cz s=true):GN ck ⟨n.Ao,s,n.Af,n.Ac,n.down,n.up⟩:=⟨h.t,hs,h.l,h.a⟩
theorem GN.el {ck:Nat→Int} {n:Dv} {i:Nat} {e:Bf} (h:GN ck n) (h0:i≠0) (hl:Eo n.Ao.Ad ((i:Nat):Int)=false) (he:Ba e=true):GN (Agd ck i e.Ai) ⟨n.Ao,n.Ab,n.Af.set i e,n.Ac,n.down,n.up⟩:=by
 obtain ⟨q1,q2,q3,q4⟩:=Bl.1 h.l;refine .mk' h.t h.s (Bl.2 ⟨by simpa using q1,q2,q3,q4⟩) fun j h1 h2 h3 h4=>?_;have h1':j < n.Af.length:=IS
 have r:=Pw.1 (h.a j h1' h2 h3 h4);refine ⟨r.hd,r.hu,r.hk,fun e0=>?_,fun e0 l=>?_,fun e0 l=>?_⟩
 ·have:=r.hz e0
  rwa [List.getElem_set_ne FH]
 ·have hne:i≠j:=fun e1=>by subst e1;rw [hl] at l;cases l
  have:=r.hf e0 l;rw [List.getElem_set_ne hne];unfold Agd;rw [if_neg (Ne.symm hne)];exact this
 ·have:=r.hn e0 l;by_cases e1:i=j
  ·subst e1;rw [List.getElem_set_self];unfold Agd;rw [if_pos rfl];exact ⟨he,rfl,this.2.2⟩
  ·rw [List.getElem_set_ne e1];unfold Agd;rw [if_neg (Ne.symm e1)];exact this
theorem GN.rc {ck:Nat→Int} {n:Dv} {i:Nat} {x:Ay} (h:GN ck n) (h0:i≠0) (hl:Eo n.Ao.Ad ((i:Nat):Int)=true) (he:Bv x=true):GN (Agd ck i x.Ai) ⟨n.Ao,n.Ab,n.Af,n.Ac.set i x,n.down,n.up⟩:=by
 obtain ⟨q1,q2,q3,q4⟩:=Bl.1 h.l;refine .mk' h.t h.s (Bl.2 ⟨q1,by simpa using q2,q3,q4⟩) fun j h1 h2 h3 h4=>?_;have h2':j < n.Ac.length:=IH
 have r:=Pw.1 (h.a j h1 h2' h3 h4);refine ⟨r.hd,r.hu,r.hk,fun e0=>?_,fun e0 l=>?_,fun e0 l=>?_⟩
 ·have:=r.hz e0
  rwa [List.getElem_set_ne FH]
 ·have:=r.hf e0 l;by_cases e1:i=j
  ·subst e1;rw [List.getElem_set_self];unfold Agd;rw [if_pos rfl];exact ⟨this.1,he,rfl⟩
  ·rw [List.getElem_set_ne e1];unfold Agd;rw [if_neg (Ne.symm e1)];exact this
 ·have hne:i≠j:=fun e1=>by subst e1;rw [hl] at l;cases l
  have:=r.hn e0 l;rw [List.getElem_set_ne hne];unfold Agd;rw [if_neg (Ne.symm hne)];exact this
theorem Ava {q ps:List Ar} (hq:upQ q=true) (hp:∀p∈ps,p.Cp=3):upQ (Hq q ps)=true:=by
 unfold upQ Hq at *;rw [List.all_append,hq,Bool.true_and,List.all_eq_true];exact fun p h=>decide_eq_true (hp p (List.mem_of_mem_take h))
theorem GN.dn {ck:Nat→Int} {n:Dv} (h:GN ck n) (i:Nat) (f:List Ar→List Ar) (h0:i=0→f []=[]) (hf:∀q,Fc q=true→Fc (f q)=true):GN ck ⟨n.Ao,n.Ab,n.Af,n.Ac,n.down.modify i f,n.up⟩:=by
 obtain ⟨q1,q2,q3,q4⟩:=Bl.1 h.l;refine .mk' h.t h.s (Bl.2 ⟨q1,q2,by simpa using q3,q4⟩) fun j h1 h2 h3 h4=>?_;have h3':j < n.down.length:=IV
 have r:=Pw.1 (h.a j h1 h2 h3' h4);by_cases e1:i=j
 ·subst e1;simp only [List.getElem_modify_eq];refine ⟨hf _ r.hd,r.hu,r.hk,fun e0=>?_,r.hf,r.hn⟩;obtain ⟨a,b,c,d⟩:=r.hz e0;refine ⟨a,b,?_,d⟩;rw [List.length_eq_zero_iff.1 c,h0 e0];rfl
 ·simp only [List.getElem_modify,if_neg e1];exact r
theorem GN.un {ck:Nat→Int} {n:Dv} (h:GN ck n) (i:Nat) (f:List Ar→List Ar) (h0:i=0→f []=[]) (hf:∀q,Fc q=true→upQ q=true→Fc (f q)=true∧upQ (f q)=true):GN ck ⟨n.Ao,n.Ab,n.Af,n.Ac,n.down,n.up.modify i f⟩:=by
 obtain ⟨q1,q2,q3,q4⟩:=Bl.1 h.l;refine .mk' h.t h.s (Bl.2 ⟨q1,q2,q3,by simpa using q4⟩) fun j h1 h2 h3 h4=>?_;have h4':j < n.up.length:=by simpa using h4
 have r:=Pw.1 (h.a j h1 h2 h3 h4');by_cases e1:i=j
 ·subst e1;simp only [List.getElem_modify_eq];refine ⟨r.hd,(hf _ r.hu r.hk).1,(hf _ r.hu r.hk).2,fun e0=>?_,r.hf,r.hn⟩;obtain ⟨a,b,c,d⟩:=r.hz e0;refine ⟨a,b,c,?_⟩;rw [List.length_eq_zero_iff.1 d,h0 e0];rfl
 ·simp only [List.getElem_modify,if_neg e1];exact r
theorem GN.sp {ck:Nat→Int} {ps:List Ar} (hp:∀p∈ps,Bt p=true):∀{nodes:List Int} {n:Dv},GN ck n→(∀x∈nodes,x.toNat≠0)→GN ck ⟨n.Ao,n.Ab,n.Af,n.Ac,Dn n.down nodes ps,n.up⟩
 | [],_,h,_=>h
 | x::r,n,h,hx=>GN.sp hp (nodes:=r) (n:=⟨n.Ao,n.Ab,n.Af,n.Ac,n.down.modify x.toNat fun q=>Hq q ps,n.up⟩) (h.dn x.toNat _ (fun e=>absurd e (hx x FI)) fun q hq=>Aeg hq hp) fun y hy=>hx y LL
theorem Ahq {q:List Ar} (h:Fc q=true):Fc (q.drop 1)=true:=by
 unfold Fc at *;simp only [Bool.and_eq_true,decide_eq_true_eq,List.all_eq_true] at h ⊢;exact ⟨HV,fun p hp=>h.2 p (List.mem_of_mem_drop hp)⟩
theorem Bc8 {q:List Ar} (h:upQ q=true):upQ (q.drop 1)=true:=by
 unfold upQ at *;simp only [List.all_eq_true] at h ⊢;exact fun p hp=>h p (List.mem_of_mem_drop hp)
theorem GN.pd {ck:Nat→Int} {n:Dv} (h:GN ck n) (i:Nat):GN ck (Rf n i):=h.dn i _ (fun _=>rfl) fun _=>Ahq
theorem GN.pu {ck:Nat→Int} {n:Dv} (h:GN ck n) (i:Nat):GN ck (Pb n i):=h.un i _ (fun _=>rfl) fun _ a b=>⟨Ahq a,Bc8 b⟩
def Xe (l:List Gb):Prop:=∀s∈l,s.Dg.size≤8
theorem Alw {s:ByteArray} (h:s.size≤8):(Aij s).size≤9:=by
 unfold Aij;have:(⟨#[43]⟩:ByteArray).size=1:=rfl;rw [ByteArray.size_append];omega
theorem Atq {l:List Gb} (h:Xe l):(Gn l).size≤9:=by
 unfold Gn;cases l with
 | nil=>decide
 | cons s r =>
  dsimp only
  split
  ·exact Alw (h s FI)
  ·decide
theorem Bbv:∀(l:List Gb) (n:Int),Xe l→∀e∈(rel n l).2.2,e.size≤9
 | [],_,_,e,he=>by simp [rel] at he
 | s::r,n,h,e,he=>by
  unfold rel at he
  split at he
  ·rcases List.mem_cons.1 he with rfl|he
   ·exact Alw (h s FI)
   ·exact Bbv r _ (fun x hx=>h x JC) e he
  ·simp at he
theorem Avd {w:Aj} (h:Xe w.Al):∀e∈Sm w,e.size≤9:=Bbv w.Al w.next h
theorem Auu:∀(k:Nat) (w:Aj),Xe w.Al→(∀e∈O7 k w,e.size≤9)∧Xe (I5 k w).Al
 | 0,w,h=>⟨fun e he=>by simp [O7] at he,h⟩
 | k+1,w,h=>by
  have ih:=Auu k (Z7 w) fun s hs=>h s (List.mem_of_mem_drop hs);refine ⟨fun e he=>?_,ih.2⟩;unfold O7 at he;rcases List.mem_cons.1 he with rfl|he
  ·exact Atq h
  ·exact ih.1 e he
theorem Abi {w:Aj} (h:Cu w=true):Xe w.Al:=fun s hs=>by
 obtain ⟨n0,n1,hl,hit⟩:=Tg h;exact hit s hs
theorem Aqf {w:Aj} {t:Int} (h:Xe w.Al):∀e∈Jg w t,e.size≤9:=fun e he=>by
 have hg:=Auu (Eu w.next t) w h;unfold Jg at he;rcases List.mem_append.1 he with he|he
 ·exact hg.1 e he
 ·exact Avd hg.2 e he
theorem Axv {w:Aj} {t:Int} (h:Cu w=true):(Jg w t).length≤40000:=by
 have h1:=(Vz (t:=t) h).2.2.1;have h2:Eu w.next t≤32767:=by
  unfold Eu
  split
  ·rename_i hb;unfold Up Ga at hb;simp only [Bool.and_eq_true,decide_eq_true_eq] at hb;omega
  ·omega
 omega
theorem Bfb {x:Aj} {k:Nat} {s:Gb} (h:Xe x.Al) (hs:s.Dg.size≤8):Xe (Mt x k s):=fun y hy=>by
 unfold Mt at hy;rcases List.mem_or_eq_of_mem_set hy with hy|rfl
 ·unfold Mz at hy;rcases List.mem_append.1 hy with hy|hy
  ·exact h y hy
  ·rw [List.eq_of_mem_replicate hy];decide
 ·exact hs
theorem Bei {r:Ay} {p:Ar} (hg:Mn r) (hp:Bt p=true):∀e∈Io r p,e.size≤1000000:=fun e he=>by
 have hd:p.data.size≤8:=by
  unfold Bt Rs at hp;simp only [Bool.and_eq_true,decide_eq_true_eq] at hp;omega
 have hst:=(Rm hg hp).1;have htk:=(Un hg hp).1;unfold Io at he
 split at he
 ·unfold M7 at he;rcases List.mem_append.1 he with he|he
  ·unfold Lf at he
   split at he
   ·simp at he
   ·unfold Mf at he
    split at he
    ·simp at he
    ·have:=Avd (w:=Z5 (Eb r p) p.Ae p.data) (Bfb (s:=⟨true,p.data⟩) (Abi hst) hd) e he;omega
  ·unfold Po at he
   split at he
   ·split at he
    ·have:=Aqf (Abi htk) e he;omega
    ·rw [List.mem_singleton] at he;subst he;decide
   ·simp at he
 ·simp at he
theorem Aeq {r:Ay} (hg:Mn r):(∀e∈Hw r,e.size≤1000000)∧(Hw r).length≤40000:=by
 unfold Hw
 split
 ·exact ⟨fun e he=>by simp at he,FI⟩
 ·exact ⟨fun e he=>by have:=Aqf (Abi hg.w) e he;omega,Axv hg.w⟩
theorem Aim {w:World} {t:TypeId} {a:Option Addr} {c:Nat} {l:List Int} {F:List Nat} (h:(Pc.ow Bb t (.slice a l.length c) l F).P w):∃F',(Pc.isv P0 (.agg #[.slice a l.length c]) ⟨l⟩ F').P w:=by
 obtain ⟨F', -,hs⟩:=h.2.read;exact ⟨F',_,rfl,_,rfl,hs⟩
theorem Aav (t:Qe) (node:Int) (v:Value) (F:List Nat) (hl:t.Ad.length≤1000000):Fn prog 194 [v,.int .i64 node] [.isv P0 v t F] [] (fun (_:KiS)=>True) (fun z=>.slice z.a (Iw t.Ad node).length z.c) (fun z=>[.ow Bb 3 (.slice z.a (Iw t.Ad node).length z.c) (Iw t.Ad node) z.F]):=by
 refine enter func194 rfl ntmps194 fun w0=>?_;refine Om ?_;rintro a1 c1 F1 rfl l1;refine Db Bb 3 ?_;refine go ?_;intros;refine Cd [1,4,9,10] (fun z:KiS=>[(5,.slice z.a (Kj t.Ad node z.k).length z.c),(11,.int .i64 (z.k:Nat))]) (fun z=>[.ow Bb 3 (.slice z.a (Kj t.Ad node z.k).length z.c) (Kj t.Ad node z.k) z.F]) (fun z=>z.k≤t.Ad.length) (fun z=>t.Ad.length - z.k) ⟨0,_,_,_⟩ (Nat.zero_le _) fun z hz=>?_;have hkl:=Ahy t.Ad node z.k;refine go ?_;refine A1 rfl (fun h1=>?_) (fun h1=>?_)
 ·have hh:z.k < t.Ad.length:=FH
  refine I6 (xs:=t.Ad) z.k ?_;rintro hi b o e1;rw [e1];refine go ?_;refine A1 rfl (fun h2=>?_) (fun h2=>?_)
  ·refine Og ?_;intros;apply wO;refine Ps (Q3 _) C8 fun a9 c9 F9=>?_;refine go ?_;rw [←Ass hh h2];exact EY
  ·rw [←Awy hh h2];exact DY
 ·rw [show Kj t.Ad node z.k=Iw t.Ad node by unfold Iw;rw [show z.k=t.Ad.length by omega]];exact CJ
theorem Aht {r:Ay} {p:Ar} (hg:Mn r) (hp:Bt p=true):∀e∈Io r p,e.size≤1000000:=Bei hg hp
theorem Aux:∀(l:List Int) (lo:Int),l.Pairwise (· < ·)→(∀z∈l,lo≤z∧z≤7)→(l.length:Int)≤max 0 (8 - lo)
 | [],_,_,_=>by simp;omega
 | x::r,lo,hp,hb=>by
  rw [List.pairwise_cons] at hp;have:=Aux r (x+1) hp.2 fun z hz=>⟨by have:=hp.1 z hz;omega,(hb z JR).2⟩;have:=hb x FI;rw [List.length_cons];omega
theorem P6 {e:Bf} (hg:Ba e=true) {x:Gj} (hx:x∈e.Ah):x.Bj.length≤7:=by
 have h:=(Qa.1 ((Hm.1 hg).2.2.1 x hx)).2.2.1;have:=Aux x.Bj 1 h.1 h.2;omega
theorem Adm {i:Nat}:1≤Ns i∧Ns i≤8:=by unfold Ns;omega
theorem Hh {n:Dv} {i:Nat} (h:i < n.Ac.length):Qv n i=n.Ac[i]:=Qj h _
theorem Ju {n:Dv} {i:Nat} (h:i < n.Af.length):Qi n i=n.Af[i]:=Qj h _
theorem Av5 (n:Dv) (i:Nat) (p:Ar) (g:Nat) (a1:Option Addr) (c1:Nat) (F1:List Nat) (a2:Option Addr) (c2:Nat) (F2:List Nat) (a3:Option Addr) (c3:Nat) (F3:List Nat) (a4:Option Addr) (c4:Nat) (F4:List Nat) (a5:Option Addr) (c5:Nat) (F5:List Nat) (a6:Option Addr) (c6:Nat) (F6:List Nat) (a7:Option Addr) (c7:Nat) (F7:List Nat) (FT:List Nat) (hl:L9 n=true) (hi:i < n.Ao.Ad.length) (h8:Vg n.Ao.Ad) (hr:Eo n.Ao.Ad (i:Nat)=true→Bv (Qv n i)=true) (he:Eo n.Ao.Ad (i:Nat)=false→Ba (Qi n i)=true) (hp:Bt p=true) (hps:p.data.size≤maxLen) :
  Fn prog 270 [Il g 0 0,.int .i64 (i:Nat),.agg #[.int .i64 (p).Cp,.int .i64 (p).Ae,.int .i64 (p).Ap,.int .i64 (p).Fg,.string (p).data]] [Gs FT] [.row g 52 0 [] [.slice a1 n.Ao.Ad.length c1,.int .i64 n.Ab.Aa.Ap,.int .i64 n.Ab.Aa.size,.slice a2 n.Ab.Aa.An.length c2,.int .i64 n.Ab.Ai,.int .i64 n.Ab.quiet,.slice a3 n.Ab.holds.length c3,.slice a4 n.Af.length c4,.slice a5 n.Ac.length c5,.slice a6 n.down.length c6,.slice a7 n.up.length c7] [],.ow Bb 3 (.slice a1 n.Ao.Ad.length c1) n.Ao.Ad F1,.ow A8 9 (.slice a2 n.Ab.Aa.An.length c2) n.Ab.Aa.An F2,.ow Bm 203 (.slice a3 n.Ab.holds.length c3) n.Ab.holds F3,.ow B4 149 (.slice a4 n.Af.length c4) n.Af F4,.ow Bx 156 (.slice a5 n.Ac.length c5) n.Ac F5,.ow (Ko Ak 233) 158 (.slice a6 n.down.length c6) n.down F6,.ow (Ko Ak 233) 158 (.slice a7 n.up.length c7) n.up F7] (fun (_:NV × KA)=>True) (fun z=>.slice z.2.a (C4 n i p).2.length z.2.c) (fun z=>[.row g 52 0 [] [.slice z.1.a1 n.Ao.Ad.length z.1.c1,.int .i64 (C4 n i p).1.Ab.Aa.Ap,.int .i64 (C4 n i p).1.Ab.Aa.size,.slice z.1.a2 (C4 n i p).1.Ab.Aa.An.length z.1.c2,.int .i64 (C4 n i p).1.Ab.Ai,.int .i64 (C4 n i p).1.Ab.quiet,.slice z.1.a3 (C4 n i p).1.Ab.holds.length z.1.c3,.slice z.1.a4 n.Af.length z.1.c4,.slice z.1.a5 n.Ac.length z.1.c5,.slice z.1.a6 n.down.length z.1.c6,.slice z.1.a7 n.up.length z.1.c7] [],.ow Bb 3 (.slice z.1.a1 n.Ao.Ad.length z.1.c1) (C4 n i p).1.Ao.Ad z.1.F1,.ow A8 9 (.slice z.1.a2 (C4 n i p).1.Ab.Aa.An.length z.1.c2) (C4 n i p).1.Ab.Aa.An z.1.F2,.ow Bm 203 (.slice z.1.a3 (C4 n i p).1.Ab.holds.length z.1.c3) (C4 n i p).1.Ab.holds z.1.F3,.ow B4 149 (.slice z.1.a4 n.Af.length z.1.c4) (C4 n i p).1.Af z.1.F4,.ow Bx 156 (.slice z.1.a5 n.Ac.length z.1.c5) (C4 n i p).1.Ac z.1.F5,.ow (Ko Ak 233) 158 (.slice z.1.a6 n.down.length z.1.c6) (C4 n i p).1.down z.1.F6,.ow (Ko Ak 233) 158 (.slice z.1.a7 n.up.length z.1.c7) (C4 n i p).1.up z.1.F7,.ow A8 9 (.slice z.2.a (C4 n i p).2.length z.2.c) (C4 n i p).2 z.2.F]):=by
 obtain ⟨q1,q2,q3,q4⟩:=Bl.1 hl;have hn8:=h8.n1;obtain ⟨d0,d1_⟩:=Adm (i:=i);refine enter func270 rfl ntmps270 fun w0=>?_;refine go ?_;intros;refine cfr (fun w st=>by obtain ⟨Fq,hq⟩:=Aim (st.get (p:=.ow Bb 3 (.slice a1 n.Ao.Ad.length c1) n.Ao.Ad F1) FL);exact ⟨_,El hq,rfl,Yi n.Ao i _ Fq⟩) (fun _ _=>?_);refine Ot ?_;cases hlf:Eo n.Ao.Ad (i:Nat)
 rotate_left
 ·have hir:i < n.Ac.length:=FH
  have hgr:=Ek.1 (Hh hir▸hr hlf);have hev:=(Vs (d:=Ns i) hgr hp d0 d1_).2;rw [show C4 n i p=(⟨n.Ao,n.Ab,n.Af,n.Ac.set i (Di n.Ac[i] p (Ns i)),n.down,n.up⟩,Vc i (Io n.Ac[i] p)) by unfold C4;rw [if_pos hlf,Hh hir]];refine go ?_;refine Wu (xs:=n.Ac) (m:=5) i ?_ rfl hir;rintro _ g5 A5 cs B5 k1 k2 J1 Ji J2 rfl - hc5 hH5;refine Ic ?_;rintro b1 d1 G1 b2 d2 G2 ev l1 l2;obtain rfl:=Uq ev;refine As [5,6] [] ?_;refine Dq 0 1 2 3 ?_;refine Dq 4 5 6 7 ?_;refine dt 8 ?_;refine dN 9 ?_;refine oC ?_;refine Ca (Aky i FH) fun _ _=>?_;refine dk ?_;refine dN 10 ?_;refine oC ?_
  refine Ca (Bdt n.Ac[i] p (Ns i) g5 156 (0+i * 5) A5 B5 b1 d1 G1 b2 d2 G2 hgr hp d0 d1_) fun s _=>?_;refine dk ?_;refine dN 11 ?_;refine oC ?_;refine cfr (fun w st=>by obtain ⟨Fq, -,hq⟩:=(st.get (p:=.ow A8 9 (.slice s.ae (Io n.Ac[i] p).length s.ce) (Io n.Ac[i] p) s.Fe) FL).2.read;exact ⟨[.sl A8 (.slice s.ae (Io n.Ac[i] p).length s.ce) (Io n.Ac[i] p) Fq,Gs FT],Nn ⟨FK,hq⟩ (st.get (p:=Gs FT) FL),rfl,Bc2 i _ _ _ Fq FT FH FH (Aht hgr hp)⟩) (fun u _=>?_);refine Ot ?_;refine dk ?_;refine dt 12 ?_;refine dd ?_;refine go ?_
  refine Iz (Di n.Ac[i] p (Ns i)) ?_;refine Sw _ hH5 rfl fun J5=>?_;refine ret (⟨a1,c1,F1,a2,c2,F2,a3,c3,F3,a4,c4,F4,_,c5,J5,a6,c6,F6,a7,c7,F7⟩,⟨0,_,_,_⟩) trivial rfl
 ·have hir:i < n.Af.length:=FH
  have hge:Ba n.Af[i]=true:=Ju hir▸he hlf;have hel:=(Hm.1 hge).2.1;have hkl:=Vx n.Ao.Ad ((i:Nat):Int);have hkx:∀x∈Iw n.Ao.Ad ((i:Nat):Int),0≤x∧x.toNat < n.down.length:=fun x hx=>by have:=L0 h8 hx;omega
  refine go ?_;refine cfr (fun w st=>by obtain ⟨Fq,hq⟩:=Aim (st.get (p:=.ow Bb 3 (.slice a1 n.Ao.Ad.length c1) n.Ao.Ad F1) FL);exact ⟨_,El hq,rfl,Aav n.Ao ((i:Nat):Int) _ Fq KQ⟩) (fun u _=>?_);refine Ot ?_;refine A4 (E:=Bb) (xs:=Iw n.Ao.Ad ((i:Nat):Int)) fun Fk=>?_;refine Db A8 9 ?_;refine go ?_;refine A1 rfl (fun hk=>?_) (fun hk=>?_)
  ·rw [show C4 n i p=(⟨n.Ao,n.Ab,n.Af.set i (Qr n.Af[i] p.Ae),n.Ac,Dn n.down (Vp n.Af[i] p.Ae (Iw n.Ao.Ad ((i:Nat):Int))) [p],n.up⟩,[]) by unfold C4 Af4 Aaf;rw [if_neg KN,if_pos hk,if_pos hk,Ju hir]];refine go ?_;refine Wu (xs:=n.Af) (m:=2) i ?_ rfl hir;rintro _ g5 A5 cs B5 k1 k2 J1 Ji J2 rfl - hc5 hH5;refine Hp ?_;rintro b1 d1 G1 ev l1;obtain rfl:=Uq ev;refine As [6,7] [] ?_;refine Dq 0 1 2 3 ?_;refine Dq 4 5 6 7 ?_;refine dt 8 ?_;refine dN 9 ?_;refine oC ?_
   refine Ca (Avr n.Af[i] p.Ae (Iw n.Ao.Ad ((i:Nat):Int)) g5 149 (0+i * 2) A5 B5 b1 d1 G1 u.a u.c Fk FH (fun x hx=>by have:=P6 hge hx;omega) FH) fun s _=>?_;refine dk ?_;refine dt 10 ?_;refine dd ?_;refine E6 (Qr n.Af[i] p.Ae) ?_;refine Sw _ hH5 rfl fun J5=>?_;refine A4 (E:=Bb) (xs:=Vp n.Af[i] p.Ae (Iw n.Ao.Ad ((i:Nat):Int))) fun Fk2=>?_;refine Og ?_;intros;refine Le (E:=Ak) (xs:=[p]) (Dc p hps) ?_ FI;refine A4 (E:=Ak) (xs:=[p]) fun Fp=>?_;refine go ?_
   refine Ca (Aay n.down (Vp n.Af[i] p.Ae (Iw n.Ao.Ad ((i:Nat):Int))) [p] g _ _ _ _ _ _ _ _ _ _ a6 _ c6 F6 _ _ Fk2 _ _ Fp rfl (fun x hx=>hkx x (Ab2 x hx))) fun J6 _=>?_;refine go ?_;refine ret (⟨a1,c1,F1,a2,c2,F2,a3,c3,F3,_,c4,J5,a5,c5,F5,a6,c6,J6,a7,c7,F7⟩,⟨0,none,0,[]⟩) trivial rfl
  ·rw [show C4 n i p=(⟨n.Ao,n.Ab,n.Af,n.Ac,Dn n.down (Iw n.Ao.Ad ((i:Nat):Int)) [p],n.up⟩,[]) by unfold C4 Af4 Aaf;rw [if_neg KN,if_neg hk,if_neg hk]];refine Og ?_;intros;refine Le (E:=Ak) (xs:=[p]) (Dc p hps) ?_ FI;refine A4 (E:=Ak) (xs:=[p]) fun Fp=>?_;refine go ?_;refine Ca (Aay n.down (Iw n.Ao.Ad ((i:Nat):Int)) [p] g _ _ _ _ _ _ _ _ _ _ a6 _ c6 F6 _ _ Fk _ _ Fp rfl hkx) fun J6 _=>?_;refine go ?_;refine ret (⟨a1,c1,F1,a2,c2,F2,a3,c3,F3,a4,c4,F4,a5,c5,F5,a6,c6,J6,a7,c7,F7⟩,⟨0,none,0,[]⟩) trivial rfl
theorem Zn (y:Hx) (w:World):Cy Bm w [.int .i64 y.Ae,.int .i64 y.Ce] [y] []:=⟨_,[],[],[],FI,FI,⟨rfl,rfl⟩,rfl,rfl⟩
theorem Avt (xs:List Hx) (y:Hx) (i:Nat) (a:Option Addr) (c vb:Nat) (F:List Nat) (hi:i≤xs.length) (hl:xs.length≤1000000) :
  Fn prog 374 [.slice a xs.length c,.int .i64 i,.slice (some ⟨vb,0,none⟩) 1 1] [] [.ow Bm 203 (.slice a xs.length c) xs F,.row vb 203 0 [] [.int .i64 y.Ae,.int .i64 y.Ce] []] (fun (_:Option Addr × Nat × List Nat)=>True)
   (fun z=>.slice z.1 (xs.take i++y::xs.drop i).length z.2.1) (fun z=>[.ow Bm 203 (.slice z.1 (xs.take i++y::xs.drop i).length z.2.1) (xs.take i++y::xs.drop i) z.2.2]):=by
 have hone:∀w':World,∀cs:List Value,Cy Bm w' cs xs []→∀u∈cs,u.oneCell'=true:=fun w' cs h=>h.one' Jj;have hy:=Zn y;have h1y:∀u∈([.int .i64 y.Ae,.int .i64 y.Ce]:List Value),u.oneCell'=true:=IL
 refine enter func374 rfl ntmps374 fun w0=>?_;refine Bco (E:=Bm) fun hc1 hc2=>?_;refine go ?_;apply wO;refine Ani rfl rfl rfl rfl hi (fun _=>?_) hc1;refine go ?_;refine A1 rfl (fun h1=>?_) (fun h1=>?_)
 ·have hin:i=xs.length:=FH
  subst hin;have e:xs.take xs.length++y::xs.drop xs.length=xs++[y]:=FI
  refine go ?_;apply wO;refine Ps hy Jj fun a2 c2 F2=>?_;rw [e];exact DK
 ·have hlt:i < xs.length:=FH
  refine An5 (xs:=xs) Lc (by rintro rfl;simp at hlt) ?_;rintro g cs rest rfl - - - hcl hcr hfl;rw [show Bm.sz=2 from rfl] at hcl hcr;have h1c:=hone w0 cs (hfl w0);obtain ⟨A,B,hcs,hA,hB⟩:∃A B,cs=A++B∧A=cs.take (i * 2)∧B=cs.drop (i * 2):=⟨_,_,(List.take_append_drop _ _).symm,rfl,rfl⟩;have hAl:A.length=i * 2:=LO
  have hBl:B.length=(xs.length - i) * 2:=LN
  have hins:∀w,Cy Bm w (A++[.int .i64 y.Ae,.int .i64 y.Ce]++B) (xs.take i++y::xs.drop i) []:=fun w=>by rw [hA,hB];exact (hfl w).insL (hy w) i hi
  have h1A:∀u∈A,u.oneCell'=true:=fun u hu=>h1c u IY;have h1B:∀u∈B,u.oneCell'=true:=fun u hu=>h1c u IY;have hlen:(xs.take i++y::xs.drop i).length=xs.length+1:=FO
  clear hA hB hfl hone;subst hcs;have eA:A=((A++B++rest).drop 0).take (i * 2):=IQ
  have eB:B=((A++B++rest).drop (0+i * 2)).take ((xs.length - i) * 2):=HR
  rw [hlen];refine go ?_;apply wO;apply oc;rfl;exact Aua rfl;refine go ?_;refine A1 rfl (fun h2=>?_) (fun h2=>?_)
  ·refine go ?_;apply wO;apply oc;rfl;exact Pz (i:=i) rfl rfl rfl FH FH;refine go ?_;apply wO;refine As6 (k:=xs.length+1 - i) (olds:=A) rfl rfl rfl FH (Nk (m:=i * 2) (.head _) eA) FH FK FH FH FH FH fun g' cp' Z rest' h3 h4 h5 h6=>?_;rw [show i+(xs.length+1 - i)=xs.length+1 by omega] at h3 ⊢;obtain ⟨Z1,Z2,rfl,hZ1,hZ2⟩:∃Z1 Z2,Z=Z1++Z2∧Z1.length=2∧Z2.length=B.length:=⟨Z.take 2,Z.drop 2,(List.take_append_drop _ _).symm,FY,HV⟩;refine go ?_
   apply wO;apply oc;rfl;exact Lh (i:=i) rfl rfl rfl FH FH FH;refine go ?_;apply wO;refine Xw (cs:=[.int .i64 y.Ae,.int .i64 y.Ce]) (L':=A++[.int .i64 y.Ae,.int .i64 y.Ce]++(Z2++rest')) rfl rfl rfl (Nk (L:=[.int .i64 y.Ae,.int .i64 y.Ce]) (o:=0) (m:=2) FL rfl) .here (Af2 (M:=Z1) GM FH (by simpa using hZ1)) (by show 2=min 1 (xs.length+1 - i) * 2;omega) FP h1y ?_;refine go ?_;refine As [] [] ?_;refine Dq 0 1 2 3 ?_
   refine dt 4 ?_ (hy:=Lh (i:=i+1) rfl rfl FH FH FH FH);refine Ec 5 6 ?_;refine dt 7 ?_ (hy:=Lh (i:=i) rfl rfl FH FH FH FH);refine dN 8 ?_
   refine Xw (cs:=B) (L':=A++[.int .i64 y.Ae,.int .i64 y.Ce]++B++rest') rfl rfl rfl (Nk FL eB) .here (Af2 (P:=A++[.int .i64 y.Ae,.int .i64 y.Ce]) (M:=Z2) GM FP hZ2) HT FP h1B ?_;refine dk ?_;refine dd ?_
   refine Aeo (cs:=A++[.int .i64 y.Ae,.int .i64 y.Ce]++B) (rest:=rest') (xs:=xs.take i++y::xs.drop i) cp' rfl hins FH h4 (by rw [show Bm.sz=2 from rfl];simp only [List.length_append,List.length_cons,List.length_nil] at h6 ⊢;omega) ?_;rw [hlen];refine go ?_;refine ret (_,cp',[g']) trivial rfl
  ·have hcx:xs.length+1≤c:=FH
   obtain ⟨X,Y,hXY,hX,hY⟩:=Atr (B:=B) (R:=rest) 2 FH;refine go ?_;apply wO;apply oc;rfl;exact Pz (i:=xs.length+1) rfl rfl FH FH FH;refine go ?_;apply wO;apply oc;rfl;exact Lh (i:=i+1) rfl rfl FH FH FH FH;refine Og ?_;intros;apply wO
   refine Bbi rfl X0 (ovl (tS:=45) (tR:=4) (run_callFunc_extern func405 FJ FJ FJ (e:=Extern.SlicesOverlaps.overlaps #[45,45] #[4]) FJ) (.there .here) (.head _) HA) ?_;refine go ?_;refine As [] [] ?_;refine Dq 0 1 2 3 ?_;refine dt 4 ?_ (hy:=Lh (i:=i+1) rfl rfl FH FH FH FH);refine Ec 5 6 ?_;refine dt 7 ?_ (hy:=Lh (i:=i) rfl rfl FH FH FH FH);refine dN 8 ?_
   refine Xw (cs:=B) (L':=A++X++B++rest.drop 2) rfl rfl rfl (Nk FL eB) .here (Af2 (P:=A++X) (M:=Y) IE HD hY) HP HD h1B ?_;refine dk ?_;refine dd ?_;refine go ?_;apply wO;apply oc;rfl;exact Lh (i:=i) rfl rfl rfl FH FH FH;refine go ?_;apply wO
   refine Xw (cs:=[.int .i64 y.Ae,.int .i64 y.Ce]) (L':=A++[.int .i64 y.Ae,.int .i64 y.Ce]++(B++rest.drop 2)) rfl rfl rfl (Nk (L:=[.int .i64 y.Ae,.int .i64 y.Ce]) (o:=0) (m:=2) FL rfl) .here (Af2 (M:=X) GM FH (by simpa using hX)) (by show 2=min 1 (xs.length+1 - i) * 2;omega) FP h1y ?_;refine go ?_
   refine Aeo (L:=A++[.int .i64 y.Ae,.int .i64 y.Ce]++(B++rest.drop 2)) (cs:=A++[.int .i64 y.Ae,.int .i64 y.Ce]++B) (rest:=rest.drop 2) (xs:=xs.take i++y::xs.drop i) c GM hins FH FH (by rw [show Bm.sz=2 from rfl];simp only [List.length_append,List.length_cons,List.length_nil,List.length_drop];omega) ?_;rw [hlen];refine ret (_,c,[g]) trivial rfl
instance:IntC prog 294 .u64:=⟨underlying294⟩
theorem Ar4 (fid:FuncId) (caps:List Value) (A:List Pc) (hA:A.all (fun p=>!p.mu)=true) (xs:List Hx) (a:Option Addr) (c:Nat) (F:List Nat) (tv:Value) (f:Hx→Int) (hm:∀i j (_:i≤j) (hj:j < xs.length),f xs[j] < 0→f (xs[i]'FH) < 0) (hb:Sb prog fid=true) (hl:xs.length≤1000000)
  (hp:∀x∈xs,∀w,Od A w→Calls prog fid ([.agg #[.int .i64 x.Ae,.int .i64 x.Ce],tv]++caps).toArray w (RB (.int .i64 (f x)) w)) :
  Fn prog 403 [.slice a xs.length c,tv,.func (.func fid) #[] caps.toArray] (.sl Bm (.slice a xs.length c) xs F::A) [] (fun (_:Unit)=>True) (fun _=>.tuple #[.int .i64 ((xs.takeWhile fun x=>decide (f x < 0)).length:Nat),.bool (Bej f xs[(xs.takeWhile fun x=>decide (f x < 0)).length]?)]) (fun _=>[]):=by
 refine enter func403 rfl ntmps403 (fun w0=>?_) rfl GP .nil;refine go ?_;refine Eh [0,1,2,6,7,8] (fun s:Nat × Nat=>[(9,.int .i64 (s.1:Nat)),(10,.int .i64 (s.2:Nat))]) (fun s=>s.1≤s.2∧s.2≤xs.length∧(∀j (_:j < s.1) (h:j < xs.length),f xs[j] < 0)∧(∀j (_:s.2≤j) (h:j < xs.length),¬f xs[j] < 0)) (fun s=>s.2 - s.1) (0,xs.length) ⟨Nat.zero_le _,Nat.le_refl _,fun j h=>by omega,fun j h1 h2=>by omega⟩ fun s hs=>?_;obtain ⟨i,j⟩:=s;obtain ⟨h1,h2,h3,h4⟩:=hs;dsimp only at h1 h2 h3 h4 ⊢;refine go ?_;refine A1 rfl (fun h5=>?_) (fun h5=>?_)
 ·have hh:(i+j) / 2 < xs.length:=FH
  have e2:((i:Int)+(j:Int)) / 2=(((i+j) / 2:Nat):Int):=FH
  refine go ?_;apply wO;apply oc;rfl;exact Aub rfl FH FH;refine go ?_;apply wO;apply oc;rfl;exact Aof rfl;rw [e2];apply wO;apply oc;rfl;exact Ary rfl FH FH;generalize hq:(i+j) / 2=q at hh;refine go ?_;refine X8 (xs:=xs) q ?_;rintro hi b o e;rw [e];refine go ?_;apply wO;refine Agn rfl rfl hb X0 ?_;refine cb (fun w st=>hp xs[q] (List.getElem_mem hh) w (fun p hp=>st.on p IC)) ?_;refine go ?_;refine A1 rfl (fun h6=>?_) (fun h6=>?_)
  ·exact DD
  ·exact DF
 ·have hij:i=j:=FH
  subst hij;have hk:(xs.takeWhile fun x=>decide (f x < 0)).length=i:=Y5 h2 (fun j hj h=>decide_eq_true (h3 j hj h)) (fun h=>decide_eq_false (h4 i (Nat.le_refl _) h));rw [hk];refine go ?_;refine Dy rfl rfl (fun h6=>?_) (fun h6=>?_)
  ·have hh:i < xs.length:=FH
   rw [List.getElem?_eq_getElem hh];refine go ?_;refine X8 (xs:=xs) i ?_;exact DE
  ·rw [List.getElem?_eq_none FH];exact AA
theorem Ag2 {W:Aw} {p:Ar} (hg:D8 W=true):(D0 W p).1.data.size≤maxLen:=by
 unfold D0
 split
 ·rename_i h;unfold La at h;simp only [Bool.and_eq_true] at h;have hk:=Agj h.2;show (Adv W p.Ae).size≤maxLen;rw [Zh hk];have:=List.all_eq_true.1 (Ea.1 hg).2.2.2 _ (List.getElem_mem hk);unfold Rs at this;simp only [Bool.and_eq_true,decide_eq_true_eq] at this;unfold maxLen;omega
 ·decide
theorem Ayk {t n:Int} {hs:List Hx} (hser:∀h∈hs,B8 h.Ae=true) (hn:0≤n∧n≤65535):(hs.takeWhile fun x=>decide (gp t x.Ae - gp t n < 0)).length=Gt t hs n ∧
  Bej (fun x:Hx=>gp t x.Ae - gp t n) hs[(hs.takeWhile fun x=>decide (gp t x.Ae - gp t n < 0)).length]?=Pe t hs n:=by
 have e:(fun x:Hx=>decide (gp t x.Ae - gp t n < 0))=fun h=>decide (gp t h.Ae < gp t n):=by
  funext x;rw [decide_eq_decide];omega
 have e1:(hs.takeWhile fun x=>decide (gp t x.Ae - gp t n < 0)).length=Gt t hs n:=by unfold Gt;rw [e]
 refine ⟨e1,?_⟩;rw [e1];unfold Pe;cases hq:hs[Gt t hs n]? with
 | none=>rfl
 | some z =>
  show decide (gp t z.Ae - gp t n=0)=decide (z.Ae=n);rw [decide_eq_decide];have hz:=Bc.1 (hser z (List.mem_of_getElem? hq));exact ⟨fun h=>Bak (t:=t) hz hn FH,fun h=>by rw [h];omega⟩
theorem Bi7 (h:Hx) (n t:Int) (gb g o:Nat) (v1 v2 v3 v4 v5:Value) (t0:0≤t) (t1:t≤65535) (n0:0≤n) (n1:n≤65535) (m0:0≤h.Ae) (m1:h.Ae≤65535) :
  FV 404 [.agg #[.int .i64 h.Ae,.int .i64 h.Ce],.int .i64 n,Il gb 0 0] [.cel gb 0 [Il g o 0],.cel g o [.int .i64 t,v1,v2,v3,v4,v5]] (.int .i64 (gp t h.Ae - gp t n)):=by
 have b1:=Ly t h.Ae;have b2:=Ly t n;refine enter func404 rfl ntmps404 fun w0=>?_;refine go ?_;intros;refine As [0,1,2] [] ?_;refine Dq 0 1 2 3 ?_;refine Dq 4 5 6 8 ?_;refine Dq 9 10 11 12 ?_;refine dt 13 ?_;refine dN 7 ?_;refine oC ?_;refine ce (fun w s=>P7 _ _ _ FH FH FH FH) ?_;refine dk ?_;refine dN 14 ?_;refine oC ?_;refine ce (fun w s=>P7 _ _ _ FH FH FH FH) ?_;refine dk ?_;refine Ec 15 16 ?_;exact CP
theorem Asm (W:Aw) (hs:List Hx) (n:Int) (g t o:Nat) (A B:List Value) (a a2:Option Addr) (c c2:Nat) (cl q:Int) (F2:List Nat) (t0:0≤W.Ap) (t1:W.Ap≤65535) (n0:0≤n) (n1:n≤65535) (hser:∀h∈hs,B8 h.Ae=true) (hsr:srt W.Ap hs) (hl:hs.length≤1000000) :
  Fn prog 373 [Il g o 0,.int .i64 n] [] [.row g t o A [.int .i64 W.Ap,.int .i64 W.size,.slice a W.An.length c,.int .i64 cl,.int .i64 q,.slice a2 hs.length c2] B,.ow Bm 203 (.slice a2 hs.length c2) hs F2] (fun (_:Unit)=>True) (fun _=>.tuple #[.int .i64 (Gt W.Ap hs n:Nat),.bool (Pe W.Ap hs n)]) (fun _=>[.row g t o A [.int .i64 W.Ap,.int .i64 W.size,.slice a W.An.length c,.int .i64 cl,.int .i64 q,.slice a2 hs.length c2] B,.ow Bm 203 (.slice a2 hs.length c2) hs F2]):=by
 have hs1:=Ayk (t:=W.Ap) hser ⟨n0,n1⟩;refine enter func373 rfl ntmps373 fun w0=>?_;refine go ?_;intros;rename_i gb;refine cb (fun w st=>by
  have r1:=st.get (p:=.row gb 308 0 [] [Il g o 0] []) FI;have r2:=st.get (p:=.row g t o A [.int .i64 W.Ap,.int .i64 W.size,.slice a W.An.length c,.int .i64 cl,.int .i64 q,.slice a2 hs.length c2] B) FI;obtain ⟨Fw, -,hw⟩:=(st.get (p:=.ow Bm 203 (.slice a2 hs.length c2) hs F2) FI).2.read
  refine (Ar4 404 [Il gb 0 0] [.cel gb 0 [Il g o 0],.cel g o [.int .i64 W.Ap,.int .i64 W.size,.slice a W.An.length c,.int .i64 cl,.int .i64 q,.slice a2 hs.length c2]] rfl hs a2 c2 Fw (.int .i64 n) (fun h=>gp W.Ap h.Ae - gp W.Ap n) (fun i j hij hj h=>?_) FJ hl fun x hx w' hA=>?_).val w ?_
  ·rcases Nat.lt_or_eq_of_le hij with h2|rfl
   ·have:=List.pairwise_iff_getElem.1 hsr i j FH hj h2;omega
   ·exact h
  ·obtain ⟨m0,m1⟩:=Bc.1 (hser x hx);exact (Bi7 x n W.Ap gb g o _ _ _ _ _ t0 t1 n0 n1 m0 m1).val w' hA
  ·intro p hp;simp only [List.mem_cons,List.not_mem_nil,or_false] at hp;rcases hp with rfl|rfl|rfl
   ·exact ⟨FK,hw⟩
   ·exact ⟨FI,Is r1⟩
   ·exact ⟨FI,Is r2⟩) ?_
 rw [hs1.2];rw [hs1.1];exact AA
structure ReS where
 a:Option Addr
 c:Nat
 a2:Option Addr
 c2:Nat
 F:List Nat
 ae:Option Addr
 ce:Nat
 Fe:List Nat
theorem Ag0 (W:Aw) (hs:List Hx) (p:Ar) (g t o:Nat) (A B:List Value) (a a2:Option Addr) (c c2:Nat) (cl q:Int) (F F2:List Nat) (hg:Cz ⟨W,cl,q,hs⟩=true) (n0:0≤p.Ae) (n1:p.Ae≤65535) (hps:p.data.size≤maxLen) :
  Fn prog 331 [Il g o 0,.agg #[.int .i64 p.Cp,.int .i64 p.Ae,.int .i64 p.Ap,.int .i64 p.Fg,.string p.data]] [] [.row g t o A [.int .i64 W.Ap,.int .i64 W.size,.slice a W.An.length c,.int .i64 cl,.int .i64 q,.slice a2 hs.length c2] B,.ow Bm 203 (.slice a2 hs.length c2) hs F2,.ow A8 9 (.slice a W.An.length c) W.An F] (fun (_:ReS)=>True)
   (fun z=>.slice z.ae (Oc ⟨W,cl,q,hs⟩ p).length z.ce) (fun z=>[.row g t o A [.int .i64 W.Ap,.int .i64 W.size,.slice a W.An.length c,.int .i64 cl,.int .i64 q,.slice z.a2 (M3 ⟨W,cl,q,hs⟩ p.Ae).holds.length z.c2] B,.ow Bm 203 (.slice z.a2 (M3 ⟨W,cl,q,hs⟩ p.Ae).holds.length z.c2) (M3 ⟨W,cl,q,hs⟩ p.Ae).holds z.F,.ow A8 9 (.slice a W.An.length c) W.An F,.ow Ak 233 (.slice z.ae (Oc ⟨W,cl,q,hs⟩ p).length z.ce) (Oc ⟨W,cl,q,hs⟩ p) z.Fe]):=by
 obtain ⟨gw,hl,t0,t1,k0,k1,hm,hn,hu,hbb⟩:=Lx hg;have hsr:=(Ff.1 hg).2.2.2.2;dsimp only at gw hl t0 t1 k0 k1 hm hn hu hbb hsr;have hl2:hs.length≤1000000:=FH
 have hW:D8 W=true:=gw;refine enter func331 rfl ntmps331 fun w0=>?_;cases hb:Jb W p.Ae
 ·have e1:M3 ⟨W,cl,q,hs⟩ p.Ae=⟨W,cl,q,hs⟩:=by unfold M3;dsimp only;rw [hb];rfl
  have e2:Oc ⟨W,cl,q,hs⟩ p=[S0 W]:=by unfold Oc;dsimp only;rw [hb];rfl
  rw [e1,e2];refine go ?_;intros;refine As [0,1] [] ?_;refine Dq 0 1 2 3 ?_;refine Ec 4 5 ?_;refine dN 6 ?_;refine oC ?_;refine cb (fun w st=>by obtain ⟨Fw, -,hw⟩:=(st.get (p:=.ow A8 9 (.slice a W.An.length c) W.An F) FI).2.read;exact (Yh W p.Ae (.agg #[.int .i64 W.Ap,.int .i64 W.size,.slice a W.An.length c]) Fw t0 t1 n0 n1).val w (El ⟨_,rfl,_,rfl,hw⟩)) ?_;rw [hb];refine dk ?_;refine dt 7 ?_;refine dd ?_;refine go ?_;refine Ca (Aq4 W.Ap W.size a W.An.length c t0 t1 FH) fun _ _=>?_;refine go ?_;intros
  refine Le (xs:=[S0 W]) (Dc _ ID) ?_ FI;refine ret ⟨a,c,a2,c2,F2,_,_,_⟩ trivial rfl
 refine go ?_;intros;refine As [0,1] [] ?_;refine Dq 0 1 2 3 ?_;refine Ec 4 5 ?_;refine dN 6 ?_;refine oC ?_;refine cb (fun w st=>by obtain ⟨Fw, -,hw⟩:=(st.get (p:=.ow A8 9 (.slice a W.An.length c) W.An F) FI).2.read;exact (Yh W p.Ae (.agg #[.int .i64 W.Ap,.int .i64 W.size,.slice a W.An.length c]) Fw t0 t1 n0 n1).val w (El ⟨_,rfl,_,rfl,hw⟩)) ?_;rw [hb];refine dk ?_;refine dt 7 ?_;refine dd ?_;refine go ?_;refine As [0,1] [] ?_;refine Dq 0 1 2 3 ?_;refine Dq 4 5 6 7 ?_;refine Ec 8 9 ?_;refine dt 10 ?_;refine dN 11 ?_;refine oC ?_;refine cb (fun w _=>Iy _ _ _ _ _ w t0 t1 FH) ?_
 refine dk ?_;refine dt 12 ?_;refine dN 13 ?_;apply Lr;rfl;rfl;rfl;rfl;exact Ll;exact Kv;intro _;refine dk ?_;refine dt 14 ?_;refine dd ?_;refine Og ?_;intros;refine Le (xs:=[Abx W p.Ae]) (Dc _ ID) ?_ FI;refine go ?_;refine Ca (Asm W hs p.Ae g t o A B a a2 c c2 cl q F2 t0 t1 n0 n1 hn hsr hl2) fun _ _=>?_;cases ht:Pe W.Ap hs p.Ae
 ·have e1:M3 ⟨W,cl,q,hs⟩ p.Ae=⟨W,cl,q,Ox hs (Gt W.Ap hs p.Ae) ⟨p.Ae,cl+3⟩⟩:=by unfold M3;dsimp only;rw [hb,ht];rfl
  have e2:Oc ⟨W,cl,q,hs⟩ p=[Abx W p.Ae]++[(D0 W p).1]:=by unfold Oc;dsimp only;rw [hb,ht];rfl
  rw [e1,e2];refine go ?_;refine As [0,3] [18] ?_;refine Dq 0 1 2 3 ?_;refine Dq 4 5 6 7 ?_;refine Dq 8 9 10 11 ?_;refine Ec 12 13 ?_;refine dN 14 ?_;apply Lr;rfl;rfl;rfl;rfl;exact Ll;exact Kv;intro _;refine dk ?_;refine dN 15 ?_;refine oC ?_;refine Ca (Avt hs ⟨p.Ae,cl+3⟩ (Gt W.Ap hs p.Ae) a2 c2 _ F2 (Zg _ _ _) hl2) fun z _=>?_;refine dk ?_;refine Ec 16 17 ?_;refine dN 18 ?_;refine oS ?_;refine Tf ?_;refine dd ?_;refine go ?_;refine As [1,3] [] ?_;refine Dq 0 1 2 3 ?_;refine dt 4 ?_;refine dM 5 9 ?_ ?_
  ·refine oC ?_;refine cb (fun w st=>by obtain ⟨Fw, -,hw⟩:=(st.get (p:=.ow A8 9 (.slice a W.An.length c) W.An F) FI).2.read;exact (Agu W p (.agg #[.int .i64 W.Ap,.int .i64 W.size,.slice a W.An.length c]) Fw hps).val w (El ⟨_,rfl,_,rfl,hw⟩)) ?_;refine dk ?_;refine Ec 6 7 ?_;refine dt 8 ?_;refine dN 9 ?_;apply Cr;rfl;intro _;refine dk ?_;exact CD
  ·apply Cr;rfl;intro _;refine dk ?_;refine dN 5 ?_;refine oC ?_;refine cb (fun w st=>by obtain ⟨Fw, -,hw⟩:=(st.get (p:=.ow A8 9 (.slice a W.An.length c) W.An F) FI).2.read;exact (Agu W p (.agg #[.int .i64 W.Ap,.int .i64 W.size,.slice a W.An.length c]) Fw hps).val w (El ⟨_,rfl,_,rfl,hw⟩)) ?_;refine dk ?_;refine Ec 6 7 ?_;refine dt 8 ?_;exact CD
 ·have e1:M3 ⟨W,cl,q,hs⟩ p.Ae=⟨W,cl,q,hs⟩:=by unfold M3;dsimp only;rw [hb,ht];rfl
  have e2:Oc ⟨W,cl,q,hs⟩ p=[Abx W p.Ae]:=by unfold Oc;dsimp only;rw [hb,ht];rfl
  rw [e1,e2];refine go ?_;refine ret ⟨a,c,a2,c2,F2,_,_,_⟩ trivial rfl
theorem Bhy (x:Cj) (n:Int):(M3 x n).Aa=x.Aa:=by unfold M3;split <;> rfl
theorem Bhw (x:Cj) (n:Int):(M3 x n).Ai=x.Ai:=by unfold M3;split <;> rfl
theorem Bhx (x:Cj) (n:Int):(M3 x n).quiet=x.quiet:=by unfold M3;split <;> rfl
theorem Au7 {n:Dv} {i k:Nat} (hg:Vg n.Ao.Ad) (hi:i < n.Ao.Ad.length) (h0:i≠0) (h:Z4 n i=k):n.Ao.Ad[i]=((k:Nat):Int)∧k < i∧Eo n.Ao.Ad ((k:Nat):Int)=false:=by
 have h1:=hg.p i hi FH;have e:n.Ao.Ad.getD i 0=n.Ao.Ad[i]:=Qj hi 0;unfold Z4 at h;rw [e] at h;have e2:n.Ao.Ad[i]=((k:Nat):Int):=FH
 refine ⟨e2,FH,?_⟩;unfold Eo;rw [←e2,decide_eq_true (List.getElem_mem hi)];rfl
theorem Bc9 (n:Dv) (i:Nat) (p:Ar) (g:Nat) (a1:Option Addr) (c1:Nat) (F1:List Nat) (a2:Option Addr) (c2:Nat) (F2:List Nat) (a3:Option Addr) (c3:Nat) (F3:List Nat) (a4:Option Addr) (c4:Nat) (F4:List Nat) (a5:Option Addr) (c5:Nat) (F5:List Nat) (a6:Option Addr) (c6:Nat) (F6:List Nat) (a7:Option Addr) (c7:Nat) (F7:List Nat) (hl:L9 n=true) (h0:i≠0) (hi:i < n.Ao.Ad.length) (h8:Vg n.Ao.Ad) (hsrc:Cz n.Ab=true) (he:∀k,k≠0→k < n.Ao.Ad.length→Eo n.Ao.Ad (k:Nat)=false→Ba (Qi n k)=true) (hp:Bt p=true) (hps:p.data.size≤maxLen) :
  Fn prog 271 [Il g 0 0,.int .i64 (i:Nat),.agg #[.int .i64 (p).Cp,.int .i64 (p).Ae,.int .i64 (p).Ap,.int .i64 (p).Fg,.string (p).data]] [] [.row g 52 0 [] [.slice a1 n.Ao.Ad.length c1,.int .i64 n.Ab.Aa.Ap,.int .i64 n.Ab.Aa.size,.slice a2 n.Ab.Aa.An.length c2,.int .i64 n.Ab.Ai,.int .i64 n.Ab.quiet,.slice a3 n.Ab.holds.length c3,.slice a4 n.Af.length c4,.slice a5 n.Ac.length c5,.slice a6 n.down.length c6,.slice a7 n.up.length c7] [],.ow Bb 3 (.slice a1 n.Ao.Ad.length c1) n.Ao.Ad F1,.ow A8 9 (.slice a2 n.Ab.Aa.An.length c2) n.Ab.Aa.An F2,.ow Bm 203 (.slice a3 n.Ab.holds.length c3) n.Ab.holds F3,.ow B4 149 (.slice a4 n.Af.length c4) n.Af F4,.ow Bx 156 (.slice a5 n.Ac.length c5) n.Ac F5,.ow (Ko Ak 233) 158 (.slice a6 n.down.length c6) n.down F6,.ow (Ko Ak 233) 158 (.slice a7 n.up.length c7) n.up F7] (fun (_:NV)=>True) (fun _=>.tuple #[]) (fun z=>[.row g 52 0 [] [.slice z.a1 n.Ao.Ad.length z.c1,.int .i64 (Q5 n i p).Ab.Aa.Ap,.int .i64 (Q5 n i p).Ab.Aa.size,.slice z.a2 (Q5 n i p).Ab.Aa.An.length z.c2,.int .i64 (Q5 n i p).Ab.Ai,.int .i64 (Q5 n i p).Ab.quiet,.slice z.a3 (Q5 n i p).Ab.holds.length z.c3,.slice z.a4 n.Af.length z.c4,.slice z.a5 n.Ac.length z.c5,.slice z.a6 n.down.length z.c6,.slice z.a7 n.up.length z.c7] [],.ow Bb 3 (.slice z.a1 n.Ao.Ad.length z.c1) (Q5 n i p).Ao.Ad z.F1,.ow A8 9 (.slice z.a2 (Q5 n i p).Ab.Aa.An.length z.c2) (Q5 n i p).Ab.Aa.An z.F2,.ow Bm 203 (.slice z.a3 (Q5 n i p).Ab.holds.length z.c3) (Q5 n i p).Ab.holds z.F3,.ow B4 149 (.slice z.a4 n.Af.length z.c4) (Q5 n i p).Af z.F4,.ow Bx 156 (.slice z.a5 n.Ac.length z.c5) (Q5 n i p).Ac z.F5,.ow (Ko Ak 233) 158 (.slice z.a6 n.down.length z.c6) (Q5 n i p).down z.F6,.ow (Ko Ak 233) 158 (.slice z.a7 n.up.length z.c7) (Q5 n i p).up z.F7]):=by
 obtain ⟨q1,q2,q3,q4⟩:=Bl.1 hl;have hn8:=h8.n1;obtain ⟨n0,n1⟩:=Kw hp;have hone:∀x∈[((i:Nat):Int)],0≤x∧x.toNat < n.down.length:=fun x hx=>by
  rw [List.mem_singleton] at hx;subst hx;omega
 obtain ⟨k,hk⟩:∃k,Z4 n i=k:=⟨_,rfl⟩;obtain ⟨e1,e2,e3⟩:=Au7 h8 hi h0 hk;refine enter func271 rfl ntmps271 fun w0=>?_;refine Pv (xs:=n.Ao.Ad) (m:=1) D5 i ?_ FM rfl hi;rintro _ gp A0 cs B0 rfl rfl hr hH;obtain ⟨rfl, -⟩:=hr w0;rw [e1];refine go ?_;intros;refine O5 ((k:Nat):Int) hH (fun w=>⟨rfl,rfl⟩) ?_;rw [show n.Ao.Ad.set i ((k:Nat):Int)=n.Ao.Ad by rw [←e1,List.set_getElem_self]];refine A1 rfl (fun h5=>?_) (fun h5=>?_)
 ·obtain rfl:k=0:=FH
  rw [show Q5 n i p=⟨n.Ao,M3 n.Ab p.Ae,n.Af,n.Ac,Dn n.down [((i:Nat):Int)] (Oc n.Ab p),n.up⟩ by unfold Q5;rw [if_pos hk]];dsimp only;rw [Bhy,Bhw,Bhx];refine go ?_;refine Avj [.slice (some ⟨gp,0,none⟩) n.Ao.Ad.length c1] [.int .i64 n.Ab.Aa.Ap,.int .i64 n.Ab.Aa.size,.slice a2 n.Ab.Aa.An.length c2,.int .i64 n.Ab.Ai,.int .i64 n.Ab.quiet,.slice a3 n.Ab.holds.length c3] [.slice a4 n.Af.length c4,.slice a5 n.Ac.length c5,.slice a6 n.down.length c6,.slice a7 n.up.length c7] ?_;refine As [2] [] ?_;refine Dq 0 1 3 4 ?_;refine Ec 5 6 ?_;refine dM 2 7 ?_ ?_
  ·apply Lr;rfl;rfl;rfl;rfl;exact Ll;exact Kv;intro _;refine Le (E:=Bb) (xs:=[((i:Nat):Int)]) (Q3 _) ?_ FI;refine A4 (E:=Bb) (xs:=[((i:Nat):Int)]) fun Fo=>?_;refine dk ?_;refine dN 7 ?_;refine oC ?_;refine Ca (Ag0 n.Ab.Aa n.Ab.holds p g 52 (0+1) _ _ a2 a3 c2 c3 n.Ab.Ai n.Ab.quiet F2 F3 hsrc n0 n1 hps) fun z _=>?_
   refine Ajb [.slice (some ⟨gp,0,none⟩) n.Ao.Ad.length c1] [.int .i64 n.Ab.Aa.Ap,.int .i64 n.Ab.Aa.size,.slice a2 n.Ab.Aa.An.length c2,.int .i64 n.Ab.Ai,.int .i64 n.Ab.quiet,.slice z.a2 (M3 n.Ab p.Ae).holds.length z.c2] [.slice a4 n.Af.length c4,.slice a5 n.Ac.length c5,.slice a6 n.down.length c6,.slice a7 n.up.length c7] ?_;refine A4 (E:=Ak) (xs:=Oc n.Ab p) fun Fq=>?_;refine dk ?_;refine dN 8 ?_;refine oC ?_;refine Ca (Aay n.down [((i:Nat):Int)] (Oc n.Ab p) g _ _ _ _ _ _ _ _ _ _ a6 _ c6 F6 _ _ Fo _ _ Fq rfl hone) fun J6 _=>?_;refine dk ?_;refine dd ?_;refine go ?_
   exact FE
  ·refine oC ?_;refine Ca (Ag0 n.Ab.Aa n.Ab.holds p g 52 (0+1) _ _ a2 a3 c2 c3 n.Ab.Ai n.Ab.quiet F2 F3 hsrc n0 n1 hps) fun z _=>?_;refine Ajb [.slice (some ⟨gp,0,none⟩) n.Ao.Ad.length c1] [.int .i64 n.Ab.Aa.Ap,.int .i64 n.Ab.Aa.size,.slice a2 n.Ab.Aa.An.length c2,.int .i64 n.Ab.Ai,.int .i64 n.Ab.quiet,.slice z.a2 (M3 n.Ab p.Ae).holds.length z.c2] [.slice a4 n.Af.length c4,.slice a5 n.Ac.length c5,.slice a6 n.down.length c6,.slice a7 n.up.length c7] ?_;refine A4 (E:=Ak) (xs:=Oc n.Ab p) fun Fq=>?_;refine dk ?_;refine dN 2 ?_;apply Lr;rfl;rfl;rfl;rfl;exact Ll;exact Kv;intro _
   refine Le (E:=Bb) (xs:=[((i:Nat):Int)]) (Q3 _) ?_ FI;refine A4 (E:=Bb) (xs:=[((i:Nat):Int)]) fun Fo=>?_;refine dk ?_;refine dN 8 ?_;refine oC ?_;refine Ca (Aay n.down [((i:Nat):Int)] (Oc n.Ab p) g _ _ _ _ _ _ _ _ _ _ a6 _ c6 F6 _ _ Fo _ _ Fq rfl hone) fun J6 _=>?_;refine dk ?_;refine dd ?_;refine go ?_;exact FE
 have h6:k≠0:=FH
 have hkl:k < n.Af.length:=FH
 have hku:k < n.up.length:=FH
 have hge:Ba n.Af[k]=true:=Ju hkl▸he k h6 FH e3;have hel:=(Hm.1 hge).2.1;obtain ⟨hc0,hc1⟩:=Oz.1 (Hm.1 hge).1;rw [show Q5 n i p=⟨n.Ao,n.Ab,n.Af.set k (Pd n.Af[k] p.Ae ((i:Nat):Int)),n.Ac,Dn n.down [((i:Nat):Int)] [Aax p],if Adp n.Af[k] p.Ae then n.up.modify k fun q=>Hq q [p] else n.up⟩ by unfold Q5;rw [if_neg FH,hk,Ju hkl]];refine go ?_;refine Wu (xs:=n.Af) (m:=2) k ?_ rfl hkl;rintro _ g5 A5 cs B5 k1 k2 J1 Ji J2 rfl - hc5 hH5;refine Hp ?_;rintro b1 d1 G1 ev l1;obtain rfl:=Uq ev;refine As [5,6] [] ?_;refine Dq 0 1 2 3 ?_;refine Dq 4 5 6 7 ?_;refine dt 8 ?_;refine dN 9 ?_
 refine oC ?_;refine Ca (Ar1 n.Af[k] p.Ae ((i:Nat):Int) g5 149 (0+k * 2) A5 B5 b1 d1 G1 FH (fun x hx=>⟨by have:=P6 hge hx;omega,Apg hge hx⟩) FH FH) fun s _=>?_;refine dk ?_;refine dt 10 ?_;refine dd ?_;refine E6 (Pd n.Af[k] p.Ae ((i:Nat):Int)) ?_;refine Sw _ hH5 rfl fun J5=>?_;refine Og ?_;intros;refine Le (E:=Bb) (xs:=[((i:Nat):Int)]) (Q3 _) ?_ FI;refine A4 (E:=Bb) (xs:=[((i:Nat):Int)]) fun Fo=>?_;refine Le (E:=Ak) (xs:=[Aax p]) (Dc (Aax p) (Nat.zero_le _)) ?_ FI;refine A4 (E:=Ak) (xs:=[Aax p]) fun Fp=>?_;refine go ?_
 refine Ca (Aay n.down [((i:Nat):Int)] [Aax p] g _ _ _ _ _ _ _ _ _ _ a6 _ c6 F6 _ _ Fo _ _ Fp rfl hone) fun J6 _=>?_;cases hf:Adp n.Af[k] p.Ae
 ·rw [if_neg FK];refine go ?_;refine Xh ?_;refine ret (⟨some ⟨gp,0,none⟩,c1,[gp],a2,c2,F2,a3,c3,F3,_,c4,J5,a5,c5,F5,a6,c6,J6,a7,c7,F7⟩:NV) trivial rfl
 ·rw [if_pos rfl,show (n.up.modify k fun q=>Hq q [p])=n.up.set k (Wc n.up[k] p) by rw [Ik hku,Bbp]];refine go ?_;refine As [0,6] [] ?_;refine Dq 0 1 2 3 ?_;refine Ec 4 5 ?_;refine dN 6 ?_;refine oC ?_;refine Ca (Aec n.up k p a7 _ c7 F7 rfl hku hps) fun J7 _=>?_;refine dk ?_;refine dd ?_;refine go ?_;refine Xh ?_;refine ret (⟨some ⟨gp,0,none⟩,c1,[gp],a2,c2,F2,a3,c3,F3,_,c4,J5,a5,c5,F5,a6,c6,J6,a7,c7,J7⟩:NV) trivial rfl
def Ba8 (es:List Gj) (ck:Int):List Gj:=es.filter fun x=>!decide (x.Ce≤ck)
theorem Az8 (x:Gj) (ck:Int) (gb g o:Nat) (u q:Value) (G:List Nat):FV 324 [u,Il gb 0 0] [.isv Ds u x G,.cel gb 0 [Il g o 0],.cel g o [.int .i64 ck,q]] (.bool (decide (x.Ce≤ck))):=by
 refine enter func324 rfl ntmps324 fun w0=>?_;refine T0 ?_;rintro a1 c1 F1 rfl l1;refine go ?_;intros;refine As [0,3,4] [] ?_;refine Dq 0 1 2 3 ?_;refine Dq 4 5 6 7 ?_;exact CP
theorem Az9 (es:List Gj) (ck:Int) (gb tb g t o:Nat) (A B:List Value) (a:Option Addr) (c:Nat) (F:List Nat) :
  Fn prog 323 [.slice a es.length c,.func (.func 324) #[] #[Il gb 0 0]] [] [.ow Dz 253 (.slice a es.length c) es F,.row gb tb 0 [] [Il g o 0] [],.row g t o A [.int .i64 ck,.slice a es.length c] B] (fun (_:Option Addr × Nat × List Nat)=>True)
   (fun z=>.slice z.1 (Ba8 es ck).length z.2.1) (fun z=>[.ow Dz 253 (.slice z.1 (Ba8 es ck).length z.2.1) (Ba8 es ck) z.2.2,.row gb tb 0 [] [Il g o 0] [],.row g t o A [.int .i64 ck,.slice a es.length c] B]):=by
 refine Aso rfl fun w ⟨hnd,ho⟩ _ hk=>?_;refine (Add _ (Wq FJ) #[Il gb 0 0] _ es F (fun x=>decide (x.Ce≤ck)) w ho hnd fun k hk2 wr u G hK hu=>?_).mono ?_
 ·have hr:=hk wr hK;have r1:=hr (.row gb tb 0 [] [Il g o 0] []) FI;have r2:=hr (.row g t o A [.int .i64 ck,.slice a es.length c] B) FI;refine (Az8 es[k] ck gb g o u (.slice a es.length c) G).val wr ?_;intro p hp;simp only [List.mem_cons,List.not_mem_nil,or_false] at hp;rcases hp with rfl|rfl|rfl
  ·exact hu
  ·exact ⟨FI,Is r1⟩
  ·exact ⟨FI,Is r2⟩
 ·rintro e w' ⟨v',F',rfl,h1,h2,h3,h4⟩;exact CN
theorem Bdo (e:Bf) (g t o:Nat) (A B:List Value) (a:Option Addr) (c:Nat) (F:List Nat) (h0:-1000000≤e.Ai) (h1:e.Ai≤1000000) :
  Fn prog 265 [Il g o 0] [] [.row g t o A [.int .i64 e.Ai,.slice a e.Ah.length c] B,.ow Dz 253 (.slice a e.Ah.length c) e.Ah F] (fun (_:Option Addr × Nat × List Nat)=>True)
   (fun _=>.tuple #[]) (fun z=>[.row g t o A [.int .i64 (Fj e).Ai,.slice z.1 (Fj e).Ah.length z.2.1] B,.ow Dz 253 (.slice z.1 (Fj e).Ah.length z.2.1) (Fj e).Ah z.2.2]):=by
 refine enter func265 rfl ntmps265 fun w0=>?_;refine go ?_;intros;refine As [0,1] [9] ?_;refine Dq 0 1 2 3 ?_;refine Ec 4 5 ?_;refine dN 6 ?_;refine oC ?_;refine Ca (Az9 e.Ah (e.Ai+1) _ _ g t o A B a c F) fun z _=>?_;refine dk ?_;refine Ec 7 8 ?_;refine dN 9 ?_;refine oS ?_;refine Tf ?_;refine dd ?_;refine Xh ?_;exact BK
theorem Asr {e:Bf} (h:Ba e=true) (hc:e.Ai < 9999):Ba (Fj e)=true:=by
 obtain ⟨h1,h2,h3,h4⟩:=Hm.1 h;have h5:=Oz.1 h1;unfold Fj;refine Hm.2 ⟨Oz.2 ⟨by show 0≤e.Ai+1;omega,by show e.Ai+1≤9999;omega⟩,Nat.le_trans (List.length_filter_le _ _) h2,fun x hx=>?_,h4.filter _⟩;obtain ⟨hx1,hx2⟩:=List.mem_filter.1 hx;obtain ⟨a,b,c,d,f⟩:=Qa.1 (h3 x hx1);simp only [Bool.not_eq_true',decide_eq_false_iff_not] at hx2;exact Qa.2 ⟨a,b,c,by show e.Ai+1+1≤x.Ce;omega,by show x.Ce≤e.Ai+1+6;omega⟩
theorem Axu {k n t l:Int} {s:ByteArray} (hk:1≤k∧k≤5) (hn:B8 n=true) (ht:B8 t=true) (hl:B8 l=true) (hg:gp t l≤32767) (hs:Rs s=true) (he:s=⟨#[]⟩∨k≤2):Bt ⟨k,n,t,l,s⟩=true:=by
 unfold Bt Ga;simp only [Bool.and_eq_true,Bool.or_eq_true,decide_eq_true_eq];refine ⟨⟨⟨⟨⟨⟨hk,hn⟩,ht⟩,hl⟩,hs⟩,hg⟩,?_⟩;rcases he with h|h
 ·exact .inl (.inl h)
 ·by_cases h1:k=1
  ·exact .inl (.inr h1)
  ·exact .inr FH
theorem Agm:Rs ⟨#[]⟩=true:=by decide
theorem Anb {x:Aw} (h:D8 x=true):B8 x.Ap=true∧B8 (L8 x)=true∧gp x.Ap (L8 x)≤32767:=by
 obtain ⟨⟨t0,t1⟩,⟨s0,s1⟩,hl, -⟩:=Ea.1 h;refine ⟨Bc.2 ⟨t0,t1⟩,Wo _ _,?_⟩;unfold L8 gp Cf;omega
theorem Al8 {x:Aw} (h:D8 x=true):Bt (S0 x)=true:=by
 obtain ⟨a,b,c⟩:=Anb h;exact Axu FK a a b c Agm (.inl rfl)
theorem At1 {x:Aw} {q:Int} (h:D8 x=true):∀p∈Oa x q,Bt p=true:=fun p hp=>by
 unfold Oa at hp
 split at hp
 ·simp at hp
 ·rw [List.mem_singleton] at hp;subst hp;exact Al8 h
theorem Azo {x:Aw} {n:Int} (h:D8 x=true) (hn:B8 n=true) (hh:Jb x n=true):Bt (Aou x n)=true:=by
 obtain ⟨a,b,c⟩:=Anb h;have hi:=(Ea.1 h).2.2.2;have hl:=Agj hh;exact Axu FK hn a b c (by rw [Zh hl];exact List.all_eq_true.1 hi _ (List.getElem_mem hl)) (.inr FK)
theorem Akv {x:Aw} {n:Int} (h:D8 x=true) (hn:B8 n=true):Bt (Abx x n)=true:=by
 obtain ⟨a,b,c⟩:=Anb h;exact Axu FK hn a b c Agm (.inl rfl)
theorem Ayb {x:Cj} {p:Ar} (h:D8 x.Aa=true) (hp:Bt p=true) (hk:p.Cp=3):∀r∈Oc x p,Bt r=true:=fun r hr=>by
 have hn:=Bc.2 (Kw hp);unfold Oc at hr
 split at hr
 ·rename_i hh
  split at hr
  ·rw [List.mem_singleton] at hr;subst hr;exact Akv h hn
  ·simp only [List.mem_cons,List.not_mem_nil,or_false] at hr;rcases hr with rfl|rfl
   ·exact Akv h hn
   ·rw [show D0 x.Aa p=(Aou x.Aa p.Ae,true) by unfold D0 La;rw [h,hp,hh,decide_eq_true hk];rfl];exact Azo h hn hh
 ·rw [List.mem_singleton] at hr;subst hr;exact Al8 h
theorem Ax1 {x:Aw} {s:ByteArray} (h:D8 x=true) (hs:Rs s=true):Bt (Du x s)=true:=by
 obtain ⟨⟨t0,t1⟩,⟨s0,s1⟩,hl, -⟩:=Ea.1 h;have hr:=T3 t0 t1;have hrl:(Dk x).An.length≤6:=by
  unfold Dk
  split
  ·show (x.An.drop 1).length≤6;rw [List.length_drop];omega
  ·omega
 refine Axu FK (Wo _ _) (Bc.2 hr) (Wo _ _) ?_ hs (.inr FK);unfold gp Cf;omega
theorem Azy {p:Ar} (h:Bt p=true):Bt (Aax p)=true:=by
 unfold Bt at h;simp only [Bool.and_eq_true,decide_eq_true_eq] at h;exact Axu FK h.1.1.1.1.1.2 h.1.1.1.1.2 h.1.1.1.2 h.1.2 Agm (.inl rfl)
theorem Aft {r:Ay} (h:Mn r):∀p∈E8 r,Bt p=true∧p.Cp=3:=fun p hp=>by
 unfold E8 at hp;obtain ⟨k,hk,rfl⟩:=List.mem_map.1 hp;obtain ⟨q,hq,hs⟩:=List.mem_filterMap.1 hk;obtain ⟨-, -,q2, -⟩:=De.1 h.q;have hn:=(Er.1 (q2 q hq)).n;have hw:=Tg h.w;have e:k=q.Ae:=by
  unfold Q4 at hs
  split at hs
  ·cases hs
  ·split at hs
   ·cases hs
   ·split at hs
    ·exact (Option.some.inj hs).symm
    ·cases hs
 subst e;have hx:=Bc.2 ⟨hw.n0,hw.n1⟩;exact ⟨Axu FK hn hx hx (by unfold gp;omega) Agm (.inl rfl),rfl⟩
theorem GN.ck {ck ck':Nat→Int} {n:Dv} (h:GN ck n) (he:∀i,i≠0→i < n.Ao.Ad.length→ck i=ck' i):GN ck' n:=by
 obtain ⟨q1,q2,q3,q4⟩:=Bl.1 h.l;refine .mk' h.t h.s h.l fun i h1 h2 h3 h4=>?_;have r:=Pw.1 (h.a i h1 h2 h3 h4);exact ⟨r.hd,r.hu,r.hk,r.hz,fun e0 l=>by rw [←he i e0 FH];exact r.hf e0 l,fun e0 l=>by rw [←he i e0 FH];exact r.hn e0 l⟩
theorem Agk {l:List Int} (hg:Vg l) (i:Nat):∀x∈Iw l ((i:Nat):Int),x.toNat≠0:=fun x hx=>by have:=L0 hg hx;omega
theorem Atz {ck:Nat→Int} {n:Dv} {i:Nat} (h:GN ck n) (h0:i≠0) (hi:i < n.Ao.Ad.length) (hc:ck i < 9999):GN (Agd ck i (ck i+1)) (N9 n i).1:=by
 obtain ⟨h1,h2,h3,h4,r⟩:=h.rn hi;obtain ⟨d0,d1⟩:1≤Ns i∧Ns i≤8:=by unfold Ns;omega
 unfold N9;cases hl:Eo n.Ao.Ad ((i:Nat):Int)
 ·rw [if_neg FK];obtain ⟨he,e2,e3⟩:=r.hn h0 hl;have e:Qi n i=n.Af[i]:=KM
  have:=h.el h0 hl (Asr (e:=n.Af[i]) he FH);rw [show (Fj n.Af[i]).Ai=ck i+1 by rw [←e2];rfl] at this;rw [e];exact this
 ·rw [if_pos rfl];obtain ⟨he,e2,e3⟩:=r.hf h0 hl;have e:Qv n i=n.Ac[i]:=KL
  have hg:=Ek.1 e2;have ht:=Ays hg FH d0 d1;have:=h.rc h0 hl (Ek.2 ht);rw [show (Cv n.Ac[i] (Ns i)).Ai=ck i+1 by unfold Cv;split <;> (show n.Ac[i].Ai+1=_;rw [e3])] at this;rw [e];exact this.un i _ (fun e=>absurd e h0) fun q a b=>⟨Aeg a fun p hp=>(Aft hg p hp).1,Ava b fun p hp=>(Aft hg p hp).2⟩
theorem Ajd (n:Dv) (i:Nat):(N9 n i).1.Ao=n.Ao∧(N9 n i).1.Ab=n.Ab:=by unfold N9;split <;> exact ⟨rfl,rfl⟩
def ckT (c:Int) (k:Nat):Nat→Int:=fun j=>if j≤k then c+1 else c
theorem Qc {n:Dv} (hg:At n=true) (hc:n.Ab.Ai < 9999):∀k,k+1≤n.Ao.Ad.length→GN (ckT n.Ab.Ai k) (Be n k).1∧(Be n k).1.Ao=n.Ao∧(Be n k).1.Ab=Nr n.Ab
 | 0,_=>by
  have h:=Az.1 hg;have ht:=H8 h.t;refine ⟨?_,rfl,rfl⟩;have h2:=((h.src (Awp h.s hc)).sp (At1 (q:=n.Ab.quiet) (Ff.1 h.s).1) (Agk ht 0)).ck (ck':=ckT n.Ab.Ai 0) fun i h0 _=>by unfold ckT;rw [if_neg FH]
  exact h2
 | k+1,hk=>by
  obtain ⟨h1,h2,h3⟩:=Qc hg hc k FH;obtain ⟨t1,t2⟩:=Ajd (Be n k).1 (k+1);have e:ckT n.Ab.Ai k (k+1)=n.Ab.Ai:=by unfold ckT;rw [if_neg FH]
  have:=Atz h1 (i:=k+1) FH (by rw [h2];omega) (by rw [e];exact hc);refine ⟨this.ck fun i h0 hi=>?_,t1.trans h2,t2.trans h3⟩;rw [e];unfold Agd ckT;by_cases c1:i=k+1
  ·rw [if_pos c1,if_pos FH]
  ·rw [if_neg c1];by_cases c2:i≤k
   ·rw [if_pos c2,if_pos FH]
   ·rw [if_neg c2,if_neg FH]
theorem At0 {n:Dv} (hg:At n=true) (hc:n.Ab.Ai < 9999):At (Gp n).1=true:=by
 have h:=Az.1 hg;have ht:=H8 h.t;have:=ht.n0;obtain ⟨h1,h2,h3⟩:=Qc hg hc (n.Ao.Ad.length - 1) FH;refine Az.2 ?_;show GN (fun _=>(Be n (n.Ao.Ad.length - 1)).1.Ab.Ai) _;rw [h3];exact h1.ck fun i h0 hi=>by rw [h2] at hi;unfold ckT;rw [if_pos FH];rfl
theorem Bb3 {g t o k:Nat} {A B X cs Y:List Value} (hk:X.length=k) {w:World}:(Pc.row g t (o+k) (A++X) cs (Y++B)).P w↔(Pc.row g t o A (X++cs++Y) B).P w:=by
 show ((A++X).length=o+k∧Ii w g t (A++X++cs++(Y++B)))↔(A.length=o∧Ii w g t (A++(X++cs++Y)++B));rw [List.length_append,hk];have e:A++X++cs++(Y++B)=A++(X++cs++Y)++B:=GM
 rw [e];exact ⟨fun h=>⟨FH,h.2⟩,fun h=>⟨FH,h.2⟩⟩
theorem Bam {p q:Pc} {R:List Pc} {w:World} (h:p.P w→q.P w) (hH:Od (p::R) w):Od (q::R) w:=fun x hx=>by
 rcases List.mem_cons.1 hx with rfl|hx
 ·exact h (hH p FI)
 ·exact hH x JC
theorem Bcc {p q:Pc} {R:List Pc} (hm:p.mu=q.mu) (hF:p.F=q.F) (hS:S9 (p::R)):S9 (q::R):=⟨fun x hx hmu b hb=>hS.1 x hx (by rw [hm];exact hmu) b (by rw [hF];exact hb),hS.2⟩
theorem Bag {P:Program} {f:FuncId} {args:List Value} {A M':List Pc} {g t o k:Nat} {A' B X cs Y L:List Value} {σ:Type} {C:σ→Prop} {v:σ→Value} {cs' L':σ→List Value} {N':σ→List Pc}
  (h:Fn P f args A (.row g t (o+k) (A'++X) cs (Y++B)::M') C v (fun s=>.row g t (o+k) (A'++X) (cs' s) (Y++B)::N' s)) (hk:X.length=k) (hL:L=X++cs++Y) (hL':∀s,L' s=X++cs' s++Y) :
  Fn P f args A (.row g t o A' L B::M') C v (fun s=>.row g t o A' (L' s) B::N' s):=fun w hH hS=>by
 subst hL;refine (h w (Bam (Bb3 hk).2 hH) (Bcc rfl rfl hS)).mono ?_;rintro e w' ⟨s,hC,he,h1,h2,h3,h4⟩;refine ⟨s,hC,he,?_,Bcc rfl rfl h2,?_,?_⟩
 ·show Od (.row g t o A' (L' s) B::N' s) w';rw [hL' s];exact Bam (Bb3 hk).1 h1
 ·simpa [fp,Pc.mu,Pc.F] using h3
 ·intro p hp b hb;have hp':∃q∈(Pc.row g t (o+k) (A'++X) (cs' s) (Y++B)::N' s),q.mu=p.mu∧b∈q.F:=by
   rcases List.mem_cons.1 hp with rfl|hp
   ·exact ⟨_,.head _,rfl,hb⟩
   ·exact ⟨p,.tail _ hp,rfl,hb⟩
  obtain ⟨q,hq,hm,hbq⟩:=hp';rcases h4 q hq b hbq with h|⟨x,hx,hbx⟩|⟨hm2,x,hx,hbx⟩
  ·exact .inl h
  ·refine .inr (.inl ?_);rcases List.mem_cons.1 hx with rfl|hx
   ·exact ⟨_,.head _,hbx⟩
   ·exact ⟨x,.tail _ hx,hbx⟩
  ·exact .inr (.inr ⟨by rw [←hm];exact hm2,x,hx,hbx⟩)
structure TkN where
 k:Nat
 z:NV
 a:Option Addr
 c:Nat
 F:List Nat
theorem Bdr (n:Dv) (g:Nat) (a1:Option Addr) (c1:Nat) (F1:List Nat) (a2:Option Addr) (c2:Nat) (F2:List Nat) (a3:Option Addr) (c3:Nat) (F3:List Nat) (a4:Option Addr) (c4:Nat) (F4:List Nat) (a5:Option Addr) (c5:Nat) (F5:List Nat) (a6:Option Addr) (c6:Nat) (F6:List Nat) (a7:Option Addr) (c7:Nat) (F7:List Nat) (FT:List Nat) (hg:At n=true) (hc:n.Ab.Ai < 9999) :
  Fn prog 196 [Il g 0 0] [Gs FT] [.row g 52 0 [] [.slice a1 n.Ao.Ad.length c1,.int .i64 n.Ab.Aa.Ap,.int .i64 n.Ab.Aa.size,.slice a2 n.Ab.Aa.An.length c2,.int .i64 n.Ab.Ai,.int .i64 n.Ab.quiet,.slice a3 n.Ab.holds.length c3,.slice a4 n.Af.length c4,.slice a5 n.Ac.length c5,.slice a6 n.down.length c6,.slice a7 n.up.length c7] [],.ow Bb 3 (.slice a1 n.Ao.Ad.length c1) n.Ao.Ad F1,.ow A8 9 (.slice a2 n.Ab.Aa.An.length c2) n.Ab.Aa.An F2,.ow Bm 203 (.slice a3 n.Ab.holds.length c3) n.Ab.holds F3,.ow B4 149 (.slice a4 n.Af.length c4) n.Af F4,.ow Bx 156 (.slice a5 n.Ac.length c5) n.Ac F5,.ow (Ko Ak 233) 158 (.slice a6 n.down.length c6) n.down F6,.ow (Ko Ak 233) 158 (.slice a7 n.up.length c7) n.up F7] (fun (_:NV × KA)=>True) (fun z=>.slice z.2.a (Gp n).2.length z.2.c) (fun z=>[.row g 52 0 [] [.slice z.1.a1 n.Ao.Ad.length z.1.c1,.int .i64 (Gp n).1.Ab.Aa.Ap,.int .i64 (Gp n).1.Ab.Aa.size,.slice z.1.a2 (Gp n).1.Ab.Aa.An.length z.1.c2,.int .i64 (Gp n).1.Ab.Ai,.int .i64 (Gp n).1.Ab.quiet,.slice z.1.a3 (Gp n).1.Ab.holds.length z.1.c3,.slice z.1.a4 n.Af.length z.1.c4,.slice z.1.a5 n.Ac.length z.1.c5,.slice z.1.a6 n.down.length z.1.c6,.slice z.1.a7 n.up.length z.1.c7] [],.ow Bb 3 (.slice z.1.a1 n.Ao.Ad.length z.1.c1) (Gp n).1.Ao.Ad z.1.F1,.ow A8 9 (.slice z.1.a2 (Gp n).1.Ab.Aa.An.length z.1.c2) (Gp n).1.Ab.Aa.An z.1.F2,.ow Bm 203 (.slice z.1.a3 (Gp n).1.Ab.holds.length z.1.c3) (Gp n).1.Ab.holds z.1.F3,.ow B4 149 (.slice z.1.a4 n.Af.length z.1.c4) (Gp n).1.Af z.1.F4,.ow Bx 156 (.slice z.1.a5 n.Ac.length z.1.c5) (Gp n).1.Ac z.1.F5,.ow (Ko Ak 233) 158 (.slice z.1.a6 n.down.length z.1.c6) (Gp n).1.down z.1.F6,.ow (Ko Ak 233) 158 (.slice z.1.a7 n.up.length z.1.c7) (Gp n).1.up z.1.F7,.ow A8 9 (.slice z.2.a (Gp n).2.length z.2.c) (Gp n).2 z.2.F]):=by
 have hG:=Az.1 hg;have h8:=H8 hG.t;have hn8:=h8.n1;have hn2:=h8.n0;obtain ⟨q1,q2,q3,q4⟩:=Bl.1 hG.l;have hS:=Lx hG.s;obtain ⟨hq0,hq3⟩:=Aqt hG.s;have hkl:=Vx n.Ao.Ad 0;have hkx:∀x∈Iw n.Ao.Ad 0,0≤x∧x.toNat < n.down.length:=fun x hx=>by have:=L0 (i:=0) h8 hx;omega
 refine enter func196 rfl ntmps196 fun w0=>?_;refine go ?_;refine dsI [.cel g 0 [.slice a1 n.Ao.Ad.length c1]] [] ?_;refine dtI 0 (fun w h=>El (If (h (.row g _ 0 [] _ []) FL))) ?_;refine dtI 1 (fun w h=>El (If (h (.row g _ 0 [] _ []) FL))) ?_;refine dtI 2 (fun w h=>El (If (h (.row g _ 0 [] _ []) FL))) ?_;refine dtI 3 (fun w h=>El (If (h (.row g _ 0 [] _ []) FL))) ?_;refine dtI 4 (fun w h=>El (If (h (.row g _ 0 [] _ []) FL))) ?_;refine dtI 6 (fun w h=>El (If (h (.row g _ 0 [] _ []) FL))) ?_
 refine dtI 7 (fun w h=>El (If (h (.row g _ 0 [] _ []) FL))) ?_;refine dtI 8 (fun w h=>El (If (h (.row g _ 0 [] _ []) FL))) ?_;refine dN 5 ?_;refine oC ?_;refine cfr (fun w st=>by obtain ⟨Fq,hq⟩:=Aim (st.get (p:=.ow Bb 3 (.slice a1 n.Ao.Ad.length c1) n.Ao.Ad F1) FL);exact ⟨_,El hq,rfl,Aav n.Ao 0 _ Fq KQ⟩) (fun u _=>?_);refine Ot ?_;refine A4 (E:=Bb) (xs:=Iw n.Ao.Ad 0) fun Fk=>?_;refine dkI (fun w h=>El (If (h (.row g _ 0 [] _ []) FL))) ?_;refine dN 9 ?_;refine oC ?_
 refine Ca (Bag (X:=[.slice a1 n.Ao.Ad.length c1]) (cs:=[.int .i64 n.Ab.Aa.Ap,.int .i64 n.Ab.Aa.size,.slice a2 n.Ab.Aa.An.length c2,.int .i64 n.Ab.Ai,.int .i64 n.Ab.quiet,.slice a3 n.Ab.holds.length c3]) (Y:=[.slice a4 n.Af.length c4,.slice a5 n.Ac.length c5,.slice a6 n.down.length c6,.slice a7 n.up.length c7]) (L:=[.slice a1 n.Ao.Ad.length c1,.int .i64 n.Ab.Aa.Ap,.int .i64 n.Ab.Aa.size,.slice a2 n.Ab.Aa.An.length c2,.int .i64 n.Ab.Ai,.int .i64 n.Ab.quiet,.slice a3 n.Ab.holds.length c3,.slice a4 n.Af.length c4,.slice a5 n.Ac.length c5,.slice a6 n.down.length c6,.slice a7 n.up.length c7]) (L':=fun z:TiS=>[.slice a1 n.Ao.Ad.length c1,.int .i64 n.Ab.Aa.Ap,.int .i64 n.Ab.Aa.size,.slice a2 n.Ab.Aa.An.length c2,.int .i64 (n.Ab.Ai+1),.int .i64 (Xx n.Ab.quiet),.slice z.a2 (Vw (n.Ab.Ai+1) n.Ab.holds).length z.c2,.slice a4 n.Af.length c4,.slice a5 n.Ac.length c5,.slice a6 n.down.length c6,.slice a7 n.up.length c7]) (cs':=fun z:TiS=>[.int .i64 n.Ab.Aa.Ap,.int .i64 n.Ab.Aa.size,.slice a2 n.Ab.Aa.An.length c2,.int .i64 (n.Ab.Ai+1),.int .i64 (Xx n.Ab.quiet),.slice z.a2 (Vw (n.Ab.Ai+1) n.Ab.holds).length z.c2]) (Bdx n.Ab.Aa n.Ab.holds g 52 (0+1) _ _ a2 a3 c2 c3 n.Ab.Ai n.Ab.quiet F3 hS.t0 hS.t1 hS.l hS.k0 hS.k1 hq0 hq3) rfl rfl (fun _=>rfl)) fun z _=>?_
 refine A4 (E:=Ak) (xs:=Oa n.Ab.Aa n.Ab.quiet) fun Fp=>?_;refine dkI (fun w h=>El (If (h (.row g _ 0 [] _ []) FL))) ?_;refine dN 10 ?_;refine oC ?_;refine Ca (Aay n.down (Iw n.Ao.Ad 0) (Oa n.Ab.Aa n.Ab.quiet) g _ _ _ _ _ _ _ _ _ _ a6 _ c6 F6 _ _ Fk _ _ Fp rfl hkx) fun J6 _=>?_;refine dkI (fun w h=>El (If (h (.row g _ 0 [] _ []) FL))) ?_;refine dd ?_;refine Db A8 9 ?_;rw [show Dn n.down (Iw n.Ao.Ad 0) (Oa n.Ab.Aa n.Ab.quiet)=(Be n 0).1.down from rfl];refine go ?_
 refine Cd [0,2] (fun s:TkN=>[(3,.slice s.a (Be n s.k).2.length s.c),(4,.int .i64 ((s.k+1:Nat):Int))]) (fun s=>[.row g 52 0 [] [.slice s.z.a1 n.Ao.Ad.length s.z.c1,.int .i64 (Be n s.k).1.Ab.Aa.Ap,.int .i64 (Be n s.k).1.Ab.Aa.size,.slice s.z.a2 (Be n s.k).1.Ab.Aa.An.length s.z.c2,.int .i64 (Be n s.k).1.Ab.Ai,.int .i64 (Be n s.k).1.Ab.quiet,.slice s.z.a3 (Be n s.k).1.Ab.holds.length s.z.c3,.slice s.z.a4 n.Af.length s.z.c4,.slice s.z.a5 n.Ac.length s.z.c5,.slice s.z.a6 n.down.length s.z.c6,.slice s.z.a7 n.up.length s.z.c7] [],.ow Bb 3 (.slice s.z.a1 n.Ao.Ad.length s.z.c1) (Be n s.k).1.Ao.Ad s.z.F1,.ow A8 9 (.slice s.z.a2 (Be n s.k).1.Ab.Aa.An.length s.z.c2) (Be n s.k).1.Ab.Aa.An s.z.F2,.ow Bm 203 (.slice s.z.a3 (Be n s.k).1.Ab.holds.length s.z.c3) (Be n s.k).1.Ab.holds s.z.F3,.ow B4 149 (.slice s.z.a4 n.Af.length s.z.c4) (Be n s.k).1.Af s.z.F4,.ow Bx 156 (.slice s.z.a5 n.Ac.length s.z.c5) (Be n s.k).1.Ac s.z.F5,.ow (Ko Ak 233) 158 (.slice s.z.a6 n.down.length s.z.c6) (Be n s.k).1.down s.z.F6,.ow (Ko Ak 233) 158 (.slice s.z.a7 n.up.length s.z.c7) (Be n s.k).1.up s.z.F7,.ow A8 9 (.slice s.a (Be n s.k).2.length s.c) (Be n s.k).2 s.F]) (fun s=>s.k+1≤n.Ao.Ad.length∧(Be n s.k).2.length≤40000 * s.k) (fun s=>n.Ao.Ad.length - s.k) ⟨0,⟨a1,c1,F1,a2,c2,F2,z.a2,z.c2,z.F,a4,c4,F4,a5,c5,F5,a6,c6,J6,a7,c7,F7⟩,none,0,[]⟩ ⟨by show 0+1≤_;omega,Nat.le_refl _⟩ fun s hs0=>?_
 obtain ⟨k,⟨x1,w1,K1,x2,w2,K2,x3,w3,K3,x4,w4,K4,x5,w5,K5,x6,w6,K6,x7,w7,K7⟩,ea,ec,eF⟩:=s;obtain ⟨hk,hel⟩:=hs0;dsimp only at hk hel ⊢;obtain ⟨hGN,hT,hSrc⟩:=Qc hg hc k FH;obtain ⟨r1,r2,r3,r4⟩:=Bl.1 hGN.l;rw [hT] at r1 r2 r3 r4;rw [hT,hSrc];refine go ?_;refine A1 rfl (fun h1=>?_) (fun h1=>?_)
 ·have hj:k+1 < n.Ao.Ad.length:=FH
  obtain ⟨i1,i2,i3,i4,hrn⟩:=hGN.rn (i:=k+1) (by rw [hT];exact hj);rw [hT] at hrn;obtain ⟨d0,d1_⟩:=Adm (i:=k+1);refine go ?_;refine cfr (fun w st=>by obtain ⟨Fq,hq⟩:=Aim (st.get (p:=.ow Bb 3 (.slice x1 n.Ao.Ad.length w1) n.Ao.Ad K1) FL);exact ⟨_,El hq,rfl,Yi n.Ao ((k+1:Nat):Int) _ Fq⟩) (fun _ _=>?_);refine Ot ?_;cases hlf:Eo n.Ao.Ad ((k+1:Nat):Int)
  ·obtain ⟨hge,hck, -⟩:=hrn.hn FH hlf;obtain ⟨hc0,hc1⟩:=Oz.1 (Hm.1 hge).1;have hnx:Be n (k+1)=(⟨n.Ao,Nr n.Ab,(Be n k).1.Af.set (k+1) (Fj (Be n k).1.Af[k+1]),(Be n k).1.Ac,(Be n k).1.down,(Be n k).1.up⟩,(Be n k).2++[]):=by
    exact FF
   rw [List.append_nil] at hnx;refine Wu (xs:=(Be n k).1.Af) (m:=2) (k+1) ?_ rfl i1;rintro _ g5 A5 cs B5 k1 k2 J1 Ji J2 e5 - hc5 hH5;rw [e5];refine Hp ?_;rintro b1 d1 G1 ev l1;obtain rfl:=Uq ev;refine go ?_;refine Ca (Bdo (Be n k).1.Af[k+1] g5 149 (0+(k+1) * 2) A5 B5 b1 d1 G1 FH FH) fun s9 _=>?_;refine E6 (Fj (Be n k).1.Af[k+1]) ?_;refine Sw _ hH5 rfl fun J5=>?_;refine go ?_
   refine Cg ⟨k+1,⟨x1,w1,K1,x2,w2,K2,x3,w3,K3,_,w4,J5,x5,w5,K5,x6,w6,K6,x7,w7,K7⟩,ea,ec,eF⟩ ⟨KG,by rw [hnx];dsimp only;omega⟩ GR GX GW
  ·obtain ⟨-,hgr0,hck⟩:=hrn.hf FH hlf;have hgr:=Ek.1 hgr0;obtain ⟨hsm,hfew⟩:=Aeq hgr;have hnx:Be n (k+1)=(⟨n.Ao,Nr n.Ab,(Be n k).1.Af,(Be n k).1.Ac.set (k+1) (Cv (Be n k).1.Ac[k+1] (Ns (k+1))),(Be n k).1.down,Sk (Be n k).1.up (k+1) (E8 (Be n k).1.Ac[k+1])⟩,(Be n k).2++Vc (k+1) (Hw (Be n k).1.Ac[k+1])):=by
    show ((N9 (Be n k).1 (k+1)).1,(Be n k).2++(N9 (Be n k).1 (k+1)).2)=_;unfold N9;rw [hT,hlf,if_pos rfl,Hh i2,hSrc];rfl
   have htl:(Vc (k+1) (Hw (Be n k).1.Ac[k+1])).length=(Hw (Be n k).1.Ac[k+1]).length:=List.length_map ..;generalize hR:(Be n k).1.Ac[k+1]=R at *;refine go ?_;refine Wu (xs:=(Be n k).1.Ac) (m:=5) (k+1) ?_ rfl i2;rintro _ g5 A5 cs B5 k1 k2 J1 Ji J2 e5 - hc5 hH5;rw [e5,hR];refine Ic ?_;rintro b1 d1 G1 b2 d2 G2 ev l1 l2;obtain rfl:=Uq ev;refine As [5] [] ?_;refine Dq 0 1 2 3 ?_;refine Ec 4 5 ?_;refine dt 6 ?_;refine dN 7 ?_;refine oC ?_;refine Ca (Aky (k+1) FH) fun _ _=>?_;refine dk ?_;refine dN 8 ?_;refine oC ?_
   refine Ca (Bdv R (Ns (k+1)) g5 156 (0+(k+1) * 5) A5 B5 b1 d1 G1 b2 d2 G2 hgr FH FH) fun s9 _=>?_;refine dk ?_;refine Dq 9 10 11 12 ?_;refine dt 13 ?_;refine dd ?_;refine Iz (Cv R (Ns (k+1))) ?_;refine Sw _ hH5 rfl fun J5=>?_;refine A4 (E:=Ak) (xs:=E8 R) fun Fp=>?_;refine An1 (E:=Ak) (fun p:Ar=>p.data.size≤maxLen) (fun w cs x F h=>by obtain ⟨_,h,_⟩:=h;exact h) ?_;intro hz;refine Xi (E:=Ak) (xs:=E8 R) ?_;rintro pa pc e9 hp1 hp2;clear e9;refine go ?_;rw [show (Be n k).1.up=Sk (Be n k).1.up (k+1) ((E8 R).take 0) by rw [List.take_zero,Aly]]
   refine Cd [0,2,3,4,6,56,57] (fun y:KF=>[(58,.int .i64 (y.k:Nat))]) (fun y=>[.ow (Ko Ak 233) 158 (.slice x7 n.up.length w7) (Sk (Be n k).1.up (k+1) ((E8 R).take y.k)) y.F]) (fun y=>y.k≤(E8 R).length) (fun y=>(E8 R).length - y.k) ⟨0,K7⟩ (Nat.zero_le _) fun y hy0=>?_;have hpl:=Alx (Be n k).1.up (k+1) ((E8 R).take y.k);refine go ?_;refine A1 rfl (fun h2=>?_) (fun h2=>?_)
   ·have hm:y.k < (E8 R).length:=FH
    refine Sa (xs:=E8 R) y.k ?_;rintro hi3 b3 o3 e3 s3;rw [e3];refine go ?_;intros;refine As [0,6] [] ?_;refine Dq 0 1 2 3 ?_;refine Ec 4 5 ?_;refine dN 6 ?_;refine oC ?_;refine Ca (Aec (Sk (Be n k).1.up (k+1) ((E8 R).take y.k)) (k+1) (E8 R)[y.k] x7 _ w7 y.F FH FH s3) fun f1 _=>?_;rw [Ail i4 hm];refine dk ?_;refine dd ?_;refine go ?_;refine Cg ⟨y.k+1,f1⟩ hm (by show (E8 R).length - (y.k+1) < (E8 R).length - y.k;omega)
   ·rw [show (E8 R).take y.k=E8 R from List.take_of_length_le FH];refine go ?_;refine cfr (fun w st=>by obtain ⟨Fq, -,hq⟩:=(st.get (p:=.ow A8 9 (.slice s9.a4 (Hw R).length s9.c4) (Hw R) s9.F4) FL).2.read;exact ⟨[.sl A8 (.slice s9.a4 (Hw R).length s9.c4) (Hw R) Fq,Gs FT],Nn ⟨FK,hq⟩ (st.get (p:=Gs FT) FL),rfl,Bc2 (k+1) _ _ _ Fq FT FH FH hsm⟩) (fun u9 _=>?_);refine Ot ?_;refine A4 (E:=A8) (xs:=Vc (k+1) (Hw R)) fun F8=>?_;apply wO;refine Pf (E:=A8) (xs:=(Be n k).2) (ys:=Vc (k+1) (Hw R)) Dx Gz fun a9 c9 F9=>?_;refine go ?_
    refine Cg ⟨k+1,⟨x1,w1,K1,x2,w2,K2,x3,w3,K3,x4,w4,K4,_,w5,J5,x6,w6,K6,x7,w7,y.F⟩,a9,c9,F9⟩ ⟨KG,by rw [hnx];dsimp only;rw [List.length_append,htl];omega⟩ GR GX GW
 ·have hke:n.Ao.Ad.length - 1=k:=FH
  rw [show Gp n=Be n k by unfold Gp;rw [hke],hT,hSrc];exact FA
structure Kh where
 Cp:Int
 node:Int
 data:ByteArray
def Es (s:Kh):Bool:=if s.Cp=1 then decide (s.node=0) && Rs s.data else if s.Cp=4 then decide (s.node=0) && decide (s.data=⟨#[]⟩) else Ga 1 s.Cp 6 && Q0 s.node && decide (s.data=⟨#[]⟩)
def X4 (s:Kh):Bool:=decide (s.Cp=5) || decide (s.Cp=6)
def Va (n:Dv) (s:Kh):List Ar:=(if X4 s then n.up else n.down).getD s.node.toNat []
def Hb (n:Dv) (s:Kh):Dv:=if X4 s then Pb n s.node.toNat else Rf n s.node.toNat
def C2 (n:Dv) (s:Kh):Option (Dv × List ByteArray) :=
 if (n.Ao.Ad.length:Int)≤s.node then none
 else if (Va n s).length=0 then none
 else if s.Cp=2 then some (C4 (Hb n s) s.node.toNat (N1 (Va n s)))
 else if s.Cp=5 then some (Q5 (Hb n s) s.node.toNat (N1 (Va n s)),[])
 else some (Hb n s,[])
def Bo (n:Dv) (s:Kh):Option (Dv × List ByteArray) :=
 if s.Cp=1 then some (Aiz n s.data,[])
 else if s.Cp=4 then (if n.Ab.Ai=9999 then none else some (Gp n))
 else C2 n s
def Ib (n:Dv) (r:Option (Dv × List ByteArray)):Dv:=match r with|some x=>x.1|none=>n
def Wa (r:Option (Dv × List ByteArray)):List ByteArray:=match r with|some x=>x.2|none=>[]
theorem Ayf {n:Dv} {s:ByteArray} (h:At n=true) (hs:Rs s=true):At (Aiz n s)=true:=by
 have hg:=Az.1 h;have ht:=H8 hg.t;exact Az.2 (((hg.src (Awo hg.s hs)).sp (fun p hp=>by rw [List.mem_singleton] at hp;subst hp;exact Ax1 (Ff.1 hg.s).1 hs) (Agk ht 0)))
theorem Aeu {ck:Nat→Int} {i:Nat} {c:Int} (h:ck i=c):Agd ck i c=ck:=by
 funext j;unfold Agd;by_cases e:j=i
 ·rw [if_pos e,e,h]
 ·rw [if_neg e]
theorem Awe {e:Bf} {n:Int} {l:List Int}:∀x∈Vp e n l,x∈l:=Ab2
theorem App (r:Ay) (p:Ar) (d:Int):(Di r p d).Ai=r.Ai:=by
 unfold Di
 split
 ·rfl
 ·split <;> rfl
theorem Ati (e:Bf) (n f:Int):(Pd e n f).Ai=e.Ai:=by
 unfold Pd
 split
 ·rfl
 ·split <;> rfl
theorem Ath (e:Bf) (n:Int):(Qr e n).Ai=e.Ai:=by unfold Qr;split <;> rfl
theorem Asd {n:Dv} {i:Nat} {p:Ar} (h:At n=true) (h0:i≠0) (hi:i < n.Ao.Ad.length) (hp:Bt p=true):At (C4 n i p).1=true:=by
 have hg:=Az.1 h;have ht:=H8 hg.t;obtain ⟨h1,h2,h3,h4,r⟩:=hg.rn hi;have d0:1≤Ns i∧Ns i≤8:=by unfold Ns;omega
 have ee:Qi n i=n.Af[i]:=KM
 have er:Qv n i=n.Ac[i]:=KL
 have hps:∀q∈[p],Bt q=true:=fun q hq=>by rw [List.mem_singleton] at hq;rw [hq];exact hp
 unfold C4;cases hl:Eo n.Ao.Ad ((i:Nat):Int)
 ·rw [if_neg FK];obtain ⟨he,e2, -⟩:=r.hn h0 hl;by_cases hk:p.Cp=2
  ·have:=(hg.el h0 hl (Awm (n:=p.Ae) he)).sp hps (nodes:=Vp n.Af[i] p.Ae (Aaf n i)) (fun x hx=>Agk ht i x (Awe x hx));rw [Aeu (show (fun _=>n.Ab.Ai) i=(Qr n.Af[i] p.Ae).Ai by rw [Ath,e2])] at this;unfold Af4;rw [if_pos hk,if_pos hk,ee];exact Az.2 this
  ·unfold Af4;rw [if_neg hk,if_neg hk];exact Az.2 (hg.sp hps (Agk ht i))
 ·rw [if_pos rfl,er];obtain ⟨-,e2,e3⟩:=r.hf h0 hl;have:=hg.rc h0 hl (Ek.2 (Vs (d:=Ns i) (Ek.1 e2) hp d0.1 d0.2).1);rw [Aeu (show (fun _=>n.Ab.Ai) i=(Di n.Ac[i] p (Ns i)).Ai by rw [App,e3])] at this;exact Az.2 this
theorem Bf0 {n:Dv} {i:Nat} {p:Ar} (h:At n=true) (h0:i≠0) (hi:i < n.Ao.Ad.length) (hp:Bt p=true) (hk:p.Cp=3):At (Q5 n i p)=true:=by
 have hg:=Az.1 h;have ht:=H8 hg.t;have hone:∀x∈[((i:Nat):Int)],x.toNat≠0:=fun x hx=>by rw [List.mem_singleton] at hx;subst hx;omega
 have h1:=ht.p i hi FH;have e:n.Ao.Ad.getD i 0=n.Ao.Ad[i]:=by rw [List.getD_eq_getElem?_getD,List.getElem?_eq_getElem hi];rfl
 obtain ⟨k,hkk⟩:∃k,Z4 n i=k:=⟨_,rfl⟩;have hk2:n.Ao.Ad[i]=((k:Nat):Int):=by unfold Z4 at hkk;rw [e] at hkk;omega
 unfold Q5;rw [hkk];by_cases hz:k=0
 ·rw [if_pos hz];have:=(hg.src (Baj (n:=p.Ae) hg.s (Kw hp))).sp (Ayb (Ff.1 hg.s).1 hp hk) hone;refine Az.2 ?_;rw [show (M3 n.Ab p.Ae).Ai=n.Ab.Ai by unfold M3;split <;> rfl];exact this
 ·rw [if_neg hz];have hkl:k < n.Ao.Ad.length:=FH
  obtain ⟨r1,r2,r3,r4,r⟩:=hg.rn hkl;have ee:Qi n k=n.Af[k]:=by unfold Qi;rw [List.getD_eq_getElem?_getD,List.getElem?_eq_getElem r1];rfl
  have hl:Eo n.Ao.Ad ((k:Nat):Int)=false:=by
   unfold Eo;rw [←hk2,decide_eq_true (List.getElem_mem hi)];rfl
  obtain ⟨he,e2, -⟩:=r.hn hz hl;rw [ee];have hf:Q0 ((i:Nat):Int)=true:=O0.2 ⟨FH,by have:=ht.n1;omega⟩;have:=(hg.el hz hl (Awn he (Bc.2 (Kw hp)) hf)).sp (nodes:=[((i:Nat):Int)]) (ps:=[Aax p]) (fun q hq=>by rw [List.mem_singleton] at hq;rw [hq];exact Azy hp) hone;rw [Aeu (show (fun _=>n.Ab.Ai) k=(Pd n.Af[k] p.Ae ((i:Nat):Int)).Ai by rw [Ati,e2])] at this;refine Az.2 ?_
  split
  ·exact this.un k _ (fun e=>absurd e hz) fun q a b=>⟨Aeg a fun x hx=>by rw [List.mem_singleton] at hx;rw [hx];exact hp,Ava b fun x hx=>by rw [List.mem_singleton] at hx;rw [hx];exact hk⟩
  ·exact this
theorem M0 {n:Dv} {s:Kh} (h:At n=true):Fc (Va n s)=true∧(X4 s=true→upQ (Va n s)=true):=by
 have hg:=Az.1 h;obtain ⟨q1,q2,q3,q4⟩:=Bl.1 hg.l;unfold Va;by_cases hi:s.node.toNat < n.Ao.Ad.length
 ·obtain ⟨h1,h2,h3,h4,r⟩:=hg.rn hi;cases X4 s
  ·rw [if_neg FK,Qj h3];exact ⟨r.hd,fun e=>by cases e⟩
  ·rw [if_pos rfl,Qj h4];exact ⟨r.hu,fun _=>r.hk⟩
 ·have e:((if X4 s then n.up else n.down).getD s.node.toNat [])=[]:=by
   rw [List.getD_eq_getElem?_getD,List.getElem?_eq_none (by split <;> omega)];rfl
  rw [e];exact ⟨rfl,fun _=>rfl⟩
theorem Mb {n:Dv} {s:Kh} (h:At n=true):At (Hb n s)=true:=by
 have hg:=Az.1 h;unfold Hb
 split
 ·exact Az.2 (hg.pu _)
 ·exact Az.2 (hg.pd _)
theorem Pl {q:List Ar} (h:0 < q.length):N1 q∈q:=by rw [Yu h];exact List.getElem_mem _
theorem Nu {q:List Ar} (h:Fc q=true) {p:Ar} (hp:p∈q):Bt p=true:=by
 unfold Fc at h;rw [Bool.and_eq_true] at h;exact List.all_eq_true.1 h.2 p hp
theorem Bfz {q:List Ar} (h:upQ q=true) {p:Ar} (hp:p∈q):p.Cp=3:=of_decide_eq_true (List.all_eq_true.1 h p hp)
theorem Arf {n:Dv} {s:Kh} {r:Dv × List ByteArray} (h:At n=true) (hn:Q0 s.node=true) (hr:C2 n s=some r):At r.1=true:=by
 have hf:=O0.1 hn;have hpg:=Mb (s:=s) h;have hq:=M0 (s:=s) h;have htl:(Hb n s).Ao=n.Ao:=KP
 unfold C2 at hr
 split at hr
 ·cases hr
 ·rename_i h1
  split at hr
  ·cases hr
  ·rename_i h2;have hm:=Pl (q:=Va n s) FH;have hpk:=Nu hq.1 hm;have hi:s.node.toNat < (Hb n s).Ao.Ad.length:=by rw [htl];omega
   split at hr
   ·cases hr;exact Asd hpg FH hi hpk
   ·split at hr
    ·rename_i h5;cases hr;exact Bf0 hpg FH hi hpk (Bfz (hq.2 (by unfold X4;rw [decide_eq_true h5];rfl)) hm)
    ·cases hr;exact hpg
theorem Y2 {x:Cj} (h:Cz x=true):0≤x.Ai∧x.Ai≤9999:=by
 unfold Cz at h;simp only [Bool.and_eq_true] at h;exact Oz.1 h.1.1.2
theorem Nv {n:Dv} {s:Kh} {r:Dv × List ByteArray} (h:At n=true) (hs:Es s=true) (hr:Bo n s=some r):At r.1=true:=by
 unfold Bo at hr;unfold Es at hs
 split at hr
 ·rename_i h1;rw [if_pos h1,Bool.and_eq_true] at hs;cases hr;exact Ayf h hs.2
 ·rename_i h1
  split at hr
  ·rename_i h4
   split at hr
   ·cases hr
   ·rename_i hc;cases hr;have:=Y2 (Az.1 h).s;exact At0 h FH
  ·rename_i h4;rw [if_neg h1,if_neg h4] at hs;simp only [Bool.and_eq_true] at hs;exact Arf h hs.1.2 hr
section
variable {c:Cx} {fr:Fr} {H:List Pc} {Φ:Gl}
end
theorem Bfq (n:Dv) (s:Kh) (g:Nat) (a1:Option Addr) (c1:Nat) (F1:List Nat) (a2:Option Addr) (c2:Nat) (F2:List Nat) (a3:Option Addr) (c3:Nat) (F3:List Nat) (a4:Option Addr) (c4:Nat) (F4:List Nat) (a5:Option Addr) (c5:Nat) (F5:List Nat) (a6:Option Addr) (c6:Nat) (F6:List Nat) (a7:Option Addr) (c7:Nat) (F7:List Nat) (FT:List Nat) (hg:At n=true) (hf:Q0 s.node=true) :
  Fn prog 197 [Il g 0 0,.agg #[.int .i64 s.Cp,.int .i64 s.node,.string s.data]] [Gs FT] [.row g 52 0 [] [.slice a1 n.Ao.Ad.length c1,.int .i64 n.Ab.Aa.Ap,.int .i64 n.Ab.Aa.size,.slice a2 n.Ab.Aa.An.length c2,.int .i64 n.Ab.Ai,.int .i64 n.Ab.quiet,.slice a3 n.Ab.holds.length c3,.slice a4 n.Af.length c4,.slice a5 n.Ac.length c5,.slice a6 n.down.length c6,.slice a7 n.up.length c7] [],.ow Bb 3 (.slice a1 n.Ao.Ad.length c1) n.Ao.Ad F1,.ow A8 9 (.slice a2 n.Ab.Aa.An.length c2) n.Ab.Aa.An F2,.ow Bm 203 (.slice a3 n.Ab.holds.length c3) n.Ab.holds F3,.ow B4 149 (.slice a4 n.Af.length c4) n.Af F4,.ow Bx 156 (.slice a5 n.Ac.length c5) n.Ac F5,.ow (Ko Ak 233) 158 (.slice a6 n.down.length c6) n.down F6,.ow (Ko Ak 233) 158 (.slice a7 n.up.length c7) n.up F7] (fun (_:NV × KA)=>True) (fun z=>.tuple #[.slice z.2.a (Wa (C2 n s)).length z.2.c,.bool (C2 n s).isSome]) (fun z=>[.row g 52 0 [] [.slice z.1.a1 n.Ao.Ad.length z.1.c1,.int .i64 (Ib n (C2 n s)).Ab.Aa.Ap,.int .i64 (Ib n (C2 n s)).Ab.Aa.size,.slice z.1.a2 (Ib n (C2 n s)).Ab.Aa.An.length z.1.c2,.int .i64 (Ib n (C2 n s)).Ab.Ai,.int .i64 (Ib n (C2 n s)).Ab.quiet,.slice z.1.a3 (Ib n (C2 n s)).Ab.holds.length z.1.c3,.slice z.1.a4 n.Af.length z.1.c4,.slice z.1.a5 n.Ac.length z.1.c5,.slice z.1.a6 n.down.length z.1.c6,.slice z.1.a7 n.up.length z.1.c7] [],.ow Bb 3 (.slice z.1.a1 n.Ao.Ad.length z.1.c1) (Ib n (C2 n s)).Ao.Ad z.1.F1,.ow A8 9 (.slice z.1.a2 (Ib n (C2 n s)).Ab.Aa.An.length z.1.c2) (Ib n (C2 n s)).Ab.Aa.An z.1.F2,.ow Bm 203 (.slice z.1.a3 (Ib n (C2 n s)).Ab.holds.length z.1.c3) (Ib n (C2 n s)).Ab.holds z.1.F3,.ow B4 149 (.slice z.1.a4 n.Af.length z.1.c4) (Ib n (C2 n s)).Af z.1.F4,.ow Bx 156 (.slice z.1.a5 n.Ac.length z.1.c5) (Ib n (C2 n s)).Ac z.1.F5,.ow (Ko Ak 233) 158 (.slice z.1.a6 n.down.length z.1.c6) (Ib n (C2 n s)).down z.1.F6,.ow (Ko Ak 233) 158 (.slice z.1.a7 n.up.length z.1.c7) (Ib n (C2 n s)).up z.1.F7,.ow A8 9 (.slice z.2.a (Wa (C2 n s)).length z.2.c) (Wa (C2 n s)) z.2.F]):=by
 have hG:=Az.1 hg;have h8:=H8 hG.t;have hn8:=h8.n1;obtain ⟨q1,q2,q3,q4⟩:=Bl.1 hG.l;obtain ⟨f1,f2⟩:=O0.1 hf;obtain ⟨i,hi⟩:∃i:Nat,s.node=((i:Nat):Int):=⟨s.node.toNat,FH⟩;have i0:i≠0:=FH
 refine enter func197 rfl ntmps197 fun w0=>?_;refine Db A8 9 ?_;rw [hi];refine go ?_;intros;refine As [0,2] [] ?_;refine Dq 0 1 2 3 ?_;refine Dq 4 5 6 7 ?_;refine dt 8 ?_;refine dd ?_;refine go ?_;refine A1 rfl (fun h1=>?_) (fun h1=>?_)
 ·rw [show C2 n s=none by unfold C2;rw [if_pos FH]];exact EX
 have hil:i < n.Ao.Ad.length:=FH
 by_cases k5:s.Cp=5
 ·have hu:X4 s=true:=by unfold X4;rw [decide_eq_true k5];rfl
  have hq:Va n s=n.up[i]:=KO
  have hpo:Hb n s=Pb n i:=HS
  have h6:n.up[i].length≤6:=by
   exact CA
  refine go ?_;refine Dy rfl rfl (fun g5=>?_) (fun g5=>?_)
  rotate_left
  ·exact absurd k5 g5
  refine go ?_;refine Ca (Aid n.up i a7 _ c7 F7 rfl FH h6) fun J _=>?_;by_cases h0:0 < n.up[i].length
  rotate_left
  ·exact AW
  have hmem:=Pl h0;have hpk:Bt (N1 n.up[i])=true:=Nu (hq▸(M0 (s:=s) hg).1) hmem;have hpz:(N1 n.up[i]).data.size≤maxLen:=by
   exact AN
  rw [decide_eq_true h0,show n.up.set i (n.up[i].drop 1)=(Pb n i).up from (Ik FH).symm];have hgm:At (Pb n i)=true:=hpo▸Mb hg;have hGm:=Az.1 hgm;have hlm:n.up.length=(Pb n i).up.length:=(List.length_modify ..).symm;generalize hP:N1 n.up[i]=P at *;have htk:C2 n s=some (Q5 (Pb n i) i P,[]):=by
   unfold C2;rw [if_neg FH,hq,if_neg FH,hpo,hP,hi,Int.toNat_natCast];rw [if_neg FH,if_pos k5]
  rw [htk];refine go ?_;intros;refine A1 rfl (fun k2=>?_) (fun k2=>?_)
  ·exact absurd k2 FH
  refine go ?_;refine A1 rfl (fun m5=>?_) (fun m5=>?_)
  rotate_left
  ·exact absurd k5 m5
  refine go ?_;rw [hlm];refine cf (Bc9 (Pb n i) i P g a1 c1 F1 a2 c2 F2 a3 c3 F3 a4 c4 F4 a5 c5 F5 a6 c6 F6 a7 c7 J hGm.l i0 hil (H8 hGm.t) hGm.s (fun k hk hkl hl=>?_) hpk hpz) fun z _=>?_
  rotate_left
  ·refine Ot ?_;refine go ?_;refine ret (z,⟨0,none,0,[]⟩) trivial rfl
  ·obtain ⟨x1,x2,x3,x4,r⟩:=hGm.rn (i:=k) hkl;rw [Ju x1];exact (r.hn hk hl).1
 by_cases k6:s.Cp=6
 ·have hu:X4 s=true:=by unfold X4;rw [decide_eq_true k6,Bool.or_true]
  have hq:Va n s=n.up[i]:=KO
  have hpo:Hb n s=Pb n i:=HS
  have h6:n.up[i].length≤6:=by
   exact CA
  refine go ?_;refine Dy rfl rfl (fun g5=>?_) (fun g5=>?_)
  ·exact absurd g5 FH
  refine go ?_;refine A1 rfl (fun g6=>?_) (fun g6=>?_)
  rotate_left
  ·exact absurd k6 g6
  refine go ?_;refine Ca (Aid n.up i a7 _ c7 F7 rfl FH h6) fun J _=>?_;by_cases h0:0 < n.up[i].length
  rotate_left
  ·exact AW
  have hmem:=Pl h0;have hpk:Bt (N1 n.up[i])=true:=Nu (hq▸(M0 (s:=s) hg).1) hmem;have hpz:(N1 n.up[i]).data.size≤maxLen:=by
   exact AN
  rw [decide_eq_true h0,show n.up.set i (n.up[i].drop 1)=(Pb n i).up from (Ik FH).symm];have hgm:At (Pb n i)=true:=hpo▸Mb hg;have hGm:=Az.1 hgm;have hlm:n.up.length=(Pb n i).up.length:=(List.length_modify ..).symm;generalize hP:N1 n.up[i]=P at *;have htk:C2 n s=some (Pb n i,[]):=by
   exact FB
  rw [htk];refine go ?_;intros;refine A1 rfl (fun k2=>?_) (fun k2=>?_)
  ·exact absurd k2 FH
  refine go ?_;refine A1 rfl (fun m5=>?_) (fun m5=>?_)
  ·exact absurd m5 FH
  refine go ?_;refine ret (⟨a1,c1,F1,a2,c2,F2,a3,c3,F3,a4,c4,F4,a5,c5,F5,a6,c6,F6,a7,c7,J⟩,⟨0,none,0,[]⟩) trivial rfl
 ·have hu:X4 s=false:=by unfold X4;rw [decide_eq_false k5,decide_eq_false k6];rfl
  have hq:Va n s=n.down[i]:=by unfold Va;rw [hu,if_neg FK,hi,Int.toNat_natCast];exact Qj FH []
  have hpo:Hb n s=Rf n i:=by unfold Hb;rw [hu,if_neg FK,hi,Int.toNat_natCast]
  have h6:n.down[i].length≤6:=by
   exact CA
  refine go ?_;refine Dy rfl rfl (fun g5=>?_) (fun g5=>?_)
  ·exact absurd g5 k5
  refine go ?_;refine A1 rfl (fun g6=>?_) (fun g6=>?_)
  ·exact absurd g6 k6
  refine go ?_;refine Ca (Aid n.down i a6 _ c6 F6 rfl FH h6) fun J _=>?_;by_cases h0:0 < n.down[i].length
  rotate_left
  ·have hz:n.down[i]=[]:=List.length_eq_zero_iff.1 FH;rw [show C2 n s=none by unfold C2;rw [if_neg FH,hq,if_pos FH],decide_eq_false h0,show n.down.set i (n.down[i].drop 1)=n.down by rw [hz,List.drop_nil];rw [←hz,List.set_getElem_self]];refine go ?_;intros;refine ret (⟨a1,c1,F1,a2,c2,F2,a3,c3,F3,a4,c4,F4,a5,c5,F5,a6,c6,J,a7,c7,F7⟩,⟨0,none,0,[]⟩) trivial rfl
  have hmem:=Pl h0;have hpk:Bt (N1 n.down[i])=true:=Nu (hq▸(M0 (s:=s) hg).1) hmem;have hpz:(N1 n.down[i]).data.size≤maxLen:=by
   exact AN
  rw [decide_eq_true h0,show n.down.set i (n.down[i].drop 1)=(Rf n i).down from (Ik FH).symm];have hgm:At (Rf n i)=true:=hpo▸Mb hg;have hGm:=Az.1 hgm;have hlm:n.down.length=(Rf n i).down.length:=(List.length_modify ..).symm;generalize hP:N1 n.down[i]=P at *;have htk:C2 n s=if s.Cp=2 then some (C4 (Rf n i) i P) else some (Rf n i,[]):=by
   unfold C2;rw [if_neg FH,hq,if_neg FH,hpo,hP,hi,Int.toNat_natCast]
   split
   ·rfl
   ·first|rfl|rw [if_neg k5]
  rw [htk];refine go ?_;intros;refine A1 rfl (fun k2=>?_) (fun k2=>?_)
  ·rw [if_pos k2];refine go ?_;rw [hlm];refine cf (Av5 (Rf n i) i P g a1 c1 F1 a2 c2 F2 a3 c3 F3 a4 c4 F4 a5 c5 F5 a6 c6 J a7 c7 F7 FT hGm.l hil (H8 hGm.t) (fun hl=>?_) (fun hl=>?_) hpk hpz) fun z _=>?_
   rotate_left
   rotate_left
   ·refine Ot ?_;refine go ?_;refine ret (z.1,z.2) trivial rfl
   ·obtain ⟨x1,x2,x3,x4,r⟩:=hGm.rn (i:=i) hil;rw [Hh x2];exact (r.hf i0 hl).2.1
   ·obtain ⟨x1,x2,x3,x4,r⟩:=hGm.rn (i:=i) hil;rw [Ju x1];exact (r.hn i0 hl).1
  ·rw [if_neg k2];refine go ?_;refine A1 rfl (fun m5=>?_) (fun m5=>?_)
   ·exact absurd m5 k5
   refine go ?_;refine ret (⟨a1,c1,F1,a2,c2,F2,a3,c3,F3,a4,c4,F4,a5,c5,F5,a6,c6,J,a7,c7,F7⟩,⟨0,none,0,[]⟩) trivial rfl
theorem Bh5 (n:Dv) (s:Kh) (g:Nat) (a1:Option Addr) (c1:Nat) (F1:List Nat) (a2:Option Addr) (c2:Nat) (F2:List Nat) (a3:Option Addr) (c3:Nat) (F3:List Nat) (a4:Option Addr) (c4:Nat) (F4:List Nat) (a5:Option Addr) (c5:Nat) (F5:List Nat) (a6:Option Addr) (c6:Nat) (F6:List Nat) (a7:Option Addr) (c7:Nat) (F7:List Nat) (FT:List Nat) (hg:At n=true) (hs:Es s=true) (hss:s.data.size≤maxLen) :
  Fn prog 104 [Il g 0 0,.agg #[.int .i64 s.Cp,.int .i64 s.node,.string s.data]] [Gs FT] [.row g 52 0 [] [.slice a1 n.Ao.Ad.length c1,.int .i64 n.Ab.Aa.Ap,.int .i64 n.Ab.Aa.size,.slice a2 n.Ab.Aa.An.length c2,.int .i64 n.Ab.Ai,.int .i64 n.Ab.quiet,.slice a3 n.Ab.holds.length c3,.slice a4 n.Af.length c4,.slice a5 n.Ac.length c5,.slice a6 n.down.length c6,.slice a7 n.up.length c7] [],.ow Bb 3 (.slice a1 n.Ao.Ad.length c1) n.Ao.Ad F1,.ow A8 9 (.slice a2 n.Ab.Aa.An.length c2) n.Ab.Aa.An F2,.ow Bm 203 (.slice a3 n.Ab.holds.length c3) n.Ab.holds F3,.ow B4 149 (.slice a4 n.Af.length c4) n.Af F4,.ow Bx 156 (.slice a5 n.Ac.length c5) n.Ac F5,.ow (Ko Ak 233) 158 (.slice a6 n.down.length c6) n.down F6,.ow (Ko Ak 233) 158 (.slice a7 n.up.length c7) n.up F7] (fun (_:NV × KA)=>True) (fun z=>.tuple #[.slice z.2.a (Wa (Bo n s)).length z.2.c,.bool (Bo n s).isSome]) (fun z=>[.row g 52 0 [] [.slice z.1.a1 n.Ao.Ad.length z.1.c1,.int .i64 (Ib n (Bo n s)).Ab.Aa.Ap,.int .i64 (Ib n (Bo n s)).Ab.Aa.size,.slice z.1.a2 (Ib n (Bo n s)).Ab.Aa.An.length z.1.c2,.int .i64 (Ib n (Bo n s)).Ab.Ai,.int .i64 (Ib n (Bo n s)).Ab.quiet,.slice z.1.a3 (Ib n (Bo n s)).Ab.holds.length z.1.c3,.slice z.1.a4 n.Af.length z.1.c4,.slice z.1.a5 n.Ac.length z.1.c5,.slice z.1.a6 n.down.length z.1.c6,.slice z.1.a7 n.up.length z.1.c7] [],.ow Bb 3 (.slice z.1.a1 n.Ao.Ad.length z.1.c1) (Ib n (Bo n s)).Ao.Ad z.1.F1,.ow A8 9 (.slice z.1.a2 (Ib n (Bo n s)).Ab.Aa.An.length z.1.c2) (Ib n (Bo n s)).Ab.Aa.An z.1.F2,.ow Bm 203 (.slice z.1.a3 (Ib n (Bo n s)).Ab.holds.length z.1.c3) (Ib n (Bo n s)).Ab.holds z.1.F3,.ow B4 149 (.slice z.1.a4 n.Af.length z.1.c4) (Ib n (Bo n s)).Af z.1.F4,.ow Bx 156 (.slice z.1.a5 n.Ac.length z.1.c5) (Ib n (Bo n s)).Ac z.1.F5,.ow (Ko Ak 233) 158 (.slice z.1.a6 n.down.length z.1.c6) (Ib n (Bo n s)).down z.1.F6,.ow (Ko Ak 233) 158 (.slice z.1.a7 n.up.length z.1.c7) (Ib n (Bo n s)).up z.1.F7,.ow A8 9 (.slice z.2.a (Wa (Bo n s)).length z.2.c) (Wa (Bo n s)) z.2.F]):=by
 have hG:=Az.1 hg;have h8:=H8 hG.t;have hn8:=h8.n1;have hn2:=h8.n0;obtain ⟨q1,q2,q3,q4⟩:=Bl.1 hG.l;have hS:=Lx hG.s;obtain ⟨-,⟨hz1, -⟩, -, -⟩:=Ea.1 hS.w;have hkl:=Vx n.Ao.Ad 0;have hkx:∀x∈Iw n.Ao.Ad 0,0≤x∧x.toNat < n.down.length:=fun x hx=>by have:=L0 (i:=0) h8 hx;omega
 refine enter func104 rfl ntmps104 fun w0=>?_;refine Db A8 9 ?_;refine go ?_;intros;rename_i gs;refine A1 rfl (fun h1=>?_) (fun h1=>?_)
 ·rw [show Bo n s=some (Aiz n s.data,[]) by unfold Bo;rw [if_pos h1]];refine go ?_;refine dsI [.cel g 0 [.slice a1 n.Ao.Ad.length c1],.row gs 139 0 [] [.int .i64 s.Cp,.int .i64 s.node,.string s.data] []] [] ?_;refine dtI 0 (fun w h=>Nn (If (h (.row g _ 0 [] _ []) FL)) (h _ FL)) ?_;refine dtI 1 (fun w h=>Nn (If (h (.row g _ 0 [] _ []) FL)) (h _ FL)) ?_;refine dtI 2 (fun w h=>Nn (If (h (.row g _ 0 [] _ []) FL)) (h _ FL)) ?_;refine dtI 3 (fun w h=>Nn (If (h (.row g _ 0 [] _ []) FL)) (h _ FL)) ?_
  refine dtI 4 (fun w h=>Nn (If (h (.row g _ 0 [] _ []) FL)) (h _ FL)) ?_;refine dtI 6 (fun w h=>Nn (If (h (.row g _ 0 [] _ []) FL)) (h _ FL)) ?_;refine dtI 7 (fun w h=>Nn (If (h (.row g _ 0 [] _ []) FL)) (h _ FL)) ?_;refine dtI 8 (fun w h=>Nn (If (h (.row g _ 0 [] _ []) FL)) (h _ FL)) ?_;refine dtI 9 (fun w h=>Nn (If (h (.row g _ 0 [] _ []) FL)) (h _ FL)) ?_;refine dtI 10 (fun w h=>Nn (If (h (.row g _ 0 [] _ []) FL)) (h _ FL)) ?_;refine dN 5 ?_;refine oC ?_
  refine cfr (fun w st=>by obtain ⟨Fq,hq⟩:=Aim (st.get (p:=.ow Bb 3 (.slice a1 n.Ao.Ad.length c1) n.Ao.Ad F1) FL);exact ⟨_,El hq,rfl,Aav n.Ao 0 _ Fq KQ⟩) (fun u _=>?_);refine Ot ?_;refine A4 (E:=Bb) (xs:=Iw n.Ao.Ad 0) fun Fk=>?_;refine dkI (fun w h=>Nn (If (h (.row g _ 0 [] _ []) FL)) (h _ FL)) ?_;refine dN 11 ?_;refine oC ?_
  refine Ca (Bag (X:=[.slice a1 n.Ao.Ad.length c1]) (cs:=[.int .i64 n.Ab.Aa.Ap,.int .i64 n.Ab.Aa.size,.slice a2 n.Ab.Aa.An.length c2,.int .i64 n.Ab.Ai,.int .i64 n.Ab.quiet,.slice a3 n.Ab.holds.length c3]) (Y:=[.slice a4 n.Af.length c4,.slice a5 n.Ac.length c5,.slice a6 n.down.length c6,.slice a7 n.up.length c7]) (L:=[.slice a1 n.Ao.Ad.length c1,.int .i64 n.Ab.Aa.Ap,.int .i64 n.Ab.Aa.size,.slice a2 n.Ab.Aa.An.length c2,.int .i64 n.Ab.Ai,.int .i64 n.Ab.quiet,.slice a3 n.Ab.holds.length c3,.slice a4 n.Af.length c4,.slice a5 n.Ac.length c5,.slice a6 n.down.length c6,.slice a7 n.up.length c7]) (L':=fun z:SeS=>[.slice a1 n.Ao.Ad.length c1,.int .i64 (Df n.Ab.Aa s.data).Ap,.int .i64 (Df n.Ab.Aa s.data).size,.slice z.a (Df n.Ab.Aa s.data).An.length z.c,.int .i64 n.Ab.Ai,.int .i64 0,.slice z.a2 (Oi (Df n.Ab.Aa s.data) n.Ab.holds).length z.c2,.slice a4 n.Af.length c4,.slice a5 n.Ac.length c5,.slice a6 n.down.length c6,.slice a7 n.up.length c7]) (cs':=fun z:SeS=>[.int .i64 (Df n.Ab.Aa s.data).Ap,.int .i64 (Df n.Ab.Aa s.data).size,.slice z.a (Df n.Ab.Aa s.data).An.length z.c,.int .i64 n.Ab.Ai,.int .i64 0,.slice z.a2 (Oi (Df n.Ab.Aa s.data) n.Ab.holds).length z.c2]) (Bdw n.Ab.Aa s.data n.Ab.holds g 52 (0+1) _ _ a2 a3 c2 c3 n.Ab.Ai n.Ab.quiet F2 F3 hS.l hS.t0 hS.t1 hss hz1 hS.n) rfl rfl (fun _=>rfl)) fun z _=>?_
  refine dkI (fun w h=>Nn (If (h (.row g _ 0 [] _ []) FL)) (h _ FL)) ?_;refine dN 12 ?_;apply Lr;rfl;rfl;rfl;rfl;exact Ll;exact Kv;intro _;refine Le (E:=Ak) (xs:=[Du n.Ab.Aa s.data]) (Dc (Du n.Ab.Aa s.data) hss) ?_ FI;refine A4 (E:=Ak) (xs:=[Du n.Ab.Aa s.data]) fun Fp=>?_;refine dkI (fun w h=>Nn (If (h (.row g _ 0 [] _ []) FL)) (h _ FL)) ?_;refine dN 13 ?_;refine oC ?_;refine Ca (Aay n.down (Iw n.Ao.Ad 0) [Du n.Ab.Aa s.data] g _ _ _ _ _ _ _ _ _ _ a6 _ c6 F6 _ _ Fk _ _ Fp rfl hkx) fun J6 _=>?_
  refine dkI (fun w h=>Nn (If (h (.row g _ 0 [] _ []) FL)) (h _ FL)) ?_;refine dd ?_;refine go ?_;refine ret (⟨a1,c1,F1,z.a,z.c,z.F,z.a2,z.c2,z.F2,a4,c4,F4,a5,c5,F5,a6,c6,J6,a7,c7,F7⟩,⟨0,none,0,[]⟩) trivial rfl
 refine go ?_;refine A1 rfl (fun h4=>?_) (fun h4=>?_)
 ·refine go ?_;refine A1 rfl (fun hc=>?_) (fun hc=>?_)
  ·rw [show Bo n s=none by unfold Bo;rw [if_neg h1,if_pos h4,if_pos hc]];exact EX
  ·rw [show Bo n s=some (Gp n) by unfold Bo;rw [if_neg h1,if_pos h4,if_neg hc]];have hck:=Y2 hG.s;refine go ?_;refine Ca (Bdr n g a1 c1 F1 a2 c2 F2 a3 c3 F3 a4 c4 F4 a5 c5 F5 a6 c6 F6 a7 c7 F7 FT hg FH) fun z _=>?_;refine go ?_;refine ret (z.1,z.2) trivial rfl
 ·rw [show Bo n s=C2 n s by unfold Bo;rw [if_neg h1,if_neg h4]];have hf:Q0 s.node=true:=by
   unfold Es at hs;rw [if_neg h1,if_neg h4] at hs;simp only [Bool.and_eq_true] at hs;exact hs.1.2
  refine go ?_;refine Ca (Bfq n s g a1 c1 F1 a2 c2 F2 a3 c3 F3 a4 c4 F4 a5 c5 F5 a6 c6 F6 a7 c7 F7 FT hg hf) fun z _=>?_;refine go ?_;refine ret (z.1,z.2) trivial rfl
theorem Ajq (s:Kh) (hss:s.data.size≤maxLen):FV 103 [.agg #[.int .i64 s.Cp,.int .i64 s.node,.string s.data]] [] (.bool (Es s)):=by
 refine enter func103 rfl ntmps103 fun w0=>?_;refine go ?_;intros;refine A1 rfl (fun h1=>?_) (fun h1=>?_)
 ·rw [show Es s=(decide (s.node=0) && Rs s.data) by unfold Es;rw [if_pos h1]];refine go ?_;refine Dy rfl rfl (fun h2=>?_) (fun h2=>?_)
  ·refine go ?_;refine cb (fun w st=>Acb s.data w hss) ?_;exact DC
  ·exact CY
 refine go ?_;refine A1 rfl (fun h4=>?_) (fun h4=>?_)
 ·rw [show Es s=(decide (s.node=0) && decide (s.data=⟨#[]⟩)) by unfold Es;rw [if_neg h1,if_pos h4]];refine go ?_;refine Dy rfl rfl (fun h2=>?_) (fun h2=>?_)
  ·exact DC
  ·exact CY
 rw [show Es s=(Ga 1 s.Cp 6 && Q0 s.node && decide (s.data=⟨#[]⟩)) by unfold Es;rw [if_neg h1,if_neg h4]];refine go ?_;refine A1 rfl (fun k2=>?_) (fun k2=>?_)
 ·refine go ?_;refine A1 rfl (fun _=>?_) (fun hx=>absurd k2 hx);refine go ?_;refine ce (fun w st=>Vt s.node _) ?_;cases g5:Q0 s.node
  ·exact CF
  ·exact BT
 ·refine go ?_;refine A1 rfl (fun k3=>?_) (fun k3=>?_)
  ·refine go ?_;refine A1 rfl (fun _=>?_) (fun hx=>absurd k3 hx);refine go ?_;refine ce (fun w st=>Vt s.node _) ?_;cases g5:Q0 s.node
   ·exact CF
   ·exact BT
  ·refine go ?_;refine A1 rfl (fun k5=>?_) (fun k5=>?_)
   ·refine go ?_;refine A1 rfl (fun _=>?_) (fun hx=>absurd k5 hx);refine go ?_;refine ce (fun w st=>Vt s.node _) ?_;cases g5:Q0 s.node
    ·exact CF
    ·exact BT
   ·refine go ?_;refine A1 rfl (fun k6=>?_) (fun k6=>?_)
    ·refine go ?_;refine ce (fun w st=>Vt s.node _) ?_;cases g5:Q0 s.node
     ·exact CF
     ·exact BT
    ·refine go ?_;refine ret () trivial ?_;rw [show Ga 1 s.Cp 6=false by unfold Ga;simp;omega];rfl
def Xn:Dv:=⟨⟨[]⟩,Bkn,[],[],[],[]⟩
theorem In {n:Dv} (h:At n=true):(∀x∈n.Af,Ba x=true)∧(∀x∈n.Ac,Bv x=true)∧(∀q∈n.down,Fc q=true)∧∀q∈n.up,Fc q=true:=by
 have hG:=Az.1 h;obtain ⟨q1,q2,q3,q4⟩:=Bl.1 hG.l;refine ⟨fun x hx=>?_,fun x hx=>?_,fun x hx=>?_,fun x hx=>?_⟩
 all_goals
  obtain ⟨i,hi,rfl⟩:=List.getElem_of_mem hx;obtain ⟨h1,h2,h3,h4,r⟩:=hG.rn (i:=i) FH
 ·by_cases e:i=0
  ·exact Wv (r.hz e).1
  ·cases l:Eo n.Ao.Ad ((i:Nat):Int)
   ·exact (r.hn e l).1
   ·exact Wv (r.hf e l).1
 ·by_cases e:i=0
  ·exact Ww (r.hz e).2.1
  ·cases l:Eo n.Ao.Ad ((i:Nat):Int)
   ·exact Ww (r.hn e l).2.2
   ·exact (r.hf e l).2.1
 ·exact r.hd
 ·exact r.hu
theorem C9 {q:List Ar} (h:Fc q=true):q.length≤6∧∀p∈q,Bt p=true:=by
 unfold Fc at h;simpa [List.all_eq_true] using h
theorem Vb {n:Dv} (h:At n=true):U6 n:=by
 have hG:=Az.1 h;have h8:=(H8 hG.t).n1;obtain ⟨q1,q2,q3,q4⟩:=Bl.1 hG.l;have hS:=Lx hG.s;have hl:=hS.l;have hm:=hS.m;obtain ⟨e1,e2,e3,e4⟩:=In h;refine ⟨FH,FH,FH,FH,fun x hx=>?_,fun x hx y hy=>?_,FH,fun x hx=>⟨?_,?_⟩,FH,fun q hq=>?_,FH,fun q hq=>?_⟩
 ·have:=(Hm.1 (e1 x hx)).2.1;omega
 ·have:=(Vq (e1 x hx)).2.2 y hy;omega
 ·have:=(Kx (Ek.1 (e2 x hx)).w).1;omega
 ·have:=(De.1 (Ek.1 (e2 x hx)).q).2.1;omega
 ·have:=(C9 (e3 q hq)).1;omega
 ·have:=(C9 (e4 q hq)).1;omega
theorem Afu (n:Dv):∀k,(Be n k).1.Ao=n.Ao
 | 0=>rfl
 | k+1=>(Ajd _ _).1.trans (Afu n k)
theorem T4 {n:Dv} {s:Kh} {r:Dv × List ByteArray} (hr:Bo n s=some r):r.1.Ao=n.Ao:=by
 have hd:∀(n:Dv) i p,(C4 n i p).1.Ao=n.Ao:=fun n i p=>by unfold C4;split <;> rfl
 have hu:∀(n:Dv) i p,(Q5 n i p).Ao=n.Ao:=fun n i p=>by unfold Q5;split <;> rfl
 have hp:(Hb n s).Ao=n.Ao:=KP
 unfold Bo C2 at hr
 split at hr
 ·cases hr;rfl
 split at hr
 ·split at hr
  ·cases hr
  ·cases hr;exact Afu n _
 split at hr
 ·cases hr
 split at hr
 ·cases hr
 split at hr
 ·cases hr;exact (hd _ _ _).trans hp
 split at hr
 ·cases hr;exact (hu _ _ _).trans hp
 ·cases hr;exact hp
theorem Bew {n m:Dv} (h1:At n=true) (h2:At m=true) (h:m.Ao=n.Ao):n.Ao.Ad.length=m.Ao.Ad.length∧n.Af.length=m.Af.length∧n.Ac.length=m.Ac.length∧n.down.length=m.down.length∧n.up.length=m.up.length:=by
 obtain ⟨p1,p2,p3,p4⟩:=Bl.1 (Az.1 h1).l;obtain ⟨q1,q2,q3,q4⟩:=Bl.1 (Az.1 h2).l;rw [h] at q1 q2 q3 q4;exact ⟨by rw [h],FH,FH,FH,FH⟩
def Ck (n:Dv) (s:Kh):Dv × List ByteArray × Bool:=if At n && Es s then (match Bo n s with
 | some r=>(r.1,r.2,true)
 | none=>(Xn,[],false)) else (Xn,[],false)
def okQ (up:Bool) (p:Ar):Bool:=Bt p && (!up || decide (p.Cp=3))
theorem Au6 (up:Bool) (l:List Ar):(l.all (okQ up) && decide (l.length≤6))=(Fc l && (!up || upQ l)):=by
 have h:l.all (okQ up)=(l.all Bt && (!up || upQ l)):=by
  unfold upQ okQ
  induction l with
  | nil=>cases up <;> rfl
  | cons p l ih =>
   simp only [List.all_cons,ih];cases Bt p <;> cases up <;> cases decide (p.Cp=3) <;> cases l.all Bt <;> simp
 rw [h];unfold Fc;cases decide (l.length≤6) <;> cases l.all Bt <;> simp
theorem Bbl {up:Bool} {l:List Ar} {k:Nat} (h:k < l.length) (hp:okQ up l[k]=false):(Fc l && (!up || upQ l))=false:=by
 rw [←Au6,show l.all (okQ up)=false from List.all_eq_false.2 ⟨l[k],List.getElem_mem h,IC⟩];rfl
theorem Ah1 (l:List Ar) (up:Bool) (a:Option Addr) (c:Nat) (F:List Nat) (hl:l.length≤9223372036854775807):FV 138 [.slice a l.length c,.bool up] [.sl Ak (.slice a l.length c) l F] (.bool (Fc l && (!up || upQ l))):=by
 refine enter func138 rfl ntmps138 fun w0=>?_;refine go ?_;refine Eh [0,1,4] (fun k:Nat=>[(5,.int .i64 (k:Nat))]) (fun k=>k≤l.length∧∀j,j < k→∀h:j < l.length,okQ up l[j]=true) (fun k=>l.length - k) 0 ⟨Nat.zero_le _,fun j h=>by omega⟩ fun k hk=>?_;obtain ⟨hk1,hk2⟩:=hk;refine go ?_;refine A1 rfl (fun h1=>?_) (fun h1=>?_)
 ·have hh:k < l.length:=FH
  refine Sa (xs:=l) k ?_;rintro hi b o e1 s1;rw [e1];refine go ?_;refine Ca (Ap3 l[k] s1) fun _ _=>?_;cases g:Bt l[k]
  ·rw [Bbl hh (by unfold okQ;rw [g];rfl)];exact AA
  cases up
  ·refine go ?_;refine Cg (k+1) ⟨hh,fun j hj h=>?_⟩ HJ;rcases Nat.lt_or_eq_of_le (Nat.lt_succ_iff.1 hj) with h'|rfl
   ·exact hk2 j h' h
   ·unfold okQ;rw [g];rfl
  ·refine go ?_;refine A1 rfl (fun h3=>?_) (fun h3=>?_)
   ·rw [Bbl hh (by unfold okQ;rw [g,decide_eq_false h3];rfl)];exact AA
   ·refine go ?_;refine Cg (k+1) ⟨hh,fun j hj h=>?_⟩ HJ;rcases Nat.lt_or_eq_of_le (Nat.lt_succ_iff.1 hj) with h'|rfl
    ·exact hk2 j h' h
    ·unfold okQ;rw [g,decide_eq_true FH];rfl
 ·obtain rfl:k=l.length:=FH
  refine go ?_;refine ret () trivial ?_;rw [←Au6,show l.all (okQ up)=true from List.all_eq_true.2 fun p hp=>by obtain ⟨j,hj,rfl⟩:=List.getElem_of_mem hp;exact hk2 j hj hj,Bool.true_and];by_cases h6:l.length≤6
  ·rw [decide_eq_true h6,decide_eq_true FH];rfl
  ·rw [decide_eq_false h6,decide_eq_false FH];rfl
theorem Xu (e:Bf) (v:Value) (F:List Nat):FV 175 [v] [.isv Bk v e F] (.bool (Na e)):=by
 refine enter func175 rfl ntmps175 fun w0=>?_;refine Fh ?_;rintro a1 c1 F1 rfl l1;refine go ?_;intros;refine Dy rfl rfl (fun h1=>?_) (fun h1=>?_)
 ·refine go ?_;refine ret () trivial ?_;unfold Na;rw [decide_eq_true h1,Bool.true_and];by_cases h:e.Ah.length=0
  ·rw [decide_eq_true h,decide_eq_true FH];rfl
  ·rw [decide_eq_false h,decide_eq_false FH];rfl
 ·refine go ?_;refine ret () trivial ?_;unfold Na;rw [decide_eq_false h1];rfl
theorem Bhj (p:Ar) (hs:p.data.size≤maxLen):FV 243 [.agg #[.int .i64 (p).Cp,.int .i64 (p).Ae,.int .i64 (p).Ap,.int .i64 (p).Fg,.string (p).data]] [] (.bool (!Bt p)):=by
 refine enter func243 rfl ntmps243 fun w0=>?_;refine go ?_;intros;refine Ca (Xr p hs) fun _ _=>?_;exact AA
theorem Ale (l:List Ar) (a:Option Addr) (c:Nat) (F:List Nat):FV 172 [.slice a l.length c] [.sl Ak (.slice a l.length c) l F] (.bool (Fc l)):=by
 refine enter func172 rfl ntmps172 fun w0=>?_;refine An1 (E:=Ak) (fun p:Ar=>p.data.size≤maxLen) (fun w cs x F h=>by obtain ⟨_,h,_⟩:=h;exact h) ?_;intro hz;refine go ?_;refine Dy rfl rfl (fun h1=>?_) (fun h1=>?_)
 ·refine go ?_;refine cb (fun w st=>(Aud 243 [] [] [] rfl l a c F (fun p=>!Bt p) FJ FH (fun p hp w _=>(Bhj p (hz p hp)).val w (by intro q hq;cases hq))).val w (El (st.get (p:=.sl _ _ _ _) FL))) ?_;refine go ?_;refine ret () trivial ?_;unfold Fc;rw [decide_eq_true (show l.length≤6 by omega),List.not_any_eq_all_not];simp;rfl
 ·refine go ?_;refine ret () trivial ?_;unfold Fc;rw [decide_eq_false (show ¬l.length≤6 by omega)];rfl
theorem Vu (r:Ay) (v:Value) (F:List Nat):FV 176 [v] [.isv Bi v r F] (.bool (Uo r)):=by
 have key:∀b:Bool,(b=(!r.Bd && decide (r.Ai=0) && (decide (r.Aa.next=0) && decide (r.Aa.Al.length=0) && decide (r.Am.length=0))))→b=Uo r:=fun b h=>h;refine enter func176 rfl ntmps176 fun w0=>?_;refine En ?_;rintro a1 c1 F1 a2 c2 F2 rfl l1 l2;unfold maxLen at l1 l2;cases hs:r.Bd <;> rw [hs] at key
 ·refine go ?_;intros;refine Dy rfl rfl (fun h1=>?_) (fun h1=>?_)
  ·refine go ?_;refine Dy rfl rfl (fun h2=>?_) (fun h2=>?_)
   ·refine go ?_;refine Dy rfl rfl (fun h3=>?_) (fun h3=>?_)
    ·refine go ?_;refine ret () trivial ?_;rw [←key (decide ((r.Am.length:Int)=0)) (by simp [h1,h2,show r.Aa.Al.length=0 by omega])];rfl
    ·refine go ?_;refine ret () trivial ?_;rw [←key false (by simp [show ¬r.Aa.Al=[] from fun e=>h3 (by rw [e];rfl)])];rfl
   ·refine go ?_;refine ret () trivial ?_;rw [←key false (by simp [h2])];rfl
  ·refine go ?_;refine ret () trivial ?_;rw [←key false (by simp [h1])];rfl
 ·refine go ?_;intros;refine ret () trivial ?_;rw [←key false FI];rfl
theorem Bhi (p:Ar):FV 174 [.agg #[.int .i64 (p).Cp,.int .i64 (p).Ae,.int .i64 (p).Ap,.int .i64 (p).Fg,.string (p).data]] [] (.bool (!decide (p.Cp=3))):=by
 refine enter func174 rfl ntmps174 fun w0=>?_;refine go ?_;intros;refine ret () trivial ?_;rw [←decide_not];rfl
theorem Bfy (l:List Ar):(l.any fun p=>!decide (p.Cp=3)) = !upQ l:=by
 unfold upQ;rw [List.not_all_eq_any_not]
theorem Auz {α:Type} (l:List α):decide ((l.length:Int)=0)=decide (l.length=0):=by
 by_cases h:l.length=0
 ·rw [decide_eq_true h,decide_eq_true FH]
 ·rw [decide_eq_false h,decide_eq_false FH]
theorem Bb1 {par:List Int} {clk:Int} {i:Nat} {e:Bf} {r:Ay} {d u:List Ar} (h:(Fc d && Fc u && upQ u)=false):Rk par clk i e r d u=false:=by unfold Rk;rw [h];rfl
theorem Bhz {par:List Int} {clk:Int} {i:Nat} {e:Bf} {r:Ay} {d u:List Ar} (h:(Fc d && Fc u && upQ u)=true):Rk par clk i e r d u=(if i=0 then Na e && Uo r && decide (d.length=0) && decide (u.length=0)
  else if Eo par i then Na e && Bv r && decide (r.Ai=clk) else Ba e && decide (e.Ai=clk) && Uo r):=by unfold Rk;rw [h,Bool.true_and]
theorem Aj1 (n:Dv) (i:Nat) (v:Value) (F:List Nat) (hl:L9 n=true) (hi:i < n.Ao.Ad.length):FV 91 [v,.int .i64 (i:Nat)] [.isv Ny v n F] (.bool (T7 n i)):=by
 obtain ⟨q1,q2,q3,q4⟩:=Bl.1 hl;rw [Vm FH FH FH FH];refine enter func91 rfl ntmps91 fun w0=>?_;refine Ho ?_;rintro a1 c1 F1 a2 c2 F2 a3 c3 F3 a4 c4 F4 a5 c5 F5 a6 c6 F6 a7 c7 F7 rfl l1 l2 l3 l4 l5 l6 l7;unfold maxLen at l1 l2 l3 l4 l5 l6 l7;refine I3 n.Ao ?_;refine Q6 (xs:=n.Af) i ?_;rintro hi4 b4 o4 a8 c8 F8 rfl l8;refine Nf n.Af[i] ?_;refine Kr (xs:=n.Ac) i ?_;rintro hi5 b5 o5 a9 c9 F9 a10 c10 F10 rfl l9 l10;refine Ep n.Ac[i] ?_;refine Nz (E:=Ak) (hz:=FK) (xs:=n.down) i ?_;rintro hi6 b6 o6 a11 c11 F11 rfl l11
 refine Nz (E:=Ak) (hz:=FK) (xs:=n.up) i ?_;rintro hi7 b7 o7 a12 c12 F12 rfl l12;unfold maxLen at l8 l9 l10 l11 l12;refine go ?_;intros;refine Ew [1,2,4] [0,1,2,3,4,5,6,7,8,9,10,11,12,13,14,15,16,17,18,19,20] (fun z:Nat × Nat=>[(5,Il z.1 0 0),(6,Il z.2 0 0)]) (fun z=>[.row z.1 149 0 [] [.int .i64 n.Af[i].Ai,.slice a8 n.Af[i].Ah.length c8] [],.row z.2 156 0 [] [.bool n.Ac[i].Bd,.int .i64 n.Ac[i].Ai,.int .i64 n.Ac[i].Aa.next,.slice a9 n.Ac[i].Aa.Al.length c9,.slice a10 n.Ac[i].Am.length c10] []]) (fun _=>True) ?_ fun z _=>?_
 ·refine As [0,6,10] [] ?_;refine Dq 0 1 2 3 ?_;refine Dq 4 5 6 7 ?_;refine Ec 8 9 ?_;refine dM 10 11 ?_ ?_
  ·apply Cr;rfl;intro _;refine dk ?_;refine dN 11 ?_;exact AO
  ·apply Cr;rfl;intro _;refine dk ?_;refine dN 10 ?_;exact AO
 refine go ?_;refine Ca (Ale n.down[i] _ _ F11) fun _ _=>?_;cases g1:Fc n.down[i]
 ·rw [Bb1 (by rw [g1];rfl)];exact AA
 refine go ?_;refine Ca (Ale n.up[i] _ _ F12) fun _ _=>?_;cases g2:Fc n.up[i]
 ·rw [Bb1 (by rw [g1,g2];rfl)];exact AA
 have u6:n.up[i].length≤6:=by
  unfold Fc at g2;simp only [Bool.and_eq_true,decide_eq_true_eq] at g2;exact g2.1
 refine go ?_;refine cb (fun w st=>(Aud 174 [] [] [] rfl n.up[i] a12 c12 F12 (fun p=>!decide (p.Cp=3)) FJ FH (fun p hp w _=>(Bhi p).val w (by intro q hq;cases hq))).val w (El (st.get (p:=.sl _ _ _ _) FL))) ?_;rw [Bfy];cases g3:upQ n.up[i]
 ·rw [Bb1 (by rw [g1,g2,g3];rfl)];exact AA
 rw [Bhz (by rw [g1,g2,g3];rfl)];refine go ?_;refine A1 rfl (fun h0=>?_) (fun h0=>?_)
 ·obtain rfl:i=0:=FH
  rw [if_pos rfl];refine go ?_;refine Ca (Xu n.Af[0] _ F8) fun _ _=>?_;cases g4:Na n.Af[0]
  ·exact AA
  refine go ?_;refine Ca (Vu n.Ac[0] _ (F9++F10)) fun _ _=>?_;cases g5:Uo n.Ac[0]
  ·exact AA
  refine go ?_;refine Dy rfl rfl (fun h6=>?_) (fun h6=>?_)
  ·refine go ?_;refine ret () trivial ?_;rw [←Auz n.down[0],←Auz n.up[0],decide_eq_true h6];rfl
  ·refine go ?_;refine ret () trivial ?_;rw [←Auz n.down[0],decide_eq_false h6];rfl
 rw [if_neg FH];refine go ?_;refine Ca (Yi n.Ao i _ F1) fun _ _=>?_;cases g6:Eo n.Ao.Ad i
 ·rw [if_neg FK];refine go ?_;refine cb (fun w st=>Vh _ n.Af[i] F8 w (st.get (p:=.isv _ _ _ _) FL)) ?_;cases g4:Ba n.Af[i]
  ·exact AA
  refine go ?_;refine Dy rfl rfl (fun h7=>?_) (fun h7=>?_)
  ·refine go ?_;refine Ca (Vu n.Ac[i] _ (F9++F10)) fun _ _=>?_;refine go ?_;refine ret () trivial ?_;rw [decide_eq_true h7];rfl
  ·refine go ?_;refine ret () trivial ?_;rw [decide_eq_false h7];rfl
 ·rw [if_pos rfl];refine go ?_;refine Ca (Xu n.Af[i] _ F8) fun _ _=>?_;cases g4:Na n.Af[i]
  ·exact AA
  refine go ?_;refine Ca (Uu n.Ac[i] _ (F9++F10)) fun _ _=>?_;cases g5:Bv n.Ac[i]
  ·exact AA
  exact AA
theorem Abr (n:Dv) (v:Value) (F:List Nat):FV 45 [v] [.isv Ny v n F] (.bool (At n)):=by
 refine enter func45 rfl ntmps45 fun w0=>?_;refine Ho ?_;rintro a1 c1 F1 a2 c2 F2 a3 c3 F3 a4 c4 F4 a5 c5 F5 a6 c6 F6 a7 c7 F7 rfl l1 l2 l3 l4 l5 l6 l7;unfold maxLen at l1 l2 l3 l4 l5 l6 l7;refine I3 n.Ao ?_;refine Hf n.Ab ?_;refine go ?_;intros;refine Ca (Ajr n.Ao _ F1) fun _ _=>?_;cases g1:Kc n.Ao
 ·rw [show At n=false by unfold At;rw [g1];rfl];exact AA
 refine go ?_;refine Ca (Afz n.Ab _ (F2++F3)) fun _ _=>?_;cases g2:Cz n.Ab
 ·rw [show At n=false by unfold At;rw [g1,g2];rfl];exact AA
 refine go ?_;refine Dy rfl rfl (fun m0=>?_) (fun m0=>?_)
 ·rw [show At n=false by
   have:L9 n=false:=by
    cases hl:L9 n
    ·rfl
    ·obtain ⟨q1,q2,q3,q4⟩:=Bl.1 hl;exact absurd FH m0
   unfold At;rw [this];simp]
  exact AA
 refine go ?_;refine Dy rfl rfl (fun m1=>?_) (fun m1=>?_)
 ·rw [show At n=false by
   have:L9 n=false:=by
    cases hl:L9 n
    ·rfl
    ·obtain ⟨q1,q2,q3,q4⟩:=Bl.1 hl;exact absurd FH m1
   unfold At;rw [this];simp]
  exact AA
 refine go ?_;refine Dy rfl rfl (fun m2=>?_) (fun m2=>?_)
 ·rw [show At n=false by
   have:L9 n=false:=by
    cases hl:L9 n
    ·rfl
    ·obtain ⟨q1,q2,q3,q4⟩:=Bl.1 hl;exact absurd FH m2
   unfold At;rw [this];simp]
  exact AA
 refine go ?_;refine A1 rfl (fun m3=>?_) (fun m3=>?_)
 ·rw [show At n=false by
   have:L9 n=false:=by
    cases hl:L9 n
    ·rfl
    ·obtain ⟨q1,q2,q3,q4⟩:=Bl.1 hl;exact absurd FH m3
   unfold At;rw [this];simp]
  exact AA
 have q1:n.Af.length=n.Ao.Ad.length:=FH
 have q2:n.Ac.length=n.Ao.Ad.length:=FH
 have q3:n.down.length=n.Ao.Ad.length:=FH
 have q4:n.up.length=n.Ao.Ad.length:=FH
 have hl:=Bl.2 ⟨q1,q2,q3,q4⟩;refine go ?_;refine Eh [1,2,47] (fun k:Nat=>[(48,.int .i64 (k:Nat))]) (fun k=>k≤n.Ao.Ad.length∧∀j,j < k→T7 n j=true) (fun k=>n.Ao.Ad.length - k) 0 ⟨Nat.zero_le _,fun j h=>by omega⟩ fun k hk=>?_;obtain ⟨hk1,hk2⟩:=hk;refine go ?_;refine A1 rfl (fun h1=>?_) (fun h1=>?_)
 ·have hh:k < n.Ao.Ad.length:=FH
  refine go ?_;refine Ca (Aj1 n k _ F hl hh) fun _ _=>?_;cases g:T7 n k
  ·rw [Ahp hh g];exact AA
  refine go ?_;refine Cg (k+1) ⟨hh,fun j hj=>?_⟩ GR;rcases Nat.lt_or_eq_of_le (Nat.lt_succ_iff.1 hj) with h|rfl
  ·exact hk2 j h
  ·exact g
 ·obtain rfl:k=n.Ao.Ad.length:=FH
  refine go ?_;refine ret () trivial ?_;rw [Uw.2 ⟨g1,g2,hl,hk2⟩];rfl
theorem Ave {par:List Int} {clk:Int} {i:Nat} {e:Bf} {r:Ay} {d u:List Ar} (h:(Ba e && Bv r && Fc d && (Fc u && upQ u))=false):Rk par clk i e r d u=false:=by rw [←Aej];unfold Aiw;rw [h];rfl
theorem Bh0 {par:List Int} {clk:Int} {i:Nat} {e:Bf} {r:Ay} {d u:List Ar} (h:(Ba e && Bv r && Fc d && (Fc u && upQ u))=true):Rk par clk i e r d u=(if i=0 then Na e && (!r.Bd && decide (r.Ai=0)) && decide (d.length+u.length=0)
  else if Eo par i then Na e && decide (r.Ai=clk) else (!r.Bd && decide (r.Ai=0)) && decide (e.Ai=clk)):=by rw [←Aej];unfold Aiw;rw [h,Bool.true_and]
theorem Ber (n:Dv) (i:Nat) (v:Value) (F:List Nat) (hl:L9 n=true) (hi:i < n.Ao.Ad.length) (hg:Vg n.Ao.Ad):FV 69 [v,.int .i64 (i:Nat)] [.isv Ny v n F] (.bool (T7 n i)):=by
 obtain ⟨q1,q2,q3,q4⟩:=Bl.1 hl;rw [Vm FH FH FH FH];refine enter func69 rfl ntmps69 fun w0=>?_;refine Ho ?_;rintro a1 c1 F1 a2 c2 F2 a3 c3 F3 a4 c4 F4 a5 c5 F5 a6 c6 F6 a7 c7 F7 rfl l1 l2 l3 l4 l5 l6 l7;unfold maxLen at l1 l2 l3 l4 l5 l6 l7;refine I3 n.Ao ?_;refine Q6 (xs:=n.Af) i ?_;rintro hi4 b4 o4 a8 c8 F8 rfl l8;refine Nf n.Af[i] ?_;refine Kr (xs:=n.Ac) i ?_;rintro hi5 b5 o5 a9 c9 F9 a10 c10 F10 rfl l9 l10;refine Ep n.Ac[i] ?_;refine Nz (E:=Ak) (hz:=FK) (xs:=n.down) i ?_;rintro hi6 b6 o6 a11 c11 F11 rfl l11
 refine Nz (E:=Ak) (hz:=FK) (xs:=n.up) i ?_;rintro hi7 b7 o7 a12 c12 F12 rfl l12;unfold maxLen at l8 l9 l10 l11 l12;refine go ?_;intros;refine Ew [1,2,4] [0,1,2,3,4,5,6,7,8,9,10,11,12,13,14,15,16,17,18,19,20] (fun z:Nat × Nat=>[(5,Il z.1 0 0),(6,Il z.2 0 0)]) (fun z=>[.row z.1 149 0 [] [.int .i64 n.Af[i].Ai,.slice a8 n.Af[i].Ah.length c8] [],.row z.2 156 0 [] [.bool n.Ac[i].Bd,.int .i64 n.Ac[i].Ai,.int .i64 n.Ac[i].Aa.next,.slice a9 n.Ac[i].Aa.Al.length c9,.slice a10 n.Ac[i].Am.length c10] []]) (fun _=>True) ?_ fun z _=>?_
 ·refine As [0,6,10] [] ?_;refine Dq 0 1 2 3 ?_;refine Dq 4 5 6 7 ?_;refine Ec 8 9 ?_;refine dM 10 11 ?_ ?_
  ·apply Cr;rfl;intro _;refine dk ?_;refine dN 11 ?_;exact AO
  ·apply Cr;rfl;intro _;refine dk ?_;refine dN 10 ?_;exact AO
 refine go ?_;refine cb (fun w st=>Ali _ n.Af[i] F8 w (st.get (p:=.isv _ _ _ _) FL)) ?_;cases g1:Ba n.Af[i]
 ·rw [Ave (by rw [g1];rfl)];exact AA
 refine go ?_;refine Ca (Alh n.Ac[i] _ (F9++F10)) fun _ _=>?_;cases g2:Bv n.Ac[i]
 ·rw [Ave (by rw [g1,g2];rfl)];exact AA
 refine go ?_;refine Ca (Ah1 n.down[i] false _ _ F11 FH) fun _ _=>?_;rw [show (Fc n.down[i] && (!false || upQ n.down[i]))=Fc n.down[i] by simp];cases g3:Fc n.down[i]
 ·rw [Ave (by rw [g1,g2,g3];rfl)];exact AA
 refine go ?_;refine Ca (Ah1 n.up[i] true _ _ F12 FH) fun _ _=>?_;rw [show (Fc n.up[i] && (!true || upQ n.up[i]))=(Fc n.up[i] && upQ n.up[i]) by simp];cases g4:(Fc n.up[i] && upQ n.up[i])
 ·rw [Ave (by rw [g1,g2,g3,g4];rfl)];exact AA
 rw [Bh0 (by rw [g1,g2,g3,g4];rfl)]
 repeat (first|apply Qx|(apply wO;apply oc;rfl;exact ydE)|apply Xy|apply Abd|(apply Aru;rfl;rfl)|(apply Art;rfl;rfl;rfl;rfl)|(apply Arv;rfl;rfl;rfl)|(apply c_t;rfl)|(apply c_f;rfl)|apply Wr|apply Tc|apply Afh)
 refine Ew [1,2,4,5,6] [0,1,2,3,4,5,6,7,8,9,10,11,12,13,14,15,16,17,18,19,20,21,22] (fun _:Unit=>[(7,.bool (Na n.Af[i]))]) (fun _=>[]) (fun _=>True) ?_ fun _ _=>?_
 ·refine go ?_;refine Dy rfl rfl (fun h1=>?_) (fun h1=>?_)
  ·refine go ?_;rw [show decide ((n.Af[i].Ah.length:Int)=0)=Na n.Af[i] by unfold Na;rw [decide_eq_true h1,Auz];rfl];refine Br () trivial
  ·refine go ?_;rw [show false=Na n.Af[i] by unfold Na;rw [decide_eq_false h1];rfl];refine Br () trivial
 repeat (first|apply Qx|(apply wO;apply oc;rfl;exact ydE)|apply Xy|apply Abd|(apply Aru;rfl;rfl)|(apply Art;rfl;rfl;rfl;rfl)|(apply Arv;rfl;rfl;rfl)|(apply c_t;rfl)|(apply c_f;rfl)|apply Wr|apply Tc|apply Afh)
 refine Ew [1,2,4,5,6,7] [0,1,2,3,4,5,6,7,8,9,10,11,12,13,14,15,16,17,18,19,20,21,22] (fun _:Unit=>[(8,.bool (!n.Ac[i].Bd && decide (n.Ac[i].Ai=0)))]) (fun _=>[]) (fun _=>True) ?_ fun _ _=>?_
 ·cases hs:n.Ac[i].Bd
  ·exact CM
  ·exact CM
 refine Ot ?_;generalize hzr:(!n.Ac[i].Bd && decide (n.Ac[i].Ai=0))=zr;refine go ?_;refine A1 rfl (fun h0=>?_) (fun h0=>?_)
 ·obtain rfl:i=0:=FH
  rw [if_pos rfl];have hd6:(n.down[0].length:Int)+(n.up[0].length:Int)≤12:=by
   unfold Fc at g3 g4;simp only [Bool.and_eq_true,decide_eq_true_eq] at g3 g4;omega
  cases hze:Na n.Af[0] <;> cases zr
  ·refine go ?_;refine As [2,3,5] [] ?_;refine Ec 0 1 ?_;refine ds 2 ?_;exact BA
  ·refine go ?_;refine As [2,3,5] [] ?_;refine Ec 0 1 ?_;refine ds 2 ?_;exact BA
  ·refine go ?_;refine As [2,3,5] [] ?_;refine Ec 0 1 ?_;refine Do 2 ?_;exact BA
  ·refine go ?_;refine As [2,3,5] [] ?_;refine Ec 0 1 ?_;refine Do 2 ?_;refine Ec 3 4 ?_;refine Do 5 ?_;refine Do 6 ?_;refine Do 7 ?_;refine Do 8 ?_;refine Do 9 ?_;refine Do 10 ?_;refine Do 11 ?_;refine Do 12 ?_;refine Do 13 ?_;refine Do 14 ?_;refine Do 15 ?_;refine Do 16 ?_;refine Ec 17 18 ?_;refine dd ?_;refine go ?_;refine ret () trivial ?_;rw [show decide ((n.down[0].length:Int)+(n.up[0].length:Int)=0)=decide (n.down[0].length+n.up[0].length=0) by congr 1;rw [eq_iff_iff];omega];rfl
 rw [if_neg FH];refine go ?_;refine Ca (O1 n.Ao i _ F1 hg FH) fun _ _=>?_;cases g6:Eo n.Ao.Ad i
 ·rw [if_neg FK];cases zr
  ·exact AA
  ·exact AA
 ·rw [if_pos rfl];cases hze:Na n.Af[i]
  ·exact AA
  ·exact AA
theorem Ad0 (n:Dv) (v:Value) (F:List Nat):FV 33 [v] [.isv Ny v n F] (.bool (At n)):=by
 refine enter func33 rfl ntmps33 fun w0=>?_;refine Ho ?_;rintro a1 c1 F1 a2 c2 F2 a3 c3 F3 a4 c4 F4 a5 c5 F5 a6 c6 F6 a7 c7 F7 rfl l1 l2 l3 l4 l5 l6 l7;unfold maxLen at l1 l2 l3 l4 l5 l6 l7;refine I3 n.Ao ?_;refine Hf n.Ab ?_;refine go ?_;intros;refine Ca (Ba2 n.Ao _ F1) fun _ _=>?_;cases g1:Kc n.Ao
 ·rw [show At n=false by unfold At;rw [g1];rfl];exact AA
 refine go ?_;refine Ca (Aw2 n.Ab _ (F2++F3)) fun _ _=>?_;cases g2:Cz n.Ab
 ·rw [show At n=false by unfold At;rw [g1,g2];rfl];exact AA
 refine go ?_;refine Dy rfl rfl (fun m0=>?_) (fun m0=>?_)
 ·rw [show At n=false by
   have:L9 n=false:=by
    cases hl:L9 n
    ·rfl
    ·obtain ⟨q1,q2,q3,q4⟩:=Bl.1 hl;exact absurd FH m0
   unfold At;rw [this];simp]
  exact AA
 refine go ?_;refine Dy rfl rfl (fun m1=>?_) (fun m1=>?_)
 ·rw [show At n=false by
   have:L9 n=false:=by
    cases hl:L9 n
    ·rfl
    ·obtain ⟨q1,q2,q3,q4⟩:=Bl.1 hl;exact absurd FH m1
   unfold At;rw [this];simp]
  exact AA
 refine go ?_;refine Dy rfl rfl (fun m2=>?_) (fun m2=>?_)
 ·rw [show At n=false by
   have:L9 n=false:=by
    cases hl:L9 n
    ·rfl
    ·obtain ⟨q1,q2,q3,q4⟩:=Bl.1 hl;exact absurd FH m2
   unfold At;rw [this];simp]
  exact AA
 refine go ?_;refine A1 rfl (fun m3=>?_) (fun m3=>?_)
 ·rw [show At n=false by
   have:L9 n=false:=by
    cases hl:L9 n
    ·rfl
    ·obtain ⟨q1,q2,q3,q4⟩:=Bl.1 hl;exact absurd FH m3
   unfold At;rw [this];simp]
  exact AA
 have q1:n.Af.length=n.Ao.Ad.length:=FH
 have q2:n.Ac.length=n.Ao.Ad.length:=FH
 have q3:n.down.length=n.Ao.Ad.length:=FH
 have q4:n.up.length=n.Ao.Ad.length:=FH
 have hl:=Bl.2 ⟨q1,q2,q3,q4⟩;refine go ?_;refine Eh [1,2,3] (fun k:Nat=>[(4,.int .i64 (k:Nat))]) (fun k=>k≤n.Ao.Ad.length∧∀j,j < k→T7 n j=true) (fun k=>n.Ao.Ad.length - k) 0 ⟨Nat.zero_le _,fun j h=>by omega⟩ fun k hk=>?_;obtain ⟨hk1,hk2⟩:=hk;refine go ?_;refine A1 rfl (fun h1=>?_) (fun h1=>?_)
 ·have hh:k < n.Ao.Ad.length:=FH
  refine go ?_;refine Ca (Ber n k _ F hl hh (H8 g1)) fun _ _=>?_;cases g:T7 n k
  ·rw [Ahp hh g];exact AA
  refine go ?_;refine Cg (k+1) ⟨hh,fun j hj=>?_⟩ GR;rcases Nat.lt_or_eq_of_le (Nat.lt_succ_iff.1 hj) with h|rfl
  ·exact hk2 j h
  ·exact g
 ·obtain rfl:k=n.Ao.Ad.length:=FH
  refine go ?_;refine ret () trivial ?_;rw [Uw.2 ⟨g1,g2,hl,hk2⟩];rfl
structure StZ where
 cs:List Value
 F:List Nat
 a:Option Addr
 c:Nat
 Fe:List Nat
theorem Arh {n:Dv} (hg:At n=true) (hc:n.Ab.Ai < 9999):∀k,k+1≤n.Ao.Ad.length→(Be n k).2.length≤40000 * k
 | 0,_=>Nat.le_refl _
 | k+1,hk=>by
  have h:=Arh hg hc k FH;obtain ⟨hGN,hT,hSrc⟩:=Qc hg hc k FH;obtain ⟨i1,i2,i3,i4,hrn⟩:=hGN.rn (i:=k+1) (by rw [hT];omega);show ((Be n k).2++(N9 (Be n k).1 (k+1)).2).length≤_;rw [List.length_append];have:(N9 (Be n k).1 (k+1)).2.length≤40000:=by
   unfold N9
   split
   ·rename_i hl;have hgr:=Ek.1 (hrn.hf FH hl).2.1;obtain ⟨-,hfew⟩:=Aeq hgr;rw [Hh i2];show ((Hw _).map _).length≤_;rw [List.length_map];omega
   ·exact Nat.zero_le _
  omega
theorem Aq7 {n:Dv} {s:Kh} {r:Dv × List ByteArray} (hg:At n=true) (hs:Es s=true) (hr:Bo n s=some r):r.2.length≤400000:=by
 have hG:=Az.1 hg;have h8:=H8 hG.t;have hn8:=h8.n1;have hn2:=h8.n0;have hck:=Y2 hG.s;have hr0:=hr;unfold Bo at hr
 split at hr
 ·cases hr;exact Nat.zero_le _
 split at hr
 ·split at hr
  ·cases hr
  ·cases hr;have:=Arh hg FH (n.Ao.Ad.length - 1) FH;show (Be n (n.Ao.Ad.length - 1)).2.length≤_;omega
 unfold C2 at hr
 split at hr
 ·cases hr
 split at hr
 ·cases hr
 split at hr
 ·rename_i h1 h4 hlt h0 hk;cases hr;have hgp:=Mb (s:=s) hg;have hGp:=Az.1 hgp;have hf:Q0 s.node=true:=by
   have:=hs;unfold Es at this;rw [if_neg h1,if_neg h4] at this;simp only [Bool.and_eq_true] at this;exact this.1.2
  obtain ⟨f1,f2⟩:=O0.1 hf;have hpt:(Hb n s).Ao=n.Ao:=KP
  obtain ⟨i1,i2,i3,i4,hrn⟩:=hGp.rn (i:=s.node.toNat) (by rw [hpt];omega);unfold C4
  split
  ·rename_i hl;have hgr:=Ek.1 (hrn.hf FH hl).2.1;obtain ⟨d0,d1⟩:=Adm (i:=s.node.toNat);have hp:Bt (N1 (Va n s))=true:=Nu (M0 (s:=s) hg).1 (Pl FH);have:=(Vs hgr hp d0 d1).2;rw [Hh i2];show ((Io _ _).map _).length≤_;rw [List.length_map];omega
  ·exact Nat.zero_le _
 split at hr
 ·cases hr;exact Nat.zero_le _
 ·cases hr;exact Nat.zero_le _
abbrev NE:=Dv × List ByteArray
def Ja (i:Nat):Kh:=⟨2,(i:Int),⟨#[]⟩⟩
def Mr (i:Nat):Kh:=⟨5,(i:Int),⟨#[]⟩⟩
def Nl (x:NE) (s:Kh):NE:=(Ib x.1 (Bo x.1 s),x.2++Wa (Bo x.1 s))
def Au3 (x:NE) (i:Nat):NE:=Nl (Nl x (Ja i)) (Mr i)
def Ia (x:NE):Nat→NE
 | 0=>x
 | k+1=>Au3 (Ia x k) (k+1)
def Xd (x:NE):NE:=Ia x (x.1.Ao.Ad.length - 1)
def Rd (x:NE):Nat→Bool
 | 0=>false
 | k+1=>Rd x k || (Bo (Ia x k).1 (Ja (k+1))).isSome || (Bo (Nl (Ia x k) (Ja (k+1))).1 (Mr (k+1))).isSome
def qd (l:List (List Ar)):Nat:=(l.map List.length).sum
def Yv (n:Dv):Nat:=qd n.down+qd n.up
def vd (i:Nat):Nat:=8 ^ (7 - i)
def vu (i:Nat):Nat:=524289 * i
def wN (n:Dv):Nat:=Mu vd 0 n.down+Mu vu 0 n.up
def T8:Nat→NE→NE
 | 0,x=>x
 | f+1,x=>if Yv x.1=0 then x else T8 f (Xd x)
def drE (x:NE):NE:=T8 (wN x.1) x
def Q9 (n:Dv):NE:=drE (n,[])
theorem Bdc (i:Nat):0 < vd i:=Nat.pow_pos FK
theorem Bgp {i:Nat} (h:1≤i):vd i≤262144:=Nat.le_trans (Nat.pow_le_pow_right (n:=8) FK (show 7 - i≤6 by omega)) FK
theorem Bdb {nodes:List Int} {i:Nat} (hl:nodes.length≤7) (h:∀x∈nodes,i < x.toNat∧x.toNat≤7):Abl vd nodes+1≤vd i:=by
 cases nodes with
 | nil=>exact Bdc i
 | cons x r =>
  obtain ⟨a,b⟩:=h x FI;have h1:=Amh vd (8 ^ (6 - i)) (x::r) fun y hy=>by
   have:=h y hy;exact Nat.pow_le_pow_right FK FH
  have h2:=Nat.mul_le_mul_right (8 ^ (6 - i)) hl;have h3:0 < 8 ^ (6 - i):=Nat.pow_pos FK;have h4:vd i=8 ^ (6 - i) * 8:=by unfold vd;rw [←Nat.pow_succ];congr 1;omega
  omega
theorem Bgq {i p:Nat} (h0:1≤i) (h:p < i):2 * vd i+vu p+1≤vu i:=by
 have h1:=Bgp h0;unfold vu;omega
theorem Baw {l:List Int} (hg:Vg l) (i:Nat):(Iw l (i:Int)).length≤7:=by
 have h0:=hg.n0;have h1:=hg.n1;rw [←Alf (Tw hg.z (Int.natCast_nonneg i)) (k:=l.length - 1) FH];have:=Alg l (i:Int) (l.length - 1);omega
theorem Apf {e:Bf} (he:Ba e=true) {n:Int} {l:List Int} (hl:l.length≤7):(Vp e n l).length≤7:=by
 unfold Vp
 split
 ·rename_i x hx;exact Nat.le_trans (List.length_filter_le _ _) ((Vq he).2.2 x (List.mem_of_getElem? hx))
 ·split
  ·exact hl
  ·exact Nat.zero_le _
theorem Bed {n:Dv} (hg:At n=true) (i:Nat) (p:Ar):(Af4 n i p).length≤7∧∀x∈Af4 n i p,i < x.toNat∧x.toNat≤7:=by
 have hG:=Az.1 hg;have h8:=H8 hG.t;have hn8:=h8.n1;have hk:=Baw h8 i;have hb:∀x∈Aaf n i,i < x.toNat∧x.toNat≤7:=fun x hx=>by
  have:=L0 h8 hx;omega
 unfold Af4
 split
 ·refine ⟨?_,fun x hx=>hb x (Ab2 x hx)⟩;by_cases hi:i < n.Af.length
  ·have ee:Qi n i=n.Af[i]:=by unfold Qi;rw [List.getD_eq_getElem?_getD,List.getElem?_eq_getElem hi];rfl
   rw [ee];exact Apf ((In hg).1 _ (List.getElem_mem hi)) hk
  ·have ee:Qi n i=⟨0,[]⟩:=by unfold Qi;rw [List.getD_eq_getElem?_getD,List.getElem?_eq_none FH];rfl
   rw [ee];exact Apf FK hk
 ·exact ⟨hk,hb⟩
theorem Bd9 {n:Dv} (hg:At n=true) (i:Nat) (p:Ar):wN (C4 n i p).1+1≤wN n+vd i:=by
 have h0:=Bdc i;unfold C4
 split
 ·show wN n+1≤_;omega
 ·obtain ⟨h1,h2⟩:=Bed hg i p;have h3:=Bdb h1 h2;have h4:=U5 vd [p] (Af4 n i p) n.down;show Mu vd 0 (Dn n.down (Af4 n i p) [p])+Mu vu 0 n.up+1≤Mu vd 0 n.down+Mu vu 0 n.up+vd i;simp only [List.length_singleton,Nat.one_mul] at h4;omega
theorem Bby (x:Cj) (p:Ar):(Oc x p).length≤2:=by
 unfold Oc
 split
 ·split
  ·exact (by decide:1≤2)
  ·exact (by decide:2≤2)
 ·exact (by decide:1≤2)
theorem Bkk {n:Dv} (hg:At n=true) {i:Nat} (h0:1≤i) (hi:i < n.Ao.Ad.length) (p:Ar):wN (Q5 n i p)+1≤wN n+vu i:=by
 have hG:=Az.1 hg;have h8:=H8 hG.t;have hn8:=h8.n1;have hv:=Bgp h0;have hone:Abl vd [((i:Nat):Int)]=vd i:=by show vd ((i:Nat):Int).toNat+0=_;rfl
 unfold Q5
 split
 ·have h4:=U5 vd (Oc n.Ab p) [((i:Nat):Int)] n.down;have h5:=Nat.mul_le_mul_right (vd i) (Bby n.Ab p);rw [hone] at h4;have h6:=Bgq (p:=0) h0 FH;show Mu vd 0 (Dn n.down [((i:Nat):Int)] (Oc n.Ab p))+Mu vu 0 n.up+1≤Mu vd 0 n.down+Mu vu 0 n.up+vu i;omega
 ·rename_i hp;have hlt:Z4 n i < i:=by
   have:=h8.p i hi FH;unfold Z4;rw [List.getD_eq_getElem?_getD,List.getElem?_eq_getElem hi];show (n.Ao.Ad[i]).toNat < i;omega
  have h4:=U5 vd [Aax p] [((i:Nat):Int)] n.down;rw [hone] at h4;simp only [List.length_singleton,Nat.one_mul] at h4;have h6:=Bgq h0 hlt;have h7:=Arx vu n.up (Z4 n i) [p];simp only [List.length_singleton,Nat.one_mul] at h7;show Mu vd 0 (Dn n.down [((i:Nat):Int)] [Aax p])+Mu vu 0 (if Adp (Qi n (Z4 n i)) p.Ae then n.up.modify (Z4 n i) fun q=>Hq q [p] else n.up)+1≤Mu vd 0 n.down+Mu vu 0 n.up+vu i
  split <;> omega
theorem Bgk (f:Nat→Nat) {l:List (List Ar)} {i:Nat} (hi:i < l.length) (h0:¬(l.getD i []).length=0):Mu f 0 (l.modify i (·.drop 1))+f i=Mu f 0 l:=by
 rw [Qj hi] at h0;rw [Ik hi];exact Bdi f l i hi FH
theorem Zr {n:Dv} {i:Nat} (hi:i < n.Ao.Ad.length):Bo n (Ja i)=if (n.down.getD i []).length=0 then none else some (C4 (Rf n i) i (N1 (n.down.getD i []))):=by
 unfold Bo;rw [if_neg (by show ¬(2:Int)=1;decide),if_neg (by show ¬(2:Int)=4;decide)];unfold C2;rw [if_neg (by show ¬((n.Ao.Ad.length:Int)≤(i:Int));omega)];rfl
theorem Xf {n:Dv} {i:Nat} (hi:i < n.Ao.Ad.length):Bo n (Mr i)=if (n.up.getD i []).length=0 then none else some (Q5 (Pb n i) i (N1 (n.up.getD i [])),[]):=by
 unfold Bo;rw [if_neg (by show ¬(5:Int)=1;decide),if_neg (by show ¬(5:Int)=4;decide)];unfold C2;rw [if_neg (by show ¬((n.Ao.Ad.length:Int)≤(i:Int));omega)];rfl
theorem Be5 {i:Nat} (h0:1≤i) (h:i≤7):Es (Ja i)=true:=by
 unfold Es;rw [if_neg (by show ¬(2:Int)=1;decide),if_neg (by show ¬(2:Int)=4;decide)];have:Q0 (Ja i).node=true:=O0.2 (by show 1≤((i:Nat):Int)∧((i:Nat):Int)≤7;omega);rw [this];rfl
theorem Bbm {i:Nat} (h0:1≤i) (h:i≤7):Es (Mr i)=true:=by
 unfold Es;rw [if_neg (by show ¬(5:Int)=1;decide),if_neg (by show ¬(5:Int)=4;decide)];have:Q0 (Mr i).node=true:=O0.2 (by show 1≤((i:Nat):Int)∧((i:Nat):Int)≤7;omega);rw [this];rfl
theorem Av4 {n:Dv} (hg:At n=true) {i:Nat} {p:Ar} (hp:Bt p=true) (h0:1≤i) (hi:i < n.Ao.Ad.length):(C4 n i p).2.length≤24:=by
 obtain ⟨i1,i2,i3,i4,hrn⟩:=(Az.1 hg).rn hi;unfold C4
 split
 ·rename_i hl;have hgr:=Ek.1 (hrn.hf FH hl).2.1;obtain ⟨d0,d1⟩:=Adm (i:=i);have:=(Vs hgr hp d0 d1).2;rw [Hh i2];show ((Io _ _).map _).length≤_;rw [List.length_map];exact this
 ·exact Nat.zero_le _
theorem Bi3 (n:Dv) (i:Nat) (p:Ar):(C4 n i p).1.Ab=n.Ab:=by unfold C4;split <;> rfl
theorem Bi4 (n:Dv) (i:Nat) (p:Ar):(Q5 n i p).Ab.Ai=n.Ab.Ai:=by
 unfold Q5
 split
 ·show (M3 n.Ab p.Ae).Ai=_;unfold M3
  split <;> rfl
 ·rfl
structure Wl (x y:NE):Prop where
 g:At y.1=true
 t:y.1.Ao=x.1.Ao
 c:y.1.Ab.Ai=x.1.Ab.Ai
 e:y.2.length+24 * wN y.1≤x.2.length+24 * wN x.1
 w:wN y.1≤wN x.1
theorem Wl.refl {x:NE} (h:At x.1=true):Wl x x:=⟨h,rfl,rfl,Nat.le_refl _,Nat.le_refl _⟩
theorem Wl.trans {x y z:NE} (h:Wl x y) (k:Wl y z):Wl x z:=⟨k.g,k.t.trans h.t,k.c.trans h.c,Nat.le_trans k.e h.e,Nat.le_trans k.w h.w⟩
theorem J3 {x:NE} {s:Kh} (h:Bo x.1 s=none):Nl x s=x:=by
 unfold Nl;rw [h];show (x.1,x.2++[])=x;rw [List.append_nil]
theorem Zt {x:NE} {s:Kh} {r:NE} (h:Bo x.1 s=some r):Nl x s=(r.1,x.2++r.2):=by
 unfold Nl;rw [h];rfl
theorem Aro {x:NE} (hg:At x.1=true) {i:Nat} (h0:1≤i) (hi:i < x.1.Ao.Ad.length):Wl x (Nl x (Ja i))∧((Bo x.1 (Ja i)).isSome=true→wN (Nl x (Ja i)).1 < wN x.1):=by
 have hG:=Az.1 hg;have hn8:=(H8 hG.t).n1;obtain ⟨q1,q2,q3,q4⟩:=Bl.1 hG.l;cases e:Bo x.1 (Ja i) with
 | none =>
  rw [J3 e];exact ⟨.refl hg,fun h=>by cases h⟩
 | some r =>
  have hr:=Nv hg (Be5 h0 FH) e;have ht:=T4 e;rw [Zt e];rw [Zr hi] at e
  split at e
  ·cases e
  ·rename_i hq;cases e;have hp:=GN.pd (Az.1 hg) i;have hpg:At (Rf x.1 i)=true:=Az.2 hp;have h1:=Bd9 hpg i (N1 (x.1.down.getD i []));have h2:wN (Rf x.1 i)+vd i=wN x.1:=by
    have:=Bgk vd (l:=x.1.down) (i:=i) FH hq;show Mu vd 0 (x.1.down.modify i (·.drop 1))+Mu vu 0 x.1.up+vd i=Mu vd 0 x.1.down+Mu vu 0 x.1.up;omega
   have hpk:Bt (N1 (x.1.down.getD i []))=true:=Nu (M0 (s:=Ja i) hg).1 (Pl (by show 0 < (x.1.down.getD i []).length;omega));have h3:=Av4 hpg hpk h0 hi;have hlt:wN (C4 (Rf x.1 i) i (N1 (x.1.down.getD i []))).1 < wN x.1:=FH
   refine ⟨⟨hr,ht,by rw [Bi3];rfl,?_,Nat.le_of_lt hlt⟩,fun _=>hlt⟩;show (x.2++_).length+24 * wN (C4 (Rf x.1 i) i (N1 (x.1.down.getD i []))).1≤_;rw [List.length_append];omega
theorem Bc4 {x:NE} (hg:At x.1=true) {i:Nat} (h0:1≤i) (hi:i < x.1.Ao.Ad.length):Wl x (Nl x (Mr i))∧((Bo x.1 (Mr i)).isSome=true→wN (Nl x (Mr i)).1 < wN x.1)∧(Nl x (Mr i)).2=x.2:=by
 have hG:=Az.1 hg;have hn8:=(H8 hG.t).n1;obtain ⟨q1,q2,q3,q4⟩:=Bl.1 hG.l;cases e:Bo x.1 (Mr i) with
 | none =>
  rw [J3 e];exact ⟨.refl hg,fun h=>(by cases h),rfl⟩
 | some r =>
  have hr:=Nv hg (Bbm h0 FH) e;have ht:=T4 e;rw [Zt e];rw [Xf hi] at e
  split at e
  ·cases e
  ·rename_i hq;cases e;have hp:=GN.pu (Az.1 hg) i;have hpg:At (Pb x.1 i)=true:=Az.2 hp;have h1:=Bkk hpg h0 hi (N1 (x.1.up.getD i []));have h2:wN (Pb x.1 i)+vu i=wN x.1:=by
    have:=Bgk vu (l:=x.1.up) (i:=i) FH hq;show Mu vd 0 x.1.down+Mu vu 0 (x.1.up.modify i (·.drop 1))+vu i=Mu vd 0 x.1.down+Mu vu 0 x.1.up;omega
   have hlt:wN (Q5 (Pb x.1 i) i (N1 (x.1.up.getD i []))) < wN x.1:=FH
   refine ⟨⟨hr,ht,by rw [Bi4];rfl,?_,Nat.le_of_lt hlt⟩,fun _=>hlt,List.append_nil _⟩;show (x.2++[]).length+24 * wN (Q5 (Pb x.1 i) i (N1 (x.1.up.getD i [])))≤_;rw [List.append_nil];omega
theorem Px {x:NE} (hg:At x.1=true):∀k,k+1≤x.1.Ao.Ad.length→Wl x (Ia x k)∧(Rd x k=true→wN (Ia x k).1 < wN x.1)∧(Rd x k=false→Ia x k=x∧∀i,1≤i→i≤k→Bo x.1 (Ja i)=none∧Bo x.1 (Mr i)=none)
 | 0,_=>⟨.refl hg,fun h=>(by cases h),fun _=>⟨rfl,fun i a b=>by omega⟩⟩
 | k+1,hk=>by
  obtain ⟨f1,m1,z1⟩:=Px hg k FH;have hk1:k+1 < (Ia x k).1.Ao.Ad.length:=by rw [f1.t];omega
  obtain ⟨f2,m2⟩:=Aro f1.g FH hk1;have hk2:k+1 < (Nl (Ia x k) (Ja (k+1))).1.Ao.Ad.length:=by rw [f2.t];exact hk1
  obtain ⟨f3,m3,e3⟩:=Bc4 f2.g FH hk2;have w2:=f2.w;have w3:=f3.w;have w1:=f1.w;refine ⟨(f1.trans f2).trans f3,fun h=>?_,fun h=>?_⟩
  ·show wN (Nl (Nl (Ia x k) (Ja (k+1))) (Mr (k+1))).1 < _;unfold Rd at h;rw [Bool.or_eq_true,Bool.or_eq_true] at h;rcases h with (h|h)|h
   ·have:=m1 h;omega
   ·have:=m2 h;omega
   ·have:=m3 h;omega
  ·unfold Rd at h;rw [Bool.or_eq_false_iff,Bool.or_eq_false_iff] at h;obtain ⟨⟨h1,h2⟩,h3⟩:=h;obtain ⟨e1,z⟩:=z1 h1;have n2:Bo (Ia x k).1 (Ja (k+1))=none:=IH
   have n3:Bo (Nl (Ia x k) (Ja (k+1))).1 (Mr (k+1))=none:=IV
   have e2:=J3 n2;rw [e2] at n3;refine ⟨?_,fun i a b=>?_⟩
   ·show Nl (Nl (Ia x k) (Ja (k+1))) (Mr (k+1))=x;rw [e2,J3 n3,e1]
   ·by_cases hi:i=k+1
    ·subst hi;rw [e1] at n2 n3;exact ⟨n2,n3⟩
    ·exact z i a FH
theorem Ack:∀{l:List (List Ar)},qd l=0↔∀q∈l,q=[]
 | []=>by simp [qd]
 | x::r=>by
  have ih:=Ack (l:=r);show x.length+qd r=0↔_;rw [Nat.add_eq_zero_iff,List.length_eq_zero_iff,ih];simp
theorem Ab8 {l:List (List Ar)} {i:Nat} (h:qd l=0):(l.getD i []).length=0:=by
 rw [List.getD_eq_getElem?_getD];cases e:l[i]? with
 | none=>rfl
 | some q=>rw [Ack.1 h q (List.mem_of_getElem? e)];rfl
theorem Aci {n:Dv} (hg:At n=true):(n.down.getD 0 []).length=0∧(n.up.getD 0 []).length=0:=by
 have hG:=Az.1 hg;have h2:=(H8 hG.t).n0;obtain ⟨h1,h2,h3,h4,r⟩:=hG.rn (i:=0) FH;obtain ⟨-, -,a,b⟩:=r.hz rfl;rw [Qj h3,Qj h4];exact ⟨a,b⟩
theorem Bfc {n:Dv} (hg:At n=true) (h:∀i,1≤i→i < n.Ao.Ad.length→Bo n (Ja i)=none∧Bo n (Mr i)=none):Yv n=0:=by
 have hG:=Az.1 hg;obtain ⟨q1,q2,q3,q4⟩:=Bl.1 hG.l;obtain ⟨z1,z2⟩:=Aci hg;have hd:qd n.down=0:=Ack.2 fun q hq=>by
  obtain ⟨i,hi,rfl⟩:=List.getElem_of_mem hq;rw [←List.length_eq_zero_iff,←Qj hi []];by_cases e:i=0
  ·rw [e];exact z1
  ·have:=(h i FH FH).1;rw [Zr FH] at this
   split at this
   ·assumption
   ·cases this
 have hu:qd n.up=0:=Ack.2 fun q hq=>by
  obtain ⟨i,hi,rfl⟩:=List.getElem_of_mem hq;rw [←List.length_eq_zero_iff,←Qj hi []];by_cases e:i=0
  ·rw [e];exact z2
  ·have:=(h i FH FH).2;rw [Xf FH] at this
   split at this
   ·assumption
   ·cases this
 unfold Yv;omega
theorem Aic {x:NE} (hg:At x.1=true):Rd x (x.1.Ao.Ad.length - 1)=false↔Yv x.1=0:=by
 have h2:=(H8 (Az.1 hg).t).n0;constructor
 ·intro h;obtain ⟨-,hz⟩:=(Px hg (x.1.Ao.Ad.length - 1) FH).2.2 h;exact Bfc hg fun i a b=>hz i a FH
 ·intro h;have hd:qd x.1.down=0:=by unfold Yv at h;omega
  have hu:qd x.1.up=0:=by unfold Yv at h;omega
  have:∀k,k+1≤x.1.Ao.Ad.length→Rd x k=false:=by
   intro k
   induction k with
   | zero=>intro _;rfl
   | succ k ih =>
    intro hk;have h1:=ih FH;have e1:=((Px hg k FH).2.2 h1).1;unfold Rd;have n1:Bo x.1 (Ja (k+1))=none:=by rw [Zr FH,if_pos (Ab8 hd)]
    have n2:Bo x.1 (Mr (k+1))=none:=by rw [Xf FH,if_pos (Ab8 hu)]
    rw [h1,e1,J3 n1,n1,n2];rfl
  exact this _ FH
theorem Atn {x:NE} (hg:At x.1=true) (h:Yv x.1=0):Xd x=x:=by
 have h2:=(H8 (Az.1 hg).t).n0;exact ((Px hg (x.1.Ao.Ad.length - 1) FH).2.2 ((Aic hg).2 h)).1
theorem M9 {x:NE} (hg:At x.1=true):Wl x (Xd x)∧(¬Yv x.1=0→wN (Xd x).1 < wN x.1):=by
 have h2:=(H8 (Az.1 hg).t).n0;obtain ⟨a,b, -⟩:=Px hg (x.1.Ao.Ad.length - 1) FH;refine ⟨a,fun h=>b ?_⟩;cases e:Rd x (x.1.Ao.Ad.length - 1)
 ·exact absurd ((Aic hg).1 e) h
 ·rfl
theorem Sd {f:Nat} {x:NE} (h:Yv x.1=0):T8 f x=x:=by
 cases f
 ·rfl
 ·unfold T8;rw [if_pos h]
theorem Ae2:∀(f g:Nat) {x:NE},At x.1=true→wN x.1≤f→wN x.1≤g→T8 f x=T8 g x
 | 0,g,x,hg,h,_=>by
  have hz:Yv x.1=0:=by
   by_cases h0:Yv x.1=0
   ·exact h0
   ·have:=(M9 hg).2 h0;omega
  rw [Sd hz,Sd hz]
 | f+1,g,x,hg,h,h2=>by
  by_cases hz:Yv x.1=0
  ·rw [Sd hz,Sd hz]
  ·obtain ⟨hf,hw⟩:=M9 hg;have hw:=hw hz;obtain ⟨m,rfl⟩:∃m,g=m+1:=⟨g - 1,FH⟩;unfold T8;rw [if_neg hz,if_neg hz];exact Ae2 f m hf.g FH FH
theorem Ajy {f:Nat} {x:NE} (hg:At x.1=true) (h:wN x.1≤f):T8 f x=T8 (wN x.1) x:=Ae2 _ _ hg h (Nat.le_refl _)
theorem Aby {x:NE} (h:Yv x.1=0):drE x=x:=Sd h
theorem Ahf {x:NE} (hg:At x.1=true) (h:¬Yv x.1=0):drE x=drE (Xd x):=by
 obtain ⟨hf,hw⟩:=M9 hg;have hw:=hw h;obtain ⟨m,hm⟩:∃m,wN x.1=m+1:=⟨wN x.1 - 1,FH⟩;unfold drE;rw [hm];show (if Yv x.1=0 then x else T8 m (Xd x))=_;rw [if_neg h,Ajy hf.g FH]
theorem Ahe {x:NE} (hg:At x.1=true):Wl x (drE x)∧Yv (drE x).1=0:=by
 obtain ⟨k,hk⟩:∃k,wN x.1≤k:=⟨_,Nat.le_refl _⟩
 induction k generalizing x with
 | zero =>
  have hz:Yv x.1=0:=by
   by_cases h:Yv x.1=0
   ·exact h
   ·have:=(M9 hg).2 h;omega
  rw [Aby hz];exact ⟨.refl hg,hz⟩
 | succ k ih =>
  by_cases h:Yv x.1=0
  ·rw [Aby h];exact ⟨.refl hg,h⟩
  ·obtain ⟨hf,hw⟩:=M9 hg;have hw:=hw h;rw [Ahf hg h];obtain ⟨a,b⟩:=ih hf.g FH;exact ⟨hf.trans a,b⟩
theorem Aod (f:Nat→Nat) (B:Nat):∀(l:List (List Ar)) (k:Nat),(∀q∈l,q.length≤6)→(∀i,k≤i→i < k+l.length→f i≤B)→Mu f k l≤l.length * (6 * B)
 | [],_,_,_=>Nat.zero_le _
 | x::r,k,h,hB=>by
  have ih:=Aod f B r (k+1) (fun q hq=>h q GQ) fun i a b=>hB i FH (by simp only [List.length_cons];omega);have h1:=Nat.mul_le_mul (h x FI) (hB k (Nat.le_refl _) (by simp only [List.length_cons];omega));show x.length * f k+Mu f (k+1) r≤(r.length+1) * (6 * B);rw [Nat.succ_mul];omega
theorem Bdf {n:Dv} (hg:At n=true):wN n≤280000000:=by
 have hG:=Az.1 hg;have h8:=(H8 hG.t).n1;obtain ⟨q1,q2,q3,q4⟩:=Bl.1 hG.l;obtain ⟨-, -,e3,e4⟩:=In hg;have h1:=Aod vd 2097152 n.down 0 (fun q hq=>(C9 (e3 q hq)).1) fun i _ _=>Nat.le_trans (Nat.pow_le_pow_right (n:=8) FK (show 7 - i≤7 by omega)) FK;have h2:=Aod vu 3670023 n.up 0 (fun q hq=>(C9 (e4 q hq)).1) fun i _ _=>by unfold vu;omega
 have h3:=Nat.mul_le_mul_right (6 * 2097152) (show n.down.length≤8 by omega);have h4:=Nat.mul_le_mul_right (6 * 3670023) (show n.up.length≤8 by omega);unfold wN;omega
theorem Auo {n:Dv} (hg:At n=true):(Q9 n).2.length≤6720000000:=by
 have h:=(Ahe (x:=(n,[])) hg).1.e;have:=Bdf hg;show (drE (n,[])).2.length≤_;simp only [List.length_nil] at h;omega
def kst (m i:Nat):Kh:=⟨if m=0 then 2 else 5,(i:Int),⟨#[]⟩⟩
def Ub (y:NE) (i:Nat):Nat→NE
 | 0=>y
 | m+1=>Nl (Ub y i m) (kst m i)
def Ae7 (b:Bool) (y:NE) (i:Nat):Nat→Bool
 | 0=>b
 | m+1=>Ae7 b y i m || (Bo (Ub y i m).1 (kst m i)).isSome
theorem Aco (x:NE) (k:Nat):Ia x (k+1)=Ub (Ia x k) (k+1) 2:=rfl
theorem Aqe (x:NE) (k:Nat):Rd x (k+1)=Ae7 (Rd x k) (Ia x k) (k+1) 2:=rfl
theorem Bkh {m i:Nat} (h0:1≤i) (h:i≤7) (hm:m < 2):Es (kst m i)=true:=by
 rcases (show m=0∨m=1 by omega) with rfl|rfl
 ·exact Be5 h0 h
 ·exact Bbm h0 h
theorem Awq {y:NE} (hg:At y.1=true) {i:Nat} (h0:1≤i) (hi:i < y.1.Ao.Ad.length):∀m,m≤2→Wl y (Ub y i m)
 | 0,_=>.refl hg
 | 1,_=>(Aro hg h0 hi).1
 | 2,_=>by
  have f1:=(Aro hg h0 hi).1;exact f1.trans (Bc4 f1.g h0 (by rw [f1.t];exact hi)).1
 | m+3,h=>by omega
def Et (x:NE):Nat→NE
 | 0=>x
 | k+1=>Au3 (Et x k) k
theorem Bh8 {x:NE} (hg:At x.1=true) {i:Nat} (hi:i < x.1.Ao.Ad.length):Wl x (Nl x (Ja i)):=by
 by_cases h0:i=0
 ·subst h0;rw [J3 (by rw [Zr hi,if_pos (Aci hg).1])];exact .refl hg
 ·exact (Aro hg FH hi).1
theorem Bh9 {x:NE} (hg:At x.1=true) {i:Nat} (hi:i < x.1.Ao.Ad.length):Wl x (Nl x (Mr i))∧(Nl x (Mr i)).2=x.2:=by
 by_cases h0:i=0
 ·subst h0;rw [J3 (by rw [Xf hi,if_pos (Aci hg).2])];exact ⟨.refl hg,rfl⟩
 ·have:=Bc4 hg FH hi;exact ⟨this.1,this.2.2⟩
theorem Afp {x:NE} (hg:At x.1=true):∀k,k≤x.1.Ao.Ad.length→Wl x (Et x k)
 | 0,_=>.refl hg
 | k+1,hk=>by
  have f1:=Afp hg k FH;have f2:=Bh8 f1.g (i:=k) (by rw [f1.t];omega);have f3:=(Bh9 f2.g (i:=k) (by rw [f2.t,f1.t];omega)).1;exact (f1.trans f2).trans f3
theorem Al3 {x:NE} (hg:At x.1=true):∀k,Et x (k+1)=Ia x k
 | 0=>by
  have h2:=(H8 (Az.1 hg).t).n0;show Nl (Nl x (Ja 0)) (Mr 0)=x;rw [J3 (x:=x) (s:=Ja 0) (by rw [Zr FH,if_pos (Aci hg).1]),J3 (by rw [Xf FH,if_pos (Aci hg).2])]
 | k+1=>by
  show Au3 (Et x (k+1)) (k+1)=Au3 (Ia x k) (k+1);rw [Al3 hg k]
theorem Atm {x:NE} (hg:At x.1=true):Et x x.1.Ao.Ad.length=Xd x:=by
 have h2:=(H8 (Az.1 hg).t).n0;obtain ⟨m,hm⟩:∃m,x.1.Ao.Ad.length=m+1:=⟨x.1.Ao.Ad.length - 1,FH⟩;unfold Xd;rw [hm,Al3 hg,Nat.add_sub_cancel]
theorem O3 {l:List (List Ar)} (h:∀q∈l,q.length≤6):∀k,qd (l.take k)≤6 * k:=by
 induction l with
 | nil=>intro k;rw [List.take_nil];exact Nat.zero_le _
 | cons q r ih =>
  intro k;cases k with
  | zero=>exact Nat.le_refl _
  | succ k =>
   have:=ih (fun q hq=>h q GQ) k;have:=h q FI;show q.length+qd (r.take k)≤_;omega
theorem Ann {l:List (List Ar)} {k:Nat} (hk:k < l.length):qd (l.take (k+1))=qd (l.take k)+l[k].length:=by
 unfold qd;rw [List.take_succ_eq_append_getElem hk,List.map_append,List.sum_append];simp
theorem Ba6 (a b:Int):FV 389 [.int .i64 a,.int .i64 b] [] (.int .i64 (min a b)):=by
 refine enter func389 rfl ntmps389 fun w0=>?_;refine go ?_;refine A1 rfl (fun h=>?_) (fun h=>?_)
 ·refine go ?_;rw [show min a b=a by omega];exact BD
 ·refine go ?_;rw [show min a b=b by omega];exact BD
theorem Aw9 (r:Ay) (p:Ar) (d:Int) (v:Value) (F:List Nat) (hg:Mn r) (hp:Bt p=true) (d0:1≤d) (d1:d≤8) :
  Fn prog 347 [v,.agg #[.int .i64 p.Cp,.int .i64 p.Ae,.int .i64 p.Ap,.int .i64 p.Fg,.string p.data],.int .i64 d] [.isv Bi v r F] [] (fun (_:NwS)=>True) (fun s=>.tuple #[.agg #[.bool ((Lo r p d)).Bd,.int .i64 ((Lo r p d)).Ai,.int .i64 ((Lo r p d)).Aa.next,.slice s.a1 ((Lo r p d)).Aa.Al.length s.c1,.slice s.a2 ((Lo r p d)).Am.length s.c2],.slice s.ae (M7 r p).length s.ce])
   (fun s=>[.isv Bi (.agg #[.bool ((Lo r p d)).Bd,.int .i64 ((Lo r p d)).Ai,.int .i64 ((Lo r p d)).Aa.next,.slice s.a1 ((Lo r p d)).Aa.Al.length s.c1,.slice s.a2 ((Lo r p d)).Am.length s.c2]) (Lo r p d) s.F1,.ow A8 9 (.slice s.ae (M7 r p).length s.ce) (M7 r p) s.Fe]):=by
 have k0:=hg.k0;have k1:=hg.k1;obtain ⟨-,q1,q2, -⟩:=De.1 hg.q;have hser:∀q∈r.Am,B8 q.Ae=true:=fun q hq=>(Yy hg hq).1;obtain ⟨hsg, -⟩:=Rm hg hp;obtain ⟨htg, -,htl⟩:=Un hg hp;obtain ⟨hng,hnq, -,hnl⟩:=Zm hg hp d0 d1 FH;obtain ⟨s0_,s1_⟩:=Ip hsg;obtain ⟨w0_,w1_⟩:=Ip htg;obtain ⟨v0_,v1_⟩:=Ip hng;obtain ⟨hw8,hit⟩:=Kx hsg;obtain ⟨hu8,hiu⟩:=Kx htg;obtain ⟨n0,n1⟩:=Kw hp;have hrw:=(Kx hg.w).1;have hp2:=hp;unfold Bt at hp2;simp only [Bool.and_eq_true] at hp2;obtain ⟨t0_,t1_⟩:=Bc.1 hp2.1.1.1.1.2;obtain ⟨l0_,l1_⟩:=Bc.1 hp2.1.1.1.2;have hps:p.data.size≤8:=Vv hp2.1.1.2
 refine enter func347 rfl ntmps347 fun w0=>?_;refine En (v:=v) (x:=r) (F:=F) ?_;rintro a1 c1 F1 a2 c2 F2 rfl - -;refine go ?_;intros;refine Ca (Ud r _ F FH FH) fun u _=>?_;refine Ic ?_;rintro a5 c5 F5 a6 c6 F6 e6 - -;rw [e6];refine A4 (E:=Bz) fun G5=>?_;refine A4 (E:=Av) fun G6=>?_;refine go ?_;intros;rename_i g3 g4 g6 g8 g9;refine C7 A8 ?_
 refine Ew [2,4,6,8,9] [0,2,4,5] (fun _:List Nat=>[]) (fun s=>[.row g8 156 0 [] [.bool true,.int .i64 r.Ai,.int .i64 (Eb r p).next,.slice a5 (Eb r p).Al.length c5,.slice a6 r.Am.length c6] [],.isv Bg (.agg #[.int .i64 (Eb r p).next,.slice a5 (Eb r p).Al.length c5]) (Eb r p) s]) (fun _=>True) ?_ fun G7 _=>?_
 ·cases hs:r.Bd
  ·by_cases hk:p.Cp=5
   ·have e:Eb r p=⟨p.Fg,r.Aa.Al⟩:=by unfold Eb;rw [hs,if_pos hk];rfl
    rw [e];refine go ?_;refine A1 rfl (fun _=>?_) (fun h=>absurd hk h);refine By (a1:=a5) ⟨p.Fg,r.Aa.Al⟩ ?_;refine go ?_;refine Br G5 trivial
   ·have e:Eb r p=⟨p.Ae,r.Aa.Al⟩:=by unfold Eb;rw [hs,if_neg hk];rfl
    rw [e];refine go ?_;refine A1 rfl (fun h=>absurd h hk) (fun _=>?_);refine By (a1:=a5) ⟨p.Ae,r.Aa.Al⟩ ?_;refine go ?_;refine Br G5 trivial
  ·have e:Eb r p=r.Aa:=by unfold Eb;rw [hs];rfl
   rw [e];refine By (a1:=a5) r.Aa ?_;refine go ?_;refine Br G5 trivial
 repeat (first|apply Wr|apply Abd|apply Qx)
 refine Bd6 [2,4,6,8] [3,4,5] (fun s:SkS=>[(9,.slice s.ae (Lf r p).length s.ce)]) (fun s=>[.row g8 156 0 [] [.bool true,.int .i64 r.Ai,.int .i64 (Gf r p).next,.slice s.a (Gf r p).Al.length s.c,.slice a6 r.Am.length c6] [],.isv Bg (.agg #[.int .i64 (Gf r p).next,.slice s.a (Gf r p).Al.length s.c]) (Gf r p) s.F,.ow A8 9 (.slice s.ae (Lf r p).length s.ce) (Lf r p) s.Fe]) (fun _=>True) ?_ fun s _=>?_
 ·by_cases hk:p.Cp=5
  ·have e1:Gf r p=Eb r p:=by unfold Gf;rw [if_pos hk]
   have e2:Lf r p=[]:=by unfold Lf;rw [if_pos hk]
   rw [e1,e2];refine go ?_;rw [decide_eq_false (show ¬ ¬p.Cp=5 from fun h=>h hk)];refine go ?_;refine Br (⟨a5,c5,G7,_,_,_⟩:SkS) trivial
  ·have e1:Gf r p=Mq (Eb r p) p.Ae p.data:=by unfold Gf;rw [if_neg hk]
   have e2:Lf r p=Mf (Eb r p) p.Ae p.data:=by unfold Lf;rw [if_neg hk]
   rw [e1,e2];refine go ?_;rw [decide_eq_true (show ¬p.Cp=5 from hk)];refine go ?_;refine Ca (Asu (Eb r p) p.Ae _ G7 s0_ s1_ n0 n1 hw8) fun _ _=>?_;cases hok:N2 (Eb r p) p.Ae
   ·have e:(Hj (Eb r p) p.Ae || !decide (gp (Eb r p).next p.Ae < 8))=true:=by unfold N2 at hok;simp only [Bool.or_eq_false_iff] at hok;rw [hok.1,hok.2];rfl
    have e3:Mq (Eb r p) p.Ae p.data=Eb r p:=by unfold Mq;rw [if_pos e]
    have e4:Mf (Eb r p) p.Ae p.data=[]:=by unfold Mf;rw [if_pos e]
    rw [e3,e4];refine go ?_;refine Br (⟨a5,c5,G7,_,_,_⟩:SkS) trivial
   ·refine go ?_;refine Ca (Aw0 (Eb r p) p.Ae p.data _ G7 s0_ s1_ n0 n1 hw8 hit hps hok) fun y hy=>?_;obtain ⟨hy1,hy2⟩:=hy;have hyl:y.es.length≤8:=by rw [hy2,←e2];exact htl
    refine A4 (E:=A8) (xs:=y.es) fun G8=>?_;refine go ?_;intros;apply wO;refine Pf (ys:=y.es) Dx Gz fun a9 c9 F9=>?_;rw [List.nil_append];rw [←hy1,←hy2];refine go ?_;refine Br (⟨y.a,y.c,y.F,_,_,_⟩:SkS) trivial
 obtain ⟨a3,c3,F3,ae,cE,Fe⟩:=s;dsimp only;refine go ?_;refine ce (fun w s=>Rb _ _ _ FH FH) ?_;refine go ?_;refine Ew [2,4,6,8] [3,4,5] (fun s:SkS=>[(9,.slice s.ae (M7 r p).length s.ce)]) (fun s=>[.row g8 156 0 [] [.bool true,.int .i64 r.Ai,.int .i64 (Cq r p).next,.slice s.a (Cq r p).Al.length s.c,.slice a6 r.Am.length c6] [],.isv Bg (.agg #[.int .i64 (Cq r p).next,.slice s.a (Cq r p).Al.length s.c]) (Cq r p) s.F,.ow A8 9 (.slice s.ae (M7 r p).length s.ce) (M7 r p) s.Fe]) (fun _=>True) ?_ fun s _=>?_
 ·cases hb:Up (Gf r p).next p.Ap
  ·have e1:Cq r p=Gf r p:=by show Pa _ _=_;unfold Pa;rw [hb];rfl
   have e2:M7 r p=Lf r p:=by unfold M7 Po;rw [hb];simp
   rw [e1,e2];refine go ?_;refine Br (⟨a3,c3,F3,_,_,_⟩:SkS) trivial
  refine go ?_;refine ce (fun w s=>Jq _ _ _ FH FH) ?_;refine go ?_;refine A1 rfl (fun h4=>?_) (fun h4=>?_)
  ·have e1:Cq r p=Jh (Gf r p) p.Ap:=by show Pa _ _=_;unfold Pa;rw [hb,if_pos rfl,if_pos h4]
   have e2:M7 r p=Lf r p++Jg (Gf r p) p.Ap:=by unfold M7 Po;rw [hb,if_pos rfl,if_pos h4]
   have hl2:=hnl;rw [e2,List.length_append] at hl2;refine go ?_;refine Ca (Uy (Gf r p) p.Ap _ F3 w0_ w1_ t0_ t1_ hu8 hiu) fun y hy=>?_;obtain ⟨hy1,hy2⟩:=hy;have hyl:y.es.length≤24:=by rw [hy2];show (Jg (Gf r p) p.Ap).length≤24;omega
   refine A4 (E:=A8) (xs:=y.es) fun G8=>?_;refine go ?_;intros;apply wO;refine Pf (ys:=y.es) Dx Gz fun a9 c9 F9=>?_;rw [e1,e2,show Jh (Gf r p) p.Ap=y.y from hy1.symm,show Jg (Gf r p) p.Ap=y.es from hy2.symm];refine go ?_;refine Br (⟨y.a,y.c,y.F,_,_,_⟩:SkS) trivial
  ·have e1:Cq r p=⟨p.Ap,[]⟩:=by show Pa _ _=_;unfold Pa;rw [hb,if_pos rfl,if_neg h4]
   have e2:M7 r p=Lf r p++[⟨#[33]⟩]:=by unfold M7 Po;rw [hb,if_pos rfl,if_neg h4]
   rw [e1,e2];refine go ?_;intros;apply wO;refine Ps (U1 ⟨#[33]⟩ FK) Dx fun a9 c9 F9=>?_;refine Cw Bz FK ?_;refine By (a1:=none) ⟨p.Ap,[]⟩ ?_;refine go ?_;refine Br (⟨none,0,_,_,_,_⟩:SkS) trivial
 obtain ⟨a7,c7,F7,ae,cE,Fe⟩:=s;dsimp only;refine go ?_;refine Ca (Afb r.Am (Cq r p) a6 c6 G6 _ F7 FH hser v0_ v1_) fun z _=>?_;refine go ?_;refine ce (fun w s=>Rb _ _ _ FH FH) ?_;have hNq8:=(De.1 hnq).2.1;cases hb:Up (Cq r p).next p.Fg
 ·have e1:Lo r p d=⟨true,r.Ai,Cq r p,Ei r.Am (Cq r p)⟩:=by unfold Lo Qg;rw [hb];rfl
  rw [e1];refine go ?_;refine A4 (E:=Av) (xs:=Ei r.Am (Cq r p)) fun F8=>?_;refine B9 (x:=Cq r p) ?_;rintro b1 dd1 G1 e5 m1;simp only [Value.agg.injEq,Array.mk.injEq,List.cons.injEq,Value.slice.injEq,true_and,and_true] at e5;obtain ⟨rfl,rfl⟩:=e5;refine Ep ⟨true,r.Ai,Cq r p,Ei r.Am (Cq r p)⟩ ?_;exact DJ
 obtain ⟨k,hk⟩:∃k,k=Aas (Cq r p) p.Fg:=⟨_,rfl⟩;have hk8:k≤8:=by rw [hk];exact Tr _ _
 have hgb:=Ly (Cq r p).next p.Fg
 have hkm:((k:Nat):Int)=min (gp (Cq r p).next p.Fg) 8:=by rw [hk];unfold Aas;omega
 obtain ⟨N,hN⟩:∃N,N=O8 (Cq r p) k:=⟨_,rfl⟩;have hNl:N.length≤8:=by have:=Aea (Cq r p) k;rw [hN];omega
 have e1:Lo r p d=⟨true,r.Ai,Cq r p,Lp (Cq r p).next (r.Ai+d) (Ei r.Am (Cq r p)) N⟩:=by unfold Lo Qg;rw [hb,if_pos rfl,hN,hk]
 rw [e1];have Vr:=J4 (Cq r p).next (min (gp (Cq r p).next p.Fg) 8)
 have hgp:gp (Cq r p).next (Cf (Cq r p).next (min (gp (Cq r p).next p.Fg) 8))=(k:Nat):=by rw [←hkm];unfold gp Cf;omega
 refine go ?_;refine ce (fun w s=>Jq _ _ _ FH FH) ?_;refine go ?_;refine Ca (Ba6 _ _) fun _ _=>?_;refine go ?_;refine ce (fun w s=>Lu _ _ _ FH FH) ?_;refine go ?_;refine Ca (Am7 (Cq r p) _ k _ F7 v0_ v1_ FH FH hgp) fun m _=>?_;rw [←hN];refine A4 (E:=Bb) (xs:=N) fun GN=>?_;refine A4 (E:=Av) (xs:=Ei r.Am (Cq r p)) fun F8=>?_;refine go ?_
 refine Cd [2,6,8,9,14,16] (fun s:AwS=>[(17,.int .i64 (s.i:Nat))]) (fun s=>[.row g8 156 0 [] [.bool true,.int .i64 r.Ai,.int .i64 (Cq r p).next,.slice a7 (Cq r p).Al.length c7,.slice s.a (Lp (Cq r p).next (r.Ai+d) (Ei r.Am (Cq r p)) (N.take s.i)).length s.c] [],.sl Av (.slice s.a (Lp (Cq r p).next (r.Ai+d) (Ei r.Am (Cq r p)) (N.take s.i)).length s.c) (Lp (Cq r p).next (r.Ai+d) (Ei r.Am (Cq r p)) (N.take s.i)) s.F]) (fun s=>s.i≤N.length) (fun s=>N.length - s.i) ⟨0,z.1,z.2.1,F8⟩ (Nat.zero_le _) fun s hs=>?_;obtain ⟨i,a3,c3,F3⟩:=s;dsimp only at hs ⊢
 have hall:=R7 (w:=Cq r p) (u:=r.Ai+d) FH FH (N.take i) (Ei r.Am (Cq r p)) (fun n hn=>by
  have:=Si (w:=Cq r p) (n:=n) hk8 (by rw [←hN];exact List.mem_of_mem_take hn);exact ⟨this.1,this.2.2⟩) hnq P9
 have hLs:∀h:i < N.length,Lp (Cq r p).next (r.Ai+d) (Ei r.Am (Cq r p)) (N.take (i+1))=Vi (Cq r p).next (Lp (Cq r p).next (r.Ai+d) (Ei r.Am (Cq r p)) (N.take i)) N[i] (r.Ai+d):=fun h=>Aez h
 generalize hLd:Lp (Cq r p).next (r.Ai+d) (Ei r.Am (Cq r p)) (N.take i)=L at *
 have hLq:=hall.1;have hL8:=(De.1 hLq).2.1;refine go ?_;refine A1 rfl (fun h4=>?_) (fun h4=>?_)
 ·have hi:i < N.length:=FH
  have hni:=Si (w:=Cq r p) (n:=N[i]) hk8 (by rw [←hN];exact List.getElem_mem hi);refine I6 (xs:=N) i ?_;rintro hi2 b o2 e;rw [e];refine go ?_;refine As [0,1] [12] ?_;refine Dq 0 1 2 3 ?_;refine Dq 4 5 6 7 ?_;refine Ec 8 9 ?_;refine dN 10 ?_;refine oC ?_;refine Ca (Bax L (Cq r p).next N[i] r.Ai d a3 c3 F3 hLq hni.1 k0 k1 d0 d1) fun u _=>?_;rw [←hLs hi];refine dk ?_;refine dt 11 ?_;refine dN 12 ?_;refine oS ?_;refine Tf ?_;refine dd ?_;refine A4 (E:=Av) fun F9=>?_;refine go ?_;exact CH
 have hi:i=N.length:=FH
 subst hi;rw [List.take_length] at hLd;rw [hLd];refine go ?_;refine B9 (x:=Cq r p) ?_;rintro b1 dd1 G1 e5 m1;simp only [Value.agg.injEq,Array.mk.injEq,List.cons.injEq,Value.slice.injEq,true_and,and_true] at e5;obtain ⟨rfl,rfl⟩:=e5;refine Ep ⟨true,r.Ai,Cq r p,L⟩ ?_;exact DJ
theorem Adx (r:Ay) (p:Ar) (d:Int) (v:Value) (F:List Nat) (hg:Mn r) (hp:Bt p=true) (d0:1≤d) (d1:d≤8) :
  Fn prog 295 [v,.agg #[.int .i64 p.Cp,.int .i64 p.Ae,.int .i64 p.Ap,.int .i64 p.Fg,.string p.data],.int .i64 d] [.isv Bi v r F] [] (fun (_:NwS)=>True) (fun s=>.tuple #[.agg #[.bool ((Di r p d)).Bd,.int .i64 ((Di r p d)).Ai,.int .i64 ((Di r p d)).Aa.next,.slice s.a1 ((Di r p d)).Aa.Al.length s.c1,.slice s.a2 ((Di r p d)).Am.length s.c2],.slice s.ae (Io r p).length s.ce])
   (fun s=>[.isv Bi (.agg #[.bool ((Di r p d)).Bd,.int .i64 ((Di r p d)).Ai,.int .i64 ((Di r p d)).Aa.next,.slice s.a1 ((Di r p d)).Aa.Al.length s.c1,.slice s.a2 ((Di r p d)).Am.length s.c2]) (Di r p d) s.F1,.ow A8 9 (.slice s.ae (Io r p).length s.ce) (Io r p) s.Fe]):=by
 have k0:=hg.k0;have k1:=hg.k1;have hrw:=(Kx hg.w).1;obtain ⟨-,q1,q2, -⟩:=De.1 hg.q;obtain ⟨n0,n1⟩:=Kw hp;have hkd:1≤p.Cp∧p.Cp≤5:=by unfold Bt Ga at hp;simp only [Bool.and_eq_true,decide_eq_true_eq] at hp;exact hp.1.1.1.1.1.1
 refine enter func295 rfl ntmps295 fun w0=>?_;refine En (v:=v) (x:=r) (F:=F) ?_;rintro a1 c1 F1 a2 c2 F2 rfl - -;refine go ?_;intros;by_cases hk4:p.Cp=4
 ·have hn:Mj p=false:=by unfold Mj;simp [hk4]
  have eE:Io r p=[]:=by unfold Io;rw [hn];rfl
  rw [decide_eq_true hk4];cases hs:r.Bd
  ·have eR:Di r p d=r:=by unfold Di;rw [hn,hs];simp
   refine go ?_;rw [decide_eq_true hk4];refine go ?_;refine Ca (Ud r _ F FH FH) fun u _=>?_;refine Ic ?_;rintro a5 c5 F5 a6 c6 F6 e6 - -;rw [e6];refine A4 (E:=Bz) fun G5=>?_;refine A4 (E:=Av) fun G6=>?_;refine go ?_;intros;refine C7 A8 ?_;refine Ep (a1:=a5) r ?_;rw [eR,eE];rw [hs];exact DJ
  ·have eR:Di r p d=Ao2 r p:=by unfold Di;rw [hn,hs,decide_eq_true hk4];rfl
   refine go ?_;refine Ca (Ud r _ F FH FH) fun u _=>?_;refine Ic ?_;rintro a5 c5 F5 a6 c6 F6 e6 - -;rw [e6];refine A4 (E:=Bz) fun G5=>?_;refine go ?_;intros;refine Ca (Am9 r.Am r.Aa.next p.Ae r.Ai a2 c2 F2 hg.q (Bc.2 ⟨n0,n1⟩) k0 k1) fun y _=>?_;refine A4 (E:=Av) (xs:=Sc r.Aa.next r.Am p.Ae (r.Ai+4)) fun G6=>?_;refine go ?_;intros;refine C7 A8 ?_;refine Ep (a1:=a5) (Ao2 r p) ?_;rw [eR,eE];exact DJ
 rw [decide_eq_false hk4];refine go ?_;rw [decide_eq_false hk4];refine go ?_;by_cases hk3:p.Cp=3
 ·have hn:Mj p=false:=by unfold Mj;simp [hk3]
  have eE:Io r p=[]:=by unfold Io;rw [hn];rfl
  have eR:Di r p d=r:=by unfold Di;rw [hn,decide_eq_false hk4];rfl
  rw [decide_eq_true hk3];refine go ?_;refine Ca (Ud r _ F FH FH) fun u _=>?_;refine Ic ?_;rintro a5 c5 F5 a6 c6 F6 e6 - -;rw [e6];refine A4 (E:=Bz) fun G5=>?_;refine A4 (E:=Av) fun G6=>?_;refine go ?_;intros;refine C7 A8 ?_;refine Ep (a1:=a5) r ?_;rw [eR,eE];exact DJ
 have hn:Mj p=true:=by
  unfold Mj;have:p.Cp=1∨p.Cp=2∨p.Cp=5:=FH
  rcases this with h|h|h <;> simp [h]
 have eE:Io r p=M7 r p:=by unfold Io;rw [hn];rfl
 have eR:Di r p d=Lo r p d:=by unfold Di;rw [hn];rfl
 rw [decide_eq_false hk3,eE,eR];refine go ?_;refine Ca (Aw9 r p d _ F hg hp d0 d1) fun s _=>?_;refine go ?_;refine ret ⟨s.a1,s.c1,s.F1,s.a2,s.c2,[],s.ae,s.ce,_⟩ trivial rfl
end Go.Proofs.YtcmighgaiacgoaaGreatDoor
namespace Go.Proofs.YtcmighgaiacgoaaGreatDoor

open Go.RowKit
end Go.Proofs.YtcmighgaiacgoaaGreatDoor
namespace Go.Proofs.YtcmighgaiacgoaaGreatDoor
open Go.RowKit
def Agc (x:Ay):Bool:=x.Bd && decide ((x.Am.length:Int)=0) && decide ((x.Aa.Al.length:Int)=0)
theorem Ae8 (x:Ay) (v:Value) (F:List Nat):FV 276 [v] [.isv Bi v x F] (.bool (Agc x)):=by
 refine enter func276 rfl ntmps276 fun w0=>?_;refine En (v:=v) (x:=x) (F:=F) ?_;rintro a1 c1 F1 a2 c2 F2 rfl l1 l2;unfold maxLen at l1 l2;refine go ?_;intros;cases hs:x.Bd
 ·refine go ?_;refine ret () trivial ?_;unfold Agc;rw [hs];rfl
 refine go ?_;refine Dy rfl rfl (fun h1=>?_) (fun h1=>?_)
 rotate_left
 ·refine go ?_;refine ret () trivial ?_;unfold Agc;rw [hs,decide_eq_false h1];rfl
 refine go ?_;refine ret () trivial ?_;unfold Agc;rw [hs,decide_eq_true h1];rfl
def Q2 (l:List Int) (k:Nat):List Int:=((List.range k).filter fun i=>Eo l ((i:Nat):Int)).map fun (i:Nat)=>((i:Nat):Int)
def lvs (l:List Int):List Int:=Q2 l l.length
theorem Ah5 (l:List Int) (k:Nat):Q2 l (k+1)=Q2 l k++if Eo l (k:Int)=true then [(k:Int)] else []:=by
 unfold Q2;rw [List.range_succ,List.filter_append,List.map_append]
 split <;> simp_all
theorem Axq {l:List Int} {k:Nat} (h:Eo l (k:Int)=true):Q2 l (k+1)=Q2 l k++[(k:Int)]:=by rw [Ah5,if_pos h]
theorem Bba {l:List Int} {k:Nat} (h:Eo l (k:Int)=false):Q2 l (k+1)=Q2 l k:=by rw [Ah5,if_neg (by rw [h];decide),List.append_nil]
theorem Als (l:List Int) (k:Nat):(Q2 l k).length≤k:=by
 unfold Q2;exact DT
theorem Au0 {l:List Int} {x:Int} {k:Nat} (h:x∈Q2 l k):∃i,i < k∧x=((i:Nat):Int)∧Eo l x=true:=by
 unfold Q2 at h;obtain ⟨i,hi,rfl⟩:=List.mem_map.1 h;obtain ⟨h1,h2⟩:=List.mem_filter.1 hi;exact ⟨i,List.mem_range.1 h1,rfl,h2⟩
theorem Bfi {l:List Int} (hg:Vg l):Eo l ((0:Nat):Int)=false:=by
 have h1:=hg.n0;have h2:=hg.p 1 FH FH;have h3:(((0:Nat):Int))∈l:=by
  have:l[1]=((0:Nat):Int):=FH
  rw [←this];exact List.getElem_mem _
 unfold Eo;rw [decide_eq_true h3];rfl
theorem Bhl {l:List Int} {k:Nat} (h:k < (lvs l).length):∃i,i < l.length∧(lvs l)[k]=((i:Nat):Int)∧Eo l ((i:Nat):Int)=true:=by
 obtain ⟨i,hi,e,hl⟩:=Au0 (List.getElem_mem h);exact ⟨i,hi,e,e▸hl⟩
theorem Az2 {n:Dv} (hg:At n=true):At (Q9 n).1=true∧Yv (Q9 n).1=0:=⟨(Ahe (x:=(n,[])) hg).1.g,(Ahe (x:=(n,[])) hg).2⟩
def Rj (n:Dv):Int × Int × Bool:=if At n then (((qd n.down:Nat):Int),((qd n.up:Nat):Int),true) else (0,0,false)
def Adr (n:Dv) (i:Nat):Bool:=Agc (Qv n i) && decide ((Qv n i).Aa.next=Cf n.Ab.Aa.Ap n.Ab.Aa.An.length)
def Z8 (n:Dv):Bool:=decide (Yv n=0) && (lvs n.Ao.Ad).all fun x=>Adr n x.toNat
def Gh (n:Dv):Bool × Bool:=if At n then (Z8 n,true) else (false,false)
theorem Bbs {l:List (List Ar)} (h:∀i (hi:i < l.length),l[i].length=0):qd l=0:=by
 refine Ack.2 fun q hq=>?_;obtain ⟨i,hi,rfl⟩:=List.getElem_of_mem hq;exact List.length_eq_zero_iff.1 (h i hi)
theorem Bbb {l:List Int} {i:Nat} (hi:i < l.length) (h:Eo l ((i:Nat):Int)=true):((i:Nat):Int)∈lvs l:=by
 unfold lvs Q2;exact List.mem_map.2 ⟨i,List.mem_filter.2 ⟨List.mem_range.2 hi,h⟩,rfl⟩
theorem Bck {n:Dv} (h:¬Yv n=0):Z8 n=false:=by unfold Z8;rw [decide_eq_false h];rfl
theorem Ai8 {n:Dv} {i:Nat} (hi:i < n.Ao.Ad.length) (h:Eo n.Ao.Ad ((i:Nat):Int)=true) (hb:Adr n i=false):Z8 n=false:=by
 unfold Z8;rw [Bool.and_eq_false_iff];right;rw [List.all_eq_false];exact ⟨_,Bbb hi h,by rw [show ((i:Nat):Int).toNat=i from rfl,hb];decide⟩
theorem Aq8 {n:Dv} (h:Yv n=0) (hl:∀i,i < n.Ao.Ad.length→Eo n.Ao.Ad ((i:Nat):Int)=true→Adr n i=true):Z8 n=true:=by
 unfold Z8;rw [decide_eq_true h,Bool.true_and,List.all_eq_true];intro x hx;obtain ⟨i,hi,rfl,h2⟩:=Au0 hx;exact hl i hi h2
def Yk:ByteArray:=⟨#[33]⟩
def SlI (S:List ByteArray) (k:Nat) (l:List Gb):Prop:=∀(j:Nat) s,l[j]?=some s→s.Vr=true→S[k+j]?=some s.Dg
def EvI (S:List ByteArray) (b:Nat) (es:List ByteArray):Prop:=∀(i:Nat) e,es[i]?=some e→e=Aqc∨∃t,S[b+i]?=some t∧e=Aij t
section
variable {S:List ByteArray} {f:Int} {k b:Nat}
theorem EvI.nil:EvI S b []:=fun i e h=>by simp at h
theorem EvI.app {x y:List ByteArray} (h:EvI S b x) (h2:EvI S (b+x.length) y):EvI S b (x++y):=fun i e he=>by
 by_cases hi:i < x.length
 ·rw [List.getElem?_append_left hi] at he;exact h i e he
 ·rw [List.getElem?_append_right FH] at he;have:=h2 _ e he
  rwa [show b+x.length+(i - x.length)=b+i by omega] at this
theorem SlI.drop {l:List Gb} (h:SlI S k l) (m:Nat):SlI S (k+m) (l.drop m):=fun j s hs hv=>by
 rw [List.getElem?_drop] at hs;have:=h _ s hs hv
 rwa [show k+(m+j)=k+m+j by omega] at this
theorem SlI.nil:SlI S k []:=fun j s h=>by simp at h
theorem EvI.mono {S2:List ByteArray} {es:List ByteArray} (h:EvI S b es):EvI (S++S2) b es:=fun i e he=>by
 rcases h i e he with h|⟨t,h,e2⟩
 ·exact .inl h
 ·exact .inr ⟨t,by rw [List.getElem?_append_left (List.getElem?_eq_some_iff.1 h).1];exact h,e2⟩
theorem SlI.mono {S2:List ByteArray} {l:List Gb} (h:SlI S k l):SlI (S++S2) k l:=fun j s hs hv=>by
 have:=h j s hs hv;rw [List.getElem?_append_left (List.getElem?_eq_some_iff.1 this).1];exact this
structure PkI (S:List ByteArray) (f:Int) (p:Ar):Prop where
 t:Mj p=true→∃i:Nat,i≤S.length∧p.Ap=Cf f i
 l:Mj p=true→∃i:Nat,i≤S.length∧p.Fg=Cf f i
 n:Mj p=true→p.Cp≠5→∃i:Nat,S[i]?=some p.data∧p.Ae=Cf f i
theorem PkI.mono {S2:List ByteArray} {p:Ar} (h:PkI S f p):PkI (S++S2) f p :=
 ⟨fun hn=>by obtain ⟨i,a,e⟩:=h.t hn;exact ⟨i,HH,e⟩,fun hn=>by obtain ⟨i,a,e⟩:=h.l hn;exact ⟨i,HH,e⟩,
  fun hn h5=>by obtain ⟨i,a,e⟩:=h.n hn h5;exact ⟨i,by rw [List.getElem?_append_left (List.getElem?_eq_some_iff.1 a).1];exact a,e⟩⟩
structure WnI (S:List ByteArray) (f:Int) (w:Aj) (es:List ByteArray) (k:Nat):Prop where
 le:k≤S.length
 n:w.next=Cf f k
 s:SlI S k w.Al
 e:Yk∈es∨∃b,b+es.length=k∧EvI S b es
theorem WnI.on {w w2:Aj} {es e2:List ByteArray} (h:WnI S f w es k) (h1:EvI S k e2) (h2:k+e2.length≤S.length) (h3:w2.next=Cf f ((k+e2.length:Nat):Int)) (h4:SlI S (k+e2.length) w2.Al):WnI S f w2 (es++e2) (k+e2.length) :=
 ⟨h2,h3,h4,by
  rcases h.e with h|⟨b,hb,he⟩
  ·exact .inl (List.mem_append_left _ h)
  ·exact .inr ⟨b,HH,he.app (by rw [hb];exact h1)⟩⟩
theorem WnI.mono {S2:List ByteArray} {w:Aj} {es:List ByteArray} (h:WnI S f w es k):WnI (S++S2) f w es k :=
 ⟨by rw [List.length_append];have:=h.le;omega,h.n,h.s.mono,by
  rcases h.e with h|⟨b,hb,he⟩
  ·exact .inl h
  ·exact .inr ⟨b,hb,he.mono⟩⟩
structure RcI (S:List ByteArray) (f:Int) (r:Ay) (es:List ByteArray):Prop where
 z:r.Bd=false→es=[]
 w:r.Bd=true→∃k,WnI S f r.Aa es k∧∀q∈r.Am,∃j:Nat,j < S.length∧q.Ae=Cf f j
theorem RcI.mono {S2:List ByteArray} {r:Ay} {es:List ByteArray} (h:RcI S f r es):RcI (S++S2) f r es :=
 ⟨h.z,fun hs=>by obtain ⟨k,a,c⟩:=h.w hs;exact ⟨k,a.mono,fun q hq=>by obtain ⟨j,hj,e⟩:=c q hq;exact ⟨j,HH,e⟩⟩⟩
end
end Go.Proofs.YtcmighgaiacgoaaGreatDoor
namespace Go.Proofs.YtcmighgaiacgoaaGreatDoor

open Go.RowKit
end Go.Proofs.YtcmighgaiacgoaaGreatDoor
namespace Go.Proofs.YtcmighgaiacgoaaGreatDoor
open Go.RowKit
theorem goL {X:Prop} {c:Cx} {fr:Fr} {H:List Pc} {Φ:Gl} (h:X) (hs:Kp X→T c fr H Φ:=by intro hX;(repeat (first|apply Qx|apply Aks|(apply wO;apply oc;rfl;exact ydE)|(apply wO;apply oc;rfl;apply Auc;rfl;exact A9;assumption)|apply Xy|apply Abd|(apply Aru;rfl;rfl)|(apply Art;rfl;rfl;rfl;rfl)|(apply Arv;rfl;rfl;rfl)|(apply c_t;rfl)|(apply c_f;rfl)|apply Wr|apply Tc|apply Afh|apply Ar6|apply Az3|apply Bg7|apply Bg8|(apply Asg;rfl)|apply Azx|(apply wO;apply As7;rfl;rfl;rfl;exact hX;clear hX;intro _ hX)|(apply wO;apply Aie;rfl;exact hX;clear hX;intro _ hX)|(apply wO;apply Axy;rfl;rfl;rfl;(first|exact AggC.s|exact OneC.s);rfl;exact Akd;exact Be8;rfl)|(apply wO;apply Bjh;rfl;rfl;exact AggC.s;exact Akd;assumption;rfl;assumption)|(apply wO;apply As8;rfl;kernel_rfl;exact X0)|(refine A1 rfl (fun h=>absurd h (by first|omega|simp)) (fun h=>?_);clear h)|(refine Dy rfl rfl (fun h=>absurd h (by first|omega|simp)) (fun h=>?_);clear h)));exact hX.h):T c fr H Φ:=hs ⟨h⟩
end Go.Proofs.YtcmighgaiacgoaaGreatDoor
