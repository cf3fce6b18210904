/- Part 5 of the proof: 34 texts, one behind the other. -/
import Derived.Test.YtkblpelckhegbaaGreatDoorM4
open _root_.Go.Proofs.Tryz
set_option maxRecDepth 100000
set_option maxHeartbeats 8000000
set_option linter.all false
set_option linter.unusedVariables false
set_option linter.unusedSimpArgs false
namespace Go.Proofs.YtkblpelckhegbaaGreatDoor
theorem AO{p:Prop}(h:p:=by have h9:=hpk;unfold Bw R5 at h9;simp only [Bool.and_eq_true,decide_eq_true_eq] at h9;unfold maxLen;omega):p:=h
theorem AP{p:Prop}(h:p:=by apply Cr;rfl;intro _;refine dk ?_;refine dN 12 ?_;refine oS ?_;refine dk ?_;refine dN 13 ?_;refine oS ?_;refine dk ?_;refine dd ?_;refine Bt ((_,_):Nat × Nat) trivial):p:=h
theorem AY{p:Prop}(h:p:=by have hz:n.up[i]=[]:=List.length_eq_zero_iff.1 (by omega);rw [show C6 n s=none by unfold C6;rw [if_neg (by omega),hq,if_pos (by omega)],decide_eq_false h0,show n.up.set i (n.up[i].drop 1)=n.up by rw [hz,List.drop_nil];rw [←hz,List.set_getElem_self]];refine go ?_;intros;refine ret (⟨a1,c1,F1,a2,c2,F2,a3,c3,F3,a4,c4,F4,a5,c5,F5,a6,c6,F6,a7,c7,J⟩,⟨0,none,0,[]⟩) trivial rfl):p:=h
theorem AZ{p:Prop}(h:p:=by refine Ed 3 4 ?_;refine ds 5 ?_;refine ds 6 ?_;refine ds 7 ?_;refine ds 8 ?_;refine ds 9 ?_;refine ds 10 ?_;refine ds 11 ?_;refine ds 12 ?_;refine ds 13 ?_;refine ds 14 ?_;refine ds 15 ?_;refine ds 16 ?_;refine Ed 17 18 ?_;refine dd ?_;exact AA):p:=h
theorem BV{p:Prop}(h:p:=by refine go ?_;refine ret () trivial ?_;rw [show Gj 1 s.Cp 6=true by unfold Gj;simp;omega];rfl):p:=h
theorem CC{p:Prop}(h:p:=by have:=(Nb (s:=s) hg).1;rw [hq] at this;unfold Ff at this;simp only [Bool.and_eq_true,decide_eq_true_eq] at this;exact this.1):p:=h
theorem CF{p:Prop}(h:p:=by refine dN 10 ?_;refine oS ?_;refine dk ?_;refine dt 11 ?_;refine dd ?_;refine go ?_;intros;apply wO;refine Qa (Dh (Dz W p).1 (Ag7 hW)) Hq fun a9 c9 F9=>?_;refine go ?_;refine ret ⟨a,c,z.1,z.2.1,_,a9,c9,F9⟩ trivial rfl):p:=h
theorem CH{p:Prop}(h:p:=by refine go ?_;refine ret () trivial ?_;rw [Bool.and_false,Bool.false_and];rfl):p:=h
theorem DA{p:Prop}(h:p:=by refine go ?_;refine ret () trivial ?_;rw [decide_eq_false h2];rfl):p:=h
theorem DE{p:Prop}(h:p:=by refine go ?_;refine ret () trivial ?_;rw [decide_eq_true h2];rfl):p:=h
theorem DL{p:Prop}(h:p:=by refine ret ⟨_,_,_,_,_,[],_,_,_⟩ trivial rfl):p:=h
theorem EB{p:Prop}(h:p:=by refine go ?_;refine Ce ⟨z.k+1,z.a,z.c,z.F⟩ (by show z.k+1≤t.Ad.length;omega) (by show t.Ad.length - (z.k+1) < t.Ad.length - z.k;omega)):p:=h
theorem EY{p:Prop}(h:p:=by refine go ?_;refine ret (⟨a1,c1,F1,a2,c2,F2,a3,c3,F3,a4,c4,F4,a5,c5,F5,a6,c6,F6,a7,c7,F7⟩,⟨0,none,0,[]⟩) trivial rfl):p:=h
theorem EZ{p:Prop}(h:p:=by refine Ce ⟨z.k+1,a9,c9,F9⟩ (by show z.k+1≤t.Ad.length;omega) (by show t.Ad.length - (z.k+1) < t.Ad.length - z.k;omega)):p:=h
theorem FB{p:Prop}(h:p:=by refine go ?_;refine ret (⟨x1,w1,K1,x2,w2,K2,x3,w3,K3,x4,w4,K4,x5,w5,K5,x6,w6,K6,x7,w7,K7⟩,⟨0,ea,ec,eF⟩) trivial rfl):p:=h
theorem FC{p:Prop}(h:p:=by unfold C6;rw [if_neg (by omega),hq,if_neg (by omega),hpo,hP,hi,Int.toNat_natCast];rw [if_neg (by omega),if_neg (by omega)]):p:=h
theorem FG{p:Prop}(h:p:=by refine ret (⟨some ⟨gp,0,none⟩,c1,[gp],a2,c2,F2,z.a2,z.c2,z.F,a4,c4,F4,a5,c5,F5,a6,c6,J6,a7,c7,F7⟩:NV) trivial rfl):p:=h
theorem FH{p:Prop}(h:p:=by show ((Oi (Bg n k).1 (k+1)).1,(Bg n k).2++(Oi (Bg n k).1 (k+1)).2)=_;unfold Oi;rw [hT,hlf,if_neg (by decide),J3 i1,hSrc]):p:=h
theorem GS{p:Prop}(h:p:=by show n.An.Ad.length - (k+1) < n.An.Ad.length - k;omega):p:=h
theorem GY{p:Prop}(h:p:=by dsimp only;rw [hnx];exact hsE):p:=h
theorem GZ{p:Prop}(h:p:=by dsimp only;rw [hnx];exact frE):p:=h
theorem HR{p:Prop}(h:p:=by unfold Hn;rw [hu,if_pos rfl,hi,Int.toNat_natCast]):p:=h
theorem IV{p:Prop}(h:p:=by unfold C6;rw [if_neg (by omega),hq,if_pos (by omega)]):p:=h
theorem KG{p:Prop}(h:p:=by show k+1+1≤_;omega):p:=h
theorem KK{p:Prop}(h:p:=by unfold Qt;rw [List.getD_eq_getElem?_getD,List.getElem?_eq_getElem h1];rfl):p:=h
theorem KL{p:Prop}(h:p:=by unfold Q5;rw [List.getD_eq_getElem?_getD,List.getElem?_eq_getElem h2];rfl):p:=h
theorem KM{p:Prop}(h:p:=by rw [hlf];decide):p:=h
theorem KN{p:Prop}(h:p:=by unfold Vj;rw [hu,if_pos rfl,hi,Int.toNat_natCast];exact Qu (by omega) []):p:=h
theorem KO{p:Prop}(h:p:=by unfold Hn;split <;> rfl):p:=h
theorem KP{p:Prop}(h:p:=by show n.An.Ad.length≤1000000;omega):p:=h
theorem LA{p:Prop}(h:p:=by unfold C6;rw [if_pos (by omega)]):p:=h
end Go.Proofs.YtkblpelckhegbaaGreatDoor
namespace Go.Proofs.YtkblpelckhegbaaGreatDoor
open Go.RowKit
theorem Baj {t a b:Int} (ha:0≤a∧a≤65535) (hb:0≤b∧b≤65535) (h:gp t a=gp t b):a=b:=by unfold gp at h;omega
def srt (t:Int) (hs:List Hz):Prop:=hs.Pairwise fun a b=>gp t a.Ae < gp t b.Ae
theorem Fs {x:Ck}:C3 x=true↔D9 x.Aa=true∧Ld x.Ai=true∧Gj 0 x.quiet 3=true∧(∀h∈x.holds,Cc h.Ae=true∧Jh x.Aa h.Ae=true∧Gj (x.Ai+1) h.Ch (x.Ai+3)=true)∧srt x.Aa.Ap x.holds:=by
 unfold C3;simp only [Bool.and_eq_true,List.all_eq_true,List.mem_range];constructor
 ·rintro ⟨⟨⟨h1,h2⟩,h3⟩,h4⟩;refine ⟨h1,h2,h3,fun h hh=>?_,?_⟩
  ·obtain ⟨i,hi,rfl⟩:=List.getElem_of_mem hh;have:=h4 i hi;rw [Qs hi] at this;simp only [Bool.and_eq_true] at this;exact ⟨this.1.1.1,this.1.1.2,this.1.2⟩
  ·have step:∀i (hi:i+1 < x.holds.length),gp x.Aa.Ap x.holds[i].Ae < gp x.Aa.Ap x.holds[i+1].Ae:=fun i hi=>by
    have:=h4 (i+1) hi;rw [Qs hi] at this;simp only [Bool.and_eq_true,Bool.or_eq_true,decide_eq_true_eq,Bool.not_eq_true',decide_eq_false_iff_not] at this;have h:=this.2;rcases h with h|h
    ·omega
    ·simpa using h
   refine List.pairwise_iff_getElem.2 fun i j hi hj hij=>?_;obtain ⟨d,rfl⟩:∃d,j=i+1+d:=⟨j - i - 1,FJ⟩;clear hij
   induction d with
   | zero=>exact step i hj
   | succ d ih=>exact Int.lt_trans (ih FJ) (step (i+1+d) hj)
 ·rintro ⟨h1,h2,h3,h4,h5⟩;refine ⟨⟨⟨h1,h2⟩,h3⟩,fun i hi=>?_⟩;rw [Qs hi];obtain ⟨a,b,c⟩:=h4 x.holds[i] (List.getElem_mem hi);rw [a,b,c];simp only [Bool.true_and,Bool.or_eq_true,decide_eq_true_eq,Bool.not_eq_true',decide_eq_false_iff_not];rcases Nat.eq_zero_or_pos i with h0|h0
  ·exact .inl h0
  ·have:=List.pairwise_iff_getElem.1 h5 (i - 1) i FJ hi FJ;right;omega
def Hf (t:Int) (hs:List Hz) (n:Int):Nat:=(hs.takeWhile fun h=>decide (gp t h.Ae < gp t n)).length
def Pl (t:Int) (hs:List Hz) (n:Int):Bool:=match hs[Hf t hs n]? with|some h=>decide (h.Ae=n)|none=>false
def onB (hs:List Hz) (n:Int):Bool:=hs.any fun h=>decide (h.Ae=n)
def O6 (hs:List Hz) (k:Nat) (h:Hz):List Hz:=hs.take k++h::hs.drop k
def Ab4 (W:Aw) (n:Int):Ar:=⟨4,n,W.Ap,Mi W,⟨#[]⟩⟩
def Pu (x:Ck) (n:Int):Ck:=if Jh x.Aa n && !Pl x.Aa.Ap x.holds n then ⟨x.Aa,x.Ai,x.quiet,O6 x.holds (Hf x.Aa.Ap x.holds n) ⟨n,x.Ai+3⟩⟩ else Zi x x.Aa
def Ol (x:Ck) (p:Ar):List Ar:=if Jh x.Aa p.Ae then (if Pl x.Aa.Ap x.holds p.Ae then [Ab4 x.Aa p.Ae] else [Ab4 x.Aa p.Ae,(Dz x.Aa p).1]) else [Te x.Aa]
def Nc (x:Ck) (n:Int):Ck:=if Jh x.Aa n && !Pl x.Aa.Ap x.holds n then ⟨x.Aa,x.Ai,x.quiet,O6 x.holds (Hf x.Aa.Ap x.holds n) ⟨n,x.Ai+3⟩⟩ else x
theorem Abc {x:Ck} (hg:C3 x=true):J8 x.Aa x.Ai x.holds=x.holds:=by
 obtain ⟨-, -, -,h4, -⟩:=Fs.1 hg;unfold J8;refine List.filter_eq_self.2 fun h hh=>?_;obtain ⟨a,b,c⟩:=h4 h hh;unfold Gj at c;simp only [Bool.and_eq_true,decide_eq_true_eq] at c;rw [b,decide_eq_true FJ];rfl
theorem Bby {x:Ck} (hg:C3 x=true) (n:Int):Pu x n=Nc x n:=by
 unfold Pu Nc Zi;rw [Abc hg]
theorem Zp (t:Int) (hs:List Hz) (n:Int):Hf t hs n≤hs.length:=Se.1
theorem Bcw {t n:Int} {hs:List Hz} (hn:0≤n∧n≤65535) (hser:∀h∈hs,Cc h.Ae=true) (hs':srt t hs):Pl t hs n=onB hs n:=by
 obtain ⟨h1,h2,h3⟩:=Se (p:=fun h:Hz=>decide (gp t h.Ae < gp t n)) (xs:=hs);unfold Pl onB;have hle:=Zp t hs n;rw [Bool.eq_iff_iff,List.any_eq_true];constructor
 ·intro h
  split at h
  ·rename_i z hz;exact ⟨z,List.mem_of_getElem? hz,h⟩
  ·cases h
 ·rintro ⟨z,hz,he⟩;simp only [decide_eq_true_eq] at he;obtain ⟨i,hi,rfl⟩:=List.getElem_of_mem hz;have hk:Hf t hs n=i:=by
   refine Zf FJ (fun j hj h=>?_) (fun h=>?_)
   ·have:=List.pairwise_iff_getElem.1 hs' j i h hi hj;simp only [decide_eq_true_eq];rw [←he];exact this
   ·simp only [decide_eq_false_iff_not];rw [he];omega
  rw [hk,List.getElem?_eq_getElem hi];simpa using he
theorem Bfp {t n:Int} {hs:List Hz} (u:Int) (hn:0≤n∧n≤65535) (hser:∀h∈hs,Cc h.Ae=true) (hs':srt t hs) (ht:Pl t hs n=false):srt t (O6 hs (Hf t hs n) ⟨n,u⟩):=by
 obtain ⟨h1,h2,h3⟩:=Se (p:=fun h:Hz=>decide (gp t h.Ae < gp t n)) (xs:=hs);have hle:=Zp t hs n;have hon:onB hs n=false:=by rw [←Bcw hn hser hs'];exact ht
 have hne:∀h∈hs,gp t h.Ae≠gp t n:=fun h hh e=>by
  have:=Baj (Bc.1 (hser h hh)) hn e;have h0:onB hs n=true:=List.any_eq_true.2 ⟨h,hh,by simp [this]⟩;rw [hon] at h0;cases h0
 unfold O6 srt;rw [List.pairwise_append];refine ⟨hs'.sublist (List.take_sublist _ _),?_,?_⟩
 ·rw [List.pairwise_cons];refine ⟨fun b hb=>?_,hs'.sublist (List.drop_sublist _ _)⟩;obtain ⟨j,hj,rfl⟩:=List.getElem_of_mem hb;rw [List.getElem_drop];rw [List.length_drop] at hj;have hk:Hf t hs n < hs.length:=FJ
  have h0:=h3 hk;simp only [decide_eq_false_iff_not,Int.not_lt] at h0;have h00:gp t n≤gp t (hs[Hf t hs n]'hk).Ae:=h0;have hd:=hne _ (List.getElem_mem hk);rcases Nat.eq_zero_or_pos j with e|e
  ·subst e;show gp t n < gp t (hs[Hf t hs n+0]).Ae;simp only [Nat.add_zero];omega
  ·have h5:=List.pairwise_iff_getElem.1 hs' (Hf t hs n) (Hf t hs n+j) hk FJ FJ;show gp t n < _;omega
 ·intro a ha b hb;obtain ⟨i,hi,rfl⟩:=List.getElem_of_mem ha;rw [List.length_take] at hi;rw [List.getElem_take];have ha2:=h2 i (by show i < Hf t hs n;omega) FJ;simp only [decide_eq_true_eq] at ha2;rcases List.mem_cons.1 hb with rfl|hb
  ·exact ha2
  ·obtain ⟨j,hj,rfl⟩:=List.getElem_of_mem hb;rw [List.getElem_drop];rw [List.length_drop] at hj;exact List.pairwise_iff_getElem.1 hs' i _ FJ FJ FJ
theorem Bai {x:Ck} {n:Int} (hg:C3 x=true) (hn:0≤n∧n≤65535):C3 (Nc x n)=true:=by
 unfold Nc
 split
 ·rename_i h;simp only [Bool.and_eq_true,Bool.not_eq_true'] at h;obtain ⟨hh,ht⟩:=h;obtain ⟨h1,h2,h3,h4,h5⟩:=Fs.1 hg;refine Fs.2 ⟨h1,h2,h3,fun z hz=>?_,Bfp _ hn (fun z hz=>(h4 z hz).1) h5 ht⟩;have:z∈x.holds∨z=⟨n,x.Ai+3⟩:=by
   unfold O6 at hz;simp only [List.mem_append,List.mem_cons] at hz;rcases hz with h|h|h
   ·exact .inl (List.mem_of_mem_take h)
   ·exact .inr h
   ·exact .inl (List.mem_of_mem_drop h)
  rcases this with h|rfl
  ·exact h4 z h
  ·exact ⟨Bc.2 hn,hh,by unfold Gj;simp⟩
 ·exact hg
theorem Awn {x:Ck} (hg:C3 x=true) (hc:x.Ai < 9999):C3 (N4 x)=true:=by
 obtain ⟨h1,h2,h3,h4,h5⟩:=Fs.1 hg;have hk:=Amx h2;refine Fs.2 ⟨h1,?_,?_,fun z hz=>?_,h5.sublist (List.filter_sublist)⟩
 ·unfold N4 Ld Gj;simp;omega
 ·unfold Gj at h3;simp only [Bool.and_eq_true,decide_eq_true_eq] at h3;unfold N4 X5 Gj;dsimp only
  split <;> simp <;> omega
 ·unfold N4 Wb at hz;simp only [List.mem_filter] at hz;obtain ⟨z1,z2⟩:=hz;obtain ⟨a,b,c⟩:=h4 z z1;refine ⟨a,b,?_⟩;unfold Gj at c ⊢;simp only [Bool.and_eq_true,decide_eq_true_eq,Bool.not_eq_true',decide_eq_false_iff_not] at c z2 ⊢;show x.Ai+1+1≤z.Ch∧z.Ch≤x.Ai+1+3;omega
theorem Ahw {x:Ck} {W:Aw} (k:Nat) (q:Int) (hg:C3 x=true) (hw:D9 W=true) (hq:Gj 0 q 3=true) (hk:k≤6) (ht:W.Ap=Ci x.Aa.Ap k):C3 ⟨W,x.Ai,q,Ou W x.holds⟩=true:=by
 obtain ⟨h1,h2,h3,h4,h5⟩:=Fs.1 hg;obtain ⟨-,⟨z0,z1⟩,hl, -⟩:=Ec.1 hw;have key:∀n,Jh W n=true→gp x.Aa.Ap n=gp W.Ap n+k:=fun n hn=>by
  unfold Jh at hn;simp only [decide_eq_true_eq] at hn;rw [ht] at hn ⊢;have:=Mf (Ci x.Aa.Ap k) n;unfold gp Ci at *;omega
 refine Fs.2 ⟨hw,h2,hq,fun z hz=>?_,?_⟩
 ·unfold Ou at hz;simp only [List.mem_filter] at hz;obtain ⟨a,b,c⟩:=h4 z hz.1;exact ⟨a,hz.2,c⟩
 ·unfold Ou srt;show List.Pairwise (fun a b=>gp W.Ap a.Ae < gp W.Ap b.Ae) (x.holds.filter fun h=>Jh W h.Ae);have hp:List.Pairwise (fun a b=>gp x.Aa.Ap a.Ae < gp x.Aa.Ap b.Ae) (x.holds.filter fun h=>Jh W h.Ae):=h5.sublist (List.filter_sublist);refine List.Pairwise.imp_of_mem (fun {a b} ha hb h=>?_) hp;simp only [List.mem_filter] at ha hb;have e1:=key _ ha.2;have e2:=key _ hb.2;omega
theorem Awm {x:Ck} {s:ByteArray} (hg:C3 x=true) (hs:R5 s=true):C3 (Sv x s)=true:=by
 have hw:=(Fs.1 hg).1;obtain ⟨-,hw2, -⟩:=Ate (x:=x.Aa) (s:=s) (by unfold Abm;rw [hw,hs];rfl);obtain ⟨⟨t0,t1⟩, -⟩:=Ec.1 hw;by_cases h:(x.Aa.Ao.length:Int)=x.Aa.size
 ·refine Ahw 1 0 hg hw2 FM FJ ?_;show (Dn x.Aa).Ap=_;unfold Dn;rw [if_pos h];rfl
 ·refine Ahw 0 0 hg hw2 FM FJ ?_;show (Dn x.Aa).Ap=_;unfold Dn Ci;rw [if_neg h];omega
def Qt (n:Du) (i:Nat):Bf:=n.Af.getD i ⟨0,[]⟩
def Q5 (n:Du) (i:Nat):Az:=n.Ac.getD i Bkm
def Aaj (n:Du) (i:Nat):List Int:=I3 n.An.Ad ((i:Nat):Int)
def Agc (n:Du) (i:Nat) (p:Ar):List Int:=if p.Cp=2 then V1 (Qt n i) p.Ae (Aaj n i) else Aaj n i
def C7 (n:Du) (i:Nat) (p:Ar):Du × List ByteArray :=
 if Eu n.An.Ad ((i:Nat):Int) then (⟨n.An,n.Ab,n.Af,n.Ac.set i (Dm (Q5 n i) p (N5 i)),n.down,n.up⟩,Vk i (Iv (Q5 n i) p))
 else (⟨n.An,n.Ab,if p.Cp=2 then n.Af.set i (Q2 (Qt n i) p.Ae) else n.Af,n.Ac,Dq n.down (Agc n i p) [p],n.up⟩,[])
def Aaa (n:Du) (i:Nat):Nat:=(n.An.Ad.getD i 0).toNat
def Aa4 (p:Ar):Ar:=⟨4,p.Ae,p.Ap,p.Fv,⟨#[]⟩⟩
def Rf (n:Du) (i:Nat) (p:Ar):Du :=
 if Aaa n i=0 then ⟨n.An,Nc n.Ab p.Ae,n.Af,n.Ac,Dq n.down [((i:Nat):Int)] (Ol n.Ab p),n.up⟩
 else ⟨n.An,n.Ab,n.Af.set (Aaa n i) (Pk (Qt n (Aaa n i)) p.Ae ((i:Nat):Int)),n.Ac,Dq n.down [((i:Nat):Int)] [Aa4 p],if Adz (Qt n (Aaa n i)) p.Ae then n.up.modify (Aaa n i) fun q=>H5 q [p] else n.up⟩
def Oi (n:Du) (i:Nat):Du × List ByteArray :=
 if Eu n.An.Ad ((i:Nat):Int) then (⟨n.An,n.Ab,n.Af,n.Ac.set i (Cw (Q5 n i) (N5 i)),n.down,n.up.modify i fun q=>H5 q (Fj (Q5 n i))⟩,Vk i (H8 (Q5 n i)))
 else (⟨n.An,n.Ab,n.Af.set i (Gb (Qt n i)),n.Ac,n.down,n.up⟩,[])
def Bjn (n:Du):Du:=⟨n.An,N4 n.Ab,n.Af,n.Ac,Dq n.down (Aaj n 0) (Oj n.Ab.Aa n.Ab.quiet),n.up⟩
def Bg (n:Du):Nat→Du × List ByteArray
 | 0=>(Bjn n,[])
 | k+1=>((Oi (Bg n k).1 (k+1)).1,(Bg n k).2++(Oi (Bg n k).1 (k+1)).2)
def Hc (n:Du):Du × List ByteArray:=Bg n (n.An.Ad.length - 1)
def Ai3 (n:Du) (s:ByteArray):Du:=⟨n.An,Sv n.Ab s,n.Af,n.Ac,Dq n.down (Aaj n 0) [Dv n.Ab.Aa s],n.up⟩
def Ro (n:Du) (i:Nat):Du:=⟨n.An,n.Ab,n.Af,n.Ac,n.down.modify i (·.drop 1),n.up⟩
def Pj (n:Du) (i:Nat):Du:=⟨n.An,n.Ab,n.Af,n.Ac,n.down,n.up.modify i (·.drop 1)⟩
structure GN (ck:Nat→Int) (n:Du):Prop where
 t:Kl n.An=true
 s:C3 n.Ab=true
 l:Mj n=true
 a:∀i (h1:i < n.Af.length) (h2:i < n.Ac.length) (h3:i < n.down.length) (h4:i < n.up.length),Rr n.An.Ad (ck i) i n.Af[i] n.Ac[i] n.down[i] n.up[i]=true
theorem A1 {n:Du}:At n=true↔GN (fun _=>n.Ab.Ai) n:=by
 rw [U2];constructor
 ·rintro ⟨h1,h2,h3,h4⟩;obtain ⟨q1,q2,q3,q4⟩:=Bm.1 h3;exact ⟨h1,h2,h3,fun i a b c d=>by rw [←Vw a b c d];exact h4 i FJ⟩
 ·rintro ⟨h1,h2,h3,h4⟩;obtain ⟨q1,q2,q3,q4⟩:=Bm.1 h3;exact ⟨h1,h2,h3,fun i hi=>by rw [Vw FJ FJ FJ FJ];exact h4 i _ _ _ _⟩
def Agh (ck:Nat→Int) (i:Nat) (c:Int):Nat→Int:=fun j=>if j=i then c else ck j
structure RN (par:List Int) (clk:Int) (i:Nat) (e:Bf) (r:Az) (d u:List Ar):Prop where
 hd:Ff d=true
 hu:Ff u=true
 hk:upQ u=true
 hz:i=0→Nl e=true∧Ut r=true∧d.length=0∧u.length=0
 hf:i≠0→Eu par ((i:Nat):Int)=true→Nl e=true∧Bx r=true∧r.Ai=clk
 hn:i≠0→Eu par ((i:Nat):Int)=false→Ba e=true∧e.Ai=clk∧Ut r=true
theorem P6 {par:List Int} {clk:Int} {i:Nat} {e:Bf} {r:Az} {d u:List Ar}:Rr par clk i e r d u=true↔RN par clk i e r d u:=by
 unfold Rr;constructor
 ·intro h;simp only [Bool.and_eq_true] at h;obtain ⟨⟨⟨h1,h2⟩,h3⟩,h4⟩:=h;refine ⟨h1,h2,h3,fun e=>?_,fun e l=>?_,fun e l=>?_⟩
  ·rw [if_pos e] at h4;simp only [Bool.and_eq_true,decide_eq_true_eq] at h4;exact ⟨h4.1.1.1,h4.1.1.2,h4.1.2,h4.2⟩
  ·rw [if_neg e,if_pos l] at h4;simp only [Bool.and_eq_true,decide_eq_true_eq] at h4;exact ⟨h4.1.1,h4.1.2,h4.2⟩
  ·rw [if_neg e,if_neg (by rw [l];decide)] at h4;simp only [Bool.and_eq_true,decide_eq_true_eq] at h4;exact ⟨h4.1.1,h4.1.2,h4.2⟩
 ·intro h;rw [h.hd,h.hu,h.hk,Bool.true_and,Bool.true_and,Bool.true_and];by_cases e:i=0
  ·rw [if_pos e];obtain ⟨a,b,c,d⟩:=h.hz e;rw [a,b,decide_eq_true c,decide_eq_true d];rfl
  ·rw [if_neg e];cases l:Eu par ((i:Nat):Int)
   ·obtain ⟨a,b,c⟩:=h.hn e l;rw [if_neg FM,a,decide_eq_true b,c];rfl
   ·obtain ⟨a,b,c⟩:=h.hf e l;rw [if_pos rfl,a,b,decide_eq_true c];rfl
theorem GN.rn {ck:Nat→Int} {n:Du} (h:GN ck n) {i:Nat} (hi:i < n.An.Ad.length):∃(h1:i < n.Af.length) (h2:i < n.Ac.length) (h3:i < n.down.length) (h4:i < n.up.length),RN n.An.Ad (ck i) i n.Af[i] n.Ac[i] n.down[i] n.up[i]:=by
 obtain ⟨q1,q2,q3,q4⟩:=Bm.1 h.l;exact ⟨FJ,FJ,FJ,FJ,P6.1 (h.a i _ _ _ _)⟩
theorem GN.mk' {ck:Nat→Int} {n:Du} (h1:Kl n.An=true) (h2:C3 n.Ab=true) (h3:Mj n=true) (h4:∀i (h1:i < n.Af.length) (h2:i < n.Ac.length) (h3:i < n.down.length) (h4:i < n.up.length),RN n.An.Ad (ck i) i n.Af[i] n.Ac[i] n.down[i] n.up[i]):GN ck n :=
 ⟨h1,h2,h3,fun i a b c d=>P6.2 (h4 i a b c d)⟩
theorem GN.src {ck:Nat→Int} {n:Du} {s:Ck} (h:GN ck n) (hs:C3 s=true):GN ck ⟨n.An,s,n.Af,n.Ac,n.down,n.up⟩:=⟨h.t,hs,h.l,h.a⟩
theorem GN.el {ck:Nat→Int} {n:Du} {i:Nat} {e:Bf} (h:GN ck n) (h0:i≠0) (hl:Eu n.An.Ad ((i:Nat):Int)=false) (he:Ba e=true):GN (Agh ck i e.Ai) ⟨n.An,n.Ab,n.Af.set i e,n.Ac,n.down,n.up⟩:=by
 obtain ⟨q1,q2,q3,q4⟩:=Bm.1 h.l;refine .mk' h.t h.s (Bm.2 ⟨by simpa using q1,q2,q3,q4⟩) fun j h1 h2 h3 h4=>?_;have h1':j < n.Af.length:=IS
 have r:=P6.1 (h.a j h1' h2 h3 h4);refine ⟨r.hd,r.hu,r.hk,fun e0=>?_,fun e0 l=>?_,fun e0 l=>?_⟩
 ·have:=r.hz e0
  rwa [List.getElem_set_ne FJ]
 ·have hne:i≠j:=fun e1=>by subst e1;rw [hl] at l;cases l
  have:=r.hf e0 l;rw [List.getElem_set_ne hne];unfold Agh;rw [if_neg (Ne.symm hne)];exact this
 ·have:=r.hn e0 l;by_cases e1:i=j
  ·subst e1;rw [List.getElem_set_self];unfold Agh;rw [if_pos rfl];exact ⟨he,rfl,this.2.2⟩
  ·rw [List.getElem_set_ne e1];unfold Agh;rw [if_neg (Ne.symm e1)];exact this
theorem GN.rc {ck:Nat→Int} {n:Du} {i:Nat} {x:Az} (h:GN ck n) (h0:i≠0) (hl:Eu n.An.Ad ((i:Nat):Int)=true) (he:Bx x=true):GN (Agh ck i x.Ai) ⟨n.An,n.Ab,n.Af,n.Ac.set i x,n.down,n.up⟩:=by
 obtain ⟨q1,q2,q3,q4⟩:=Bm.1 h.l;refine .mk' h.t h.s (Bm.2 ⟨q1,by simpa using q2,q3,q4⟩) fun j h1 h2 h3 h4=>?_;have h2':j < n.Ac.length:=IH
 have r:=P6.1 (h.a j h1 h2' h3 h4);refine ⟨r.hd,r.hu,r.hk,fun e0=>?_,fun e0 l=>?_,fun e0 l=>?_⟩
 ·have:=r.hz e0
  rwa [List.getElem_set_ne FJ]
 ·have:=r.hf e0 l;by_cases e1:i=j
  ·subst e1;rw [List.getElem_set_self];unfold Agh;rw [if_pos rfl];exact ⟨this.1,he,rfl⟩
  ·rw [List.getElem_set_ne e1];unfold Agh;rw [if_neg (Ne.symm e1)];exact this
 ·have hne:i≠j:=fun e1=>by subst e1;rw [hl] at l;cases l
  have:=r.hn e0 l;rw [List.getElem_set_ne hne];unfold Agh;rw [if_neg (Ne.symm hne)];exact this
theorem Avb {q ps:List Ar} (hq:upQ q=true) (hp:∀p∈ps,p.Cp=3):upQ (H5 q ps)=true:=by
 unfold upQ H5 at *;rw [List.all_append,hq,Bool.true_and,List.all_eq_true];exact fun p h=>decide_eq_true (hp p (List.mem_of_mem_take h))
theorem GN.dn {ck:Nat→Int} {n:Du} (h:GN ck n) (i:Nat) (f:List Ar→List Ar) (h0:i=0→f []=[]) (hf:∀q,Ff q=true→Ff (f q)=true):GN ck ⟨n.An,n.Ab,n.Af,n.Ac,n.down.modify i f,n.up⟩:=by
 obtain ⟨q1,q2,q3,q4⟩:=Bm.1 h.l;refine .mk' h.t h.s (Bm.2 ⟨q1,q2,by simpa using q3,q4⟩) fun j h1 h2 h3 h4=>?_;have h3':j < n.down.length:=IU
 have r:=P6.1 (h.a j h1 h2 h3' h4);by_cases e1:i=j
 ·subst e1;simp only [List.getElem_modify_eq];refine ⟨hf _ r.hd,r.hu,r.hk,fun e0=>?_,r.hf,r.hn⟩;obtain ⟨a,b,c,d⟩:=r.hz e0;refine ⟨a,b,?_,d⟩;rw [List.length_eq_zero_iff.1 c,h0 e0];rfl
 ·simp only [List.getElem_modify,if_neg e1];exact r
theorem GN.un {ck:Nat→Int} {n:Du} (h:GN ck n) (i:Nat) (f:List Ar→List Ar) (h0:i=0→f []=[]) (hf:∀q,Ff q=true→upQ q=true→Ff (f q)=true∧upQ (f q)=true):GN ck ⟨n.An,n.Ab,n.Af,n.Ac,n.down,n.up.modify i f⟩:=by
 obtain ⟨q1,q2,q3,q4⟩:=Bm.1 h.l;refine .mk' h.t h.s (Bm.2 ⟨q1,q2,q3,by simpa using q4⟩) fun j h1 h2 h3 h4=>?_;have h4':j < n.up.length:=by simpa using h4
 have r:=P6.1 (h.a j h1 h2 h3 h4');by_cases e1:i=j
 ·subst e1;simp only [List.getElem_modify_eq];refine ⟨r.hd,(hf _ r.hu r.hk).1,(hf _ r.hu r.hk).2,fun e0=>?_,r.hf,r.hn⟩;obtain ⟨a,b,c,d⟩:=r.hz e0;refine ⟨a,b,c,?_⟩;rw [List.length_eq_zero_iff.1 d,h0 e0];rfl
 ·simp only [List.getElem_modify,if_neg e1];exact r
theorem GN.sp {ck:Nat→Int} {ps:List Ar} (hp:∀p∈ps,Bw p=true):∀{nodes:List Int} {n:Du},GN ck n→(∀x∈nodes,x.toNat≠0)→GN ck ⟨n.An,n.Ab,n.Af,n.Ac,Dq n.down nodes ps,n.up⟩
 | [],_,h,_=>h
 | x::r,n,h,hx=>GN.sp hp (nodes:=r) (n:=⟨n.An,n.Ab,n.Af,n.Ac,n.down.modify x.toNat fun q=>H5 q ps,n.up⟩) (h.dn x.toNat _ (fun e=>absurd e (hx x FK)) fun q hq=>Aeo hq hp) fun y hy=>hx y LK
theorem Ahu {q:List Ar} (h:Ff q=true):Ff (q.drop 1)=true:=by
 unfold Ff at *;simp only [Bool.and_eq_true,decide_eq_true_eq,List.all_eq_true] at h ⊢;exact ⟨HU,fun p hp=>h.2 p (List.mem_of_mem_drop hp)⟩
theorem Bc8 {q:List Ar} (h:upQ q=true):upQ (q.drop 1)=true:=by
 unfold upQ at *;simp only [List.all_eq_true] at h ⊢;exact fun p hp=>h p (List.mem_of_mem_drop hp)
theorem GN.pd {ck:Nat→Int} {n:Du} (h:GN ck n) (i:Nat):GN ck (Ro n i):=h.dn i _ (fun _=>rfl) fun _=>Ahu
theorem GN.pu {ck:Nat→Int} {n:Du} (h:GN ck n) (i:Nat):GN ck (Pj n i):=h.un i _ (fun _=>rfl) fun _ a b=>⟨Ahu a,Bc8 b⟩
def Xl (l:List Gh):Prop:=∀s∈l,s.Dk.size≤8
theorem Al0 {s:ByteArray} (h:s.size≤8):(Aip s).size≤9:=by
 unfold Aip;have:(⟨#[43]⟩:ByteArray).size=1:=rfl;rw [ByteArray.size_append];omega
theorem Ats {l:List Gh} (h:Xl l):(Hb l).size≤9:=by
 unfold Hb;cases l with
 | nil=>decide
 | cons s r =>
  dsimp only
  split
  ·exact Al0 (h s FK)
  ·decide
theorem Bbu:∀(l:List Gh) (n:Int),Xl l→∀e∈(rel n l).2.2,e.size≤9
 | [],_,_,e,he=>by simp [rel] at he
 | s::r,n,h,e,he=>by
  unfold rel at he
  split at he
  ·rcases List.mem_cons.1 he with rfl|he
   ·exact Al0 (h s FK)
   ·exact Bbu r _ (fun x hx=>h x JC) e he
  ·simp at he
theorem Ave {w:Aj} (h:Xl w.Am):∀e∈Su w,e.size≤9:=Bbu w.Am w.next h
theorem Auv:∀(k:Nat) (w:Aj),Xl w.Am→(∀e∈Pf k w,e.size≤9)∧Xl (Jc k w).Am
 | 0,w,h=>⟨fun e he=>by simp [Pf] at he,h⟩
 | k+1,w,h=>by
  have ih:=Auv k (shW w) fun s hs=>h s (List.mem_of_mem_drop hs);refine ⟨fun e he=>?_,ih.2⟩;unfold Pf at he;rcases List.mem_cons.1 he with rfl|he
  ·exact Ats h
  ·exact ih.1 e he
theorem Abq {w:Aj} (h:Cu w=true):Xl w.Am:=fun s hs=>by
 obtain ⟨n0,n1,hl,hit⟩:=Tm h;exact hit s hs
theorem Aqb {w:Aj} {t:Int} (h:Xl w.Am):∀e∈Jm w t,e.size≤9:=fun e he=>by
 have hg:=Auv (Ez w.next t) w h;unfold Jm at he;rcases List.mem_append.1 he with he|he
 ·exact hg.1 e he
 ·exact Ave hg.2 e he
theorem Axu {w:Aj} {t:Int} (h:Cu w=true):(Jm w t).length≤40000:=by
 have h1:=(We (t:=t) h).2.2.1;have h2:Ez w.next t≤32767:=by
  unfold Ez
  split
  ·rename_i hb;unfold Uu Gj at hb;simp only [Bool.and_eq_true,decide_eq_true_eq] at hb;omega
  ·omega
 omega
theorem Bfc {x:Aj} {k:Nat} {s:Gh} (h:Xl x.Am) (hs:s.Dk.size≤8):Xl (M3 x k s):=fun y hy=>by
 unfold M3 at hy;rcases List.mem_or_eq_of_mem_set hy with hy|rfl
 ·unfold Na at hy;rcases List.mem_append.1 hy with hy|hy
  ·exact h y hy
  ·rw [List.eq_of_mem_replicate hy];decide
 ·exact hs
theorem Bej {r:Az} {p:Ar} (hg:Mv r) (hp:Bw p=true):∀e∈Iv r p,e.size≤1000000:=fun e he=>by
 have hd:p.data.size≤8:=by
  unfold Bw R5 at hp;simp only [Bool.and_eq_true,decide_eq_true_eq] at hp;omega
 have hst:=(Rt hg hp).1;have htk:=(Us hg hp).1;unfold Iv at he
 split at he
 ·unfold Ni at he;rcases List.mem_append.1 he with he|he
  ·unfold Lm at he
   split at he
   ·simp at he
   ·unfold Mo at he
    split at he
    ·simp at he
    ·have:=Ave (w:=Aab (Eg r p) p.Ae p.data) (Bfc (s:=⟨true,p.data⟩) (Abq hst) hd) e he;omega
  ·unfold Pw at he
   split at he
   ·split at he
    ·have:=Aqb (Abq htk) e he;omega
    ·rw [List.mem_singleton] at he;subst he;decide
   ·simp at he
 ·simp at he
theorem Aey {r:Az} (hg:Mv r):(∀e∈H8 r,e.size≤1000000)∧(H8 r).length≤40000:=by
 unfold H8
 split
 ·exact ⟨fun e he=>by simp at he,FK⟩
 ·exact ⟨fun e he=>by have:=Aqb (Abq hg.w) e he;omega,Axu hg.w⟩
theorem Air {w:World} {t:TypeId} {a:Option Addr} {c:Nat} {l:List Int} {F:List Nat} (h:(Pc.ow Bb t (.slice a l.length c) l F).P w):∃F',(Pc.isv Po (.agg #[.slice a l.length c]) ⟨l⟩ F').P w:=by
 obtain ⟨F', -,hs⟩:=h.2.read;exact ⟨F',_,rfl,_,rfl,hs⟩
theorem Aa2 (t:Qo) (node:Int) (v:Value) (F:List Nat) (hl:t.Ad.length≤1000000):Fn prog 210 [v,.int .i64 node] [.isv Po v t F] [] (fun (_:KiS)=>True) (fun z=>.slice z.a (I3 t.Ad node).length z.c) (fun z=>[.ow Bb 3 (.slice z.a (I3 t.Ad node).length z.c) (I3 t.Ad node) z.F]):=by
 refine enter func210 rfl ntmps210 fun w0=>?_;refine N2 ?_;rintro a1 c1 F1 rfl l1;refine Dj Bb 3 ?_;refine go ?_;intros;refine Cj [1,4,9,10] (fun z:KiS=>[(5,.slice z.a (Kt t.Ad node z.k).length z.c),(11,.int .i64 (z.k:Nat))]) (fun z=>[.ow Bb 3 (.slice z.a (Kt t.Ad node z.k).length z.c) (Kt t.Ad node z.k) z.F]) (fun z=>z.k≤t.Ad.length) (fun z=>t.Ad.length - z.k) ⟨0,_,_,_⟩ (Nat.zero_le _) fun z hz=>?_;have hkl:=Ah5 t.Ad node z.k;refine go ?_;refine Ax rfl (fun h1=>?_) (fun h1=>?_)
 ·have hh:z.k < t.Ad.length:=FJ
  refine I5 (xs:=t.Ad) z.k ?_;rintro hi b o e1;rw [e1];refine go ?_;refine Ax rfl (fun h2=>?_) (fun h2=>?_)
  ·refine O3 ?_;intros;apply wO;refine Qa (Rd _) Dd fun a9 c9 F9=>?_;refine go ?_;rw [←Ast hh h2];exact EZ
  ·rw [←Awx hh h2];exact EB
 ·rw [show Kt t.Ad node z.k=I3 t.Ad node by unfold I3;rw [show z.k=t.Ad.length by omega]];exact CL
theorem Ahx {r:Az} {p:Ar} (hg:Mv r) (hp:Bw p=true):∀e∈Iv r p,e.size≤1000000:=Bej hg hp
theorem Auy:∀(l:List Int) (lo:Int),l.Pairwise (· < ·)→(∀z∈l,lo≤z∧z≤7)→(l.length:Int)≤max 0 (8 - lo)
 | [],_,_,_=>by simp;omega
 | x::r,lo,hp,hb=>by
  rw [List.pairwise_cons] at hp;have:=Auy r (x+1) hp.2 fun z hz=>⟨by have:=hp.1 z hz;omega,(hb z JR).2⟩;have:=hb x FK;rw [List.length_cons];omega
theorem Qf {e:Bf} (hg:Ba e=true) {x:Gs} (hx:x∈e.Ah):x.Bj.length≤7:=by
 have h:=(Qj.1 ((Hg.1 hg).2.2.1 x hx)).2.2.1;have:=Auy x.Bj 1 h.1 h.2;omega
theorem Adw {i:Nat}:1≤N5 i∧N5 i≤8:=by unfold N5;omega
theorem Hv {n:Du} {i:Nat} (h:i < n.Ac.length):Q5 n i=n.Ac[i]:=Qu h _
theorem J3 {n:Du} {i:Nat} (h:i < n.Af.length):Qt n i=n.Af[i]:=Qu h _
theorem Av4 (n:Du) (i:Nat) (p:Ar) (g:Nat) (a1:Option Addr) (c1:Nat) (F1:List Nat) (a2:Option Addr) (c2:Nat) (F2:List Nat) (a3:Option Addr) (c3:Nat) (F3:List Nat) (a4:Option Addr) (c4:Nat) (F4:List Nat) (a5:Option Addr) (c5:Nat) (F5:List Nat) (a6:Option Addr) (c6:Nat) (F6:List Nat) (a7:Option Addr) (c7:Nat) (F7:List Nat) (FT:List Nat) (hl:Mj n=true) (hi:i < n.An.Ad.length) (h8:Vq n.An.Ad) (hr:Eu n.An.Ad (i:Nat)=true→Bx (Q5 n i)=true) (he:Eu n.An.Ad (i:Nat)=false→Ba (Qt n i)=true) (hp:Bw p=true) (hps:p.data.size≤maxLen) :
  Fn prog 288 [Iq g 0 0,.int .i64 (i:Nat),.agg #[.int .i64 (p).Cp,.int .i64 (p).Ae,.int .i64 (p).Ap,.int .i64 (p).Fv,.string (p).data]] [Hp FT] [.row g 50 0 [] [.slice a1 n.An.Ad.length c1,.int .i64 n.Ab.Aa.Ap,.int .i64 n.Ab.Aa.size,.slice a2 n.Ab.Aa.Ao.length c2,.int .i64 n.Ab.Ai,.int .i64 n.Ab.quiet,.slice a3 n.Ab.holds.length c3,.slice a4 n.Af.length c4,.slice a5 n.Ac.length c5,.slice a6 n.down.length c6,.slice a7 n.up.length c7] [],.ow Bb 3 (.slice a1 n.An.Ad.length c1) n.An.Ad F1,.ow A8 9 (.slice a2 n.Ab.Aa.Ao.length c2) n.Ab.Aa.Ao F2,.ow Bn 215 (.slice a3 n.Ab.holds.length c3) n.Ab.holds F3,.ow Ca 133 (.slice a4 n.Af.length c4) n.Af F4,.ow By 140 (.slice a5 n.Ac.length c5) n.Ac F5,.ow (Kx Ak 223) 142 (.slice a6 n.down.length c6) n.down F6,.ow (Kx Ak 223) 142 (.slice a7 n.up.length c7) n.up F7] (fun (_:NV × KA)=>True) (fun z=>.slice z.2.a (C7 n i p).2.length z.2.c) (fun z=>[.row g 50 0 [] [.slice z.1.a1 n.An.Ad.length z.1.c1,.int .i64 (C7 n i p).1.Ab.Aa.Ap,.int .i64 (C7 n i p).1.Ab.Aa.size,.slice z.1.a2 (C7 n i p).1.Ab.Aa.Ao.length z.1.c2,.int .i64 (C7 n i p).1.Ab.Ai,.int .i64 (C7 n i p).1.Ab.quiet,.slice z.1.a3 (C7 n i p).1.Ab.holds.length z.1.c3,.slice z.1.a4 n.Af.length z.1.c4,.slice z.1.a5 n.Ac.length z.1.c5,.slice z.1.a6 n.down.length z.1.c6,.slice z.1.a7 n.up.length z.1.c7] [],.ow Bb 3 (.slice z.1.a1 n.An.Ad.length z.1.c1) (C7 n i p).1.An.Ad z.1.F1,.ow A8 9 (.slice z.1.a2 (C7 n i p).1.Ab.Aa.Ao.length z.1.c2) (C7 n i p).1.Ab.Aa.Ao z.1.F2,.ow Bn 215 (.slice z.1.a3 (C7 n i p).1.Ab.holds.length z.1.c3) (C7 n i p).1.Ab.holds z.1.F3,.ow Ca 133 (.slice z.1.a4 n.Af.length z.1.c4) (C7 n i p).1.Af z.1.F4,.ow By 140 (.slice z.1.a5 n.Ac.length z.1.c5) (C7 n i p).1.Ac z.1.F5,.ow (Kx Ak 223) 142 (.slice z.1.a6 n.down.length z.1.c6) (C7 n i p).1.down z.1.F6,.ow (Kx Ak 223) 142 (.slice z.1.a7 n.up.length z.1.c7) (C7 n i p).1.up z.1.F7,.ow A8 9 (.slice z.2.a (C7 n i p).2.length z.2.c) (C7 n i p).2 z.2.F]):=by
 obtain ⟨q1,q2,q3,q4⟩:=Bm.1 hl;have hn8:=h8.n1;obtain ⟨d0,d1_⟩:=Adw (i:=i);refine enter func288 rfl ntmps288 fun w0=>?_;refine go ?_;intros;refine cfr (fun w st=>by obtain ⟨Fq,hq⟩:=Air (st.get (p:=.ow Bb 3 (.slice a1 n.An.Ad.length c1) n.An.Ad F1) FO);exact ⟨_,En hq,rfl,Yr n.An i _ Fq⟩) (fun _ _=>?_);refine O1 ?_;cases hlf:Eu n.An.Ad (i:Nat)
 rotate_left
 ·have hir:i < n.Ac.length:=FJ
  have hgr:=Eb.1 (Hv hir▸hr hlf);have hev:=(V3 (d:=N5 i) hgr hp d0 d1_).2;rw [show C7 n i p=(⟨n.An,n.Ab,n.Af,n.Ac.set i (Dm n.Ac[i] p (N5 i)),n.down,n.up⟩,Vk i (Iv n.Ac[i] p)) by unfold C7;rw [if_pos hlf,Hv hir]];refine go ?_;refine W5 (xs:=n.Ac) (m:=5) i ?_ rfl hir;rintro _ g5 A5 cs B5 k1 k2 J1 Ji J2 rfl - hc5 hH5;refine Ij ?_;rintro b1 d1 G1 b2 d2 G2 ev l1 l2;obtain rfl:=Uv ev;refine As [5,6] [] ?_;refine Ds 0 1 2 3 ?_;refine Ds 4 5 6 7 ?_;refine dt 8 ?_;refine dN 9 ?_;refine oC ?_;refine Cb (Ak3 i FJ) fun _ _=>?_;refine dk ?_;refine dN 10 ?_;refine oC ?_
  refine Cb (Bdu n.Ac[i] p (N5 i) g5 140 (0+i * 5) A5 B5 b1 d1 G1 b2 d2 G2 hgr hp d0 d1_) fun s _=>?_;refine dk ?_;refine dN 11 ?_;refine oC ?_;refine cfr (fun w st=>by obtain ⟨Fq, -,hq⟩:=(st.get (p:=.ow A8 9 (.slice s.ae (Iv n.Ac[i] p).length s.ce) (Iv n.Ac[i] p) s.Fe) FO).2.read;exact ⟨[.sl A8 (.slice s.ae (Iv n.Ac[i] p).length s.ce) (Iv n.Ac[i] p) Fq,Hp FT],N0 ⟨FM,hq⟩ (st.get (p:=Hp FT) FO),rfl,Bc2 i _ _ _ Fq FT FJ FJ (Ahx hgr hp)⟩) (fun u _=>?_);refine O1 ?_;refine dk ?_;refine dt 12 ?_;refine dd ?_;refine go ?_
  refine I6 (Dm n.Ac[i] p (N5 i)) ?_;refine Ta _ hH5 rfl fun J5=>?_;refine ret (⟨a1,c1,F1,a2,c2,F2,a3,c3,F3,a4,c4,F4,_,c5,J5,a6,c6,F6,a7,c7,F7⟩,⟨0,_,_,_⟩) trivial rfl
 ·have hir:i < n.Af.length:=FJ
  have hge:Ba n.Af[i]=true:=J3 hir▸he hlf;have hel:=(Hg.1 hge).2.1;have hkl:=Wc n.An.Ad ((i:Nat):Int);have hkx:∀x∈I3 n.An.Ad ((i:Nat):Int),0≤x∧x.toNat < n.down.length:=fun x hx=>by have:=Mh h8 hx;omega
  refine go ?_;refine cfr (fun w st=>by obtain ⟨Fq,hq⟩:=Air (st.get (p:=.ow Bb 3 (.slice a1 n.An.Ad.length c1) n.An.Ad F1) FO);exact ⟨_,En hq,rfl,Aa2 n.An ((i:Nat):Int) _ Fq KP⟩) (fun u _=>?_);refine O1 ?_;refine A4 (E:=Bb) (xs:=I3 n.An.Ad ((i:Nat):Int)) fun Fk=>?_;refine Dj A8 9 ?_;refine go ?_;refine Ax rfl (fun hk=>?_) (fun hk=>?_)
  ·rw [show C7 n i p=(⟨n.An,n.Ab,n.Af.set i (Q2 n.Af[i] p.Ae),n.Ac,Dq n.down (V1 n.Af[i] p.Ae (I3 n.An.Ad ((i:Nat):Int))) [p],n.up⟩,[]) by unfold C7 Agc Aaj;rw [if_neg KM,if_pos hk,if_pos hk,J3 hir]];refine go ?_;refine W5 (xs:=n.Af) (m:=2) i ?_ rfl hir;rintro _ g5 A5 cs B5 k1 k2 J1 Ji J2 rfl - hc5 hH5;refine H4 ?_;rintro b1 d1 G1 ev l1;obtain rfl:=Uv ev;refine As [6,7] [] ?_;refine Ds 0 1 2 3 ?_;refine Ds 4 5 6 7 ?_;refine dt 8 ?_;refine dN 9 ?_;refine oC ?_
   refine Cb (Avq n.Af[i] p.Ae (I3 n.An.Ad ((i:Nat):Int)) g5 133 (0+i * 2) A5 B5 b1 d1 G1 u.a u.c Fk FJ (fun x hx=>by have:=Qf hge hx;omega) FJ) fun s _=>?_;refine dk ?_;refine dt 10 ?_;refine dd ?_;refine Fc (Q2 n.Af[i] p.Ae) ?_;refine Ta _ hH5 rfl fun J5=>?_;refine A4 (E:=Bb) (xs:=V1 n.Af[i] p.Ae (I3 n.An.Ad ((i:Nat):Int))) fun Fk2=>?_;refine O3 ?_;intros;refine Ll (E:=Ak) (xs:=[p]) (Dh p hps) ?_ FK;refine A4 (E:=Ak) (xs:=[p]) fun Fp=>?_;refine go ?_
   refine Cb (Aa5 n.down (V1 n.Af[i] p.Ae (I3 n.An.Ad ((i:Nat):Int))) [p] g _ _ _ _ _ _ _ _ _ _ a6 _ c6 F6 _ _ Fk2 _ _ Fp rfl (fun x hx=>hkx x (Aca x hx))) fun J6 _=>?_;refine go ?_;refine ret (⟨a1,c1,F1,a2,c2,F2,a3,c3,F3,_,c4,J5,a5,c5,F5,a6,c6,J6,a7,c7,F7⟩,⟨0,none,0,[]⟩) trivial rfl
  ·rw [show C7 n i p=(⟨n.An,n.Ab,n.Af,n.Ac,Dq n.down (I3 n.An.Ad ((i:Nat):Int)) [p],n.up⟩,[]) by unfold C7 Agc Aaj;rw [if_neg KM,if_neg hk,if_neg hk]];refine O3 ?_;intros;refine Ll (E:=Ak) (xs:=[p]) (Dh p hps) ?_ FK;refine A4 (E:=Ak) (xs:=[p]) fun Fp=>?_;refine go ?_;refine Cb (Aa5 n.down (I3 n.An.Ad ((i:Nat):Int)) [p] g _ _ _ _ _ _ _ _ _ _ a6 _ c6 F6 _ _ Fk _ _ Fp rfl hkx) fun J6 _=>?_;refine go ?_;refine ret (⟨a1,c1,F1,a2,c2,F2,a3,c3,F3,a4,c4,F4,a5,c5,F5,a6,c6,J6,a7,c7,F7⟩,⟨0,none,0,[]⟩) trivial rfl
theorem Zv (y:Hz) (w:World):C1 Bn w [.int .i64 y.Ae,.int .i64 y.Ch] [y] []:=⟨_,[],[],[],FK,FK,⟨rfl,rfl⟩,rfl,rfl⟩
theorem Avs (xs:List Hz) (y:Hz) (i:Nat) (a:Option Addr) (c vb:Nat) (F:List Nat) (hi:i≤xs.length) (hl:xs.length≤1000000) :
  Fn prog 394 [.slice a xs.length c,.int .i64 i,.slice (some ⟨vb,0,none⟩) 1 1] [] [.ow Bn 215 (.slice a xs.length c) xs F,.row vb 215 0 [] [.int .i64 y.Ae,.int .i64 y.Ch] []] (fun (_:Option Addr × Nat × List Nat)=>True)
   (fun z=>.slice z.1 (xs.take i++y::xs.drop i).length z.2.1) (fun z=>[.ow Bn 215 (.slice z.1 (xs.take i++y::xs.drop i).length z.2.1) (xs.take i++y::xs.drop i) z.2.2]):=by
 have hone:∀w':World,∀cs:List Value,C1 Bn w' cs xs []→∀u∈cs,u.oneCell'=true:=fun w' cs h=>h.one' Jp;have hy:=Zv y;have h1y:∀u∈([.int .i64 y.Ae,.int .i64 y.Ch]:List Value),u.oneCell'=true:=IM
 refine enter func394 rfl ntmps394 fun w0=>?_;refine Bco (E:=Bn) fun hc1 hc2=>?_;refine go ?_;apply wO;refine Anj rfl rfl rfl rfl hi (fun _=>?_) hc1;refine go ?_;refine Ax rfl (fun h1=>?_) (fun h1=>?_)
 ·have hin:i=xs.length:=FJ
  subst hin;have e:xs.take xs.length++y::xs.drop xs.length=xs++[y]:=FK
  refine go ?_;apply wO;refine Qa hy Jp fun a2 c2 F2=>?_;rw [e];exact DM
 ·have hlt:i < xs.length:=FJ
  refine An3 (xs:=xs) Lj (by rintro rfl;simp at hlt) ?_;rintro g cs rest rfl - - - hcl hcr hfl;rw [show Bn.sz=2 from rfl] at hcl hcr;have h1c:=hone w0 cs (hfl w0);obtain ⟨A,B,hcs,hA,hB⟩:∃A B,cs=A++B∧A=cs.take (i * 2)∧B=cs.drop (i * 2):=⟨_,_,(List.take_append_drop _ _).symm,rfl,rfl⟩;have hAl:A.length=i * 2:=LN
  have hBl:B.length=(xs.length - i) * 2:=LM
  have hins:∀w,C1 Bn w (A++[.int .i64 y.Ae,.int .i64 y.Ch]++B) (xs.take i++y::xs.drop i) []:=fun w=>by rw [hA,hB];exact (hfl w).insL (hy w) i hi
  have h1A:∀u∈A,u.oneCell'=true:=fun u hu=>h1c u IX;have h1B:∀u∈B,u.oneCell'=true:=fun u hu=>h1c u IX;have hlen:(xs.take i++y::xs.drop i).length=xs.length+1:=FR
  clear hA hB hfl hone;subst hcs;have eA:A=((A++B++rest).drop 0).take (i * 2):=IQ
  have eB:B=((A++B++rest).drop (0+i * 2)).take ((xs.length - i) * 2):=HQ
  rw [hlen];refine go ?_;apply wO;apply oc;rfl;exact Aub rfl;refine go ?_;refine Ax rfl (fun h2=>?_) (fun h2=>?_)
  ·refine go ?_;apply wO;apply oc;rfl;exact P9 (i:=i) rfl rfl rfl FJ FJ;refine go ?_;apply wO;refine As7 (k:=xs.length+1 - i) (olds:=A) rfl rfl rfl FJ (Nw (m:=i * 2) (.head _) eA) FJ FM FJ FJ FJ FJ fun g' cp' Z rest' h3 h4 h5 h6=>?_;rw [show i+(xs.length+1 - i)=xs.length+1 by omega] at h3 ⊢;obtain ⟨Z1,Z2,rfl,hZ1,hZ2⟩:∃Z1 Z2,Z=Z1++Z2∧Z1.length=2∧Z2.length=B.length:=⟨Z.take 2,Z.drop 2,(List.take_append_drop _ _).symm,GA,HU⟩;refine go ?_
   apply wO;apply oc;rfl;exact Ln (i:=i) rfl rfl rfl FJ FJ FJ;refine go ?_;apply wO;refine X4 (cs:=[.int .i64 y.Ae,.int .i64 y.Ch]) (L':=A++[.int .i64 y.Ae,.int .i64 y.Ch]++(Z2++rest')) rfl rfl rfl (Nw (L:=[.int .i64 y.Ae,.int .i64 y.Ch]) (o:=0) (m:=2) FO rfl) .here (Aga (M:=Z1) GP FJ (by simpa using hZ1)) (by show 2=min 1 (xs.length+1 - i) * 2;omega) FQ h1y ?_;refine go ?_;refine As [] [] ?_;refine Ds 0 1 2 3 ?_
   refine dt 4 ?_ (hy:=Ln (i:=i+1) rfl rfl FJ FJ FJ FJ);refine Ed 5 6 ?_;refine dt 7 ?_ (hy:=Ln (i:=i) rfl rfl FJ FJ FJ FJ);refine dN 8 ?_
   refine X4 (cs:=B) (L':=A++[.int .i64 y.Ae,.int .i64 y.Ch]++B++rest') rfl rfl rfl (Nw FO eB) .here (Aga (P:=A++[.int .i64 y.Ae,.int .i64 y.Ch]) (M:=Z2) GP FQ hZ2) HS FQ h1B ?_;refine dk ?_;refine dd ?_
   refine Aew (cs:=A++[.int .i64 y.Ae,.int .i64 y.Ch]++B) (rest:=rest') (xs:=xs.take i++y::xs.drop i) cp' rfl hins FJ h4 (by rw [show Bn.sz=2 from rfl];simp only [List.length_append,List.length_cons,List.length_nil] at h6 ⊢;omega) ?_;rw [hlen];refine go ?_;refine ret (_,cp',[g']) trivial rfl
  ·have hcx:xs.length+1≤c:=FJ
   obtain ⟨X,Y,hXY,hX,hY⟩:=Att (B:=B) (R:=rest) 2 FJ;refine go ?_;apply wO;apply oc;rfl;exact P9 (i:=xs.length+1) rfl rfl FJ FJ FJ;refine go ?_;apply wO;apply oc;rfl;exact Ln (i:=i+1) rfl rfl FJ FJ FJ FJ;refine O3 ?_;intros;apply wO
   refine Bbh rfl X8 (ovl (tS:=43) (tR:=4) (run_callFunc_extern func418 FL FL FL (e:=Extern.SlicesOverlaps.overlaps #[43,43] #[4]) FL) (.there .here) (.head _) HC) ?_;refine go ?_;refine As [] [] ?_;refine Ds 0 1 2 3 ?_;refine dt 4 ?_ (hy:=Ln (i:=i+1) rfl rfl FJ FJ FJ FJ);refine Ed 5 6 ?_;refine dt 7 ?_ (hy:=Ln (i:=i) rfl rfl FJ FJ FJ FJ);refine dN 8 ?_
   refine X4 (cs:=B) (L':=A++X++B++rest.drop 2) rfl rfl rfl (Nw FO eB) .here (Aga (P:=A++X) (M:=Y) IE HE hY) HO HE h1B ?_;refine dk ?_;refine dd ?_;refine go ?_;apply wO;apply oc;rfl;exact Ln (i:=i) rfl rfl rfl FJ FJ FJ;refine go ?_;apply wO
   refine X4 (cs:=[.int .i64 y.Ae,.int .i64 y.Ch]) (L':=A++[.int .i64 y.Ae,.int .i64 y.Ch]++(B++rest.drop 2)) rfl rfl rfl (Nw (L:=[.int .i64 y.Ae,.int .i64 y.Ch]) (o:=0) (m:=2) FO rfl) .here (Aga (M:=X) GP FJ (by simpa using hX)) (by show 2=min 1 (xs.length+1 - i) * 2;omega) FQ h1y ?_;refine go ?_
   refine Aew (L:=A++[.int .i64 y.Ae,.int .i64 y.Ch]++(B++rest.drop 2)) (cs:=A++[.int .i64 y.Ae,.int .i64 y.Ch]++B) (rest:=rest.drop 2) (xs:=xs.take i++y::xs.drop i) c GP hins FJ FJ (by rw [show Bn.sz=2 from rfl];simp only [List.length_append,List.length_cons,List.length_nil,List.length_drop];omega) ?_;rw [hlen];refine ret (_,c,[g]) trivial rfl
instance:IntC prog 363 .u64:=⟨underlying363⟩
theorem Ar1 (fid:FuncId) (caps:List Value) (A:List Pc) (hA:A.all (fun p=>!p.mu)=true) (xs:List Hz) (a:Option Addr) (c:Nat) (F:List Nat) (tv:Value) (f:Hz→Int) (hm:∀i j (_:i≤j) (hj:j < xs.length),f xs[j] < 0→f (xs[i]'FJ) < 0) (hb:Si prog fid=true) (hl:xs.length≤1000000)
  (hp:∀x∈xs,∀w,Om A w→Calls prog fid ([.agg #[.int .i64 x.Ae,.int .i64 x.Ch],tv]++caps).toArray w (RB (.int .i64 (f x)) w)) :
  Fn prog 416 [.slice a xs.length c,tv,.func (.func fid) #[] caps.toArray] (.sl Bn (.slice a xs.length c) xs F::A) [] (fun (_:Unit)=>True) (fun _=>.tuple #[.int .i64 ((xs.takeWhile fun x=>decide (f x < 0)).length:Nat),.bool (Bek f xs[(xs.takeWhile fun x=>decide (f x < 0)).length]?)]) (fun _=>[]):=by
 refine enter func416 rfl ntmps416 (fun w0=>?_) rfl GQ .nil;refine go ?_;refine D8 [0,1,2,6,7,8] (fun s:Nat × Nat=>[(9,.int .i64 (s.1:Nat)),(10,.int .i64 (s.2:Nat))]) (fun s=>s.1≤s.2∧s.2≤xs.length∧(∀j (_:j < s.1) (h:j < xs.length),f xs[j] < 0)∧(∀j (_:s.2≤j) (h:j < xs.length),¬f xs[j] < 0)) (fun s=>s.2 - s.1) (0,xs.length) ⟨Nat.zero_le _,Nat.le_refl _,fun j h=>by omega,fun j h1 h2=>by omega⟩ fun s hs=>?_;obtain ⟨i,j⟩:=s;obtain ⟨h1,h2,h3,h4⟩:=hs;dsimp only at h1 h2 h3 h4 ⊢;refine go ?_;refine Ax rfl (fun h5=>?_) (fun h5=>?_)
 ·have hh:(i+j) / 2 < xs.length:=FJ
  have e2:((i:Int)+(j:Int)) / 2=(((i+j) / 2:Nat):Int):=FJ
  refine go ?_;apply wO;apply oc;rfl;exact Auc rfl FJ FJ;refine go ?_;apply wO;apply oc;rfl;exact Aod rfl;rw [e2];apply wO;apply oc;rfl;exact Arv rfl FJ FJ;generalize hq:(i+j) / 2=q at hh;refine go ?_;refine Ww (xs:=xs) q ?_;rintro hi b o e;rw [e];refine go ?_;apply wO;refine Agr rfl rfl hb X8 ?_;refine cb (fun w st=>hp xs[q] (List.getElem_mem hh) w (fun p hp=>st.on p IC)) ?_;refine go ?_;refine Ax rfl (fun h6=>?_) (fun h6=>?_)
  ·exact DF
  ·exact DH
 ·have hij:i=j:=FJ
  subst hij;have hk:(xs.takeWhile fun x=>decide (f x < 0)).length=i:=Zf h2 (fun j hj h=>decide_eq_true (h3 j hj h)) (fun h=>decide_eq_false (h4 i (Nat.le_refl _) h));rw [hk];refine go ?_;refine Dx rfl rfl (fun h6=>?_) (fun h6=>?_)
  ·have hh:i < xs.length:=FJ
   rw [List.getElem?_eq_getElem hh];refine go ?_;refine Ww (xs:=xs) i ?_;exact DG
  ·rw [List.getElem?_eq_none FJ];exact AA
theorem Ag7 {W:Aw} {p:Ar} (hg:D9 W=true):(Dz W p).1.data.size≤maxLen:=by
 unfold Dz
 split
 ·rename_i h;unfold Lh at h;simp only [Bool.and_eq_true] at h;have hk:=Agn h.2;show (Ad6 W p.Ae).size≤maxLen;rw [Zq hk];have:=List.all_eq_true.1 (Ec.1 hg).2.2.2 _ (List.getElem_mem hk);unfold R5 at this;simp only [Bool.and_eq_true,decide_eq_true_eq] at this;unfold maxLen;omega
 ·decide
theorem Ayj {t n:Int} {hs:List Hz} (hser:∀h∈hs,Cc h.Ae=true) (hn:0≤n∧n≤65535):(hs.takeWhile fun x=>decide (gp t x.Ae - gp t n < 0)).length=Hf t hs n ∧
  Bek (fun x:Hz=>gp t x.Ae - gp t n) hs[(hs.takeWhile fun x=>decide (gp t x.Ae - gp t n < 0)).length]?=Pl t hs n:=by
 have e:(fun x:Hz=>decide (gp t x.Ae - gp t n < 0))=fun h=>decide (gp t h.Ae < gp t n):=by
  funext x;rw [decide_eq_decide];omega
 have e1:(hs.takeWhile fun x=>decide (gp t x.Ae - gp t n < 0)).length=Hf t hs n:=by unfold Hf;rw [e]
 refine ⟨e1,?_⟩;rw [e1];unfold Pl;cases hq:hs[Hf t hs n]? with
 | none=>rfl
 | some z =>
  show decide (gp t z.Ae - gp t n=0)=decide (z.Ae=n);rw [decide_eq_decide];have hz:=Bc.1 (hser z (List.mem_of_getElem? hq));exact ⟨fun h=>Baj (t:=t) hz hn FJ,fun h=>by rw [h];omega⟩
theorem Bi7 (h:Hz) (n t:Int) (gb g o:Nat) (v1 v2 v3 v4 v5:Value) (t0:0≤t) (t1:t≤65535) (n0:0≤n) (n1:n≤65535) (m0:0≤h.Ae) (m1:h.Ae≤65535) :
  FV 417 [.agg #[.int .i64 h.Ae,.int .i64 h.Ch],.int .i64 n,Iq gb 0 0] [.cel gb 0 [Iq g o 0],.cel g o [.int .i64 t,v1,v2,v3,v4,v5]] (.int .i64 (gp t h.Ae - gp t n)):=by
 have b1:=Mf t h.Ae;have b2:=Mf t n;refine enter func417 rfl ntmps417 fun w0=>?_;refine go ?_;intros;refine As [0,1,2] [] ?_;refine Ds 0 1 2 3 ?_;refine Ds 4 5 6 8 ?_;refine Ds 9 10 11 12 ?_;refine dt 13 ?_;refine dN 7 ?_;refine oC ?_;refine ce (fun w s=>Qg _ _ _ FJ FJ FJ FJ) ?_;refine dk ?_;refine dN 14 ?_;refine oC ?_;refine ce (fun w s=>Qg _ _ _ FJ FJ FJ FJ) ?_;refine dk ?_;refine Ed 15 16 ?_;exact CR
theorem Ask (W:Aw) (hs:List Hz) (n:Int) (g t o:Nat) (A B:List Value) (a a2:Option Addr) (c c2:Nat) (cl q:Int) (F2:List Nat) (t0:0≤W.Ap) (t1:W.Ap≤65535) (n0:0≤n) (n1:n≤65535) (hser:∀h∈hs,Cc h.Ae=true) (hsr:srt W.Ap hs) (hl:hs.length≤1000000) :
  Fn prog 393 [Iq g o 0,.int .i64 n] [] [.row g t o A [.int .i64 W.Ap,.int .i64 W.size,.slice a W.Ao.length c,.int .i64 cl,.int .i64 q,.slice a2 hs.length c2] B,.ow Bn 215 (.slice a2 hs.length c2) hs F2] (fun (_:Unit)=>True) (fun _=>.tuple #[.int .i64 (Hf W.Ap hs n:Nat),.bool (Pl W.Ap hs n)]) (fun _=>[.row g t o A [.int .i64 W.Ap,.int .i64 W.size,.slice a W.Ao.length c,.int .i64 cl,.int .i64 q,.slice a2 hs.length c2] B,.ow Bn 215 (.slice a2 hs.length c2) hs F2]):=by
 have hs1:=Ayj (t:=W.Ap) hser ⟨n0,n1⟩;refine enter func393 rfl ntmps393 fun w0=>?_;refine go ?_;intros;rename_i gb;refine cb (fun w st=>by
  have r1:=st.get (p:=.row gb 320 0 [] [Iq g o 0] []) FK;have r2:=st.get (p:=.row g t o A [.int .i64 W.Ap,.int .i64 W.size,.slice a W.Ao.length c,.int .i64 cl,.int .i64 q,.slice a2 hs.length c2] B) FK;obtain ⟨Fw, -,hw⟩:=(st.get (p:=.ow Bn 215 (.slice a2 hs.length c2) hs F2) FK).2.read
  refine (Ar1 417 [Iq gb 0 0] [.cel gb 0 [Iq g o 0],.cel g o [.int .i64 W.Ap,.int .i64 W.size,.slice a W.Ao.length c,.int .i64 cl,.int .i64 q,.slice a2 hs.length c2]] rfl hs a2 c2 Fw (.int .i64 n) (fun h=>gp W.Ap h.Ae - gp W.Ap n) (fun i j hij hj h=>?_) FL hl fun x hx w' hA=>?_).val w ?_
  ·rcases Nat.lt_or_eq_of_le hij with h2|rfl
   ·have:=List.pairwise_iff_getElem.1 hsr i j FJ hj h2;omega
   ·exact h
  ·obtain ⟨m0,m1⟩:=Bc.1 (hser x hx);exact (Bi7 x n W.Ap gb g o _ _ _ _ _ t0 t1 n0 n1 m0 m1).val w' hA
  ·intro p hp;simp only [List.mem_cons,List.not_mem_nil,or_false] at hp;rcases hp with rfl|rfl|rfl
   ·exact ⟨FM,hw⟩
   ·exact ⟨FK,I0 r1⟩
   ·exact ⟨FK,I0 r2⟩) ?_
 rw [hs1.2];rw [hs1.1];exact AA
structure ReS where
 a:Option Addr
 c:Nat
 a2:Option Addr
 c2:Nat
 F:List Nat
 ae:Option Addr
 ce:Nat
 Fe:List Nat
theorem Ag5 (W:Aw) (hs:List Hz) (p:Ar) (g t o:Nat) (A B:List Value) (a a2:Option Addr) (c c2:Nat) (cl q:Int) (F F2:List Nat) (hg:C3 ⟨W,cl,q,hs⟩=true) (n0:0≤p.Ae) (n1:p.Ae≤65535) (hps:p.data.size≤maxLen) :
  Fn prog 352 [Iq g o 0,.agg #[.int .i64 p.Cp,.int .i64 p.Ae,.int .i64 p.Ap,.int .i64 p.Fv,.string p.data]] [] [.row g t o A [.int .i64 W.Ap,.int .i64 W.size,.slice a W.Ao.length c,.int .i64 cl,.int .i64 q,.slice a2 hs.length c2] B,.ow Bn 215 (.slice a2 hs.length c2) hs F2,.ow A8 9 (.slice a W.Ao.length c) W.Ao F] (fun (_:ReS)=>True)
   (fun z=>.slice z.ae (Ol ⟨W,cl,q,hs⟩ p).length z.ce) (fun z=>[.row g t o A [.int .i64 W.Ap,.int .i64 W.size,.slice a W.Ao.length c,.int .i64 cl,.int .i64 q,.slice z.a2 (Nc ⟨W,cl,q,hs⟩ p.Ae).holds.length z.c2] B,.ow Bn 215 (.slice z.a2 (Nc ⟨W,cl,q,hs⟩ p.Ae).holds.length z.c2) (Nc ⟨W,cl,q,hs⟩ p.Ae).holds z.F,.ow A8 9 (.slice a W.Ao.length c) W.Ao F,.ow Ak 223 (.slice z.ae (Ol ⟨W,cl,q,hs⟩ p).length z.ce) (Ol ⟨W,cl,q,hs⟩ p) z.Fe]):=by
 obtain ⟨gw,hl,t0,t1,k0,k1,hm,hn,hu,hbb⟩:=Lc hg;have hsr:=(Fs.1 hg).2.2.2.2;dsimp only at gw hl t0 t1 k0 k1 hm hn hu hbb hsr;have hl2:hs.length≤1000000:=FJ
 have hW:D9 W=true:=gw;refine enter func352 rfl ntmps352 fun w0=>?_;cases hb:Jh W p.Ae
 ·have e1:Nc ⟨W,cl,q,hs⟩ p.Ae=⟨W,cl,q,hs⟩:=by unfold Nc;dsimp only;rw [hb];rfl
  have e2:Ol ⟨W,cl,q,hs⟩ p=[Te W]:=by unfold Ol;dsimp only;rw [hb];rfl
  rw [e1,e2];refine go ?_;intros;refine As [0,1] [] ?_;refine Ds 0 1 2 3 ?_;refine Ed 4 5 ?_;refine dN 6 ?_;refine oC ?_;refine cb (fun w st=>by obtain ⟨Fw, -,hw⟩:=(st.get (p:=.ow A8 9 (.slice a W.Ao.length c) W.Ao F) FK).2.read;exact (Yq W p.Ae (.agg #[.int .i64 W.Ap,.int .i64 W.size,.slice a W.Ao.length c]) Fw t0 t1 n0 n1).val w (En ⟨_,rfl,_,rfl,hw⟩)) ?_;rw [hb];refine dk ?_;refine dt 7 ?_;refine dd ?_;refine go ?_;refine Cb (Aq1 W.Ap W.size a W.Ao.length c t0 t1 FJ) fun _ _=>?_;refine go ?_;intros
  refine Ll (xs:=[Te W]) (Dh _ ID) ?_ FK;refine ret ⟨a,c,a2,c2,F2,_,_,_⟩ trivial rfl
 refine go ?_;intros;refine As [0,1] [] ?_;refine Ds 0 1 2 3 ?_;refine Ed 4 5 ?_;refine dN 6 ?_;refine oC ?_;refine cb (fun w st=>by obtain ⟨Fw, -,hw⟩:=(st.get (p:=.ow A8 9 (.slice a W.Ao.length c) W.Ao F) FK).2.read;exact (Yq W p.Ae (.agg #[.int .i64 W.Ap,.int .i64 W.size,.slice a W.Ao.length c]) Fw t0 t1 n0 n1).val w (En ⟨_,rfl,_,rfl,hw⟩)) ?_;rw [hb];refine dk ?_;refine dt 7 ?_;refine dd ?_;refine go ?_;refine As [0,1] [] ?_;refine Ds 0 1 2 3 ?_;refine Ds 4 5 6 7 ?_;refine Ed 8 9 ?_;refine dt 10 ?_;refine dN 11 ?_;refine oC ?_;refine cb (fun w _=>I4 _ _ _ _ _ w t0 t1 FJ) ?_
 refine dk ?_;refine dt 12 ?_;refine dN 13 ?_;apply Lx;rfl;rfl;rfl;rfl;exact Lr;exact La;intro _;refine dk ?_;refine dt 14 ?_;refine dd ?_;refine O3 ?_;intros;refine Ll (xs:=[Ab4 W p.Ae]) (Dh _ ID) ?_ FK;refine go ?_;refine Cb (Ask W hs p.Ae g t o A B a a2 c c2 cl q F2 t0 t1 n0 n1 hn hsr hl2) fun _ _=>?_;cases ht:Pl W.Ap hs p.Ae
 ·have e1:Nc ⟨W,cl,q,hs⟩ p.Ae=⟨W,cl,q,O6 hs (Hf W.Ap hs p.Ae) ⟨p.Ae,cl+3⟩⟩:=by unfold Nc;dsimp only;rw [hb,ht];rfl
  have e2:Ol ⟨W,cl,q,hs⟩ p=[Ab4 W p.Ae]++[(Dz W p).1]:=by unfold Ol;dsimp only;rw [hb,ht];rfl
  rw [e1,e2];refine go ?_;refine As [0,3] [18] ?_;refine Ds 0 1 2 3 ?_;refine Ds 4 5 6 7 ?_;refine Ds 8 9 10 11 ?_;refine Ed 12 13 ?_;refine dN 14 ?_;apply Lx;rfl;rfl;rfl;rfl;exact Lr;exact La;intro _;refine dk ?_;refine dN 15 ?_;refine oC ?_;refine Cb (Avs hs ⟨p.Ae,cl+3⟩ (Hf W.Ap hs p.Ae) a2 c2 _ F2 (Zp _ _ _) hl2) fun z _=>?_;refine dk ?_;refine Ed 16 17 ?_;refine dN 18 ?_;refine oS ?_;refine Tx ?_;refine dd ?_;refine go ?_;refine As [1,3] [] ?_;refine Ds 0 1 2 3 ?_;refine dt 4 ?_;refine dM 5 9 ?_ ?_
  ·refine oC ?_;refine cb (fun w st=>by obtain ⟨Fw, -,hw⟩:=(st.get (p:=.ow A8 9 (.slice a W.Ao.length c) W.Ao F) FK).2.read;exact (Agz W p (.agg #[.int .i64 W.Ap,.int .i64 W.size,.slice a W.Ao.length c]) Fw hps).val w (En ⟨_,rfl,_,rfl,hw⟩)) ?_;refine dk ?_;refine Ed 6 7 ?_;refine dt 8 ?_;refine dN 9 ?_;apply Cr;rfl;intro _;refine dk ?_;exact CF
  ·apply Cr;rfl;intro _;refine dk ?_;refine dN 5 ?_;refine oC ?_;refine cb (fun w st=>by obtain ⟨Fw, -,hw⟩:=(st.get (p:=.ow A8 9 (.slice a W.Ao.length c) W.Ao F) FK).2.read;exact (Agz W p (.agg #[.int .i64 W.Ap,.int .i64 W.size,.slice a W.Ao.length c]) Fw hps).val w (En ⟨_,rfl,_,rfl,hw⟩)) ?_;refine dk ?_;refine Ed 6 7 ?_;refine dt 8 ?_;exact CF
 ·have e1:Nc ⟨W,cl,q,hs⟩ p.Ae=⟨W,cl,q,hs⟩:=by unfold Nc;dsimp only;rw [hb,ht];rfl
  have e2:Ol ⟨W,cl,q,hs⟩ p=[Ab4 W p.Ae]:=by unfold Ol;dsimp only;rw [hb,ht];rfl
  rw [e1,e2];refine go ?_;refine ret ⟨a,c,a2,c2,F2,_,_,_⟩ trivial rfl
theorem Bhy (x:Ck) (n:Int):(Nc x n).Aa=x.Aa:=by unfold Nc;split <;> rfl
theorem Bhw (x:Ck) (n:Int):(Nc x n).Ai=x.Ai:=by unfold Nc;split <;> rfl
theorem Bhx (x:Ck) (n:Int):(Nc x n).quiet=x.quiet:=by unfold Nc;split <;> rfl
theorem Au8 {n:Du} {i k:Nat} (hg:Vq n.An.Ad) (hi:i < n.An.Ad.length) (h0:i≠0) (h:Aaa n i=k):n.An.Ad[i]=((k:Nat):Int)∧k < i∧Eu n.An.Ad ((k:Nat):Int)=false:=by
 have h1:=hg.p i hi FJ;have e:n.An.Ad.getD i 0=n.An.Ad[i]:=Qu hi 0;unfold Aaa at h;rw [e] at h;have e2:n.An.Ad[i]=((k:Nat):Int):=FJ
 refine ⟨e2,FJ,?_⟩;unfold Eu;rw [←e2,decide_eq_true (List.getElem_mem hi)];rfl
theorem Bc9 (n:Du) (i:Nat) (p:Ar) (g:Nat) (a1:Option Addr) (c1:Nat) (F1:List Nat) (a2:Option Addr) (c2:Nat) (F2:List Nat) (a3:Option Addr) (c3:Nat) (F3:List Nat) (a4:Option Addr) (c4:Nat) (F4:List Nat) (a5:Option Addr) (c5:Nat) (F5:List Nat) (a6:Option Addr) (c6:Nat) (F6:List Nat) (a7:Option Addr) (c7:Nat) (F7:List Nat) (hl:Mj n=true) (h0:i≠0) (hi:i < n.An.Ad.length) (h8:Vq n.An.Ad) (hsrc:C3 n.Ab=true) (he:∀k,k≠0→k < n.An.Ad.length→Eu n.An.Ad (k:Nat)=false→Ba (Qt n k)=true) (hp:Bw p=true) (hps:p.data.size≤maxLen) :
  Fn prog 289 [Iq g 0 0,.int .i64 (i:Nat),.agg #[.int .i64 (p).Cp,.int .i64 (p).Ae,.int .i64 (p).Ap,.int .i64 (p).Fv,.string (p).data]] [] [.row g 50 0 [] [.slice a1 n.An.Ad.length c1,.int .i64 n.Ab.Aa.Ap,.int .i64 n.Ab.Aa.size,.slice a2 n.Ab.Aa.Ao.length c2,.int .i64 n.Ab.Ai,.int .i64 n.Ab.quiet,.slice a3 n.Ab.holds.length c3,.slice a4 n.Af.length c4,.slice a5 n.Ac.length c5,.slice a6 n.down.length c6,.slice a7 n.up.length c7] [],.ow Bb 3 (.slice a1 n.An.Ad.length c1) n.An.Ad F1,.ow A8 9 (.slice a2 n.Ab.Aa.Ao.length c2) n.Ab.Aa.Ao F2,.ow Bn 215 (.slice a3 n.Ab.holds.length c3) n.Ab.holds F3,.ow Ca 133 (.slice a4 n.Af.length c4) n.Af F4,.ow By 140 (.slice a5 n.Ac.length c5) n.Ac F5,.ow (Kx Ak 223) 142 (.slice a6 n.down.length c6) n.down F6,.ow (Kx Ak 223) 142 (.slice a7 n.up.length c7) n.up F7] (fun (_:NV)=>True) (fun _=>.tuple #[]) (fun z=>[.row g 50 0 [] [.slice z.a1 n.An.Ad.length z.c1,.int .i64 (Rf n i p).Ab.Aa.Ap,.int .i64 (Rf n i p).Ab.Aa.size,.slice z.a2 (Rf n i p).Ab.Aa.Ao.length z.c2,.int .i64 (Rf n i p).Ab.Ai,.int .i64 (Rf n i p).Ab.quiet,.slice z.a3 (Rf n i p).Ab.holds.length z.c3,.slice z.a4 n.Af.length z.c4,.slice z.a5 n.Ac.length z.c5,.slice z.a6 n.down.length z.c6,.slice z.a7 n.up.length z.c7] [],.ow Bb 3 (.slice z.a1 n.An.Ad.length z.c1) (Rf n i p).An.Ad z.F1,.ow A8 9 (.slice z.a2 (Rf n i p).Ab.Aa.Ao.length z.c2) (Rf n i p).Ab.Aa.Ao z.F2,.ow Bn 215 (.slice z.a3 (Rf n i p).Ab.holds.length z.c3) (Rf n i p).Ab.holds z.F3,.ow Ca 133 (.slice z.a4 n.Af.length z.c4) (Rf n i p).Af z.F4,.ow By 140 (.slice z.a5 n.Ac.length z.c5) (Rf n i p).Ac z.F5,.ow (Kx Ak 223) 142 (.slice z.a6 n.down.length z.c6) (Rf n i p).down z.F6,.ow (Kx Ak 223) 142 (.slice z.a7 n.up.length z.c7) (Rf n i p).up z.F7]):=by
 obtain ⟨q1,q2,q3,q4⟩:=Bm.1 hl;have hn8:=h8.n1;obtain ⟨n0,n1⟩:=Lb hp;have hone:∀x∈[((i:Nat):Int)],0≤x∧x.toNat < n.down.length:=fun x hx=>by
  rw [List.mem_singleton] at hx;subst hx;omega
 obtain ⟨k,hk⟩:∃k,Aaa n i=k:=⟨_,rfl⟩;obtain ⟨e1,e2,e3⟩:=Au8 h8 hi h0 hk;refine enter func289 rfl ntmps289 fun w0=>?_;refine P5 (xs:=n.An.Ad) (m:=1) D0 i ?_ FP rfl hi;rintro _ gp A0 cs B0 rfl rfl hr hH;obtain ⟨rfl, -⟩:=hr w0;rw [e1];refine go ?_;intros;refine Pd ((k:Nat):Int) hH (fun w=>⟨rfl,rfl⟩) ?_;rw [show n.An.Ad.set i ((k:Nat):Int)=n.An.Ad by rw [←e1,List.set_getElem_self]];refine Ax rfl (fun h5=>?_) (fun h5=>?_)
 ·obtain rfl:k=0:=FJ
  rw [show Rf n i p=⟨n.An,Nc n.Ab p.Ae,n.Af,n.Ac,Dq n.down [((i:Nat):Int)] (Ol n.Ab p),n.up⟩ by unfold Rf;rw [if_pos hk]];dsimp only;rw [Bhy,Bhw,Bhx];refine go ?_;refine Avj [.slice (some ⟨gp,0,none⟩) n.An.Ad.length c1] [.int .i64 n.Ab.Aa.Ap,.int .i64 n.Ab.Aa.size,.slice a2 n.Ab.Aa.Ao.length c2,.int .i64 n.Ab.Ai,.int .i64 n.Ab.quiet,.slice a3 n.Ab.holds.length c3] [.slice a4 n.Af.length c4,.slice a5 n.Ac.length c5,.slice a6 n.down.length c6,.slice a7 n.up.length c7] ?_;refine As [2] [] ?_;refine Ds 0 1 3 4 ?_;refine Ed 5 6 ?_;refine dM 2 7 ?_ ?_
  ·apply Lx;rfl;rfl;rfl;rfl;exact Lr;exact La;intro _;refine Ll (E:=Bb) (xs:=[((i:Nat):Int)]) (Rd _) ?_ FK;refine A4 (E:=Bb) (xs:=[((i:Nat):Int)]) fun Fo=>?_;refine dk ?_;refine dN 7 ?_;refine oC ?_;refine Cb (Ag5 n.Ab.Aa n.Ab.holds p g 50 (0+1) _ _ a2 a3 c2 c3 n.Ab.Ai n.Ab.quiet F2 F3 hsrc n0 n1 hps) fun z _=>?_
   refine Ajg [.slice (some ⟨gp,0,none⟩) n.An.Ad.length c1] [.int .i64 n.Ab.Aa.Ap,.int .i64 n.Ab.Aa.size,.slice a2 n.Ab.Aa.Ao.length c2,.int .i64 n.Ab.Ai,.int .i64 n.Ab.quiet,.slice z.a2 (Nc n.Ab p.Ae).holds.length z.c2] [.slice a4 n.Af.length c4,.slice a5 n.Ac.length c5,.slice a6 n.down.length c6,.slice a7 n.up.length c7] ?_;refine A4 (E:=Ak) (xs:=Ol n.Ab p) fun Fq=>?_;refine dk ?_;refine dN 8 ?_;refine oC ?_;refine Cb (Aa5 n.down [((i:Nat):Int)] (Ol n.Ab p) g _ _ _ _ _ _ _ _ _ _ a6 _ c6 F6 _ _ Fo _ _ Fq rfl hone) fun J6 _=>?_;refine dk ?_;refine dd ?_;refine go ?_
   exact FG
  ·refine oC ?_;refine Cb (Ag5 n.Ab.Aa n.Ab.holds p g 50 (0+1) _ _ a2 a3 c2 c3 n.Ab.Ai n.Ab.quiet F2 F3 hsrc n0 n1 hps) fun z _=>?_;refine Ajg [.slice (some ⟨gp,0,none⟩) n.An.Ad.length c1] [.int .i64 n.Ab.Aa.Ap,.int .i64 n.Ab.Aa.size,.slice a2 n.Ab.Aa.Ao.length c2,.int .i64 n.Ab.Ai,.int .i64 n.Ab.quiet,.slice z.a2 (Nc n.Ab p.Ae).holds.length z.c2] [.slice a4 n.Af.length c4,.slice a5 n.Ac.length c5,.slice a6 n.down.length c6,.slice a7 n.up.length c7] ?_;refine A4 (E:=Ak) (xs:=Ol n.Ab p) fun Fq=>?_;refine dk ?_;refine dN 2 ?_;apply Lx;rfl;rfl;rfl;rfl;exact Lr;exact La;intro _
   refine Ll (E:=Bb) (xs:=[((i:Nat):Int)]) (Rd _) ?_ FK;refine A4 (E:=Bb) (xs:=[((i:Nat):Int)]) fun Fo=>?_;refine dk ?_;refine dN 8 ?_;refine oC ?_;refine Cb (Aa5 n.down [((i:Nat):Int)] (Ol n.Ab p) g _ _ _ _ _ _ _ _ _ _ a6 _ c6 F6 _ _ Fo _ _ Fq rfl hone) fun J6 _=>?_;refine dk ?_;refine dd ?_;refine go ?_;exact FG
 have h6:k≠0:=FJ
 have hkl:k < n.Af.length:=FJ
 have hku:k < n.up.length:=FJ
 have hge:Ba n.Af[k]=true:=J3 hkl▸he k h6 FJ e3;have hel:=(Hg.1 hge).2.1;obtain ⟨hc0,hc1⟩:=O8.1 (Hg.1 hge).1;rw [show Rf n i p=⟨n.An,n.Ab,n.Af.set k (Pk n.Af[k] p.Ae ((i:Nat):Int)),n.Ac,Dq n.down [((i:Nat):Int)] [Aa4 p],if Adz n.Af[k] p.Ae then n.up.modify k fun q=>H5 q [p] else n.up⟩ by unfold Rf;rw [if_neg FJ,hk,J3 hkl]];refine go ?_;refine W5 (xs:=n.Af) (m:=2) k ?_ rfl hkl;rintro _ g5 A5 cs B5 k1 k2 J1 Ji J2 rfl - hc5 hH5;refine H4 ?_;rintro b1 d1 G1 ev l1;obtain rfl:=Uv ev;refine As [5,6] [] ?_;refine Ds 0 1 2 3 ?_;refine Ds 4 5 6 7 ?_;refine dt 8 ?_;refine dN 9 ?_
 refine oC ?_;refine Cb (Ary n.Af[k] p.Ae ((i:Nat):Int) g5 133 (0+k * 2) A5 B5 b1 d1 G1 FJ (fun x hx=>⟨by have:=Qf hge hx;omega,Apa hge hx⟩) FJ FJ) fun s _=>?_;refine dk ?_;refine dt 10 ?_;refine dd ?_;refine Fc (Pk n.Af[k] p.Ae ((i:Nat):Int)) ?_;refine Ta _ hH5 rfl fun J5=>?_;refine O3 ?_;intros;refine Ll (E:=Bb) (xs:=[((i:Nat):Int)]) (Rd _) ?_ FK;refine A4 (E:=Bb) (xs:=[((i:Nat):Int)]) fun Fo=>?_;refine Ll (E:=Ak) (xs:=[Aa4 p]) (Dh (Aa4 p) (Nat.zero_le _)) ?_ FK;refine A4 (E:=Ak) (xs:=[Aa4 p]) fun Fp=>?_;refine go ?_
 refine Cb (Aa5 n.down [((i:Nat):Int)] [Aa4 p] g _ _ _ _ _ _ _ _ _ _ a6 _ c6 F6 _ _ Fo _ _ Fp rfl hone) fun J6 _=>?_;cases hf:Adz n.Af[k] p.Ae
 ·rw [if_neg FM];refine go ?_;refine Xp ?_;refine ret (⟨some ⟨gp,0,none⟩,c1,[gp],a2,c2,F2,a3,c3,F3,_,c4,J5,a5,c5,F5,a6,c6,J6,a7,c7,F7⟩:NV) trivial rfl
 ·rw [if_pos rfl,show (n.up.modify k fun q=>H5 q [p])=n.up.set k (Wk n.up[k] p) by rw [Ip hku,Bbo]];refine go ?_;refine As [0,6] [] ?_;refine Ds 0 1 2 3 ?_;refine Ed 4 5 ?_;refine dN 6 ?_;refine oC ?_;refine Cb (Aek n.up k p a7 _ c7 F7 rfl hku hps) fun J7 _=>?_;refine dk ?_;refine dd ?_;refine go ?_;refine Xp ?_;refine ret (⟨some ⟨gp,0,none⟩,c1,[gp],a2,c2,F2,a3,c3,F3,_,c4,J5,a5,c5,F5,a6,c6,J6,a7,c7,J7⟩:NV) trivial rfl
def Ba7 (es:List Gs) (ck:Int):List Gs:=es.filter fun x=>!decide (x.Ch≤ck)
theorem Az8 (x:Gs) (ck:Int) (gb g o:Nat) (u q:Value) (G:List Nat):FV 345 [u,Iq gb 0 0] [.isv Dt u x G,.cel gb 0 [Iq g o 0],.cel g o [.int .i64 ck,q]] (.bool (decide (x.Ch≤ck))):=by
 refine enter func345 rfl ntmps345 fun w0=>?_;refine T5 ?_;rintro a1 c1 F1 rfl l1;refine go ?_;intros;refine As [0,3,4] [] ?_;refine Ds 0 1 2 3 ?_;refine Ds 4 5 6 7 ?_;exact CR
theorem Az9 (es:List Gs) (ck:Int) (gb tb g t o:Nat) (A B:List Value) (a:Option Addr) (c:Nat) (F:List Nat) :
  Fn prog 344 [.slice a es.length c,.func (.func 345) #[] #[Iq gb 0 0]] [] [.ow Dy 212 (.slice a es.length c) es F,.row gb tb 0 [] [Iq g o 0] [],.row g t o A [.int .i64 ck,.slice a es.length c] B] (fun (_:Option Addr × Nat × List Nat)=>True)
   (fun z=>.slice z.1 (Ba7 es ck).length z.2.1) (fun z=>[.ow Dy 212 (.slice z.1 (Ba7 es ck).length z.2.1) (Ba7 es ck) z.2.2,.row gb tb 0 [] [Iq g o 0] [],.row g t o A [.int .i64 ck,.slice a es.length c] B]):=by
 refine Asm rfl fun w ⟨hnd,ho⟩ _ hk=>?_;refine (Adm _ (Wx FL) #[Iq gb 0 0] _ es F (fun x=>decide (x.Ch≤ck)) w ho hnd fun k hk2 wr u G hK hu=>?_).mono ?_
 ·have hr:=hk wr hK;have r1:=hr (.row gb tb 0 [] [Iq g o 0] []) FK;have r2:=hr (.row g t o A [.int .i64 ck,.slice a es.length c] B) FK;refine (Az8 es[k] ck gb g o u (.slice a es.length c) G).val wr ?_;intro p hp;simp only [List.mem_cons,List.not_mem_nil,or_false] at hp;rcases hp with rfl|rfl|rfl
  ·exact hu
  ·exact ⟨FK,I0 r1⟩
  ·exact ⟨FK,I0 r2⟩
 ·rintro e w' ⟨v',F',rfl,h1,h2,h3,h4⟩;exact CP
theorem Bdp (e:Bf) (g t o:Nat) (A B:List Value) (a:Option Addr) (c:Nat) (F:List Nat) (h0:-1000000≤e.Ai) (h1:e.Ai≤1000000) :
  Fn prog 283 [Iq g o 0] [] [.row g t o A [.int .i64 e.Ai,.slice a e.Ah.length c] B,.ow Dy 212 (.slice a e.Ah.length c) e.Ah F] (fun (_:Option Addr × Nat × List Nat)=>True)
   (fun _=>.tuple #[]) (fun z=>[.row g t o A [.int .i64 (Gb e).Ai,.slice z.1 (Gb e).Ah.length z.2.1] B,.ow Dy 212 (.slice z.1 (Gb e).Ah.length z.2.1) (Gb e).Ah z.2.2]):=by
 refine enter func283 rfl ntmps283 fun w0=>?_;refine go ?_;intros;refine As [0,1] [9] ?_;refine Ds 0 1 2 3 ?_;refine Ed 4 5 ?_;refine dN 6 ?_;refine oC ?_;refine Cb (Az9 e.Ah (e.Ai+1) _ _ g t o A B a c F) fun z _=>?_;refine dk ?_;refine Ed 7 8 ?_;refine dN 9 ?_;refine oS ?_;refine Tx ?_;refine dd ?_;refine Xp ?_;exact BM
theorem Asr {e:Bf} (h:Ba e=true) (hc:e.Ai < 9999):Ba (Gb e)=true:=by
 obtain ⟨h1,h2,h3,h4⟩:=Hg.1 h;have h5:=O8.1 h1;unfold Gb;refine Hg.2 ⟨O8.2 ⟨by show 0≤e.Ai+1;omega,by show e.Ai+1≤9999;omega⟩,Nat.le_trans (List.length_filter_le _ _) h2,fun x hx=>?_,h4.filter _⟩;obtain ⟨hx1,hx2⟩:=List.mem_filter.1 hx;obtain ⟨a,b,c,d,f⟩:=Qj.1 (h3 x hx1);simp only [Bool.not_eq_true',decide_eq_false_iff_not] at hx2;exact Qj.2 ⟨a,b,c,by show e.Ai+1+1≤x.Ch;omega,by show x.Ch≤e.Ai+1+6;omega⟩
theorem Axt {k n t l:Int} {s:ByteArray} (hk:1≤k∧k≤5) (hn:Cc n=true) (ht:Cc t=true) (hl:Cc l=true) (hg:gp t l≤32767) (hs:R5 s=true) (he:s=⟨#[]⟩∨k≤2):Bw ⟨k,n,t,l,s⟩=true:=by
 unfold Bw Gj;simp only [Bool.and_eq_true,Bool.or_eq_true,decide_eq_true_eq];refine ⟨⟨⟨⟨⟨⟨hk,hn⟩,ht⟩,hl⟩,hs⟩,hg⟩,?_⟩;rcases he with h|h
 ·exact .inl (.inl h)
 ·by_cases h1:k=1
  ·exact .inl (.inr h1)
  ·exact .inr FJ
theorem Agq:R5 ⟨#[]⟩=true:=by decide
theorem Ane {x:Aw} (h:D9 x=true):Cc x.Ap=true∧Cc (Mi x)=true∧gp x.Ap (Mi x)≤32767:=by
 obtain ⟨⟨t0,t1⟩,⟨s0,s1⟩,hl, -⟩:=Ec.1 h;refine ⟨Bc.2 ⟨t0,t1⟩,Wv _ _,?_⟩;unfold Mi gp Ci;omega
theorem Amb {x:Aw} (h:D9 x=true):Bw (Te x)=true:=by
 obtain ⟨a,b,c⟩:=Ane h;exact Axt FM a a b c Agq (.inl rfl)
theorem At2 {x:Aw} {q:Int} (h:D9 x=true):∀p∈Oj x q,Bw p=true:=fun p hp=>by
 unfold Oj at hp
 split at hp
 ·simp at hp
 ·rw [List.mem_singleton] at hp;subst hp;exact Amb h
theorem Azo {x:Aw} {n:Int} (h:D9 x=true) (hn:Cc n=true) (hh:Jh x n=true):Bw (Aor x n)=true:=by
 obtain ⟨a,b,c⟩:=Ane h;have hi:=(Ec.1 h).2.2.2;have hl:=Agn hh;exact Axt FM hn a b c (by rw [Zq hl];exact List.all_eq_true.1 hi _ (List.getElem_mem hl)) (.inr FM)
theorem Ak0 {x:Aw} {n:Int} (h:D9 x=true) (hn:Cc n=true):Bw (Ab4 x n)=true:=by
 obtain ⟨a,b,c⟩:=Ane h;exact Axt FM hn a b c Agq (.inl rfl)
theorem Aya {x:Ck} {p:Ar} (h:D9 x.Aa=true) (hp:Bw p=true) (hk:p.Cp=3):∀r∈Ol x p,Bw r=true:=fun r hr=>by
 have hn:=Bc.2 (Lb hp);unfold Ol at hr
 split at hr
 ·rename_i hh
  split at hr
  ·rw [List.mem_singleton] at hr;subst hr;exact Ak0 h hn
  ·simp only [List.mem_cons,List.not_mem_nil,or_false] at hr;rcases hr with rfl|rfl
   ·exact Ak0 h hn
   ·rw [show Dz x.Aa p=(Aor x.Aa p.Ae,true) by unfold Dz Lh;rw [h,hp,hh,decide_eq_true hk];rfl];exact Azo h hn hh
 ·rw [List.mem_singleton] at hr;subst hr;exact Amb h
theorem Ax0 {x:Aw} {s:ByteArray} (h:D9 x=true) (hs:R5 s=true):Bw (Dv x s)=true:=by
 obtain ⟨⟨t0,t1⟩,⟨s0,s1⟩,hl, -⟩:=Ec.1 h;have hr:=T6 t0 t1;have hrl:(Dn x).Ao.length≤6:=by
  unfold Dn
  split
  ·show (x.Ao.drop 1).length≤6;rw [List.length_drop];omega
  ·omega
 refine Axt FM (Wv _ _) (Bc.2 hr) (Wv _ _) ?_ hs (.inr FM);unfold gp Ci;omega
theorem Azy {p:Ar} (h:Bw p=true):Bw (Aa4 p)=true:=by
 unfold Bw at h;simp only [Bool.and_eq_true,decide_eq_true_eq] at h;exact Axt FM h.1.1.1.1.1.2 h.1.1.1.1.2 h.1.1.1.2 h.1.2 Agq (.inl rfl)
theorem Af1 {r:Az} (h:Mv r):∀p∈Fj r,Bw p=true∧p.Cp=3:=fun p hp=>by
 unfold Fj at hp;obtain ⟨k,hk,rfl⟩:=List.mem_map.1 hp;obtain ⟨q,hq,hs⟩:=List.mem_filterMap.1 hk;obtain ⟨-, -,q2, -⟩:=Dg.1 h.q;have hn:=(Ew.1 (q2 q hq)).n;have hw:=Tm h.w;have e:k=q.Ae:=by
  unfold Re at hs
  split at hs
  ·cases hs
  ·split at hs
   ·cases hs
   ·split at hs
    ·exact (Option.some.inj hs).symm
    ·cases hs
 subst e;have hx:=Bc.2 ⟨hw.n0,hw.n1⟩;exact ⟨Axt FM hn hx hx (by unfold gp;omega) Agq (.inl rfl),rfl⟩
theorem GN.ck {ck ck':Nat→Int} {n:Du} (h:GN ck n) (he:∀i,i≠0→i < n.An.Ad.length→ck i=ck' i):GN ck' n:=by
 obtain ⟨q1,q2,q3,q4⟩:=Bm.1 h.l;refine .mk' h.t h.s h.l fun i h1 h2 h3 h4=>?_;have r:=P6.1 (h.a i h1 h2 h3 h4);exact ⟨r.hd,r.hu,r.hk,r.hz,fun e0 l=>by rw [←he i e0 FJ];exact r.hf e0 l,fun e0 l=>by rw [←he i e0 FJ];exact r.hn e0 l⟩
theorem Ago {l:List Int} (hg:Vq l) (i:Nat):∀x∈I3 l ((i:Nat):Int),x.toNat≠0:=fun x hx=>by have:=Mh hg hx;omega
theorem At0 {ck:Nat→Int} {n:Du} {i:Nat} (h:GN ck n) (h0:i≠0) (hi:i < n.An.Ad.length) (hc:ck i < 9999):GN (Agh ck i (ck i+1)) (Oi n i).1:=by
 obtain ⟨h1,h2,h3,h4,r⟩:=h.rn hi;obtain ⟨d0,d1⟩:1≤N5 i∧N5 i≤8:=by unfold N5;omega
 unfold Oi;cases hl:Eu n.An.Ad ((i:Nat):Int)
 ·rw [if_neg FM];obtain ⟨he,e2,e3⟩:=r.hn h0 hl;have e:Qt n i=n.Af[i]:=KK
  have:=h.el h0 hl (Asr (e:=n.Af[i]) he FJ);rw [show (Gb n.Af[i]).Ai=ck i+1 by rw [←e2];rfl] at this;rw [e];exact this
 ·rw [if_pos rfl];obtain ⟨he,e2,e3⟩:=r.hf h0 hl;have e:Q5 n i=n.Ac[i]:=KL
  have hg:=Eb.1 e2;have ht:=Ayr hg FJ d0 d1;have:=h.rc h0 hl (Eb.2 ht);rw [show (Cw n.Ac[i] (N5 i)).Ai=ck i+1 by unfold Cw;split <;> (show n.Ac[i].Ai+1=_;rw [e3])] at this;rw [e];exact this.un i _ (fun e=>absurd e h0) fun q a b=>⟨Aeo a fun p hp=>(Af1 hg p hp).1,Avb b fun p hp=>(Af1 hg p hp).2⟩
theorem Aji (n:Du) (i:Nat):(Oi n i).1.An=n.An∧(Oi n i).1.Ab=n.Ab:=by unfold Oi;split <;> exact ⟨rfl,rfl⟩
def ckT (c:Int) (k:Nat):Nat→Int:=fun j=>if j≤k then c+1 else c
theorem Qn {n:Du} (hg:At n=true) (hc:n.Ab.Ai < 9999):∀k,k+1≤n.An.Ad.length→GN (ckT n.Ab.Ai k) (Bg n k).1∧(Bg n k).1.An=n.An∧(Bg n k).1.Ab=N4 n.Ab
 | 0,_=>by
  have h:=A1.1 hg;have ht:=H9 h.t;refine ⟨?_,rfl,rfl⟩;have h2:=((h.src (Awn h.s hc)).sp (At2 (q:=n.Ab.quiet) (Fs.1 h.s).1) (Ago ht 0)).ck (ck':=ckT n.Ab.Ai 0) fun i h0 _=>by unfold ckT;rw [if_neg FJ]
  exact h2
 | k+1,hk=>by
  obtain ⟨h1,h2,h3⟩:=Qn hg hc k FJ;obtain ⟨t1,t2⟩:=Aji (Bg n k).1 (k+1);have e:ckT n.Ab.Ai k (k+1)=n.Ab.Ai:=by unfold ckT;rw [if_neg FJ]
  have:=At0 h1 (i:=k+1) FJ (by rw [h2];omega) (by rw [e];exact hc);refine ⟨this.ck fun i h0 hi=>?_,t1.trans h2,t2.trans h3⟩;rw [e];unfold Agh ckT;by_cases c1:i=k+1
  ·rw [if_pos c1,if_pos FJ]
  ·rw [if_neg c1];by_cases c2:i≤k
   ·rw [if_pos c2,if_pos FJ]
   ·rw [if_neg c2,if_neg FJ]
theorem At1 {n:Du} (hg:At n=true) (hc:n.Ab.Ai < 9999):At (Hc n).1=true:=by
 have h:=A1.1 hg;have ht:=H9 h.t;have:=ht.n0;obtain ⟨h1,h2,h3⟩:=Qn hg hc (n.An.Ad.length - 1) FJ;refine A1.2 ?_;show GN (fun _=>(Bg n (n.An.Ad.length - 1)).1.Ab.Ai) _;rw [h3];exact h1.ck fun i h0 hi=>by rw [h2] at hi;unfold ckT;rw [if_pos FJ];rfl
theorem Bb2 {g t o k:Nat} {A B X cs Y:List Value} (hk:X.length=k) {w:World}:(Pc.row g t (o+k) (A++X) cs (Y++B)).P w↔(Pc.row g t o A (X++cs++Y) B).P w:=by
 show ((A++X).length=o+k∧Ir w g t (A++X++cs++(Y++B)))↔(A.length=o∧Ir w g t (A++(X++cs++Y)++B));rw [List.length_append,hk];have e:A++X++cs++(Y++B)=A++(X++cs++Y)++B:=GP
 rw [e];exact ⟨fun h=>⟨FJ,h.2⟩,fun h=>⟨FJ,h.2⟩⟩
theorem Bal {p q:Pc} {R:List Pc} {w:World} (h:p.P w→q.P w) (hH:Om (p::R) w):Om (q::R) w:=fun x hx=>by
 rcases List.mem_cons.1 hx with rfl|hx
 ·exact h (hH p FK)
 ·exact hH x JC
theorem Bcb {p q:Pc} {R:List Pc} (hm:p.mu=q.mu) (hF:p.F=q.F) (hS:Tg (p::R)):Tg (q::R):=⟨fun x hx hmu b hb=>hS.1 x hx (by rw [hm];exact hmu) b (by rw [hF];exact hb),hS.2⟩
theorem Baf {P:Program} {f:FuncId} {args:List Value} {A M':List Pc} {g t o k:Nat} {A' B X cs Y L:List Value} {σ:Type} {C:σ→Prop} {v:σ→Value} {cs' L':σ→List Value} {N':σ→List Pc}
  (h:Fn P f args A (.row g t (o+k) (A'++X) cs (Y++B)::M') C v (fun s=>.row g t (o+k) (A'++X) (cs' s) (Y++B)::N' s)) (hk:X.length=k) (hL:L=X++cs++Y) (hL':∀s,L' s=X++cs' s++Y) :
  Fn P f args A (.row g t o A' L B::M') C v (fun s=>.row g t o A' (L' s) B::N' s):=fun w hH hS=>by
 subst hL;refine (h w (Bal (Bb2 hk).2 hH) (Bcb rfl rfl hS)).mono ?_;rintro e w' ⟨s,hC,he,h1,h2,h3,h4⟩;refine ⟨s,hC,he,?_,Bcb rfl rfl h2,?_,?_⟩
 ·show Om (.row g t o A' (L' s) B::N' s) w';rw [hL' s];exact Bal (Bb2 hk).1 h1
 ·simpa [fp,Pc.mu,Pc.F] using h3
 ·intro p hp b hb;have hp':∃q∈(Pc.row g t (o+k) (A'++X) (cs' s) (Y++B)::N' s),q.mu=p.mu∧b∈q.F:=by
   rcases List.mem_cons.1 hp with rfl|hp
   ·exact ⟨_,.head _,rfl,hb⟩
   ·exact ⟨p,.tail _ hp,rfl,hb⟩
  obtain ⟨q,hq,hm,hbq⟩:=hp';rcases h4 q hq b hbq with h|⟨x,hx,hbx⟩|⟨hm2,x,hx,hbx⟩
  ·exact .inl h
  ·refine .inr (.inl ?_);rcases List.mem_cons.1 hx with rfl|hx
   ·exact ⟨_,.head _,hbx⟩
   ·exact ⟨x,.tail _ hx,hbx⟩
  ·exact .inr (.inr ⟨by rw [←hm];exact hm2,x,hx,hbx⟩)
structure TkN where
 k:Nat
 z:NV
 a:Option Addr
 c:Nat
 F:List Nat
theorem Bds (n:Du) (g:Nat) (a1:Option Addr) (c1:Nat) (F1:List Nat) (a2:Option Addr) (c2:Nat) (F2:List Nat) (a3:Option Addr) (c3:Nat) (F3:List Nat) (a4:Option Addr) (c4:Nat) (F4:List Nat) (a5:Option Addr) (c5:Nat) (F5:List Nat) (a6:Option Addr) (c6:Nat) (F6:List Nat) (a7:Option Addr) (c7:Nat) (F7:List Nat) (FT:List Nat) (hg:At n=true) (hc:n.Ab.Ai < 9999) :
  Fn prog 212 [Iq g 0 0] [Hp FT] [.row g 50 0 [] [.slice a1 n.An.Ad.length c1,.int .i64 n.Ab.Aa.Ap,.int .i64 n.Ab.Aa.size,.slice a2 n.Ab.Aa.Ao.length c2,.int .i64 n.Ab.Ai,.int .i64 n.Ab.quiet,.slice a3 n.Ab.holds.length c3,.slice a4 n.Af.length c4,.slice a5 n.Ac.length c5,.slice a6 n.down.length c6,.slice a7 n.up.length c7] [],.ow Bb 3 (.slice a1 n.An.Ad.length c1) n.An.Ad F1,.ow A8 9 (.slice a2 n.Ab.Aa.Ao.length c2) n.Ab.Aa.Ao F2,.ow Bn 215 (.slice a3 n.Ab.holds.length c3) n.Ab.holds F3,.ow Ca 133 (.slice a4 n.Af.length c4) n.Af F4,.ow By 140 (.slice a5 n.Ac.length c5) n.Ac F5,.ow (Kx Ak 223) 142 (.slice a6 n.down.length c6) n.down F6,.ow (Kx Ak 223) 142 (.slice a7 n.up.length c7) n.up F7] (fun (_:NV × KA)=>True) (fun z=>.slice z.2.a (Hc n).2.length z.2.c) (fun z=>[.row g 50 0 [] [.slice z.1.a1 n.An.Ad.length z.1.c1,.int .i64 (Hc n).1.Ab.Aa.Ap,.int .i64 (Hc n).1.Ab.Aa.size,.slice z.1.a2 (Hc n).1.Ab.Aa.Ao.length z.1.c2,.int .i64 (Hc n).1.Ab.Ai,.int .i64 (Hc n).1.Ab.quiet,.slice z.1.a3 (Hc n).1.Ab.holds.length z.1.c3,.slice z.1.a4 n.Af.length z.1.c4,.slice z.1.a5 n.Ac.length z.1.c5,.slice z.1.a6 n.down.length z.1.c6,.slice z.1.a7 n.up.length z.1.c7] [],.ow Bb 3 (.slice z.1.a1 n.An.Ad.length z.1.c1) (Hc n).1.An.Ad z.1.F1,.ow A8 9 (.slice z.1.a2 (Hc n).1.Ab.Aa.Ao.length z.1.c2) (Hc n).1.Ab.Aa.Ao z.1.F2,.ow Bn 215 (.slice z.1.a3 (Hc n).1.Ab.holds.length z.1.c3) (Hc n).1.Ab.holds z.1.F3,.ow Ca 133 (.slice z.1.a4 n.Af.length z.1.c4) (Hc n).1.Af z.1.F4,.ow By 140 (.slice z.1.a5 n.Ac.length z.1.c5) (Hc n).1.Ac z.1.F5,.ow (Kx Ak 223) 142 (.slice z.1.a6 n.down.length z.1.c6) (Hc n).1.down z.1.F6,.ow (Kx Ak 223) 142 (.slice z.1.a7 n.up.length z.1.c7) (Hc n).1.up z.1.F7,.ow A8 9 (.slice z.2.a (Hc n).2.length z.2.c) (Hc n).2 z.2.F]):=by
 have hG:=A1.1 hg;have h8:=H9 hG.t;have hn8:=h8.n1;have hn2:=h8.n0;obtain ⟨q1,q2,q3,q4⟩:=Bm.1 hG.l;have hS:=Lc hG.s;obtain ⟨hq0,hq3⟩:=Aqp hG.s;have hkl:=Wc n.An.Ad 0;have hkx:∀x∈I3 n.An.Ad 0,0≤x∧x.toNat < n.down.length:=fun x hx=>by have:=Mh (i:=0) h8 hx;omega
 refine enter func212 rfl ntmps212 fun w0=>?_;refine go ?_;refine dsI [.cel g 0 [.slice a1 n.An.Ad.length c1]] [] ?_;refine dtI 0 (fun w h=>En (Im (h (.row g _ 0 [] _ []) FO))) ?_;refine dtI 1 (fun w h=>En (Im (h (.row g _ 0 [] _ []) FO))) ?_;refine dtI 2 (fun w h=>En (Im (h (.row g _ 0 [] _ []) FO))) ?_;refine dtI 3 (fun w h=>En (Im (h (.row g _ 0 [] _ []) FO))) ?_;refine dtI 4 (fun w h=>En (Im (h (.row g _ 0 [] _ []) FO))) ?_;refine dtI 6 (fun w h=>En (Im (h (.row g _ 0 [] _ []) FO))) ?_
 refine dtI 7 (fun w h=>En (Im (h (.row g _ 0 [] _ []) FO))) ?_;refine dtI 8 (fun w h=>En (Im (h (.row g _ 0 [] _ []) FO))) ?_;refine dN 5 ?_;refine oC ?_;refine cfr (fun w st=>by obtain ⟨Fq,hq⟩:=Air (st.get (p:=.ow Bb 3 (.slice a1 n.An.Ad.length c1) n.An.Ad F1) FO);exact ⟨_,En hq,rfl,Aa2 n.An 0 _ Fq KP⟩) (fun u _=>?_);refine O1 ?_;refine A4 (E:=Bb) (xs:=I3 n.An.Ad 0) fun Fk=>?_;refine dkI (fun w h=>En (Im (h (.row g _ 0 [] _ []) FO))) ?_;refine dN 9 ?_;refine oC ?_
 refine Cb (Baf (X:=[.slice a1 n.An.Ad.length c1]) (cs:=[.int .i64 n.Ab.Aa.Ap,.int .i64 n.Ab.Aa.size,.slice a2 n.Ab.Aa.Ao.length c2,.int .i64 n.Ab.Ai,.int .i64 n.Ab.quiet,.slice a3 n.Ab.holds.length c3]) (Y:=[.slice a4 n.Af.length c4,.slice a5 n.Ac.length c5,.slice a6 n.down.length c6,.slice a7 n.up.length c7]) (L:=[.slice a1 n.An.Ad.length c1,.int .i64 n.Ab.Aa.Ap,.int .i64 n.Ab.Aa.size,.slice a2 n.Ab.Aa.Ao.length c2,.int .i64 n.Ab.Ai,.int .i64 n.Ab.quiet,.slice a3 n.Ab.holds.length c3,.slice a4 n.Af.length c4,.slice a5 n.Ac.length c5,.slice a6 n.down.length c6,.slice a7 n.up.length c7]) (L':=fun z:TiS=>[.slice a1 n.An.Ad.length c1,.int .i64 n.Ab.Aa.Ap,.int .i64 n.Ab.Aa.size,.slice a2 n.Ab.Aa.Ao.length c2,.int .i64 (n.Ab.Ai+1),.int .i64 (X5 n.Ab.quiet),.slice z.a2 (Wb (n.Ab.Ai+1) n.Ab.holds).length z.c2,.slice a4 n.Af.length c4,.slice a5 n.Ac.length c5,.slice a6 n.down.length c6,.slice a7 n.up.length c7]) (cs':=fun z:TiS=>[.int .i64 n.Ab.Aa.Ap,.int .i64 n.Ab.Aa.size,.slice a2 n.Ab.Aa.Ao.length c2,.int .i64 (n.Ab.Ai+1),.int .i64 (X5 n.Ab.quiet),.slice z.a2 (Wb (n.Ab.Ai+1) n.Ab.holds).length z.c2]) (Bdy n.Ab.Aa n.Ab.holds g 50 (0+1) _ _ a2 a3 c2 c3 n.Ab.Ai n.Ab.quiet F3 hS.t0 hS.t1 hS.l hS.k0 hS.k1 hq0 hq3) rfl rfl (fun _=>rfl)) fun z _=>?_
 refine A4 (E:=Ak) (xs:=Oj n.Ab.Aa n.Ab.quiet) fun Fp=>?_;refine dkI (fun w h=>En (Im (h (.row g _ 0 [] _ []) FO))) ?_;refine dN 10 ?_;refine oC ?_;refine Cb (Aa5 n.down (I3 n.An.Ad 0) (Oj n.Ab.Aa n.Ab.quiet) g _ _ _ _ _ _ _ _ _ _ a6 _ c6 F6 _ _ Fk _ _ Fp rfl hkx) fun J6 _=>?_;refine dkI (fun w h=>En (Im (h (.row g _ 0 [] _ []) FO))) ?_;refine dd ?_;refine Dj A8 9 ?_;rw [show Dq n.down (I3 n.An.Ad 0) (Oj n.Ab.Aa n.Ab.quiet)=(Bg n 0).1.down from rfl];refine go ?_
 refine Cj [0,2] (fun s:TkN=>[(3,.slice s.a (Bg n s.k).2.length s.c),(4,.int .i64 ((s.k+1:Nat):Int))]) (fun s=>[.row g 50 0 [] [.slice s.z.a1 n.An.Ad.length s.z.c1,.int .i64 (Bg n s.k).1.Ab.Aa.Ap,.int .i64 (Bg n s.k).1.Ab.Aa.size,.slice s.z.a2 (Bg n s.k).1.Ab.Aa.Ao.length s.z.c2,.int .i64 (Bg n s.k).1.Ab.Ai,.int .i64 (Bg n s.k).1.Ab.quiet,.slice s.z.a3 (Bg n s.k).1.Ab.holds.length s.z.c3,.slice s.z.a4 n.Af.length s.z.c4,.slice s.z.a5 n.Ac.length s.z.c5,.slice s.z.a6 n.down.length s.z.c6,.slice s.z.a7 n.up.length s.z.c7] [],.ow Bb 3 (.slice s.z.a1 n.An.Ad.length s.z.c1) (Bg n s.k).1.An.Ad s.z.F1,.ow A8 9 (.slice s.z.a2 (Bg n s.k).1.Ab.Aa.Ao.length s.z.c2) (Bg n s.k).1.Ab.Aa.Ao s.z.F2,.ow Bn 215 (.slice s.z.a3 (Bg n s.k).1.Ab.holds.length s.z.c3) (Bg n s.k).1.Ab.holds s.z.F3,.ow Ca 133 (.slice s.z.a4 n.Af.length s.z.c4) (Bg n s.k).1.Af s.z.F4,.ow By 140 (.slice s.z.a5 n.Ac.length s.z.c5) (Bg n s.k).1.Ac s.z.F5,.ow (Kx Ak 223) 142 (.slice s.z.a6 n.down.length s.z.c6) (Bg n s.k).1.down s.z.F6,.ow (Kx Ak 223) 142 (.slice s.z.a7 n.up.length s.z.c7) (Bg n s.k).1.up s.z.F7,.ow A8 9 (.slice s.a (Bg n s.k).2.length s.c) (Bg n s.k).2 s.F]) (fun s=>s.k+1≤n.An.Ad.length∧(Bg n s.k).2.length≤40000 * s.k) (fun s=>n.An.Ad.length - s.k) ⟨0,⟨a1,c1,F1,a2,c2,F2,z.a2,z.c2,z.F,a4,c4,F4,a5,c5,F5,a6,c6,J6,a7,c7,F7⟩,none,0,[]⟩ ⟨by show 0+1≤_;omega,Nat.le_refl _⟩ fun s hs0=>?_
 obtain ⟨k,⟨x1,w1,K1,x2,w2,K2,x3,w3,K3,x4,w4,K4,x5,w5,K5,x6,w6,K6,x7,w7,K7⟩,ea,ec,eF⟩:=s;obtain ⟨hk,hel⟩:=hs0;dsimp only at hk hel ⊢;obtain ⟨hGN,hT,hSrc⟩:=Qn hg hc k FJ;obtain ⟨r1,r2,r3,r4⟩:=Bm.1 hGN.l;rw [hT] at r1 r2 r3 r4;rw [hT,hSrc];refine go ?_;refine Ax rfl (fun h1=>?_) (fun h1=>?_)
 ·have hj:k+1 < n.An.Ad.length:=FJ
  obtain ⟨i1,i2,i3,i4,hrn⟩:=hGN.rn (i:=k+1) (by rw [hT];exact hj);rw [hT] at hrn;obtain ⟨d0,d1_⟩:=Adw (i:=k+1);refine go ?_;refine cfr (fun w st=>by obtain ⟨Fq,hq⟩:=Air (st.get (p:=.ow Bb 3 (.slice x1 n.An.Ad.length w1) n.An.Ad K1) FO);exact ⟨_,En hq,rfl,Yr n.An ((k+1:Nat):Int) _ Fq⟩) (fun _ _=>?_);refine O1 ?_;cases hlf:Eu n.An.Ad ((k+1:Nat):Int)
  ·obtain ⟨hge,hck, -⟩:=hrn.hn FJ hlf;obtain ⟨hc0,hc1⟩:=O8.1 (Hg.1 hge).1;have hnx:Bg n (k+1)=(⟨n.An,N4 n.Ab,(Bg n k).1.Af.set (k+1) (Gb (Bg n k).1.Af[k+1]),(Bg n k).1.Ac,(Bg n k).1.down,(Bg n k).1.up⟩,(Bg n k).2++[]):=by
    exact FH
   rw [List.append_nil] at hnx;refine W5 (xs:=(Bg n k).1.Af) (m:=2) (k+1) ?_ rfl i1;rintro _ g5 A5 cs B5 k1 k2 J1 Ji J2 e5 - hc5 hH5;rw [e5];refine H4 ?_;rintro b1 d1 G1 ev l1;obtain rfl:=Uv ev;refine go ?_;refine Cb (Bdp (Bg n k).1.Af[k+1] g5 133 (0+(k+1) * 2) A5 B5 b1 d1 G1 FJ FJ) fun s9 _=>?_;refine Fc (Gb (Bg n k).1.Af[k+1]) ?_;refine Ta _ hH5 rfl fun J5=>?_;refine go ?_
   refine Ce ⟨k+1,⟨x1,w1,K1,x2,w2,K2,x3,w3,K3,_,w4,J5,x5,w5,K5,x6,w6,K6,x7,w7,K7⟩,ea,ec,eF⟩ ⟨KG,by rw [hnx];dsimp only;omega⟩ GS GZ GY
  ·obtain ⟨-,hgr0,hck⟩:=hrn.hf FJ hlf;have hgr:=Eb.1 hgr0;obtain ⟨hsm,hfew⟩:=Aey hgr;have hnx:Bg n (k+1)=(⟨n.An,N4 n.Ab,(Bg n k).1.Af,(Bg n k).1.Ac.set (k+1) (Cw (Bg n k).1.Ac[k+1] (N5 (k+1))),(Bg n k).1.down,Ss (Bg n k).1.up (k+1) (Fj (Bg n k).1.Ac[k+1])⟩,(Bg n k).2++Vk (k+1) (H8 (Bg n k).1.Ac[k+1])):=by
    show ((Oi (Bg n k).1 (k+1)).1,(Bg n k).2++(Oi (Bg n k).1 (k+1)).2)=_;unfold Oi;rw [hT,hlf,if_pos rfl,Hv i2,hSrc];rfl
   have htl:(Vk (k+1) (H8 (Bg n k).1.Ac[k+1])).length=(H8 (Bg n k).1.Ac[k+1]).length:=List.length_map ..;generalize hR:(Bg n k).1.Ac[k+1]=R at *;refine go ?_;refine W5 (xs:=(Bg n k).1.Ac) (m:=5) (k+1) ?_ rfl i2;rintro _ g5 A5 cs B5 k1 k2 J1 Ji J2 e5 - hc5 hH5;rw [e5,hR];refine Ij ?_;rintro b1 d1 G1 b2 d2 G2 ev l1 l2;obtain rfl:=Uv ev;refine As [5] [] ?_;refine Ds 0 1 2 3 ?_;refine Ed 4 5 ?_;refine dt 6 ?_;refine dN 7 ?_;refine oC ?_;refine Cb (Ak3 (k+1) FJ) fun _ _=>?_;refine dk ?_;refine dN 8 ?_;refine oC ?_
   refine Cb (Bdw R (N5 (k+1)) g5 140 (0+(k+1) * 5) A5 B5 b1 d1 G1 b2 d2 G2 hgr FJ FJ) fun s9 _=>?_;refine dk ?_;refine Ds 9 10 11 12 ?_;refine dt 13 ?_;refine dd ?_;refine I6 (Cw R (N5 (k+1))) ?_;refine Ta _ hH5 rfl fun J5=>?_;refine A4 (E:=Ak) (xs:=Fj R) fun Fp=>?_;refine Anz (E:=Ak) (fun p:Ar=>p.data.size≤maxLen) (fun w cs x F h=>by obtain ⟨_,h,_⟩:=h;exact h) ?_;intro hz;refine Xq (E:=Ak) (xs:=Fj R) ?_;rintro pa pc e9 hp1 hp2;clear e9;refine go ?_;rw [show (Bg n k).1.up=Ss (Bg n k).1.up (k+1) ((Fj R).take 0) by rw [List.take_zero,Al2]]
   refine Cj [0,2,3,4,6,56,57] (fun y:KF=>[(58,.int .i64 (y.k:Nat))]) (fun y=>[.ow (Kx Ak 223) 142 (.slice x7 n.up.length w7) (Ss (Bg n k).1.up (k+1) ((Fj R).take y.k)) y.F]) (fun y=>y.k≤(Fj R).length) (fun y=>(Fj R).length - y.k) ⟨0,K7⟩ (Nat.zero_le _) fun y hy0=>?_;have hpl:=Al1 (Bg n k).1.up (k+1) ((Fj R).take y.k);refine go ?_;refine Ax rfl (fun h2=>?_) (fun h2=>?_)
   ·have hm:y.k < (Fj R).length:=FJ
    refine Qq (xs:=Fj R) y.k ?_;rintro hi3 b3 o3 e3 s3;rw [e3];refine go ?_;intros;refine As [0,6] [] ?_;refine Ds 0 1 2 3 ?_;refine Ed 4 5 ?_;refine dN 6 ?_;refine oC ?_;refine Cb (Aek (Ss (Bg n k).1.up (k+1) ((Fj R).take y.k)) (k+1) (Fj R)[y.k] x7 _ w7 y.F FJ FJ s3) fun f1 _=>?_;rw [Aiq i4 hm];refine dk ?_;refine dd ?_;refine go ?_;refine Ce ⟨y.k+1,f1⟩ hm (by show (Fj R).length - (y.k+1) < (Fj R).length - y.k;omega)
   ·rw [show (Fj R).take y.k=Fj R from List.take_of_length_le FJ];refine go ?_;refine cfr (fun w st=>by obtain ⟨Fq, -,hq⟩:=(st.get (p:=.ow A8 9 (.slice s9.a4 (H8 R).length s9.c4) (H8 R) s9.F4) FO).2.read;exact ⟨[.sl A8 (.slice s9.a4 (H8 R).length s9.c4) (H8 R) Fq,Hp FT],N0 ⟨FM,hq⟩ (st.get (p:=Hp FT) FO),rfl,Bc2 (k+1) _ _ _ Fq FT FJ FJ hsm⟩) (fun u9 _=>?_);refine O1 ?_;refine A4 (E:=A8) (xs:=Vk (k+1) (H8 R)) fun F8=>?_;apply wO;refine Pm (E:=A8) (xs:=(Bg n k).2) (ys:=Vk (k+1) (H8 R)) Eh Hj fun a9 c9 F9=>?_;refine go ?_
    refine Ce ⟨k+1,⟨x1,w1,K1,x2,w2,K2,x3,w3,K3,x4,w4,K4,_,w5,J5,x6,w6,K6,x7,w7,y.F⟩,a9,c9,F9⟩ ⟨KG,by rw [hnx];dsimp only;rw [List.length_append,htl];omega⟩ GS GZ GY
 ·have hke:n.An.Ad.length - 1=k:=FJ
  rw [show Hc n=Bg n k by unfold Hc;rw [hke],hT,hSrc];exact FB
structure Kq where
 Cp:Int
 node:Int
 data:ByteArray
def Ex (s:Kq):Bool:=if s.Cp=1 then decide (s.node=0) && R5 s.data else if s.Cp=4 then decide (s.node=0) && decide (s.data=⟨#[]⟩) else Gj 1 s.Cp 6 && Ra s.node && decide (s.data=⟨#[]⟩)
def Yb (s:Kq):Bool:=decide (s.Cp=5) || decide (s.Cp=6)
def Vj (n:Du) (s:Kq):List Ar:=(if Yb s then n.up else n.down).getD s.node.toNat []
def Hn (n:Du) (s:Kq):Du:=if Yb s then Pj n s.node.toNat else Ro n s.node.toNat
def C6 (n:Du) (s:Kq):Option (Du × List ByteArray) :=
 if (n.An.Ad.length:Int)≤s.node then none
 else if (Vj n s).length=0 then none
 else if s.Cp=2 then some (C7 (Hn n s) s.node.toNat (Ob (Vj n s)))
 else if s.Cp=5 then some (Rf (Hn n s) s.node.toNat (Ob (Vj n s)),[])
 else some (Hn n s,[])
def Bo (n:Du) (s:Kq):Option (Du × List ByteArray) :=
 if s.Cp=1 then some (Ai3 n s.data,[])
 else if s.Cp=4 then (if n.Ab.Ai=9999 then none else some (Hc n))
 else C6 n s
def Ih (n:Du) (r:Option (Du × List ByteArray)):Du:=match r with|some x=>x.1|none=>n
def Wi (r:Option (Du × List ByteArray)):List ByteArray:=match r with|some x=>x.2|none=>[]
theorem Aye {n:Du} {s:ByteArray} (h:At n=true) (hs:R5 s=true):At (Ai3 n s)=true:=by
 have hg:=A1.1 h;have ht:=H9 hg.t;exact A1.2 (((hg.src (Awm hg.s hs)).sp (fun p hp=>by rw [List.mem_singleton] at hp;subst hp;exact Ax0 (Fs.1 hg.s).1 hs) (Ago ht 0)))
theorem Ae2 {ck:Nat→Int} {i:Nat} {c:Int} (h:ck i=c):Agh ck i c=ck:=by
 funext j;unfold Agh;by_cases e:j=i
 ·rw [if_pos e,e,h]
 ·rw [if_neg e]
theorem Awc {e:Bf} {n:Int} {l:List Int}:∀x∈V1 e n l,x∈l:=Aca
theorem Apj (r:Az) (p:Ar) (d:Int):(Dm r p d).Ai=r.Ai:=by
 unfold Dm
 split
 ·rfl
 ·split <;> rfl
theorem Atj (e:Bf) (n f:Int):(Pk e n f).Ai=e.Ai:=by
 unfold Pk
 split
 ·rfl
 ·split <;> rfl
theorem Ati (e:Bf) (n:Int):(Q2 e n).Ai=e.Ai:=by unfold Q2;split <;> rfl
theorem Asb {n:Du} {i:Nat} {p:Ar} (h:At n=true) (h0:i≠0) (hi:i < n.An.Ad.length) (hp:Bw p=true):At (C7 n i p).1=true:=by
 have hg:=A1.1 h;have ht:=H9 hg.t;obtain ⟨h1,h2,h3,h4,r⟩:=hg.rn hi;have d0:1≤N5 i∧N5 i≤8:=by unfold N5;omega
 have ee:Qt n i=n.Af[i]:=KK
 have er:Q5 n i=n.Ac[i]:=KL
 have hps:∀q∈[p],Bw q=true:=fun q hq=>by rw [List.mem_singleton] at hq;rw [hq];exact hp
 unfold C7;cases hl:Eu n.An.Ad ((i:Nat):Int)
 ·rw [if_neg FM];obtain ⟨he,e2, -⟩:=r.hn h0 hl;by_cases hk:p.Cp=2
  ·have:=(hg.el h0 hl (Awk (n:=p.Ae) he)).sp hps (nodes:=V1 n.Af[i] p.Ae (Aaj n i)) (fun x hx=>Ago ht i x (Awc x hx));rw [Ae2 (show (fun _=>n.Ab.Ai) i=(Q2 n.Af[i] p.Ae).Ai by rw [Ati,e2])] at this;unfold Agc;rw [if_pos hk,if_pos hk,ee];exact A1.2 this
  ·unfold Agc;rw [if_neg hk,if_neg hk];exact A1.2 (hg.sp hps (Ago ht i))
 ·rw [if_pos rfl,er];obtain ⟨-,e2,e3⟩:=r.hf h0 hl;have:=hg.rc h0 hl (Eb.2 (V3 (d:=N5 i) (Eb.1 e2) hp d0.1 d0.2).1);rw [Ae2 (show (fun _=>n.Ab.Ai) i=(Dm n.Ac[i] p (N5 i)).Ai by rw [Apj,e3])] at this;exact A1.2 this
theorem Bf2 {n:Du} {i:Nat} {p:Ar} (h:At n=true) (h0:i≠0) (hi:i < n.An.Ad.length) (hp:Bw p=true) (hk:p.Cp=3):At (Rf n i p)=true:=by
 have hg:=A1.1 h;have ht:=H9 hg.t;have hone:∀x∈[((i:Nat):Int)],x.toNat≠0:=fun x hx=>by rw [List.mem_singleton] at hx;subst hx;omega
 have h1:=ht.p i hi FJ;have e:n.An.Ad.getD i 0=n.An.Ad[i]:=by rw [List.getD_eq_getElem?_getD,List.getElem?_eq_getElem hi];rfl
 obtain ⟨k,hkk⟩:∃k,Aaa n i=k:=⟨_,rfl⟩;have hk2:n.An.Ad[i]=((k:Nat):Int):=by unfold Aaa at hkk;rw [e] at hkk;omega
 unfold Rf;rw [hkk];by_cases hz:k=0
 ·rw [if_pos hz];have:=(hg.src (Bai (n:=p.Ae) hg.s (Lb hp))).sp (Aya (Fs.1 hg.s).1 hp hk) hone;refine A1.2 ?_;rw [show (Nc n.Ab p.Ae).Ai=n.Ab.Ai by unfold Nc;split <;> rfl];exact this
 ·rw [if_neg hz];have hkl:k < n.An.Ad.length:=FJ
  obtain ⟨r1,r2,r3,r4,r⟩:=hg.rn hkl;have ee:Qt n k=n.Af[k]:=by unfold Qt;rw [List.getD_eq_getElem?_getD,List.getElem?_eq_getElem r1];rfl
  have hl:Eu n.An.Ad ((k:Nat):Int)=false:=by
   unfold Eu;rw [←hk2,decide_eq_true (List.getElem_mem hi)];rfl
  obtain ⟨he,e2, -⟩:=r.hn hz hl;rw [ee];have hf:Ra ((i:Nat):Int)=true:=O9.2 ⟨FJ,by have:=ht.n1;omega⟩;have:=(hg.el hz hl (Awl he (Bc.2 (Lb hp)) hf)).sp (nodes:=[((i:Nat):Int)]) (ps:=[Aa4 p]) (fun q hq=>by rw [List.mem_singleton] at hq;rw [hq];exact Azy hp) hone;rw [Ae2 (show (fun _=>n.Ab.Ai) k=(Pk n.Af[k] p.Ae ((i:Nat):Int)).Ai by rw [Atj,e2])] at this;refine A1.2 ?_
  split
  ·exact this.un k _ (fun e=>absurd e hz) fun q a b=>⟨Aeo a fun x hx=>by rw [List.mem_singleton] at hx;rw [hx];exact hp,Avb b fun x hx=>by rw [List.mem_singleton] at hx;rw [hx];exact hk⟩
  ·exact this
theorem Nb {n:Du} {s:Kq} (h:At n=true):Ff (Vj n s)=true∧(Yb s=true→upQ (Vj n s)=true):=by
 have hg:=A1.1 h;obtain ⟨q1,q2,q3,q4⟩:=Bm.1 hg.l;unfold Vj;by_cases hi:s.node.toNat < n.An.Ad.length
 ·obtain ⟨h1,h2,h3,h4,r⟩:=hg.rn hi;cases Yb s
  ·rw [if_neg FM,Qu h3];exact ⟨r.hd,fun e=>by cases e⟩
  ·rw [if_pos rfl,Qu h4];exact ⟨r.hu,fun _=>r.hk⟩
 ·have e:((if Yb s then n.up else n.down).getD s.node.toNat [])=[]:=by
   rw [List.getD_eq_getElem?_getD,List.getElem?_eq_none (by split <;> omega)];rfl
  rw [e];exact ⟨rfl,fun _=>rfl⟩
theorem Ml {n:Du} {s:Kq} (h:At n=true):At (Hn n s)=true:=by
 have hg:=A1.1 h;unfold Hn
 split
 ·exact A1.2 (hg.pu _)
 ·exact A1.2 (hg.pd _)
theorem Pt {q:List Ar} (h:0 < q.length):Ob q∈q:=by rw [Y3 h];exact List.getElem_mem _
theorem N7 {q:List Ar} (h:Ff q=true) {p:Ar} (hp:p∈q):Bw p=true:=by
 unfold Ff at h;rw [Bool.and_eq_true] at h;exact List.all_eq_true.1 h.2 p hp
theorem Bf1 {q:List Ar} (h:upQ q=true) {p:Ar} (hp:p∈q):p.Cp=3:=of_decide_eq_true (List.all_eq_true.1 h p hp)
theorem Arc {n:Du} {s:Kq} {r:Du × List ByteArray} (h:At n=true) (hn:Ra s.node=true) (hr:C6 n s=some r):At r.1=true:=by
 have hf:=O9.1 hn;have hpg:=Ml (s:=s) h;have hq:=Nb (s:=s) h;have htl:(Hn n s).An=n.An:=KO
 unfold C6 at hr
 split at hr
 ·cases hr
 ·rename_i h1
  split at hr
  ·cases hr
  ·rename_i h2;have hm:=Pt (q:=Vj n s) FJ;have hpk:=N7 hq.1 hm;have hi:s.node.toNat < (Hn n s).An.Ad.length:=by rw [htl];omega
   split at hr
   ·cases hr;exact Asb hpg FJ hi hpk
   ·split at hr
    ·rename_i h5;cases hr;exact Bf2 hpg FJ hi hpk (Bf1 (hq.2 (by unfold Yb;rw [decide_eq_true h5];rfl)) hm)
    ·cases hr;exact hpg
theorem Zc {x:Ck} (h:C3 x=true):0≤x.Ai∧x.Ai≤9999:=by
 unfold C3 at h;simp only [Bool.and_eq_true] at h;exact O8.1 h.1.1.2
theorem N8 {n:Du} {s:Kq} {r:Du × List ByteArray} (h:At n=true) (hs:Ex s=true) (hr:Bo n s=some r):At r.1=true:=by
 unfold Bo at hr;unfold Ex at hs
 split at hr
 ·rename_i h1;rw [if_pos h1,Bool.and_eq_true] at hs;cases hr;exact Aye h hs.2
 ·rename_i h1
  split at hr
  ·rename_i h4
   split at hr
   ·cases hr
   ·rename_i hc;cases hr;have:=Zc (A1.1 h).s;exact At1 h FJ
  ·rename_i h4;rw [if_neg h1,if_neg h4] at hs;simp only [Bool.and_eq_true] at hs;exact Arc h hs.1.2 hr
section
variable {c:Cx} {fr:Fr} {H:List Pc} {Φ:Gl}
end
theorem Bfs (n:Du) (s:Kq) (g:Nat) (a1:Option Addr) (c1:Nat) (F1:List Nat) (a2:Option Addr) (c2:Nat) (F2:List Nat) (a3:Option Addr) (c3:Nat) (F3:List Nat) (a4:Option Addr) (c4:Nat) (F4:List Nat) (a5:Option Addr) (c5:Nat) (F5:List Nat) (a6:Option Addr) (c6:Nat) (F6:List Nat) (a7:Option Addr) (c7:Nat) (F7:List Nat) (FT:List Nat) (hg:At n=true) (hf:Ra s.node=true) :
  Fn prog 213 [Iq g 0 0,.agg #[.int .i64 s.Cp,.int .i64 s.node,.string s.data]] [Hp FT] [.row g 50 0 [] [.slice a1 n.An.Ad.length c1,.int .i64 n.Ab.Aa.Ap,.int .i64 n.Ab.Aa.size,.slice a2 n.Ab.Aa.Ao.length c2,.int .i64 n.Ab.Ai,.int .i64 n.Ab.quiet,.slice a3 n.Ab.holds.length c3,.slice a4 n.Af.length c4,.slice a5 n.Ac.length c5,.slice a6 n.down.length c6,.slice a7 n.up.length c7] [],.ow Bb 3 (.slice a1 n.An.Ad.length c1) n.An.Ad F1,.ow A8 9 (.slice a2 n.Ab.Aa.Ao.length c2) n.Ab.Aa.Ao F2,.ow Bn 215 (.slice a3 n.Ab.holds.length c3) n.Ab.holds F3,.ow Ca 133 (.slice a4 n.Af.length c4) n.Af F4,.ow By 140 (.slice a5 n.Ac.length c5) n.Ac F5,.ow (Kx Ak 223) 142 (.slice a6 n.down.length c6) n.down F6,.ow (Kx Ak 223) 142 (.slice a7 n.up.length c7) n.up F7] (fun (_:NV × KA)=>True) (fun z=>.tuple #[.slice z.2.a (Wi (C6 n s)).length z.2.c,.bool (C6 n s).isSome]) (fun z=>[.row g 50 0 [] [.slice z.1.a1 n.An.Ad.length z.1.c1,.int .i64 (Ih n (C6 n s)).Ab.Aa.Ap,.int .i64 (Ih n (C6 n s)).Ab.Aa.size,.slice z.1.a2 (Ih n (C6 n s)).Ab.Aa.Ao.length z.1.c2,.int .i64 (Ih n (C6 n s)).Ab.Ai,.int .i64 (Ih n (C6 n s)).Ab.quiet,.slice z.1.a3 (Ih n (C6 n s)).Ab.holds.length z.1.c3,.slice z.1.a4 n.Af.length z.1.c4,.slice z.1.a5 n.Ac.length z.1.c5,.slice z.1.a6 n.down.length z.1.c6,.slice z.1.a7 n.up.length z.1.c7] [],.ow Bb 3 (.slice z.1.a1 n.An.Ad.length z.1.c1) (Ih n (C6 n s)).An.Ad z.1.F1,.ow A8 9 (.slice z.1.a2 (Ih n (C6 n s)).Ab.Aa.Ao.length z.1.c2) (Ih n (C6 n s)).Ab.Aa.Ao z.1.F2,.ow Bn 215 (.slice z.1.a3 (Ih n (C6 n s)).Ab.holds.length z.1.c3) (Ih n (C6 n s)).Ab.holds z.1.F3,.ow Ca 133 (.slice z.1.a4 n.Af.length z.1.c4) (Ih n (C6 n s)).Af z.1.F4,.ow By 140 (.slice z.1.a5 n.Ac.length z.1.c5) (Ih n (C6 n s)).Ac z.1.F5,.ow (Kx Ak 223) 142 (.slice z.1.a6 n.down.length z.1.c6) (Ih n (C6 n s)).down z.1.F6,.ow (Kx Ak 223) 142 (.slice z.1.a7 n.up.length z.1.c7) (Ih n (C6 n s)).up z.1.F7,.ow A8 9 (.slice z.2.a (Wi (C6 n s)).length z.2.c) (Wi (C6 n s)) z.2.F]):=by
 have hG:=A1.1 hg;have h8:=H9 hG.t;have hn8:=h8.n1;obtain ⟨q1,q2,q3,q4⟩:=Bm.1 hG.l;obtain ⟨f1,f2⟩:=O9.1 hf;obtain ⟨i,hi⟩:∃i:Nat,s.node=((i:Nat):Int):=⟨s.node.toNat,FJ⟩;have i0:i≠0:=FJ
 refine enter func213 rfl ntmps213 fun w0=>?_;refine Dj A8 9 ?_;rw [hi];refine go ?_;intros;refine As [0,2] [] ?_;refine Ds 0 1 2 3 ?_;refine Ds 4 5 6 7 ?_;refine dt 8 ?_;refine dd ?_;refine go ?_;refine Ax rfl (fun h1=>?_) (fun h1=>?_)
 ·rw [show C6 n s=none by unfold C6;rw [if_pos FJ]];exact EY
 have hil:i < n.An.Ad.length:=FJ
 by_cases k5:s.Cp=5
 ·have hu:Yb s=true:=by unfold Yb;rw [decide_eq_true k5];rfl
  have hq:Vj n s=n.up[i]:=KN
  have hpo:Hn n s=Pj n i:=HR
  have h6:n.up[i].length≤6:=by
   exact CC
  refine go ?_;refine Dx rfl rfl (fun g5=>?_) (fun g5=>?_)
  rotate_left
  ·exact absurd k5 g5
  refine go ?_;refine Cb (Aij n.up i a7 _ c7 F7 rfl FJ h6) fun J _=>?_;by_cases h0:0 < n.up[i].length
  rotate_left
  ·exact AY
  have hmem:=Pt h0;have hpk:Bw (Ob n.up[i])=true:=N7 (hq▸(Nb (s:=s) hg).1) hmem;have hpz:(Ob n.up[i]).data.size≤maxLen:=by
   exact AO
  rw [decide_eq_true h0,show n.up.set i (n.up[i].drop 1)=(Pj n i).up from (Ip FJ).symm];have hgm:At (Pj n i)=true:=hpo▸Ml hg;have hGm:=A1.1 hgm;have hlm:n.up.length=(Pj n i).up.length:=(List.length_modify ..).symm;generalize hP:Ob n.up[i]=P at *;have htk:C6 n s=some (Rf (Pj n i) i P,[]):=by
   unfold C6;rw [if_neg FJ,hq,if_neg FJ,hpo,hP,hi,Int.toNat_natCast];rw [if_neg FJ,if_pos k5]
  rw [htk];refine go ?_;intros;refine Ax rfl (fun k2=>?_) (fun k2=>?_)
  ·exact absurd k2 FJ
  refine go ?_;refine Ax rfl (fun m5=>?_) (fun m5=>?_)
  rotate_left
  ·exact absurd k5 m5
  refine go ?_;rw [hlm];refine cf (Bc9 (Pj n i) i P g a1 c1 F1 a2 c2 F2 a3 c3 F3 a4 c4 F4 a5 c5 F5 a6 c6 F6 a7 c7 J hGm.l i0 hil (H9 hGm.t) hGm.s (fun k hk hkl hl=>?_) hpk hpz) fun z _=>?_
  rotate_left
  ·refine O1 ?_;refine go ?_;refine ret (z,⟨0,none,0,[]⟩) trivial rfl
  ·obtain ⟨x1,x2,x3,x4,r⟩:=hGm.rn (i:=k) hkl;rw [J3 x1];exact (r.hn hk hl).1
 by_cases k6:s.Cp=6
 ·have hu:Yb s=true:=by unfold Yb;rw [decide_eq_true k6,Bool.or_true]
  have hq:Vj n s=n.up[i]:=KN
  have hpo:Hn n s=Pj n i:=HR
  have h6:n.up[i].length≤6:=by
   exact CC
  refine go ?_;refine Dx rfl rfl (fun g5=>?_) (fun g5=>?_)
  ·exact absurd g5 FJ
  refine go ?_;refine Ax rfl (fun g6=>?_) (fun g6=>?_)
  rotate_left
  ·exact absurd k6 g6
  refine go ?_;refine Cb (Aij n.up i a7 _ c7 F7 rfl FJ h6) fun J _=>?_;by_cases h0:0 < n.up[i].length
  rotate_left
  ·exact AY
  have hmem:=Pt h0;have hpk:Bw (Ob n.up[i])=true:=N7 (hq▸(Nb (s:=s) hg).1) hmem;have hpz:(Ob n.up[i]).data.size≤maxLen:=by
   exact AO
  rw [decide_eq_true h0,show n.up.set i (n.up[i].drop 1)=(Pj n i).up from (Ip FJ).symm];have hgm:At (Pj n i)=true:=hpo▸Ml hg;have hGm:=A1.1 hgm;have hlm:n.up.length=(Pj n i).up.length:=(List.length_modify ..).symm;generalize hP:Ob n.up[i]=P at *;have htk:C6 n s=some (Pj n i,[]):=by
   exact FC
  rw [htk];refine go ?_;intros;refine Ax rfl (fun k2=>?_) (fun k2=>?_)
  ·exact absurd k2 FJ
  refine go ?_;refine Ax rfl (fun m5=>?_) (fun m5=>?_)
  ·exact absurd m5 FJ
  refine go ?_;refine ret (⟨a1,c1,F1,a2,c2,F2,a3,c3,F3,a4,c4,F4,a5,c5,F5,a6,c6,F6,a7,c7,J⟩,⟨0,none,0,[]⟩) trivial rfl
 ·have hu:Yb s=false:=by unfold Yb;rw [decide_eq_false k5,decide_eq_false k6];rfl
  have hq:Vj n s=n.down[i]:=by unfold Vj;rw [hu,if_neg FM,hi,Int.toNat_natCast];exact Qu FJ []
  have hpo:Hn n s=Ro n i:=by unfold Hn;rw [hu,if_neg FM,hi,Int.toNat_natCast]
  have h6:n.down[i].length≤6:=by
   exact CC
  refine go ?_;refine Dx rfl rfl (fun g5=>?_) (fun g5=>?_)
  ·exact absurd g5 k5
  refine go ?_;refine Ax rfl (fun g6=>?_) (fun g6=>?_)
  ·exact absurd g6 k6
  refine go ?_;refine Cb (Aij n.down i a6 _ c6 F6 rfl FJ h6) fun J _=>?_;by_cases h0:0 < n.down[i].length
  rotate_left
  ·have hz:n.down[i]=[]:=List.length_eq_zero_iff.1 FJ;rw [show C6 n s=none by unfold C6;rw [if_neg FJ,hq,if_pos FJ],decide_eq_false h0,show n.down.set i (n.down[i].drop 1)=n.down by rw [hz,List.drop_nil];rw [←hz,List.set_getElem_self]];refine go ?_;intros;refine ret (⟨a1,c1,F1,a2,c2,F2,a3,c3,F3,a4,c4,F4,a5,c5,F5,a6,c6,J,a7,c7,F7⟩,⟨0,none,0,[]⟩) trivial rfl
  have hmem:=Pt h0;have hpk:Bw (Ob n.down[i])=true:=N7 (hq▸(Nb (s:=s) hg).1) hmem;have hpz:(Ob n.down[i]).data.size≤maxLen:=by
   exact AO
  rw [decide_eq_true h0,show n.down.set i (n.down[i].drop 1)=(Ro n i).down from (Ip FJ).symm];have hgm:At (Ro n i)=true:=hpo▸Ml hg;have hGm:=A1.1 hgm;have hlm:n.down.length=(Ro n i).down.length:=(List.length_modify ..).symm;generalize hP:Ob n.down[i]=P at *;have htk:C6 n s=if s.Cp=2 then some (C7 (Ro n i) i P) else some (Ro n i,[]):=by
   unfold C6;rw [if_neg FJ,hq,if_neg FJ,hpo,hP,hi,Int.toNat_natCast]
   split
   ·rfl
   ·first|rfl|rw [if_neg k5]
  rw [htk];refine go ?_;intros;refine Ax rfl (fun k2=>?_) (fun k2=>?_)
  ·rw [if_pos k2];refine go ?_;rw [hlm];refine cf (Av4 (Ro n i) i P g a1 c1 F1 a2 c2 F2 a3 c3 F3 a4 c4 F4 a5 c5 F5 a6 c6 J a7 c7 F7 FT hGm.l hil (H9 hGm.t) (fun hl=>?_) (fun hl=>?_) hpk hpz) fun z _=>?_
   rotate_left
   rotate_left
   ·refine O1 ?_;refine go ?_;refine ret (z.1,z.2) trivial rfl
   ·obtain ⟨x1,x2,x3,x4,r⟩:=hGm.rn (i:=i) hil;rw [Hv x2];exact (r.hf i0 hl).2.1
   ·obtain ⟨x1,x2,x3,x4,r⟩:=hGm.rn (i:=i) hil;rw [J3 x1];exact (r.hn i0 hl).1
  ·rw [if_neg k2];refine go ?_;refine Ax rfl (fun m5=>?_) (fun m5=>?_)
   ·exact absurd m5 k5
   refine go ?_;refine ret (⟨a1,c1,F1,a2,c2,F2,a3,c3,F3,a4,c4,F4,a5,c5,F5,a6,c6,J,a7,c7,F7⟩,⟨0,none,0,[]⟩) trivial rfl
theorem Bh5 (n:Du) (s:Kq) (g:Nat) (a1:Option Addr) (c1:Nat) (F1:List Nat) (a2:Option Addr) (c2:Nat) (F2:List Nat) (a3:Option Addr) (c3:Nat) (F3:List Nat) (a4:Option Addr) (c4:Nat) (F4:List Nat) (a5:Option Addr) (c5:Nat) (F5:List Nat) (a6:Option Addr) (c6:Nat) (F6:List Nat) (a7:Option Addr) (c7:Nat) (F7:List Nat) (FT:List Nat) (hg:At n=true) (hs:Ex s=true) (hss:s.data.size≤maxLen) :
  Fn prog 120 [Iq g 0 0,.agg #[.int .i64 s.Cp,.int .i64 s.node,.string s.data]] [Hp FT] [.row g 50 0 [] [.slice a1 n.An.Ad.length c1,.int .i64 n.Ab.Aa.Ap,.int .i64 n.Ab.Aa.size,.slice a2 n.Ab.Aa.Ao.length c2,.int .i64 n.Ab.Ai,.int .i64 n.Ab.quiet,.slice a3 n.Ab.holds.length c3,.slice a4 n.Af.length c4,.slice a5 n.Ac.length c5,.slice a6 n.down.length c6,.slice a7 n.up.length c7] [],.ow Bb 3 (.slice a1 n.An.Ad.length c1) n.An.Ad F1,.ow A8 9 (.slice a2 n.Ab.Aa.Ao.length c2) n.Ab.Aa.Ao F2,.ow Bn 215 (.slice a3 n.Ab.holds.length c3) n.Ab.holds F3,.ow Ca 133 (.slice a4 n.Af.length c4) n.Af F4,.ow By 140 (.slice a5 n.Ac.length c5) n.Ac F5,.ow (Kx Ak 223) 142 (.slice a6 n.down.length c6) n.down F6,.ow (Kx Ak 223) 142 (.slice a7 n.up.length c7) n.up F7] (fun (_:NV × KA)=>True) (fun z=>.tuple #[.slice z.2.a (Wi (Bo n s)).length z.2.c,.bool (Bo n s).isSome]) (fun z=>[.row g 50 0 [] [.slice z.1.a1 n.An.Ad.length z.1.c1,.int .i64 (Ih n (Bo n s)).Ab.Aa.Ap,.int .i64 (Ih n (Bo n s)).Ab.Aa.size,.slice z.1.a2 (Ih n (Bo n s)).Ab.Aa.Ao.length z.1.c2,.int .i64 (Ih n (Bo n s)).Ab.Ai,.int .i64 (Ih n (Bo n s)).Ab.quiet,.slice z.1.a3 (Ih n (Bo n s)).Ab.holds.length z.1.c3,.slice z.1.a4 n.Af.length z.1.c4,.slice z.1.a5 n.Ac.length z.1.c5,.slice z.1.a6 n.down.length z.1.c6,.slice z.1.a7 n.up.length z.1.c7] [],.ow Bb 3 (.slice z.1.a1 n.An.Ad.length z.1.c1) (Ih n (Bo n s)).An.Ad z.1.F1,.ow A8 9 (.slice z.1.a2 (Ih n (Bo n s)).Ab.Aa.Ao.length z.1.c2) (Ih n (Bo n s)).Ab.Aa.Ao z.1.F2,.ow Bn 215 (.slice z.1.a3 (Ih n (Bo n s)).Ab.holds.length z.1.c3) (Ih n (Bo n s)).Ab.holds z.1.F3,.ow Ca 133 (.slice z.1.a4 n.Af.length z.1.c4) (Ih n (Bo n s)).Af z.1.F4,.ow By 140 (.slice z.1.a5 n.Ac.length z.1.c5) (Ih n (Bo n s)).Ac z.1.F5,.ow (Kx Ak 223) 142 (.slice z.1.a6 n.down.length z.1.c6) (Ih n (Bo n s)).down z.1.F6,.ow (Kx Ak 223) 142 (.slice z.1.a7 n.up.length z.1.c7) (Ih n (Bo n s)).up z.1.F7,.ow A8 9 (.slice z.2.a (Wi (Bo n s)).length z.2.c) (Wi (Bo n s)) z.2.F]):=by
 have hG:=A1.1 hg;have h8:=H9 hG.t;have hn8:=h8.n1;have hn2:=h8.n0;obtain ⟨q1,q2,q3,q4⟩:=Bm.1 hG.l;have hS:=Lc hG.s;obtain ⟨-,⟨hz1, -⟩, -, -⟩:=Ec.1 hS.w;have hkl:=Wc n.An.Ad 0;have hkx:∀x∈I3 n.An.Ad 0,0≤x∧x.toNat < n.down.length:=fun x hx=>by have:=Mh (i:=0) h8 hx;omega
 refine enter func120 rfl ntmps120 fun w0=>?_;refine Dj A8 9 ?_;refine go ?_;intros;rename_i gs;refine Ax rfl (fun h1=>?_) (fun h1=>?_)
 ·rw [show Bo n s=some (Ai3 n s.data,[]) by unfold Bo;rw [if_pos h1]];refine go ?_;refine dsI [.cel g 0 [.slice a1 n.An.Ad.length c1],.row gs 89 0 [] [.int .i64 s.Cp,.int .i64 s.node,.string s.data] []] [] ?_;refine dtI 0 (fun w h=>N0 (Im (h (.row g _ 0 [] _ []) FO)) (h _ FO)) ?_;refine dtI 1 (fun w h=>N0 (Im (h (.row g _ 0 [] _ []) FO)) (h _ FO)) ?_;refine dtI 2 (fun w h=>N0 (Im (h (.row g _ 0 [] _ []) FO)) (h _ FO)) ?_;refine dtI 3 (fun w h=>N0 (Im (h (.row g _ 0 [] _ []) FO)) (h _ FO)) ?_
  refine dtI 4 (fun w h=>N0 (Im (h (.row g _ 0 [] _ []) FO)) (h _ FO)) ?_;refine dtI 6 (fun w h=>N0 (Im (h (.row g _ 0 [] _ []) FO)) (h _ FO)) ?_;refine dtI 7 (fun w h=>N0 (Im (h (.row g _ 0 [] _ []) FO)) (h _ FO)) ?_;refine dtI 8 (fun w h=>N0 (Im (h (.row g _ 0 [] _ []) FO)) (h _ FO)) ?_;refine dtI 9 (fun w h=>N0 (Im (h (.row g _ 0 [] _ []) FO)) (h _ FO)) ?_;refine dtI 10 (fun w h=>N0 (Im (h (.row g _ 0 [] _ []) FO)) (h _ FO)) ?_;refine dN 5 ?_;refine oC ?_
  refine cfr (fun w st=>by obtain ⟨Fq,hq⟩:=Air (st.get (p:=.ow Bb 3 (.slice a1 n.An.Ad.length c1) n.An.Ad F1) FO);exact ⟨_,En hq,rfl,Aa2 n.An 0 _ Fq KP⟩) (fun u _=>?_);refine O1 ?_;refine A4 (E:=Bb) (xs:=I3 n.An.Ad 0) fun Fk=>?_;refine dkI (fun w h=>N0 (Im (h (.row g _ 0 [] _ []) FO)) (h _ FO)) ?_;refine dN 11 ?_;refine oC ?_
  refine Cb (Baf (X:=[.slice a1 n.An.Ad.length c1]) (cs:=[.int .i64 n.Ab.Aa.Ap,.int .i64 n.Ab.Aa.size,.slice a2 n.Ab.Aa.Ao.length c2,.int .i64 n.Ab.Ai,.int .i64 n.Ab.quiet,.slice a3 n.Ab.holds.length c3]) (Y:=[.slice a4 n.Af.length c4,.slice a5 n.Ac.length c5,.slice a6 n.down.length c6,.slice a7 n.up.length c7]) (L:=[.slice a1 n.An.Ad.length c1,.int .i64 n.Ab.Aa.Ap,.int .i64 n.Ab.Aa.size,.slice a2 n.Ab.Aa.Ao.length c2,.int .i64 n.Ab.Ai,.int .i64 n.Ab.quiet,.slice a3 n.Ab.holds.length c3,.slice a4 n.Af.length c4,.slice a5 n.Ac.length c5,.slice a6 n.down.length c6,.slice a7 n.up.length c7]) (L':=fun z:SeS=>[.slice a1 n.An.Ad.length c1,.int .i64 (Di n.Ab.Aa s.data).Ap,.int .i64 (Di n.Ab.Aa s.data).size,.slice z.a (Di n.Ab.Aa s.data).Ao.length z.c,.int .i64 n.Ab.Ai,.int .i64 0,.slice z.a2 (Ou (Di n.Ab.Aa s.data) n.Ab.holds).length z.c2,.slice a4 n.Af.length c4,.slice a5 n.Ac.length c5,.slice a6 n.down.length c6,.slice a7 n.up.length c7]) (cs':=fun z:SeS=>[.int .i64 (Di n.Ab.Aa s.data).Ap,.int .i64 (Di n.Ab.Aa s.data).size,.slice z.a (Di n.Ab.Aa s.data).Ao.length z.c,.int .i64 n.Ab.Ai,.int .i64 0,.slice z.a2 (Ou (Di n.Ab.Aa s.data) n.Ab.holds).length z.c2]) (Bdx n.Ab.Aa s.data n.Ab.holds g 50 (0+1) _ _ a2 a3 c2 c3 n.Ab.Ai n.Ab.quiet F2 F3 hS.l hS.t0 hS.t1 hss hz1 hS.n) rfl rfl (fun _=>rfl)) fun z _=>?_
  refine dkI (fun w h=>N0 (Im (h (.row g _ 0 [] _ []) FO)) (h _ FO)) ?_;refine dN 12 ?_;apply Lx;rfl;rfl;rfl;rfl;exact Lr;exact La;intro _;refine Ll (E:=Ak) (xs:=[Dv n.Ab.Aa s.data]) (Dh (Dv n.Ab.Aa s.data) hss) ?_ FK;refine A4 (E:=Ak) (xs:=[Dv n.Ab.Aa s.data]) fun Fp=>?_;refine dkI (fun w h=>N0 (Im (h (.row g _ 0 [] _ []) FO)) (h _ FO)) ?_;refine dN 13 ?_;refine oC ?_;refine Cb (Aa5 n.down (I3 n.An.Ad 0) [Dv n.Ab.Aa s.data] g _ _ _ _ _ _ _ _ _ _ a6 _ c6 F6 _ _ Fk _ _ Fp rfl hkx) fun J6 _=>?_
  refine dkI (fun w h=>N0 (Im (h (.row g _ 0 [] _ []) FO)) (h _ FO)) ?_;refine dd ?_;refine go ?_;refine ret (⟨a1,c1,F1,z.a,z.c,z.F,z.a2,z.c2,z.F2,a4,c4,F4,a5,c5,F5,a6,c6,J6,a7,c7,F7⟩,⟨0,none,0,[]⟩) trivial rfl
 refine go ?_;refine Ax rfl (fun h4=>?_) (fun h4=>?_)
 ·refine go ?_;refine Ax rfl (fun hc=>?_) (fun hc=>?_)
  ·rw [show Bo n s=none by unfold Bo;rw [if_neg h1,if_pos h4,if_pos hc]];exact EY
  ·rw [show Bo n s=some (Hc n) by unfold Bo;rw [if_neg h1,if_pos h4,if_neg hc]];have hck:=Zc hG.s;refine go ?_;refine Cb (Bds n g a1 c1 F1 a2 c2 F2 a3 c3 F3 a4 c4 F4 a5 c5 F5 a6 c6 F6 a7 c7 F7 FT hg FJ) fun z _=>?_;refine go ?_;refine ret (z.1,z.2) trivial rfl
 ·rw [show Bo n s=C6 n s by unfold Bo;rw [if_neg h1,if_neg h4]];have hf:Ra s.node=true:=by
   unfold Ex at hs;rw [if_neg h1,if_neg h4] at hs;simp only [Bool.and_eq_true] at hs;exact hs.1.2
  refine go ?_;refine Cb (Bfs n s g a1 c1 F1 a2 c2 F2 a3 c3 F3 a4 c4 F4 a5 c5 F5 a6 c6 F6 a7 c7 F7 FT hg hf) fun z _=>?_;refine go ?_;refine ret (z.1,z.2) trivial rfl
theorem Ajv (s:Kq) (hss:s.data.size≤maxLen):FV 119 [.agg #[.int .i64 s.Cp,.int .i64 s.node,.string s.data]] [] (.bool (Ex s)):=by
 refine enter func119 rfl ntmps119 fun w0=>?_;refine go ?_;intros;refine Ax rfl (fun h1=>?_) (fun h1=>?_)
 ·rw [show Ex s=(decide (s.node=0) && R5 s.data) by unfold Ex;rw [if_pos h1]];refine go ?_;refine Dx rfl rfl (fun h2=>?_) (fun h2=>?_)
  ·refine go ?_;refine cb (fun w st=>Acj s.data w hss) ?_;exact DE
  ·exact DA
 refine go ?_;refine Ax rfl (fun h4=>?_) (fun h4=>?_)
 ·rw [show Ex s=(decide (s.node=0) && decide (s.data=⟨#[]⟩)) by unfold Ex;rw [if_neg h1,if_pos h4]];refine go ?_;refine Dx rfl rfl (fun h2=>?_) (fun h2=>?_)
  ·exact DE
  ·exact DA
 rw [show Ex s=(Gj 1 s.Cp 6 && Ra s.node && decide (s.data=⟨#[]⟩)) by unfold Ex;rw [if_neg h1,if_neg h4]];refine go ?_;refine Ax rfl (fun k2=>?_) (fun k2=>?_)
 ·refine go ?_;refine Ax rfl (fun _=>?_) (fun hx=>absurd k2 hx);refine go ?_;refine ce (fun w st=>V8 s.node _) ?_;cases g5:Ra s.node
  ·exact CH
  ·exact BV
 ·refine go ?_;refine Ax rfl (fun k3=>?_) (fun k3=>?_)
  ·refine go ?_;refine Ax rfl (fun _=>?_) (fun hx=>absurd k3 hx);refine go ?_;refine ce (fun w st=>V8 s.node _) ?_;cases g5:Ra s.node
   ·exact CH
   ·exact BV
  ·refine go ?_;refine Ax rfl (fun k5=>?_) (fun k5=>?_)
   ·refine go ?_;refine Ax rfl (fun _=>?_) (fun hx=>absurd k5 hx);refine go ?_;refine ce (fun w st=>V8 s.node _) ?_;cases g5:Ra s.node
    ·exact CH
    ·exact BV
   ·refine go ?_;refine Ax rfl (fun k6=>?_) (fun k6=>?_)
    ·refine go ?_;refine ce (fun w st=>V8 s.node _) ?_;cases g5:Ra s.node
     ·exact CH
     ·exact BV
    ·refine go ?_;refine ret () trivial ?_;rw [show Gj 1 s.Cp 6=false by unfold Gj;simp;omega];rfl
def Xv:Du:=⟨⟨[]⟩,Bkn,[],[],[],[]⟩
theorem Ii {n:Du} (h:At n=true):(∀x∈n.Af,Ba x=true)∧(∀x∈n.Ac,Bx x=true)∧(∀q∈n.down,Ff q=true)∧∀q∈n.up,Ff q=true:=by
 have hG:=A1.1 h;obtain ⟨q1,q2,q3,q4⟩:=Bm.1 hG.l;refine ⟨fun x hx=>?_,fun x hx=>?_,fun x hx=>?_,fun x hx=>?_⟩
 all_goals
  obtain ⟨i,hi,rfl⟩:=List.getElem_of_mem hx;obtain ⟨h1,h2,h3,h4,r⟩:=hG.rn (i:=i) FJ
 ·by_cases e:i=0
  ·exact W6 (r.hz e).1
  ·cases l:Eu n.An.Ad ((i:Nat):Int)
   ·exact (r.hn e l).1
   ·exact W6 (r.hf e l).1
 ·by_cases e:i=0
  ·exact W7 (r.hz e).2.1
  ·cases l:Eu n.An.Ad ((i:Nat):Int)
   ·exact W7 (r.hn e l).2.2
   ·exact (r.hf e l).2.1
 ·exact r.hd
 ·exact r.hu
theorem Db {q:List Ar} (h:Ff q=true):q.length≤6∧∀p∈q,Bw p=true:=by
 unfold Ff at h;simpa [List.all_eq_true] using h
theorem Aaq {n:Du} (h:At n=true):Vd n:=by
 have hG:=A1.1 h;have h8:=(H9 hG.t).n1;obtain ⟨q1,q2,q3,q4⟩:=Bm.1 hG.l;have hS:=Lc hG.s;have hl:=hS.l;have hm:=hS.m;obtain ⟨e1,e2,e3,e4⟩:=Ii h;refine ⟨FJ,FJ,FJ,FJ,fun x hx=>?_,fun x hx y hy=>?_,FJ,fun x hx=>⟨?_,?_⟩,FJ,fun q hq=>?_,FJ,fun q hq=>?_⟩
 ·have:=(Hg.1 (e1 x hx)).2.1;omega
 ·have:=(Tz (e1 x hx)).2.2 y hy;omega
 ·have:=(Kh (Eb.1 (e2 x hx)).w).1;omega
 ·have:=(Dg.1 (Eb.1 (e2 x hx)).q).2.1;omega
 ·have:=(Db (e3 q hq)).1;omega
 ·have:=(Db (e4 q hq)).1;omega
theorem Af2 (n:Du):∀k,(Bg n k).1.An=n.An
 | 0=>rfl
 | k+1=>(Aji _ _).1.trans (Af2 n k)
theorem T7 {n:Du} {s:Kq} {r:Du × List ByteArray} (hr:Bo n s=some r):r.1.An=n.An:=by
 have hd:∀(n:Du) i p,(C7 n i p).1.An=n.An:=fun n i p=>by unfold C7;split <;> rfl
 have hu:∀(n:Du) i p,(Rf n i p).An=n.An:=fun n i p=>by unfold Rf;split <;> rfl
 have hp:(Hn n s).An=n.An:=KO
 unfold Bo C6 at hr
 split at hr
 ·cases hr;rfl
 split at hr
 ·split at hr
  ·cases hr
  ·cases hr;exact Af2 n _
 split at hr
 ·cases hr
 split at hr
 ·cases hr
 split at hr
 ·cases hr;exact (hd _ _ _).trans hp
 split at hr
 ·cases hr;exact (hu _ _ _).trans hp
 ·cases hr;exact hp
theorem Bex {n m:Du} (h1:At n=true) (h2:At m=true) (h:m.An=n.An):n.An.Ad.length=m.An.Ad.length∧n.Af.length=m.Af.length∧n.Ac.length=m.Ac.length∧n.down.length=m.down.length∧n.up.length=m.up.length:=by
 obtain ⟨p1,p2,p3,p4⟩:=Bm.1 (A1.1 h1).l;obtain ⟨q1,q2,q3,q4⟩:=Bm.1 (A1.1 h2).l;rw [h] at q1 q2 q3 q4;exact ⟨by rw [h],FJ,FJ,FJ,FJ⟩
def Cn (n:Du) (s:Kq):Du × List ByteArray × Bool:=if At n && Ex s then (match Bo n s with
 | some r=>(r.1,r.2,true)
 | none=>(Xv,[],false)) else (Xv,[],false)
def okQ (up:Bool) (p:Ar):Bool:=Bw p && (!up || decide (p.Cp=3))
theorem Au7 (up:Bool) (l:List Ar):(l.all (okQ up) && decide (l.length≤6))=(Ff l && (!up || upQ l)):=by
 have h:l.all (okQ up)=(l.all Bw && (!up || upQ l)):=by
  unfold upQ okQ
  induction l with
  | nil=>cases up <;> rfl
  | cons p l ih =>
   simp only [List.all_cons,ih];cases Bw p <;> cases up <;> cases decide (p.Cp=3) <;> cases l.all Bw <;> simp
 rw [h];unfold Ff;cases decide (l.length≤6) <;> cases l.all Bw <;> simp
theorem Bbk {up:Bool} {l:List Ar} {k:Nat} (h:k < l.length) (hp:okQ up l[k]=false):(Ff l && (!up || upQ l))=false:=by
 rw [←Au7,show l.all (okQ up)=false from List.all_eq_false.2 ⟨l[k],List.getElem_mem h,IC⟩];rfl
theorem Ah8 (l:List Ar) (up:Bool) (a:Option Addr) (c:Nat) (F:List Nat) (hl:l.length≤9223372036854775807):FV 160 [.slice a l.length c,.bool up] [.sl Ak (.slice a l.length c) l F] (.bool (Ff l && (!up || upQ l))):=by
 refine enter func160 rfl ntmps160 fun w0=>?_;refine go ?_;refine D8 [0,1,4] (fun k:Nat=>[(5,.int .i64 (k:Nat))]) (fun k=>k≤l.length∧∀j,j < k→∀h:j < l.length,okQ up l[j]=true) (fun k=>l.length - k) 0 ⟨Nat.zero_le _,fun j h=>by omega⟩ fun k hk=>?_;obtain ⟨hk1,hk2⟩:=hk;refine go ?_;refine Ax rfl (fun h1=>?_) (fun h1=>?_)
 ·have hh:k < l.length:=FJ
  refine Qq (xs:=l) k ?_;rintro hi b o e1 s1;rw [e1];refine go ?_;refine Cb (Apz l[k] s1) fun _ _=>?_;cases g:Bw l[k]
  ·rw [Bbk hh (by unfold okQ;rw [g];rfl)];exact AA
  cases up
  ·refine go ?_;refine Ce (k+1) ⟨hh,fun j hj h=>?_⟩ HK;rcases Nat.lt_or_eq_of_le (Nat.lt_succ_iff.1 hj) with h'|rfl
   ·exact hk2 j h' h
   ·unfold okQ;rw [g];rfl
  ·refine go ?_;refine Ax rfl (fun h3=>?_) (fun h3=>?_)
   ·rw [Bbk hh (by unfold okQ;rw [g,decide_eq_false h3];rfl)];exact AA
   ·refine go ?_;refine Ce (k+1) ⟨hh,fun j hj h=>?_⟩ HK;rcases Nat.lt_or_eq_of_le (Nat.lt_succ_iff.1 hj) with h'|rfl
    ·exact hk2 j h' h
    ·unfold okQ;rw [g,decide_eq_true FJ];rfl
 ·obtain rfl:k=l.length:=FJ
  refine go ?_;refine ret () trivial ?_;rw [←Au7,show l.all (okQ up)=true from List.all_eq_true.2 fun p hp=>by obtain ⟨j,hj,rfl⟩:=List.getElem_of_mem hp;exact hk2 j hj hj,Bool.true_and];by_cases h6:l.length≤6
  ·rw [decide_eq_true h6,decide_eq_true FJ];rfl
  ·rw [decide_eq_false h6,decide_eq_false FJ];rfl
theorem X2 (e:Bf) (v:Value) (F:List Nat):FV 195 [v] [.isv Bk v e F] (.bool (Nl e)):=by
 refine enter func195 rfl ntmps195 fun w0=>?_;refine Ga ?_;rintro a1 c1 F1 rfl l1;refine go ?_;intros;refine Dx rfl rfl (fun h1=>?_) (fun h1=>?_)
 ·refine go ?_;refine ret () trivial ?_;unfold Nl;rw [decide_eq_true h1,Bool.true_and];by_cases h:e.Ah.length=0
  ·rw [decide_eq_true h,decide_eq_true FJ];rfl
  ·rw [decide_eq_false h,decide_eq_false FJ];rfl
 ·refine go ?_;refine ret () trivial ?_;unfold Nl;rw [decide_eq_false h1];rfl
theorem Bhj (p:Ar) (hs:p.data.size≤maxLen):FV 260 [.agg #[.int .i64 (p).Cp,.int .i64 (p).Ae,.int .i64 (p).Ap,.int .i64 (p).Fv,.string (p).data]] [] (.bool (!Bw p)):=by
 refine enter func260 rfl ntmps260 fun w0=>?_;refine go ?_;intros;refine Cb (Xy p hs) fun _ _=>?_;exact AA
theorem Alj (l:List Ar) (a:Option Addr) (c:Nat) (F:List Nat):FV 192 [.slice a l.length c] [.sl Ak (.slice a l.length c) l F] (.bool (Ff l)):=by
 refine enter func192 rfl ntmps192 fun w0=>?_;refine Anz (E:=Ak) (fun p:Ar=>p.data.size≤maxLen) (fun w cs x F h=>by obtain ⟨_,h,_⟩:=h;exact h) ?_;intro hz;refine go ?_;refine Dx rfl rfl (fun h1=>?_) (fun h1=>?_)
 ·refine go ?_;refine cb (fun w st=>(Aue 260 [] [] [] rfl l a c F (fun p=>!Bw p) FL FJ (fun p hp w _=>(Bhj p (hz p hp)).val w (by intro q hq;cases hq))).val w (En (st.get (p:=.sl _ _ _ _) FO))) ?_;refine go ?_;refine ret () trivial ?_;unfold Ff;rw [decide_eq_true (show l.length≤6 by omega),List.not_any_eq_all_not];simp;rfl
 ·refine go ?_;refine ret () trivial ?_;unfold Ff;rw [decide_eq_false (show ¬l.length≤6 by omega)];rfl
theorem V9 (r:Az) (v:Value) (F:List Nat):FV 196 [v] [.isv Bi v r F] (.bool (Ut r)):=by
 have key:∀b:Bool,(b=(!r.Be && decide (r.Ai=0) && (decide (r.Aa.next=0) && decide (r.Aa.Am.length=0) && decide (r.Al.length=0))))→b=Ut r:=fun b h=>h;refine enter func196 rfl ntmps196 fun w0=>?_;refine Es ?_;rintro a1 c1 F1 a2 c2 F2 rfl l1 l2;unfold maxLen at l1 l2;cases hs:r.Be <;> rw [hs] at key
 ·refine go ?_;intros;refine Dx rfl rfl (fun h1=>?_) (fun h1=>?_)
  ·refine go ?_;refine Dx rfl rfl (fun h2=>?_) (fun h2=>?_)
   ·refine go ?_;refine Dx rfl rfl (fun h3=>?_) (fun h3=>?_)
    ·refine go ?_;refine ret () trivial ?_;rw [←key (decide ((r.Al.length:Int)=0)) (by simp [h1,h2,show r.Aa.Am.length=0 by omega])];rfl
    ·refine go ?_;refine ret () trivial ?_;rw [←key false (by simp [show ¬r.Aa.Am=[] from fun e=>h3 (by rw [e];rfl)])];rfl
   ·refine go ?_;refine ret () trivial ?_;rw [←key false (by simp [h2])];rfl
  ·refine go ?_;refine ret () trivial ?_;rw [←key false (by simp [h1])];rfl
 ·refine go ?_;intros;refine ret () trivial ?_;rw [←key false FK];rfl
theorem Bhi (p:Ar):FV 194 [.agg #[.int .i64 (p).Cp,.int .i64 (p).Ae,.int .i64 (p).Ap,.int .i64 (p).Fv,.string (p).data]] [] (.bool (!decide (p.Cp=3))):=by
 refine enter func194 rfl ntmps194 fun w0=>?_;refine go ?_;intros;refine ret () trivial ?_;rw [←decide_not];rfl
theorem Bf0 (l:List Ar):(l.any fun p=>!decide (p.Cp=3)) = !upQ l:=by
 unfold upQ;rw [List.not_all_eq_any_not]
theorem Au0 {α:Type} (l:List α):decide ((l.length:Int)=0)=decide (l.length=0):=by
 by_cases h:l.length=0
 ·rw [decide_eq_true h,decide_eq_true FJ]
 ·rw [decide_eq_false h,decide_eq_false FJ]
theorem Bb0 {par:List Int} {clk:Int} {i:Nat} {e:Bf} {r:Az} {d u:List Ar} (h:(Ff d && Ff u && upQ u)=false):Rr par clk i e r d u=false:=by unfold Rr;rw [h];rfl
theorem Bhz {par:List Int} {clk:Int} {i:Nat} {e:Bf} {r:Az} {d u:List Ar} (h:(Ff d && Ff u && upQ u)=true):Rr par clk i e r d u=(if i=0 then Nl e && Ut r && decide (d.length=0) && decide (u.length=0)
  else if Eu par i then Nl e && Bx r && decide (r.Ai=clk) else Ba e && decide (e.Ai=clk) && Ut r):=by unfold Rr;rw [h,Bool.true_and]
theorem Aj9 (n:Du) (i:Nat) (v:Value) (F:List Nat) (hl:Mj n=true) (hi:i < n.An.Ad.length):FV 111 [v,.int .i64 (i:Nat)] [.isv Ny v n F] (.bool (Ua n i)):=by
 obtain ⟨q1,q2,q3,q4⟩:=Bm.1 hl;rw [Vw FJ FJ FJ FJ];refine enter func111 rfl ntmps111 fun w0=>?_;refine Hm ?_;rintro a1 c1 F1 a2 c2 F2 a3 c3 F3 a4 c4 F4 a5 c5 F5 a6 c6 F6 a7 c7 F7 rfl l1 l2 l3 l4 l5 l6 l7;unfold maxLen at l1 l2 l3 l4 l5 l6 l7;refine Iu n.An ?_;refine Qb (xs:=n.Af) i ?_;rintro hi4 b4 o4 a8 c8 F8 rfl l8;refine Nr n.Af[i] ?_;refine Kg (xs:=n.Ac) i ?_;rintro hi5 b5 o5 a9 c9 F9 a10 c10 F10 rfl l9 l10;refine Ev n.Ac[i] ?_;refine Np (E:=Ak) (hz:=FM) (xs:=n.down) i ?_;rintro hi6 b6 o6 a11 c11 F11 rfl l11
 refine Np (E:=Ak) (hz:=FM) (xs:=n.up) i ?_;rintro hi7 b7 o7 a12 c12 F12 rfl l12;unfold maxLen at l8 l9 l10 l11 l12;refine go ?_;intros;refine E4 [1,2,4] [0,1,2,3,4,5,6,7,8,9,10,11,12,13,14,15,16,17,18,19,20] (fun z:Nat × Nat=>[(5,Iq z.1 0 0),(6,Iq z.2 0 0)]) (fun z=>[.row z.1 133 0 [] [.int .i64 n.Af[i].Ai,.slice a8 n.Af[i].Ah.length c8] [],.row z.2 140 0 [] [.bool n.Ac[i].Be,.int .i64 n.Ac[i].Ai,.int .i64 n.Ac[i].Aa.next,.slice a9 n.Ac[i].Aa.Am.length c9,.slice a10 n.Ac[i].Al.length c10] []]) (fun _=>True) ?_ fun z _=>?_
 ·refine As [0,6,10] [] ?_;refine Ds 0 1 2 3 ?_;refine Ds 4 5 6 7 ?_;refine Ed 8 9 ?_;refine dM 10 11 ?_ ?_
  ·apply Cr;rfl;intro _;refine dk ?_;refine dN 11 ?_;exact AP
  ·apply Cr;rfl;intro _;refine dk ?_;refine dN 10 ?_;exact AP
 refine go ?_;refine Cb (Alj n.down[i] _ _ F11) fun _ _=>?_;cases g1:Ff n.down[i]
 ·rw [Bb0 (by rw [g1];rfl)];exact AA
 refine go ?_;refine Cb (Alj n.up[i] _ _ F12) fun _ _=>?_;cases g2:Ff n.up[i]
 ·rw [Bb0 (by rw [g1,g2];rfl)];exact AA
 have u6:n.up[i].length≤6:=by
  unfold Ff at g2;simp only [Bool.and_eq_true,decide_eq_true_eq] at g2;exact g2.1
 refine go ?_;refine cb (fun w st=>(Aue 194 [] [] [] rfl n.up[i] a12 c12 F12 (fun p=>!decide (p.Cp=3)) FL FJ (fun p hp w _=>(Bhi p).val w (by intro q hq;cases hq))).val w (En (st.get (p:=.sl _ _ _ _) FO))) ?_;rw [Bf0];cases g3:upQ n.up[i]
 ·rw [Bb0 (by rw [g1,g2,g3];rfl)];exact AA
 rw [Bhz (by rw [g1,g2,g3];rfl)];refine go ?_;refine Ax rfl (fun h0=>?_) (fun h0=>?_)
 ·obtain rfl:i=0:=FJ
  rw [if_pos rfl];refine go ?_;refine Cb (X2 n.Af[0] _ F8) fun _ _=>?_;cases g4:Nl n.Af[0]
  ·exact AA
  refine go ?_;refine Cb (V9 n.Ac[0] _ (F9++F10)) fun _ _=>?_;cases g5:Ut n.Ac[0]
  ·exact AA
  refine go ?_;refine Dx rfl rfl (fun h6=>?_) (fun h6=>?_)
  ·refine go ?_;refine ret () trivial ?_;rw [←Au0 n.down[0],←Au0 n.up[0],decide_eq_true h6];rfl
  ·refine go ?_;refine ret () trivial ?_;rw [←Au0 n.down[0],decide_eq_false h6];rfl
 rw [if_neg FJ];refine go ?_;refine Cb (Yr n.An i _ F1) fun _ _=>?_;cases g6:Eu n.An.Ad i
 ·rw [if_neg FM];refine go ?_;refine cb (fun w st=>Vr _ n.Af[i] F8 w (st.get (p:=.isv _ _ _ _) FO)) ?_;cases g4:Ba n.Af[i]
  ·exact AA
  refine go ?_;refine Dx rfl rfl (fun h7=>?_) (fun h7=>?_)
  ·refine go ?_;refine Cb (V9 n.Ac[i] _ (F9++F10)) fun _ _=>?_;refine go ?_;refine ret () trivial ?_;rw [decide_eq_true h7];rfl
  ·refine go ?_;refine ret () trivial ?_;rw [decide_eq_false h7];rfl
 ·rw [if_pos rfl];refine go ?_;refine Cb (X2 n.Af[i] _ F8) fun _ _=>?_;cases g4:Nl n.Af[i]
  ·exact AA
  refine go ?_;refine Cb (Uz n.Ac[i] _ (F9++F10)) fun _ _=>?_;cases g5:Bx n.Ac[i]
  ·exact AA
  exact AA
theorem Abz (n:Du) (v:Value) (F:List Nat):FV 50 [v] [.isv Ny v n F] (.bool (At n)):=by
 refine enter func50 rfl ntmps50 fun w0=>?_;refine Hm ?_;rintro a1 c1 F1 a2 c2 F2 a3 c3 F3 a4 c4 F4 a5 c5 F5 a6 c6 F6 a7 c7 F7 rfl l1 l2 l3 l4 l5 l6 l7;unfold maxLen at l1 l2 l3 l4 l5 l6 l7;refine Iu n.An ?_;refine Gt n.Ab ?_;refine go ?_;intros;refine Cb (Ajw n.An _ F1) fun _ _=>?_;cases g1:Kl n.An
 ·rw [show At n=false by unfold At;rw [g1];rfl];exact AA
 refine go ?_;refine Cb (Af7 n.Ab _ (F2++F3)) fun _ _=>?_;cases g2:C3 n.Ab
 ·rw [show At n=false by unfold At;rw [g1,g2];rfl];exact AA
 refine go ?_;refine Dx rfl rfl (fun m0=>?_) (fun m0=>?_)
 ·rw [show At n=false by
   have:Mj n=false:=by
    cases hl:Mj n
    ·rfl
    ·obtain ⟨q1,q2,q3,q4⟩:=Bm.1 hl;exact absurd FJ m0
   unfold At;rw [this];simp]
  exact AA
 refine go ?_;refine Dx rfl rfl (fun m1=>?_) (fun m1=>?_)
 ·rw [show At n=false by
   have:Mj n=false:=by
    cases hl:Mj n
    ·rfl
    ·obtain ⟨q1,q2,q3,q4⟩:=Bm.1 hl;exact absurd FJ m1
   unfold At;rw [this];simp]
  exact AA
 refine go ?_;refine Dx rfl rfl (fun m2=>?_) (fun m2=>?_)
 ·rw [show At n=false by
   have:Mj n=false:=by
    cases hl:Mj n
    ·rfl
    ·obtain ⟨q1,q2,q3,q4⟩:=Bm.1 hl;exact absurd FJ m2
   unfold At;rw [this];simp]
  exact AA
 refine go ?_;refine Ax rfl (fun m3=>?_) (fun m3=>?_)
 ·rw [show At n=false by
   have:Mj n=false:=by
    cases hl:Mj n
    ·rfl
    ·obtain ⟨q1,q2,q3,q4⟩:=Bm.1 hl;exact absurd FJ m3
   unfold At;rw [this];simp]
  exact AA
 have q1:n.Af.length=n.An.Ad.length:=FJ
 have q2:n.Ac.length=n.An.Ad.length:=FJ
 have q3:n.down.length=n.An.Ad.length:=FJ
 have q4:n.up.length=n.An.Ad.length:=FJ
 have hl:=Bm.2 ⟨q1,q2,q3,q4⟩;refine go ?_;refine D8 [1,2,47] (fun k:Nat=>[(48,.int .i64 (k:Nat))]) (fun k=>k≤n.An.Ad.length∧∀j,j < k→Ua n j=true) (fun k=>n.An.Ad.length - k) 0 ⟨Nat.zero_le _,fun j h=>by omega⟩ fun k hk=>?_;obtain ⟨hk1,hk2⟩:=hk;refine go ?_;refine Ax rfl (fun h1=>?_) (fun h1=>?_)
 ·have hh:k < n.An.Ad.length:=FJ
  refine go ?_;refine Cb (Aj9 n k _ F hl hh) fun _ _=>?_;cases g:Ua n k
  ·rw [Aht hh g];exact AA
  refine go ?_;refine Ce (k+1) ⟨hh,fun j hj=>?_⟩ GS;rcases Nat.lt_or_eq_of_le (Nat.lt_succ_iff.1 hj) with h|rfl
  ·exact hk2 j h
  ·exact g
 ·obtain rfl:k=n.An.Ad.length:=FJ
  refine go ?_;refine ret () trivial ?_;rw [U2.2 ⟨g1,g2,hl,hk2⟩];rfl
theorem Avf {par:List Int} {clk:Int} {i:Nat} {e:Bf} {r:Az} {d u:List Ar} (h:(Ba e && Bx r && Ff d && (Ff u && upQ u))=false):Rr par clk i e r d u=false:=by rw [←Aer];unfold Ai0;rw [h];rfl
theorem Bh0 {par:List Int} {clk:Int} {i:Nat} {e:Bf} {r:Az} {d u:List Ar} (h:(Ba e && Bx r && Ff d && (Ff u && upQ u))=true):Rr par clk i e r d u=(if i=0 then Nl e && (!r.Be && decide (r.Ai=0)) && decide (d.length+u.length=0)
  else if Eu par i then Nl e && decide (r.Ai=clk) else (!r.Be && decide (r.Ai=0)) && decide (e.Ai=clk)):=by rw [←Aer];unfold Ai0;rw [h,Bool.true_and]
theorem Bes (n:Du) (i:Nat) (v:Value) (F:List Nat) (hl:Mj n=true) (hi:i < n.An.Ad.length) (hg:Vq n.An.Ad):FV 81 [v,.int .i64 (i:Nat)] [.isv Ny v n F] (.bool (Ua n i)):=by
 obtain ⟨q1,q2,q3,q4⟩:=Bm.1 hl;rw [Vw FJ FJ FJ FJ];refine enter func81 rfl ntmps81 fun w0=>?_;refine Hm ?_;rintro a1 c1 F1 a2 c2 F2 a3 c3 F3 a4 c4 F4 a5 c5 F5 a6 c6 F6 a7 c7 F7 rfl l1 l2 l3 l4 l5 l6 l7;unfold maxLen at l1 l2 l3 l4 l5 l6 l7;refine Iu n.An ?_;refine Qb (xs:=n.Af) i ?_;rintro hi4 b4 o4 a8 c8 F8 rfl l8;refine Nr n.Af[i] ?_;refine Kg (xs:=n.Ac) i ?_;rintro hi5 b5 o5 a9 c9 F9 a10 c10 F10 rfl l9 l10;refine Ev n.Ac[i] ?_;refine Np (E:=Ak) (hz:=FM) (xs:=n.down) i ?_;rintro hi6 b6 o6 a11 c11 F11 rfl l11
 refine Np (E:=Ak) (hz:=FM) (xs:=n.up) i ?_;rintro hi7 b7 o7 a12 c12 F12 rfl l12;unfold maxLen at l8 l9 l10 l11 l12;refine go ?_;intros;refine E4 [1,2,4] [0,1,2,3,4,5,6,7,8,9,10,11,12,13,14,15,16,17,18,19,20] (fun z:Nat × Nat=>[(5,Iq z.1 0 0),(6,Iq z.2 0 0)]) (fun z=>[.row z.1 133 0 [] [.int .i64 n.Af[i].Ai,.slice a8 n.Af[i].Ah.length c8] [],.row z.2 140 0 [] [.bool n.Ac[i].Be,.int .i64 n.Ac[i].Ai,.int .i64 n.Ac[i].Aa.next,.slice a9 n.Ac[i].Aa.Am.length c9,.slice a10 n.Ac[i].Al.length c10] []]) (fun _=>True) ?_ fun z _=>?_
 ·refine As [0,6,10] [] ?_;refine Ds 0 1 2 3 ?_;refine Ds 4 5 6 7 ?_;refine Ed 8 9 ?_;refine dM 10 11 ?_ ?_
  ·apply Cr;rfl;intro _;refine dk ?_;refine dN 11 ?_;exact AP
  ·apply Cr;rfl;intro _;refine dk ?_;refine dN 10 ?_;exact AP
 refine go ?_;refine cb (fun w st=>Aln _ n.Af[i] F8 w (st.get (p:=.isv _ _ _ _) FO)) ?_;cases g1:Ba n.Af[i]
 ·rw [Avf (by rw [g1];rfl)];exact AA
 refine go ?_;refine Cb (Alm n.Ac[i] _ (F9++F10)) fun _ _=>?_;cases g2:Bx n.Ac[i]
 ·rw [Avf (by rw [g1,g2];rfl)];exact AA
 refine go ?_;refine Cb (Ah8 n.down[i] false _ _ F11 FJ) fun _ _=>?_;rw [show (Ff n.down[i] && (!false || upQ n.down[i]))=Ff n.down[i] by simp];cases g3:Ff n.down[i]
 ·rw [Avf (by rw [g1,g2,g3];rfl)];exact AA
 refine go ?_;refine Cb (Ah8 n.up[i] true _ _ F12 FJ) fun _ _=>?_;rw [show (Ff n.up[i] && (!true || upQ n.up[i]))=(Ff n.up[i] && upQ n.up[i]) by simp];cases g4:(Ff n.up[i] && upQ n.up[i])
 ·rw [Avf (by rw [g1,g2,g3,g4];rfl)];exact AA
 rw [Bh0 (by rw [g1,g2,g3,g4];rfl)]
 repeat (first|apply Q7|(apply wO;apply oc;rfl;exact ydE)|apply X6|apply Abl|(apply Arr;rfl;rfl)|(apply Arq;rfl;rfl;rfl;rfl)|(apply Ars;rfl;rfl;rfl)|(apply c_t;rfl)|(apply c_f;rfl)|apply Wy|apply Tj|apply Afp)
 refine E4 [1,2,4,5,6] [0,1,2,3,4,5,6,7,8,9,10,11,12,13,14,15,16,17,18,19,20,21,22] (fun _:Unit=>[(7,.bool (Nl n.Af[i]))]) (fun _=>[]) (fun _=>True) ?_ fun _ _=>?_
 ·refine go ?_;refine Dx rfl rfl (fun h1=>?_) (fun h1=>?_)
  ·refine go ?_;rw [show decide ((n.Af[i].Ah.length:Int)=0)=Nl n.Af[i] by unfold Nl;rw [decide_eq_true h1,Au0];rfl];refine Bt () trivial
  ·refine go ?_;rw [show false=Nl n.Af[i] by unfold Nl;rw [decide_eq_false h1];rfl];refine Bt () trivial
 repeat (first|apply Q7|(apply wO;apply oc;rfl;exact ydE)|apply X6|apply Abl|(apply Arr;rfl;rfl)|(apply Arq;rfl;rfl;rfl;rfl)|(apply Ars;rfl;rfl;rfl)|(apply c_t;rfl)|(apply c_f;rfl)|apply Wy|apply Tj|apply Afp)
 refine E4 [1,2,4,5,6,7] [0,1,2,3,4,5,6,7,8,9,10,11,12,13,14,15,16,17,18,19,20,21,22] (fun _:Unit=>[(8,.bool (!n.Ac[i].Be && decide (n.Ac[i].Ai=0)))]) (fun _=>[]) (fun _=>True) ?_ fun _ _=>?_
 ·cases hs:n.Ac[i].Be
  ·exact CO
  ·exact CO
 refine O1 ?_;generalize hzr:(!n.Ac[i].Be && decide (n.Ac[i].Ai=0))=zr;refine go ?_;refine Ax rfl (fun h0=>?_) (fun h0=>?_)
 ·obtain rfl:i=0:=FJ
  rw [if_pos rfl];have hd6:(n.down[0].length:Int)+(n.up[0].length:Int)≤12:=by
   unfold Ff at g3 g4;simp only [Bool.and_eq_true,decide_eq_true_eq] at g3 g4;omega
  cases hze:Nl n.Af[0] <;> cases zr
  ·refine go ?_;refine As [2,3,5] [] ?_;refine Ed 0 1 ?_;refine ds 2 ?_;exact AZ
  ·refine go ?_;refine As [2,3,5] [] ?_;refine Ed 0 1 ?_;refine ds 2 ?_;exact AZ
  ·refine go ?_;refine As [2,3,5] [] ?_;refine Ed 0 1 ?_;refine Dr 2 ?_;exact AZ
  ·refine go ?_;refine As [2,3,5] [] ?_;refine Ed 0 1 ?_;refine Dr 2 ?_;refine Ed 3 4 ?_;refine Dr 5 ?_;refine Dr 6 ?_;refine Dr 7 ?_;refine Dr 8 ?_;refine Dr 9 ?_;refine Dr 10 ?_;refine Dr 11 ?_;refine Dr 12 ?_;refine Dr 13 ?_;refine Dr 14 ?_;refine Dr 15 ?_;refine Dr 16 ?_;refine Ed 17 18 ?_;refine dd ?_;refine go ?_;refine ret () trivial ?_;rw [show decide ((n.down[0].length:Int)+(n.up[0].length:Int)=0)=decide (n.down[0].length+n.up[0].length=0) by congr 1;rw [eq_iff_iff];omega];rfl
 rw [if_neg FJ];refine go ?_;refine Cb (Pa n.An i _ F1 hg FJ) fun _ _=>?_;cases g6:Eu n.An.Ad i
 ·rw [if_neg FM];cases zr
  ·exact AA
  ·exact AA
 ·rw [if_pos rfl];cases hze:Nl n.Af[i]
  ·exact AA
  ·exact AA
theorem Aeb (n:Du) (v:Value) (F:List Nat):FV 33 [v] [.isv Ny v n F] (.bool (At n)):=by
 refine enter func33 rfl ntmps33 fun w0=>?_;refine Hm ?_;rintro a1 c1 F1 a2 c2 F2 a3 c3 F3 a4 c4 F4 a5 c5 F5 a6 c6 F6 a7 c7 F7 rfl l1 l2 l3 l4 l5 l6 l7;unfold maxLen at l1 l2 l3 l4 l5 l6 l7;refine Iu n.An ?_;refine Gt n.Ab ?_;refine go ?_;intros;refine Cb (Ba1 n.An _ F1) fun _ _=>?_;cases g1:Kl n.An
 ·rw [show At n=false by unfold At;rw [g1];rfl];exact AA
 refine go ?_;refine Cb (Aw1 n.Ab _ (F2++F3)) fun _ _=>?_;cases g2:C3 n.Ab
 ·rw [show At n=false by unfold At;rw [g1,g2];rfl];exact AA
 refine go ?_;refine Dx rfl rfl (fun m0=>?_) (fun m0=>?_)
 ·rw [show At n=false by
   have:Mj n=false:=by
    cases hl:Mj n
    ·rfl
    ·obtain ⟨q1,q2,q3,q4⟩:=Bm.1 hl;exact absurd FJ m0
   unfold At;rw [this];simp]
  exact AA
 refine go ?_;refine Dx rfl rfl (fun m1=>?_) (fun m1=>?_)
 ·rw [show At n=false by
   have:Mj n=false:=by
    cases hl:Mj n
    ·rfl
    ·obtain ⟨q1,q2,q3,q4⟩:=Bm.1 hl;exact absurd FJ m1
   unfold At;rw [this];simp]
  exact AA
 refine go ?_;refine Dx rfl rfl (fun m2=>?_) (fun m2=>?_)
 ·rw [show At n=false by
   have:Mj n=false:=by
    cases hl:Mj n
    ·rfl
    ·obtain ⟨q1,q2,q3,q4⟩:=Bm.1 hl;exact absurd FJ m2
   unfold At;rw [this];simp]
  exact AA
 refine go ?_;refine Ax rfl (fun m3=>?_) (fun m3=>?_)
 ·rw [show At n=false by
   have:Mj n=false:=by
    cases hl:Mj n
    ·rfl
    ·obtain ⟨q1,q2,q3,q4⟩:=Bm.1 hl;exact absurd FJ m3
   unfold At;rw [this];simp]
  exact AA
 have q1:n.Af.length=n.An.Ad.length:=FJ
 have q2:n.Ac.length=n.An.Ad.length:=FJ
 have q3:n.down.length=n.An.Ad.length:=FJ
 have q4:n.up.length=n.An.Ad.length:=FJ
 have hl:=Bm.2 ⟨q1,q2,q3,q4⟩;refine go ?_;refine D8 [1,2,3] (fun k:Nat=>[(4,.int .i64 (k:Nat))]) (fun k=>k≤n.An.Ad.length∧∀j,j < k→Ua n j=true) (fun k=>n.An.Ad.length - k) 0 ⟨Nat.zero_le _,fun j h=>by omega⟩ fun k hk=>?_;obtain ⟨hk1,hk2⟩:=hk;refine go ?_;refine Ax rfl (fun h1=>?_) (fun h1=>?_)
 ·have hh:k < n.An.Ad.length:=FJ
  refine go ?_;refine Cb (Bes n k _ F hl hh (H9 g1)) fun _ _=>?_;cases g:Ua n k
  ·rw [Aht hh g];exact AA
  refine go ?_;refine Ce (k+1) ⟨hh,fun j hj=>?_⟩ GS;rcases Nat.lt_or_eq_of_le (Nat.lt_succ_iff.1 hj) with h|rfl
  ·exact hk2 j h
  ·exact g
 ·obtain rfl:k=n.An.Ad.length:=FJ
  refine go ?_;refine ret () trivial ?_;rw [U2.2 ⟨g1,g2,hl,hk2⟩];rfl
structure StZ where
 cs:List Value
 F:List Nat
 a:Option Addr
 c:Nat
 Fe:List Nat
theorem Ub {α:Type} (f:α→Nat) (B M:Nat) {xs:List α} (h:∀x∈xs,f x≤B) (hl:xs.length≤M):B8 f xs≤M * B:=Nat.le_trans (Aum f B xs h) (Nat.mul_le_mul_right _ hl)
theorem Aso {n:Du} (h:At n=true):Vy n≤100000:=by
 have hG:=A1.1 h;have h8:=(H9 hG.t).n1;obtain ⟨q1,q2,q3,q4⟩:=Bm.1 hG.l;have hS:=Lc hG.s;obtain ⟨e1,e2,e3,e4⟩:=Ii h;have a1:B8 El n.An.Ad≤8 * 1:=Ub El 1 8 (fun x _=>by simp [El]) h8;have a2:B8 Oo n.Ab.Aa.Ao≤6 * 1:=Ub Oo 1 6 (fun x _=>by simp [Oo]) hS.l;have a3:B8 Hl n.Ab.holds≤6 * 2:=Ub Hl 2 6 (fun x _=>by simp [Hl,El]) hS.m;have a4:B8 Cg n.Af≤8 * 100:=Ub Cg 100 8 (fun x hx=>by
  have b1:=(Hg.1 (e1 x hx)).2.1;have b2:B8 Er x.Ah≤5 * 10:=Ub Er 10 5 (fun y hy=>by
   have b3:=(Tz (e1 x hx)).2.2 y hy;have b4:B8 El y.Bj≤7 * 1:=Ub El 1 7 (fun z _=>by simp [El]) FJ;unfold Er;simp only [El];omega) b1
  unfold Cg;simp only [El];omega) FJ
 have a5:B8 Cf n.Ac≤8 * 100:=Ub Cf 100 8 (fun x hx=>by
  have g:=Eb.1 (e2 x hx);have b1:B8 E5 x.Aa.Am≤8 * 2:=Ub E5 2 8 (fun y _=>by simp [E5,Z8,Oo]) (Kh g.w).1;have b2:B8 C9 x.Al≤8 * 4:=Ub C9 4 8 (fun y _=>by simp [C9,El]) (Dg.1 g.q).2.1;unfold Cf;simp only [El,Z8];omega) FJ
 have hq:∀l:List (List Ar),(∀q∈l,Ff q=true)→l.length≤8→B8 (B8 Bd) l≤8 * 30:=fun l hl h=>Ub (B8 Bd) 30 8 (fun q hq=>Ub Bd 5 6 (fun p _=>by simp [Bd,El,Oo]) (Db (hl q hq)).1) h;have a6:=hq n.down e3 FJ;have a7:=hq n.up e4 FJ;unfold Vy I2 Gk E6;omega
theorem Are {n:Du} (hg:At n=true) (hc:n.Ab.Ai < 9999):∀k,k+1≤n.An.Ad.length→(Bg n k).2.length≤40000 * k
 | 0,_=>Nat.le_refl _
 | k+1,hk=>by
  have h:=Are hg hc k FJ;obtain ⟨hGN,hT,hSrc⟩:=Qn hg hc k FJ;obtain ⟨i1,i2,i3,i4,hrn⟩:=hGN.rn (i:=k+1) (by rw [hT];omega);show ((Bg n k).2++(Oi (Bg n k).1 (k+1)).2).length≤_;rw [List.length_append];have:(Oi (Bg n k).1 (k+1)).2.length≤40000:=by
   unfold Oi
   split
   ·rename_i hl;have hgr:=Eb.1 (hrn.hf FJ hl).2.1;obtain ⟨-,hfew⟩:=Aey hgr;rw [Hv i2];show ((H8 _).map _).length≤_;rw [List.length_map];omega
   ·exact Nat.zero_le _
  omega
theorem Aq4 {n:Du} {s:Kq} {r:Du × List ByteArray} (hg:At n=true) (hs:Ex s=true) (hr:Bo n s=some r):r.2.length≤400000:=by
 have hG:=A1.1 hg;have h8:=H9 hG.t;have hn8:=h8.n1;have hn2:=h8.n0;have hck:=Zc hG.s;have hr0:=hr;unfold Bo at hr
 split at hr
 ·cases hr;exact Nat.zero_le _
 split at hr
 ·split at hr
  ·cases hr
  ·cases hr;have:=Are hg FJ (n.An.Ad.length - 1) FJ;show (Bg n (n.An.Ad.length - 1)).2.length≤_;omega
 unfold C6 at hr
 split at hr
 ·cases hr
 split at hr
 ·cases hr
 split at hr
 ·rename_i h1 h4 hlt h0 hk;cases hr;have hgp:=Ml (s:=s) hg;have hGp:=A1.1 hgp;have hf:Ra s.node=true:=by
   have:=hs;unfold Ex at this;rw [if_neg h1,if_neg h4] at this;simp only [Bool.and_eq_true] at this;exact this.1.2
  obtain ⟨f1,f2⟩:=O9.1 hf;have hpt:(Hn n s).An=n.An:=KO
  obtain ⟨i1,i2,i3,i4,hrn⟩:=hGp.rn (i:=s.node.toNat) (by rw [hpt];omega);unfold C7
  split
  ·rename_i hl;have hgr:=Eb.1 (hrn.hf FJ hl).2.1;obtain ⟨d0,d1⟩:=Adw (i:=s.node.toNat);have hp:Bw (Ob (Vj n s))=true:=N7 (Nb (s:=s) hg).1 (Pt FJ);have:=(V3 hgr hp d0 d1).2;rw [Hv i2];show ((Iv _ _).map _).length≤_;rw [List.length_map];omega
  ·exact Nat.zero_le _
 split at hr
 ·cases hr;exact Nat.zero_le _
 ·cases hr;exact Nat.zero_le _
abbrev NE:=Du × List ByteArray
def Jg (i:Nat):Kq:=⟨2,(i:Int),⟨#[]⟩⟩
def Mz (i:Nat):Kq:=⟨5,(i:Int),⟨#[]⟩⟩
def Nx (x:NE) (s:Kq):NE:=(Ih x.1 (Bo x.1 s),x.2++Wi (Bo x.1 s))
def Au4 (x:NE) (i:Nat):NE:=Nx (Nx x (Jg i)) (Mz i)
def Ig (x:NE):Nat→NE
 | 0=>x
 | k+1=>Au4 (Ig x k) (k+1)
def Xk (x:NE):NE:=Ig x (x.1.An.Ad.length - 1)
def Rm (x:NE):Nat→Bool
 | 0=>false
 | k+1=>Rm x k || (Bo (Ig x k).1 (Jg (k+1))).isSome || (Bo (Nx (Ig x k) (Jg (k+1))).1 (Mz (k+1))).isSome
def qd (l:List (List Ar)):Nat:=(l.map List.length).sum
def Y4 (n:Du):Nat:=qd n.down+qd n.up
def vd (i:Nat):Nat:=8 ^ (7 - i)
def vu (i:Nat):Nat:=524289 * i
def wN (n:Du):Nat:=M4 vd 0 n.down+M4 vu 0 n.up
def Uc:Nat→NE→NE
 | 0,x=>x
 | f+1,x=>if Y4 x.1=0 then x else Uc f (Xk x)
def drE (x:NE):NE:=Uc (wN x.1) x
def Ri (n:Du):NE:=drE (n,[])
theorem Bdc (i:Nat):0 < vd i:=Nat.pow_pos FM
theorem Bgq {i:Nat} (h:1≤i):vd i≤262144:=Nat.le_trans (Nat.pow_le_pow_right (n:=8) FM (show 7 - i≤6 by omega)) FM
theorem Bdb {nodes:List Int} {i:Nat} (hl:nodes.length≤7) (h:∀x∈nodes,i < x.toNat∧x.toNat≤7):Abt vd nodes+1≤vd i:=by
 cases nodes with
 | nil=>exact Bdc i
 | cons x r =>
  obtain ⟨a,b⟩:=h x FK;have h1:=Amk vd (8 ^ (6 - i)) (x::r) fun y hy=>by
   have:=h y hy;exact Nat.pow_le_pow_right FM FJ
  have h2:=Nat.mul_le_mul_right (8 ^ (6 - i)) hl;have h3:0 < 8 ^ (6 - i):=Nat.pow_pos FM;have h4:vd i=8 ^ (6 - i) * 8:=by unfold vd;rw [←Nat.pow_succ];congr 1;omega
  omega
theorem Bgr {i p:Nat} (h0:1≤i) (h:p < i):2 * vd i+vu p+1≤vu i:=by
 have h1:=Bgq h0;unfold vu;omega
theorem Bav {l:List Int} (hg:Vq l) (i:Nat):(I3 l (i:Int)).length≤7:=by
 have h0:=hg.n0;have h1:=hg.n1;rw [←Alk (T3 hg.z (Int.natCast_nonneg i)) (k:=l.length - 1) FJ];have:=All l (i:Int) (l.length - 1);omega
theorem Ao9 {e:Bf} (he:Ba e=true) {n:Int} {l:List Int} (hl:l.length≤7):(V1 e n l).length≤7:=by
 unfold V1
 split
 ·rename_i x hx;exact Nat.le_trans (List.length_filter_le _ _) ((Tz he).2.2 x (List.mem_of_getElem? hx))
 ·split
  ·exact hl
  ·exact Nat.zero_le _
theorem Bee {n:Du} (hg:At n=true) (i:Nat) (p:Ar):(Agc n i p).length≤7∧∀x∈Agc n i p,i < x.toNat∧x.toNat≤7:=by
 have hG:=A1.1 hg;have h8:=H9 hG.t;have hn8:=h8.n1;have hk:=Bav h8 i;have hb:∀x∈Aaj n i,i < x.toNat∧x.toNat≤7:=fun x hx=>by
  have:=Mh h8 hx;omega
 unfold Agc
 split
 ·refine ⟨?_,fun x hx=>hb x (Aca x hx)⟩;by_cases hi:i < n.Af.length
  ·have ee:Qt n i=n.Af[i]:=by unfold Qt;rw [List.getD_eq_getElem?_getD,List.getElem?_eq_getElem hi];rfl
   rw [ee];exact Ao9 ((Ii hg).1 _ (List.getElem_mem hi)) hk
  ·have ee:Qt n i=⟨0,[]⟩:=by unfold Qt;rw [List.getD_eq_getElem?_getD,List.getElem?_eq_none FJ];rfl
   rw [ee];exact Ao9 FM hk
 ·exact ⟨hk,hb⟩
theorem Bd9 {n:Du} (hg:At n=true) (i:Nat) (p:Ar):wN (C7 n i p).1+1≤wN n+vd i:=by
 have h0:=Bdc i;unfold C7
 split
 ·show wN n+1≤_;omega
 ·obtain ⟨h1,h2⟩:=Bee hg i p;have h3:=Bdb h1 h2;have h4:=Vc vd [p] (Agc n i p) n.down;show M4 vd 0 (Dq n.down (Agc n i p) [p])+M4 vu 0 n.up+1≤M4 vd 0 n.down+M4 vu 0 n.up+vd i;simp only [List.length_singleton,Nat.one_mul] at h4;omega
theorem Bbx (x:Ck) (p:Ar):(Ol x p).length≤2:=by
 unfold Ol
 split
 ·split
  ·exact (by decide:1≤2)
  ·exact (by decide:2≤2)
 ·exact (by decide:1≤2)
theorem Bkk {n:Du} (hg:At n=true) {i:Nat} (h0:1≤i) (hi:i < n.An.Ad.length) (p:Ar):wN (Rf n i p)+1≤wN n+vu i:=by
 have hG:=A1.1 hg;have h8:=H9 hG.t;have hn8:=h8.n1;have hv:=Bgq h0;have hone:Abt vd [((i:Nat):Int)]=vd i:=by show vd ((i:Nat):Int).toNat+0=_;rfl
 unfold Rf
 split
 ·have h4:=Vc vd (Ol n.Ab p) [((i:Nat):Int)] n.down;have h5:=Nat.mul_le_mul_right (vd i) (Bbx n.Ab p);rw [hone] at h4;have h6:=Bgr (p:=0) h0 FJ;show M4 vd 0 (Dq n.down [((i:Nat):Int)] (Ol n.Ab p))+M4 vu 0 n.up+1≤M4 vd 0 n.down+M4 vu 0 n.up+vu i;omega
 ·rename_i hp;have hlt:Aaa n i < i:=by
   have:=h8.p i hi FJ;unfold Aaa;rw [List.getD_eq_getElem?_getD,List.getElem?_eq_getElem hi];show (n.An.Ad[i]).toNat < i;omega
  have h4:=Vc vd [Aa4 p] [((i:Nat):Int)] n.down;rw [hone] at h4;simp only [List.length_singleton,Nat.one_mul] at h4;have h6:=Bgr h0 hlt;have h7:=Aru vu n.up (Aaa n i) [p];simp only [List.length_singleton,Nat.one_mul] at h7;show M4 vd 0 (Dq n.down [((i:Nat):Int)] [Aa4 p])+M4 vu 0 (if Adz (Qt n (Aaa n i)) p.Ae then n.up.modify (Aaa n i) fun q=>H5 q [p] else n.up)+1≤M4 vd 0 n.down+M4 vu 0 n.up+vu i
  split <;> omega
theorem Bgl (f:Nat→Nat) {l:List (List Ar)} {i:Nat} (hi:i < l.length) (h0:¬(l.getD i []).length=0):M4 f 0 (l.modify i (·.drop 1))+f i=M4 f 0 l:=by
 rw [Qu hi] at h0;rw [Ip hi];exact Bdj f l i hi FJ
theorem Zz {n:Du} {i:Nat} (hi:i < n.An.Ad.length):Bo n (Jg i)=if (n.down.getD i []).length=0 then none else some (C7 (Ro n i) i (Ob (n.down.getD i []))):=by
 unfold Bo;rw [if_neg (by show ¬(2:Int)=1;decide),if_neg (by show ¬(2:Int)=4;decide)];unfold C6;rw [if_neg (by show ¬((n.An.Ad.length:Int)≤(i:Int));omega)];rfl
theorem Xn {n:Du} {i:Nat} (hi:i < n.An.Ad.length):Bo n (Mz i)=if (n.up.getD i []).length=0 then none else some (Rf (Pj n i) i (Ob (n.up.getD i [])),[]):=by
 unfold Bo;rw [if_neg (by show ¬(5:Int)=1;decide),if_neg (by show ¬(5:Int)=4;decide)];unfold C6;rw [if_neg (by show ¬((n.An.Ad.length:Int)≤(i:Int));omega)];rfl
theorem Be6 {i:Nat} (h0:1≤i) (h:i≤7):Ex (Jg i)=true:=by
 unfold Ex;rw [if_neg (by show ¬(2:Int)=1;decide),if_neg (by show ¬(2:Int)=4;decide)];have:Ra (Jg i).node=true:=O9.2 (by show 1≤((i:Nat):Int)∧((i:Nat):Int)≤7;omega);rw [this];rfl
theorem Bbl {i:Nat} (h0:1≤i) (h:i≤7):Ex (Mz i)=true:=by
 unfold Ex;rw [if_neg (by show ¬(5:Int)=1;decide),if_neg (by show ¬(5:Int)=4;decide)];have:Ra (Mz i).node=true:=O9.2 (by show 1≤((i:Nat):Int)∧((i:Nat):Int)≤7;omega);rw [this];rfl
theorem Av3 {n:Du} (hg:At n=true) {i:Nat} {p:Ar} (hp:Bw p=true) (h0:1≤i) (hi:i < n.An.Ad.length):(C7 n i p).2.length≤24:=by
 obtain ⟨i1,i2,i3,i4,hrn⟩:=(A1.1 hg).rn hi;unfold C7
 split
 ·rename_i hl;have hgr:=Eb.1 (hrn.hf FJ hl).2.1;obtain ⟨d0,d1⟩:=Adw (i:=i);have:=(V3 hgr hp d0 d1).2;rw [Hv i2];show ((Iv _ _).map _).length≤_;rw [List.length_map];exact this
 ·exact Nat.zero_le _
theorem Bi3 (n:Du) (i:Nat) (p:Ar):(C7 n i p).1.Ab=n.Ab:=by unfold C7;split <;> rfl
theorem Bi4 (n:Du) (i:Nat) (p:Ar):(Rf n i p).Ab.Ai=n.Ab.Ai:=by
 unfold Rf
 split
 ·show (Nc n.Ab p.Ae).Ai=_;unfold Nc
  split <;> rfl
 ·rfl
structure Ws (x y:NE):Prop where
 g:At y.1=true
 t:y.1.An=x.1.An
 c:y.1.Ab.Ai=x.1.Ab.Ai
 e:y.2.length+24 * wN y.1≤x.2.length+24 * wN x.1
 w:wN y.1≤wN x.1
theorem Ws.refl {x:NE} (h:At x.1=true):Ws x x:=⟨h,rfl,rfl,Nat.le_refl _,Nat.le_refl _⟩
theorem Ws.trans {x y z:NE} (h:Ws x y) (k:Ws y z):Ws x z:=⟨k.g,k.t.trans h.t,k.c.trans h.c,Nat.le_trans k.e h.e,Nat.le_trans k.w h.w⟩
theorem Kc {x:NE} {s:Kq} (h:Bo x.1 s=none):Nx x s=x:=by
 unfold Nx;rw [h];show (x.1,x.2++[])=x;rw [List.append_nil]
theorem Z3 {x:NE} {s:Kq} {r:NE} (h:Bo x.1 s=some r):Nx x s=(r.1,x.2++r.2):=by
 unfold Nx;rw [h];rfl
theorem Arl {x:NE} (hg:At x.1=true) {i:Nat} (h0:1≤i) (hi:i < x.1.An.Ad.length):Ws x (Nx x (Jg i))∧((Bo x.1 (Jg i)).isSome=true→wN (Nx x (Jg i)).1 < wN x.1):=by
 have hG:=A1.1 hg;have hn8:=(H9 hG.t).n1;obtain ⟨q1,q2,q3,q4⟩:=Bm.1 hG.l;cases e:Bo x.1 (Jg i) with
 | none =>
  rw [Kc e];exact ⟨.refl hg,fun h=>by cases h⟩
 | some r =>
  have hr:=N8 hg (Be6 h0 FJ) e;have ht:=T7 e;rw [Z3 e];rw [Zz hi] at e
  split at e
  ·cases e
  ·rename_i hq;cases e;have hp:=GN.pd (A1.1 hg) i;have hpg:At (Ro x.1 i)=true:=A1.2 hp;have h1:=Bd9 hpg i (Ob (x.1.down.getD i []));have h2:wN (Ro x.1 i)+vd i=wN x.1:=by
    have:=Bgl vd (l:=x.1.down) (i:=i) FJ hq;show M4 vd 0 (x.1.down.modify i (·.drop 1))+M4 vu 0 x.1.up+vd i=M4 vd 0 x.1.down+M4 vu 0 x.1.up;omega
   have hpk:Bw (Ob (x.1.down.getD i []))=true:=N7 (Nb (s:=Jg i) hg).1 (Pt (by show 0 < (x.1.down.getD i []).length;omega));have h3:=Av3 hpg hpk h0 hi;have hlt:wN (C7 (Ro x.1 i) i (Ob (x.1.down.getD i []))).1 < wN x.1:=FJ
   refine ⟨⟨hr,ht,by rw [Bi3];rfl,?_,Nat.le_of_lt hlt⟩,fun _=>hlt⟩;show (x.2++_).length+24 * wN (C7 (Ro x.1 i) i (Ob (x.1.down.getD i []))).1≤_;rw [List.length_append];omega
theorem Bc4 {x:NE} (hg:At x.1=true) {i:Nat} (h0:1≤i) (hi:i < x.1.An.Ad.length):Ws x (Nx x (Mz i))∧((Bo x.1 (Mz i)).isSome=true→wN (Nx x (Mz i)).1 < wN x.1)∧(Nx x (Mz i)).2=x.2:=by
 have hG:=A1.1 hg;have hn8:=(H9 hG.t).n1;obtain ⟨q1,q2,q3,q4⟩:=Bm.1 hG.l;cases e:Bo x.1 (Mz i) with
 | none =>
  rw [Kc e];exact ⟨.refl hg,fun h=>(by cases h),rfl⟩
 | some r =>
  have hr:=N8 hg (Bbl h0 FJ) e;have ht:=T7 e;rw [Z3 e];rw [Xn hi] at e
  split at e
  ·cases e
  ·rename_i hq;cases e;have hp:=GN.pu (A1.1 hg) i;have hpg:At (Pj x.1 i)=true:=A1.2 hp;have h1:=Bkk hpg h0 hi (Ob (x.1.up.getD i []));have h2:wN (Pj x.1 i)+vu i=wN x.1:=by
    have:=Bgl vu (l:=x.1.up) (i:=i) FJ hq;show M4 vd 0 x.1.down+M4 vu 0 (x.1.up.modify i (·.drop 1))+vu i=M4 vd 0 x.1.down+M4 vu 0 x.1.up;omega
   have hlt:wN (Rf (Pj x.1 i) i (Ob (x.1.up.getD i []))) < wN x.1:=FJ
   refine ⟨⟨hr,ht,by rw [Bi4];rfl,?_,Nat.le_of_lt hlt⟩,fun _=>hlt,List.append_nil _⟩;show (x.2++[]).length+24 * wN (Rf (Pj x.1 i) i (Ob (x.1.up.getD i [])))≤_;rw [List.append_nil];omega
theorem P7 {x:NE} (hg:At x.1=true):∀k,k+1≤x.1.An.Ad.length→Ws x (Ig x k)∧(Rm x k=true→wN (Ig x k).1 < wN x.1)∧(Rm x k=false→Ig x k=x∧∀i,1≤i→i≤k→Bo x.1 (Jg i)=none∧Bo x.1 (Mz i)=none)
 | 0,_=>⟨.refl hg,fun h=>(by cases h),fun _=>⟨rfl,fun i a b=>by omega⟩⟩
 | k+1,hk=>by
  obtain ⟨f1,m1,z1⟩:=P7 hg k FJ;have hk1:k+1 < (Ig x k).1.An.Ad.length:=by rw [f1.t];omega
  obtain ⟨f2,m2⟩:=Arl f1.g FJ hk1;have hk2:k+1 < (Nx (Ig x k) (Jg (k+1))).1.An.Ad.length:=by rw [f2.t];exact hk1
  obtain ⟨f3,m3,e3⟩:=Bc4 f2.g FJ hk2;have w2:=f2.w;have w3:=f3.w;have w1:=f1.w;refine ⟨(f1.trans f2).trans f3,fun h=>?_,fun h=>?_⟩
  ·show wN (Nx (Nx (Ig x k) (Jg (k+1))) (Mz (k+1))).1 < _;unfold Rm at h;rw [Bool.or_eq_true,Bool.or_eq_true] at h;rcases h with (h|h)|h
   ·have:=m1 h;omega
   ·have:=m2 h;omega
   ·have:=m3 h;omega
  ·unfold Rm at h;rw [Bool.or_eq_false_iff,Bool.or_eq_false_iff] at h;obtain ⟨⟨h1,h2⟩,h3⟩:=h;obtain ⟨e1,z⟩:=z1 h1;have n2:Bo (Ig x k).1 (Jg (k+1))=none:=IH
   have n3:Bo (Nx (Ig x k) (Jg (k+1))).1 (Mz (k+1))=none:=IU
   have e2:=Kc n2;rw [e2] at n3;refine ⟨?_,fun i a b=>?_⟩
   ·show Nx (Nx (Ig x k) (Jg (k+1))) (Mz (k+1))=x;rw [e2,Kc n3,e1]
   ·by_cases hi:i=k+1
    ·subst hi;rw [e1] at n2 n3;exact ⟨n2,n3⟩
    ·exact z i a FJ
theorem Acv:∀{l:List (List Ar)},qd l=0↔∀q∈l,q=[]
 | []=>by simp [qd]
 | x::r=>by
  have ih:=Acv (l:=r);show x.length+qd r=0↔_;rw [Nat.add_eq_zero_iff,List.length_eq_zero_iff,ih];simp
theorem Acg {l:List (List Ar)} {i:Nat} (h:qd l=0):(l.getD i []).length=0:=by
 rw [List.getD_eq_getElem?_getD];cases e:l[i]? with
 | none=>rfl
 | some q=>rw [Acv.1 h q (List.mem_of_getElem? e)];rfl
theorem Acr {n:Du} (hg:At n=true):(n.down.getD 0 []).length=0∧(n.up.getD 0 []).length=0:=by
 have hG:=A1.1 hg;have h2:=(H9 hG.t).n0;obtain ⟨h1,h2,h3,h4,r⟩:=hG.rn (i:=0) FJ;obtain ⟨-, -,a,b⟩:=r.hz rfl;rw [Qu h3,Qu h4];exact ⟨a,b⟩
theorem Bfd {n:Du} (hg:At n=true) (h:∀i,1≤i→i < n.An.Ad.length→Bo n (Jg i)=none∧Bo n (Mz i)=none):Y4 n=0:=by
 have hG:=A1.1 hg;obtain ⟨q1,q2,q3,q4⟩:=Bm.1 hG.l;obtain ⟨z1,z2⟩:=Acr hg;have hd:qd n.down=0:=Acv.2 fun q hq=>by
  obtain ⟨i,hi,rfl⟩:=List.getElem_of_mem hq;rw [←List.length_eq_zero_iff,←Qu hi []];by_cases e:i=0
  ·rw [e];exact z1
  ·have:=(h i FJ FJ).1;rw [Zz FJ] at this
   split at this
   ·assumption
   ·cases this
 have hu:qd n.up=0:=Acv.2 fun q hq=>by
  obtain ⟨i,hi,rfl⟩:=List.getElem_of_mem hq;rw [←List.length_eq_zero_iff,←Qu hi []];by_cases e:i=0
  ·rw [e];exact z2
  ·have:=(h i FJ FJ).2;rw [Xn FJ] at this
   split at this
   ·assumption
   ·cases this
 unfold Y4;omega
theorem Aii {x:NE} (hg:At x.1=true):Rm x (x.1.An.Ad.length - 1)=false↔Y4 x.1=0:=by
 have h2:=(H9 (A1.1 hg).t).n0;constructor
 ·intro h;obtain ⟨-,hz⟩:=(P7 hg (x.1.An.Ad.length - 1) FJ).2.2 h;exact Bfd hg fun i a b=>hz i a FJ
 ·intro h;have hd:qd x.1.down=0:=by unfold Y4 at h;omega
  have hu:qd x.1.up=0:=by unfold Y4 at h;omega
  have:∀k,k+1≤x.1.An.Ad.length→Rm x k=false:=by
   intro k
   induction k with
   | zero=>intro _;rfl
   | succ k ih =>
    intro hk;have h1:=ih FJ;have e1:=((P7 hg k FJ).2.2 h1).1;unfold Rm;have n1:Bo x.1 (Jg (k+1))=none:=by rw [Zz FJ,if_pos (Acg hd)]
    have n2:Bo x.1 (Mz (k+1))=none:=by rw [Xn FJ,if_pos (Acg hu)]
    rw [h1,e1,Kc n1,n1,n2];rfl
  exact this _ FJ
theorem Ato {x:NE} (hg:At x.1=true) (h:Y4 x.1=0):Xk x=x:=by
 have h2:=(H9 (A1.1 hg).t).n0;exact ((P7 hg (x.1.An.Ad.length - 1) FJ).2.2 ((Aii hg).2 h)).1
theorem Nk {x:NE} (hg:At x.1=true):Ws x (Xk x)∧(¬Y4 x.1=0→wN (Xk x).1 < wN x.1):=by
 have h2:=(H9 (A1.1 hg).t).n0;obtain ⟨a,b, -⟩:=P7 hg (x.1.An.Ad.length - 1) FJ;refine ⟨a,fun h=>b ?_⟩;cases e:Rm x (x.1.An.Ad.length - 1)
 ·exact absurd ((Aii hg).1 e) h
 ·rfl
theorem Sk {f:Nat} {x:NE} (h:Y4 x.1=0):Uc f x=x:=by
 cases f
 ·rfl
 ·unfold Uc;rw [if_pos h]
theorem Ae9:∀(f g:Nat) {x:NE},At x.1=true→wN x.1≤f→wN x.1≤g→Uc f x=Uc g x
 | 0,g,x,hg,h,_=>by
  have hz:Y4 x.1=0:=by
   by_cases h0:Y4 x.1=0
   ·exact h0
   ·have:=(Nk hg).2 h0;omega
  rw [Sk hz,Sk hz]
 | f+1,g,x,hg,h,h2=>by
  by_cases hz:Y4 x.1=0
  ·rw [Sk hz,Sk hz]
  ·obtain ⟨hf,hw⟩:=Nk hg;have hw:=hw hz;obtain ⟨m,rfl⟩:∃m,g=m+1:=⟨g - 1,FJ⟩;unfold Uc;rw [if_neg hz,if_neg hz];exact Ae9 f m hf.g FJ FJ
theorem Aj3 {f:Nat} {x:NE} (hg:At x.1=true) (h:wN x.1≤f):Uc f x=Uc (wN x.1) x:=Ae9 _ _ hg h (Nat.le_refl _)
theorem Ab6 {x:NE} (h:Y4 x.1=0):drE x=x:=Sk h
theorem Ahj {x:NE} (hg:At x.1=true) (h:¬Y4 x.1=0):drE x=drE (Xk x):=by
 obtain ⟨hf,hw⟩:=Nk hg;have hw:=hw h;obtain ⟨m,hm⟩:∃m,wN x.1=m+1:=⟨wN x.1 - 1,FJ⟩;unfold drE;rw [hm];show (if Y4 x.1=0 then x else Uc m (Xk x))=_;rw [if_neg h,Aj3 hf.g FJ]
theorem Ahi {x:NE} (hg:At x.1=true):Ws x (drE x)∧Y4 (drE x).1=0:=by
 obtain ⟨k,hk⟩:∃k,wN x.1≤k:=⟨_,Nat.le_refl _⟩
 induction k generalizing x with
 | zero =>
  have hz:Y4 x.1=0:=by
   by_cases h:Y4 x.1=0
   ·exact h
   ·have:=(Nk hg).2 h;omega
  rw [Ab6 hz];exact ⟨.refl hg,hz⟩
 | succ k ih =>
  by_cases h:Y4 x.1=0
  ·rw [Ab6 h];exact ⟨.refl hg,h⟩
  ·obtain ⟨hf,hw⟩:=Nk hg;have hw:=hw h;rw [Ahj hg h];obtain ⟨a,b⟩:=ih hf.g FJ;exact ⟨hf.trans a,b⟩
theorem Aob (f:Nat→Nat) (B:Nat):∀(l:List (List Ar)) (k:Nat),(∀q∈l,q.length≤6)→(∀i,k≤i→i < k+l.length→f i≤B)→M4 f k l≤l.length * (6 * B)
 | [],_,_,_=>Nat.zero_le _
 | x::r,k,h,hB=>by
  have ih:=Aob f B r (k+1) (fun q hq=>h q GR) fun i a b=>hB i FJ (by simp only [List.length_cons];omega);have h1:=Nat.mul_le_mul (h x FK) (hB k (Nat.le_refl _) (by simp only [List.length_cons];omega));show x.length * f k+M4 f (k+1) r≤(r.length+1) * (6 * B);rw [Nat.succ_mul];omega
theorem Bdg {n:Du} (hg:At n=true):wN n≤280000000:=by
 have hG:=A1.1 hg;have h8:=(H9 hG.t).n1;obtain ⟨q1,q2,q3,q4⟩:=Bm.1 hG.l;obtain ⟨-, -,e3,e4⟩:=Ii hg;have h1:=Aob vd 2097152 n.down 0 (fun q hq=>(Db (e3 q hq)).1) fun i _ _=>Nat.le_trans (Nat.pow_le_pow_right (n:=8) FM (show 7 - i≤7 by omega)) FM;have h2:=Aob vu 3670023 n.up 0 (fun q hq=>(Db (e4 q hq)).1) fun i _ _=>by unfold vu;omega
 have h3:=Nat.mul_le_mul_right (6 * 2097152) (show n.down.length≤8 by omega);have h4:=Nat.mul_le_mul_right (6 * 3670023) (show n.up.length≤8 by omega);unfold wN;omega
theorem Aup {n:Du} (hg:At n=true):(Ri n).2.length≤6720000000:=by
 have h:=(Ahi (x:=(n,[])) hg).1.e;have:=Bdg hg;show (drE (n,[])).2.length≤_;simp only [List.length_nil] at h;omega
def kst (m i:Nat):Kq:=⟨if m=0 then 2 else 5,(i:Int),⟨#[]⟩⟩
def Uf (y:NE) (i:Nat):Nat→NE
 | 0=>y
 | m+1=>Nx (Uf y i m) (kst m i)
def Afe (b:Bool) (y:NE) (i:Nat):Nat→Bool
 | 0=>b
 | m+1=>Afe b y i m || (Bo (Uf y i m).1 (kst m i)).isSome
theorem Acz (x:NE) (k:Nat):Ig x (k+1)=Uf (Ig x k) (k+1) 2:=rfl
theorem Aqa (x:NE) (k:Nat):Rm x (k+1)=Afe (Rm x k) (Ig x k) (k+1) 2:=rfl
theorem Bkh {m i:Nat} (h0:1≤i) (h:i≤7) (hm:m < 2):Ex (kst m i)=true:=by
 rcases (show m=0∨m=1 by omega) with rfl|rfl
 ·exact Be6 h0 h
 ·exact Bbl h0 h
theorem Awo {y:NE} (hg:At y.1=true) {i:Nat} (h0:1≤i) (hi:i < y.1.An.Ad.length):∀m,m≤2→Ws y (Uf y i m)
 | 0,_=>.refl hg
 | 1,_=>(Arl hg h0 hi).1
 | 2,_=>by
  have f1:=(Arl hg h0 hi).1;exact f1.trans (Bc4 f1.g h0 (by rw [f1.t];exact hi)).1
 | m+3,h=>by omega
def Ey (x:NE):Nat→NE
 | 0=>x
 | k+1=>Au4 (Ey x k) k
theorem Bh7 {x:NE} (hg:At x.1=true) {i:Nat} (hi:i < x.1.An.Ad.length):Ws x (Nx x (Jg i)):=by
 by_cases h0:i=0
 ·subst h0;rw [Kc (by rw [Zz hi,if_pos (Acr hg).1])];exact .refl hg
 ·exact (Arl hg FJ hi).1
theorem Bh8 {x:NE} (hg:At x.1=true) {i:Nat} (hi:i < x.1.An.Ad.length):Ws x (Nx x (Mz i))∧(Nx x (Mz i)).2=x.2:=by
 by_cases h0:i=0
 ·subst h0;rw [Kc (by rw [Xn hi,if_pos (Acr hg).2])];exact ⟨.refl hg,rfl⟩
 ·have:=Bc4 hg FJ hi;exact ⟨this.1,this.2.2⟩
theorem Afx {x:NE} (hg:At x.1=true):∀k,k≤x.1.An.Ad.length→Ws x (Ey x k)
 | 0,_=>.refl hg
 | k+1,hk=>by
  have f1:=Afx hg k FJ;have f2:=Bh7 f1.g (i:=k) (by rw [f1.t];omega);have f3:=(Bh8 f2.g (i:=k) (by rw [f2.t,f1.t];omega)).1;exact (f1.trans f2).trans f3
theorem Al6 {x:NE} (hg:At x.1=true):∀k,Ey x (k+1)=Ig x k
 | 0=>by
  have h2:=(H9 (A1.1 hg).t).n0;show Nx (Nx x (Jg 0)) (Mz 0)=x;rw [Kc (x:=x) (s:=Jg 0) (by rw [Zz FJ,if_pos (Acr hg).1]),Kc (by rw [Xn FJ,if_pos (Acr hg).2])]
 | k+1=>by
  show Au4 (Ey x (k+1)) (k+1)=Au4 (Ig x k) (k+1);rw [Al6 hg k]
theorem Atn {x:NE} (hg:At x.1=true):Ey x x.1.An.Ad.length=Xk x:=by
 have h2:=(H9 (A1.1 hg).t).n0;obtain ⟨m,hm⟩:∃m,x.1.An.Ad.length=m+1:=⟨x.1.An.Ad.length - 1,FJ⟩;unfold Xk;rw [hm,Al6 hg,Nat.add_sub_cancel]
theorem Pb {l:List (List Ar)} (h:∀q∈l,q.length≤6):∀k,qd (l.take k)≤6 * k:=by
 induction l with
 | nil=>intro k;rw [List.take_nil];exact Nat.zero_le _
 | cons q r ih =>
  intro k;cases k with
  | zero=>exact Nat.le_refl _
  | succ k =>
   have:=ih (fun q hq=>h q GR) k;have:=h q FK;show q.length+qd (r.take k)≤_;omega
theorem Anm {l:List (List Ar)} {k:Nat} (hk:k < l.length):qd (l.take (k+1))=qd (l.take k)+l[k].length:=by
 unfold qd;rw [List.take_succ_eq_append_getElem hk,List.map_append,List.sum_append];simp
theorem Ba5 (a b:Int):FV 366 [.int .i64 a,.int .i64 b] [] (.int .i64 (min a b)):=by
 refine enter func366 rfl ntmps366 fun w0=>?_;refine go ?_;refine Ax rfl (fun h=>?_) (fun h=>?_)
 ·refine go ?_;rw [show min a b=a by omega];exact BC
 ·refine go ?_;rw [show min a b=b by omega];exact BC
theorem Aw8 (r:Az) (p:Ar) (d:Int) (v:Value) (F:List Nat) (hg:Mv r) (hp:Bw p=true) (d0:1≤d) (d1:d≤8) :
  Fn prog 310 [v,.agg #[.int .i64 p.Cp,.int .i64 p.Ae,.int .i64 p.Ap,.int .i64 p.Fv,.string p.data],.int .i64 d] [.isv Bi v r F] [] (fun (_:NwS)=>True) (fun s=>.tuple #[.agg #[.bool ((Lu r p d)).Be,.int .i64 ((Lu r p d)).Ai,.int .i64 ((Lu r p d)).Aa.next,.slice s.a1 ((Lu r p d)).Aa.Am.length s.c1,.slice s.a2 ((Lu r p d)).Al.length s.c2],.slice s.ae (Ni r p).length s.ce])
   (fun s=>[.isv Bi (.agg #[.bool ((Lu r p d)).Be,.int .i64 ((Lu r p d)).Ai,.int .i64 ((Lu r p d)).Aa.next,.slice s.a1 ((Lu r p d)).Aa.Am.length s.c1,.slice s.a2 ((Lu r p d)).Al.length s.c2]) (Lu r p d) s.F1,.ow A8 9 (.slice s.ae (Ni r p).length s.ce) (Ni r p) s.Fe]):=by
 have k0:=hg.k0;have k1:=hg.k1;obtain ⟨-,q1,q2, -⟩:=Dg.1 hg.q;have hser:∀q∈r.Al,Cc q.Ae=true:=fun q hq=>(Y7 hg hq).1;obtain ⟨hsg, -⟩:=Rt hg hp;obtain ⟨htg, -,htl⟩:=Us hg hp;obtain ⟨hng,hnq, -,hnl⟩:=Zu hg hp d0 d1 FJ;obtain ⟨s0_,s1_⟩:=Iw hsg;obtain ⟨w0_,w1_⟩:=Iw htg;obtain ⟨v0_,v1_⟩:=Iw hng;obtain ⟨hw8,hit⟩:=Kh hsg;obtain ⟨hu8,hiu⟩:=Kh htg;obtain ⟨n0,n1⟩:=Lb hp;have hrw:=(Kh hg.w).1;have hp2:=hp;unfold Bw at hp2;simp only [Bool.and_eq_true] at hp2;obtain ⟨t0_,t1_⟩:=Bc.1 hp2.1.1.1.1.2;obtain ⟨l0_,l1_⟩:=Bc.1 hp2.1.1.1.2;have hps:p.data.size≤8:=Wa hp2.1.1.2
 refine enter func310 rfl ntmps310 fun w0=>?_;refine Es (v:=v) (x:=r) (F:=F) ?_;rintro a1 c1 F1 a2 c2 F2 rfl - -;refine go ?_;intros;refine Cb (Uh r _ F FJ FJ) fun u _=>?_;refine Ij ?_;rintro a5 c5 F5 a6 c6 F6 e6 - -;rw [e6];refine A4 (E:=B9) fun G5=>?_;refine A4 (E:=Av) fun G6=>?_;refine go ?_;intros;rename_i g3 g4 g6 g8 g9;refine Dc A8 ?_
 refine E4 [2,4,6,8,9] [0,2,4,5] (fun _:List Nat=>[]) (fun s=>[.row g8 140 0 [] [.bool true,.int .i64 r.Ai,.int .i64 (Eg r p).next,.slice a5 (Eg r p).Am.length c5,.slice a6 r.Al.length c6] [],.isv Bh (.agg #[.int .i64 (Eg r p).next,.slice a5 (Eg r p).Am.length c5]) (Eg r p) s]) (fun _=>True) ?_ fun G7 _=>?_
 ·cases hs:r.Be
  ·by_cases hk:p.Cp=5
   ·have e:Eg r p=⟨p.Fv,r.Aa.Am⟩:=by unfold Eg;rw [hs,if_pos hk];rfl
    rw [e];refine go ?_;refine Ax rfl (fun _=>?_) (fun h=>absurd hk h);refine B4 (a1:=a5) ⟨p.Fv,r.Aa.Am⟩ ?_;refine go ?_;refine Bt G5 trivial
   ·have e:Eg r p=⟨p.Ae,r.Aa.Am⟩:=by unfold Eg;rw [hs,if_neg hk];rfl
    rw [e];refine go ?_;refine Ax rfl (fun h=>absurd h hk) (fun _=>?_);refine B4 (a1:=a5) ⟨p.Ae,r.Aa.Am⟩ ?_;refine go ?_;refine Bt G5 trivial
  ·have e:Eg r p=r.Aa:=by unfold Eg;rw [hs];rfl
   rw [e];refine B4 (a1:=a5) r.Aa ?_;refine go ?_;refine Bt G5 trivial
 repeat (first|apply Wy|apply Abl|apply Q7)
 refine Bd7 [2,4,6,8] [3,4,5] (fun s:SkS=>[(9,.slice s.ae (Lm r p).length s.ce)]) (fun s=>[.row g8 140 0 [] [.bool true,.int .i64 r.Ai,.int .i64 (Gn r p).next,.slice s.a (Gn r p).Am.length s.c,.slice a6 r.Al.length c6] [],.isv Bh (.agg #[.int .i64 (Gn r p).next,.slice s.a (Gn r p).Am.length s.c]) (Gn r p) s.F,.ow A8 9 (.slice s.ae (Lm r p).length s.ce) (Lm r p) s.Fe]) (fun _=>True) ?_ fun s _=>?_
 ·by_cases hk:p.Cp=5
  ·have e1:Gn r p=Eg r p:=by unfold Gn;rw [if_pos hk]
   have e2:Lm r p=[]:=by unfold Lm;rw [if_pos hk]
   rw [e1,e2];refine go ?_;rw [decide_eq_false (show ¬ ¬p.Cp=5 from fun h=>h hk)];refine go ?_;refine Bt (⟨a5,c5,G7,_,_,_⟩:SkS) trivial
  ·have e1:Gn r p=My (Eg r p) p.Ae p.data:=by unfold Gn;rw [if_neg hk]
   have e2:Lm r p=Mo (Eg r p) p.Ae p.data:=by unfold Lm;rw [if_neg hk]
   rw [e1,e2];refine go ?_;rw [decide_eq_true (show ¬p.Cp=5 from hk)];refine go ?_;refine Cb (Asv (Eg r p) p.Ae _ G7 s0_ s1_ n0 n1 hw8) fun _ _=>?_;cases hok:Oc (Eg r p) p.Ae
   ·have e:(Hw (Eg r p) p.Ae || !decide (gp (Eg r p).next p.Ae < 8))=true:=by unfold Oc at hok;simp only [Bool.or_eq_false_iff] at hok;rw [hok.1,hok.2];rfl
    have e3:My (Eg r p) p.Ae p.data=Eg r p:=by unfold My;rw [if_pos e]
    have e4:Mo (Eg r p) p.Ae p.data=[]:=by unfold Mo;rw [if_pos e]
    rw [e3,e4];refine go ?_;refine Bt (⟨a5,c5,G7,_,_,_⟩:SkS) trivial
   ·refine go ?_;refine Cb (Awz (Eg r p) p.Ae p.data _ G7 s0_ s1_ n0 n1 hw8 hit hps hok) fun y hy=>?_;obtain ⟨hy1,hy2⟩:=hy;have hyl:y.es.length≤8:=by rw [hy2,←e2];exact htl
    refine A4 (E:=A8) (xs:=y.es) fun G8=>?_;refine go ?_;intros;apply wO;refine Pm (ys:=y.es) Eh Hj fun a9 c9 F9=>?_;rw [List.nil_append];rw [←hy1,←hy2];refine go ?_;refine Bt (⟨y.a,y.c,y.F,_,_,_⟩:SkS) trivial
 obtain ⟨a3,c3,F3,ae,cE,Fe⟩:=s;dsimp only;refine go ?_;refine ce (fun w s=>Rk _ _ _ FJ FJ) ?_;refine go ?_;refine E4 [2,4,6,8] [3,4,5] (fun s:SkS=>[(9,.slice s.ae (Ni r p).length s.ce)]) (fun s=>[.row g8 140 0 [] [.bool true,.int .i64 r.Ai,.int .i64 (Cq r p).next,.slice s.a (Cq r p).Am.length s.c,.slice a6 r.Al.length c6] [],.isv Bh (.agg #[.int .i64 (Cq r p).next,.slice s.a (Cq r p).Am.length s.c]) (Cq r p) s.F,.ow A8 9 (.slice s.ae (Ni r p).length s.ce) (Ni r p) s.Fe]) (fun _=>True) ?_ fun s _=>?_
 ·cases hb:Uu (Gn r p).next p.Ap
  ·have e1:Cq r p=Gn r p:=by show Pi _ _=_;unfold Pi;rw [hb];rfl
   have e2:Ni r p=Lm r p:=by unfold Ni Pw;rw [hb];simp
   rw [e1,e2];refine go ?_;refine Bt (⟨a3,c3,F3,_,_,_⟩:SkS) trivial
  refine go ?_;refine ce (fun w s=>Ju _ _ _ FJ FJ) ?_;refine go ?_;refine Ax rfl (fun h4=>?_) (fun h4=>?_)
  ·have e1:Cq r p=Jo (Gn r p) p.Ap:=by show Pi _ _=_;unfold Pi;rw [hb,if_pos rfl,if_pos h4]
   have e2:Ni r p=Lm r p++Jm (Gn r p) p.Ap:=by unfold Ni Pw;rw [hb,if_pos rfl,if_pos h4]
   have hl2:=hnl;rw [e2,List.length_append] at hl2;refine go ?_;refine Cb (U4 (Gn r p) p.Ap _ F3 w0_ w1_ t0_ t1_ hu8 hiu) fun y hy=>?_;obtain ⟨hy1,hy2⟩:=hy;have hyl:y.es.length≤24:=by rw [hy2];show (Jm (Gn r p) p.Ap).length≤24;omega
   refine A4 (E:=A8) (xs:=y.es) fun G8=>?_;refine go ?_;intros;apply wO;refine Pm (ys:=y.es) Eh Hj fun a9 c9 F9=>?_;rw [e1,e2,show Jo (Gn r p) p.Ap=y.y from hy1.symm,show Jm (Gn r p) p.Ap=y.es from hy2.symm];refine go ?_;refine Bt (⟨y.a,y.c,y.F,_,_,_⟩:SkS) trivial
  ·have e1:Cq r p=⟨p.Ap,[]⟩:=by show Pi _ _=_;unfold Pi;rw [hb,if_pos rfl,if_neg h4]
   have e2:Ni r p=Lm r p++[⟨#[33]⟩]:=by unfold Ni Pw;rw [hb,if_pos rfl,if_neg h4]
   rw [e1,e2];refine go ?_;intros;apply wO;refine Qa (U8 ⟨#[33]⟩ FM) Eh fun a9 c9 F9=>?_;refine Cz B9 FM ?_;refine B4 (a1:=none) ⟨p.Ap,[]⟩ ?_;refine go ?_;refine Bt (⟨none,0,_,_,_,_⟩:SkS) trivial
 obtain ⟨a7,c7,F7,ae,cE,Fe⟩:=s;dsimp only;refine go ?_;refine Cb (Afi r.Al (Cq r p) a6 c6 G6 _ F7 FJ hser v0_ v1_) fun z _=>?_;refine go ?_;refine ce (fun w s=>Rk _ _ _ FJ FJ) ?_;have hNq8:=(Dg.1 hnq).2.1;cases hb:Uu (Cq r p).next p.Fv
 ·have e1:Lu r p d=⟨true,r.Ai,Cq r p,Ek r.Al (Cq r p)⟩:=by unfold Lu Qr;rw [hb];rfl
  rw [e1];refine go ?_;refine A4 (E:=Av) (xs:=Ek r.Al (Cq r p)) fun F8=>?_;refine Cd (x:=Cq r p) ?_;rintro b1 dd1 G1 e5 m1;simp only [Value.agg.injEq,Array.mk.injEq,List.cons.injEq,Value.slice.injEq,true_and,and_true] at e5;obtain ⟨rfl,rfl⟩:=e5;refine Ev ⟨true,r.Ai,Cq r p,Ek r.Al (Cq r p)⟩ ?_;exact DL
 obtain ⟨k,hk⟩:∃k,k=Aaz (Cq r p) p.Fv:=⟨_,rfl⟩;have hk8:k≤8:=by rw [hk];exact Tv _ _
 have hgb:=Mf (Cq r p).next p.Fv
 have hkm:((k:Nat):Int)=min (gp (Cq r p).next p.Fv) 8:=by rw [hk];unfold Aaz;omega
 obtain ⟨N,hN⟩:∃N,N=Pg (Cq r p) k:=⟨_,rfl⟩;have hNl:N.length≤8:=by have:=Aei (Cq r p) k;rw [hN];omega
 have e1:Lu r p d=⟨true,r.Ai,Cq r p,Lv (Cq r p).next (r.Ai+d) (Ek r.Al (Cq r p)) N⟩:=by unfold Lu Qr;rw [hb,if_pos rfl,hN,hk]
 rw [e1];have V2:=Kd (Cq r p).next (min (gp (Cq r p).next p.Fv) 8)
 have hgp:gp (Cq r p).next (Ci (Cq r p).next (min (gp (Cq r p).next p.Fv) 8))=(k:Nat):=by rw [←hkm];unfold gp Ci;omega
 refine go ?_;refine ce (fun w s=>Ju _ _ _ FJ FJ) ?_;refine go ?_;refine Cb (Ba5 _ _) fun _ _=>?_;refine go ?_;refine ce (fun w s=>L8 _ _ _ FJ FJ) ?_;refine go ?_;refine Cb (Am9 (Cq r p) _ k _ F7 v0_ v1_ FJ FJ hgp) fun m _=>?_;rw [←hN];refine A4 (E:=Bb) (xs:=N) fun GN=>?_;refine A4 (E:=Av) (xs:=Ek r.Al (Cq r p)) fun F8=>?_;refine go ?_
 refine Cj [2,6,8,9,14,16] (fun s:AwS=>[(17,.int .i64 (s.i:Nat))]) (fun s=>[.row g8 140 0 [] [.bool true,.int .i64 r.Ai,.int .i64 (Cq r p).next,.slice a7 (Cq r p).Am.length c7,.slice s.a (Lv (Cq r p).next (r.Ai+d) (Ek r.Al (Cq r p)) (N.take s.i)).length s.c] [],.sl Av (.slice s.a (Lv (Cq r p).next (r.Ai+d) (Ek r.Al (Cq r p)) (N.take s.i)).length s.c) (Lv (Cq r p).next (r.Ai+d) (Ek r.Al (Cq r p)) (N.take s.i)) s.F]) (fun s=>s.i≤N.length) (fun s=>N.length - s.i) ⟨0,z.1,z.2.1,F8⟩ (Nat.zero_le _) fun s hs=>?_;obtain ⟨i,a3,c3,F3⟩:=s;dsimp only at hs ⊢
 have hall:=Sh (w:=Cq r p) (u:=r.Ai+d) FJ FJ (N.take i) (Ek r.Al (Cq r p)) (fun n hn=>by
  have:=Sq (w:=Cq r p) (n:=n) hk8 (by rw [←hN];exact List.mem_of_mem_take hn);exact ⟨this.1,this.2.2⟩) hnq Qi
 have hLs:∀h:i < N.length,Lv (Cq r p).next (r.Ai+d) (Ek r.Al (Cq r p)) (N.take (i+1))=Vs (Cq r p).next (Lv (Cq r p).next (r.Ai+d) (Ek r.Al (Cq r p)) (N.take i)) N[i] (r.Ai+d):=fun h=>Ae7 h
 generalize hLd:Lv (Cq r p).next (r.Ai+d) (Ek r.Al (Cq r p)) (N.take i)=L at *
 have hLq:=hall.1;have hL8:=(Dg.1 hLq).2.1;refine go ?_;refine Ax rfl (fun h4=>?_) (fun h4=>?_)
 ·have hi:i < N.length:=FJ
  have hni:=Sq (w:=Cq r p) (n:=N[i]) hk8 (by rw [←hN];exact List.getElem_mem hi);refine I5 (xs:=N) i ?_;rintro hi2 b o2 e;rw [e];refine go ?_;refine As [0,1] [12] ?_;refine Ds 0 1 2 3 ?_;refine Ds 4 5 6 7 ?_;refine Ed 8 9 ?_;refine dN 10 ?_;refine oC ?_;refine Cb (Baw L (Cq r p).next N[i] r.Ai d a3 c3 F3 hLq hni.1 k0 k1 d0 d1) fun u _=>?_;rw [←hLs hi];refine dk ?_;refine dt 11 ?_;refine dN 12 ?_;refine oS ?_;refine Tx ?_;refine dd ?_;refine A4 (E:=Av) fun F9=>?_;refine go ?_;exact CJ
 have hi:i=N.length:=FJ
 subst hi;rw [List.take_length] at hLd;rw [hLd];refine go ?_;refine Cd (x:=Cq r p) ?_;rintro b1 dd1 G1 e5 m1;simp only [Value.agg.injEq,Array.mk.injEq,List.cons.injEq,Value.slice.injEq,true_and,and_true] at e5;obtain ⟨rfl,rfl⟩:=e5;refine Ev ⟨true,r.Ai,Cq r p,L⟩ ?_;exact DL
theorem Ad8 (r:Az) (p:Ar) (d:Int) (v:Value) (F:List Nat) (hg:Mv r) (hp:Bw p=true) (d0:1≤d) (d1:d≤8) :
  Fn prog 249 [v,.agg #[.int .i64 p.Cp,.int .i64 p.Ae,.int .i64 p.Ap,.int .i64 p.Fv,.string p.data],.int .i64 d] [.isv Bi v r F] [] (fun (_:NwS)=>True) (fun s=>.tuple #[.agg #[.bool ((Dm r p d)).Be,.int .i64 ((Dm r p d)).Ai,.int .i64 ((Dm r p d)).Aa.next,.slice s.a1 ((Dm r p d)).Aa.Am.length s.c1,.slice s.a2 ((Dm r p d)).Al.length s.c2],.slice s.ae (Iv r p).length s.ce])
   (fun s=>[.isv Bi (.agg #[.bool ((Dm r p d)).Be,.int .i64 ((Dm r p d)).Ai,.int .i64 ((Dm r p d)).Aa.next,.slice s.a1 ((Dm r p d)).Aa.Am.length s.c1,.slice s.a2 ((Dm r p d)).Al.length s.c2]) (Dm r p d) s.F1,.ow A8 9 (.slice s.ae (Iv r p).length s.ce) (Iv r p) s.Fe]):=by
 have k0:=hg.k0;have k1:=hg.k1;have hrw:=(Kh hg.w).1;obtain ⟨-,q1,q2, -⟩:=Dg.1 hg.q;obtain ⟨n0,n1⟩:=Lb hp;have hkd:1≤p.Cp∧p.Cp≤5:=by unfold Bw Gj at hp;simp only [Bool.and_eq_true,decide_eq_true_eq] at hp;exact hp.1.1.1.1.1.1
 refine enter func249 rfl ntmps249 fun w0=>?_;refine Es (v:=v) (x:=r) (F:=F) ?_;rintro a1 c1 F1 a2 c2 F2 rfl - -;refine go ?_;intros;by_cases hk4:p.Cp=4
 ·have hn:Mt p=false:=by unfold Mt;simp [hk4]
  have eE:Iv r p=[]:=by unfold Iv;rw [hn];rfl
  rw [decide_eq_true hk4];cases hs:r.Be
  ·have eR:Dm r p d=r:=by unfold Dm;rw [hn,hs];simp
   refine go ?_;rw [decide_eq_true hk4];refine go ?_;refine Cb (Uh r _ F FJ FJ) fun u _=>?_;refine Ij ?_;rintro a5 c5 F5 a6 c6 F6 e6 - -;rw [e6];refine A4 (E:=B9) fun G5=>?_;refine A4 (E:=Av) fun G6=>?_;refine go ?_;intros;refine Dc A8 ?_;refine Ev (a1:=a5) r ?_;rw [eR,eE];rw [hs];exact DL
  ·have eR:Dm r p d=Aoz r p:=by unfold Dm;rw [hn,hs,decide_eq_true hk4];rfl
   refine go ?_;refine Cb (Uh r _ F FJ FJ) fun u _=>?_;refine Ij ?_;rintro a5 c5 F5 a6 c6 F6 e6 - -;rw [e6];refine A4 (E:=B9) fun G5=>?_;refine go ?_;intros;refine Cb (Anb r.Al r.Aa.next p.Ae r.Ai a2 c2 F2 hg.q (Bc.2 ⟨n0,n1⟩) k0 k1) fun y _=>?_;refine A4 (E:=Av) (xs:=Sj r.Aa.next r.Al p.Ae (r.Ai+4)) fun G6=>?_;refine go ?_;intros;refine Dc A8 ?_;refine Ev (a1:=a5) (Aoz r p) ?_;rw [eR,eE];exact DL
 rw [decide_eq_false hk4];refine go ?_;rw [decide_eq_false hk4];refine go ?_;by_cases hk3:p.Cp=3
 ·have hn:Mt p=false:=by unfold Mt;simp [hk3]
  have eE:Iv r p=[]:=by unfold Iv;rw [hn];rfl
  have eR:Dm r p d=r:=by unfold Dm;rw [hn,decide_eq_false hk4];rfl
  rw [decide_eq_true hk3];refine go ?_;refine Cb (Uh r _ F FJ FJ) fun u _=>?_;refine Ij ?_;rintro a5 c5 F5 a6 c6 F6 e6 - -;rw [e6];refine A4 (E:=B9) fun G5=>?_;refine A4 (E:=Av) fun G6=>?_;refine go ?_;intros;refine Dc A8 ?_;refine Ev (a1:=a5) r ?_;rw [eR,eE];exact DL
 have hn:Mt p=true:=by
  unfold Mt;have:p.Cp=1∨p.Cp=2∨p.Cp=5:=FJ
  rcases this with h|h|h <;> simp [h]
 have eE:Iv r p=Ni r p:=by unfold Iv;rw [hn];rfl
 have eR:Dm r p d=Lu r p d:=by unfold Dm;rw [hn];rfl
 rw [decide_eq_false hk3,eE,eR];refine go ?_;refine Cb (Aw8 r p d _ F hg hp d0 d1) fun s _=>?_;refine go ?_;refine ret ⟨s.a1,s.c1,s.F1,s.a2,s.c2,[],s.ae,s.ce,_⟩ trivial rfl
end Go.Proofs.YtkblpelckhegbaaGreatDoor
namespace Go.Proofs.YtkblpelckhegbaaGreatDoor

open Go.RowKit
end Go.Proofs.YtkblpelckhegbaaGreatDoor
namespace Go.Proofs.YtkblpelckhegbaaGreatDoor
open Go.RowKit
def Agg (x:Az):Bool:=x.Be && decide ((x.Al.length:Int)=0) && decide ((x.Aa.Am.length:Int)=0)
theorem Aff (x:Az) (v:Value) (F:List Nat):FV 294 [v] [.isv Bi v x F] (.bool (Agg x)):=by
 refine enter func294 rfl ntmps294 fun w0=>?_;refine Es (v:=v) (x:=x) (F:=F) ?_;rintro a1 c1 F1 a2 c2 F2 rfl l1 l2;unfold maxLen at l1 l2;refine go ?_;intros;cases hs:x.Be
 ·refine go ?_;refine ret () trivial ?_;unfold Agg;rw [hs];rfl
 refine go ?_;refine Dx rfl rfl (fun h1=>?_) (fun h1=>?_)
 rotate_left
 ·refine go ?_;refine ret () trivial ?_;unfold Agg;rw [hs,decide_eq_false h1];rfl
 refine go ?_;refine ret () trivial ?_;unfold Agg;rw [hs,decide_eq_true h1];rfl
def Rc (l:List Int) (k:Nat):List Int:=((List.range k).filter fun i=>Eu l ((i:Nat):Int)).map fun (i:Nat)=>((i:Nat):Int)
def lvs (l:List Int):List Int:=Rc l l.length
theorem Aic (l:List Int) (k:Nat):Rc l (k+1)=Rc l k++if Eu l (k:Int)=true then [(k:Int)] else []:=by
 unfold Rc;rw [List.range_succ,List.filter_append,List.map_append]
 split <;> simp_all
theorem Axp {l:List Int} {k:Nat} (h:Eu l (k:Int)=true):Rc l (k+1)=Rc l k++[(k:Int)]:=by rw [Aic,if_pos h]
theorem Ba9 {l:List Int} {k:Nat} (h:Eu l (k:Int)=false):Rc l (k+1)=Rc l k:=by rw [Aic,if_neg (by rw [h];decide),List.append_nil]
theorem Alw (l:List Int) (k:Nat):(Rc l k).length≤k:=by
 unfold Rc;exact DU
theorem Au1 {l:List Int} {x:Int} {k:Nat} (h:x∈Rc l k):∃i,i < k∧x=((i:Nat):Int)∧Eu l x=true:=by
 unfold Rc at h;obtain ⟨i,hi,rfl⟩:=List.mem_map.1 h;obtain ⟨h1,h2⟩:=List.mem_filter.1 hi;exact ⟨i,List.mem_range.1 h1,rfl,h2⟩
theorem Bfj {l:List Int} (hg:Vq l):Eu l ((0:Nat):Int)=false:=by
 have h1:=hg.n0;have h2:=hg.p 1 FJ FJ;have h3:(((0:Nat):Int))∈l:=by
  have:l[1]=((0:Nat):Int):=FJ
  rw [←this];exact List.getElem_mem _
 unfold Eu;rw [decide_eq_true h3];rfl
theorem Bhl {l:List Int} {k:Nat} (h:k < (lvs l).length):∃i,i < l.length∧(lvs l)[k]=((i:Nat):Int)∧Eu l ((i:Nat):Int)=true:=by
 obtain ⟨i,hi,e,hl⟩:=Au1 (List.getElem_mem h);exact ⟨i,hi,e,e▸hl⟩
theorem Az2 {n:Du} (hg:At n=true):At (Ri n).1=true∧Y4 (Ri n).1=0:=⟨(Ahi (x:=(n,[])) hg).1.g,(Ahi (x:=(n,[])) hg).2⟩
def Rq (n:Du):Int × Int × Bool:=if At n then (((qd n.down:Nat):Int),((qd n.up:Nat):Int),true) else (0,0,false)
def Ad1 (n:Du) (i:Nat):Bool:=Agg (Q5 n i) && decide ((Q5 n i).Aa.next=Ci n.Ab.Aa.Ap n.Ab.Aa.Ao.length)
def Aad (n:Du):Bool:=decide (Y4 n=0) && (lvs n.An.Ad).all fun x=>Ad1 n x.toNat
def Gw (n:Du):Bool × Bool:=if At n then (Aad n,true) else (false,false)
theorem Bbr {l:List (List Ar)} (h:∀i (hi:i < l.length),l[i].length=0):qd l=0:=by
 refine Acv.2 fun q hq=>?_;obtain ⟨i,hi,rfl⟩:=List.getElem_of_mem hq;exact List.length_eq_zero_iff.1 (h i hi)
theorem Bba {l:List Int} {i:Nat} (hi:i < l.length) (h:Eu l ((i:Nat):Int)=true):((i:Nat):Int)∈lvs l:=by
 unfold lvs Rc;exact List.mem_map.2 ⟨i,List.mem_filter.2 ⟨List.mem_range.2 hi,h⟩,rfl⟩
theorem Bcj {n:Du} (h:¬Y4 n=0):Aad n=false:=by unfold Aad;rw [decide_eq_false h];rfl
theorem Ajd {n:Du} {i:Nat} (hi:i < n.An.Ad.length) (h:Eu n.An.Ad ((i:Nat):Int)=true) (hb:Ad1 n i=false):Aad n=false:=by
 unfold Aad;rw [Bool.and_eq_false_iff];right;rw [List.all_eq_false];exact ⟨_,Bba hi h,by rw [show ((i:Nat):Int).toNat=i from rfl,hb];decide⟩
theorem Aq5 {n:Du} (h:Y4 n=0) (hl:∀i,i < n.An.Ad.length→Eu n.An.Ad ((i:Nat):Int)=true→Ad1 n i=true):Aad n=true:=by
 unfold Aad;rw [decide_eq_true h,Bool.true_and,List.all_eq_true];intro x hx;obtain ⟨i,hi,rfl,h2⟩:=Au1 hx;exact hl i hi h2
def Yt:ByteArray:=⟨#[33]⟩
def SlI (S:List ByteArray) (k:Nat) (l:List Gh):Prop:=∀(j:Nat) s,l[j]?=some s→s.V2=true→S[k+j]?=some s.Dk
def EvI (S:List ByteArray) (b:Nat) (es:List ByteArray):Prop:=∀(i:Nat) e,es[i]?=some e→e=Ap8∨∃t,S[b+i]?=some t∧e=Aip t
section
variable {S:List ByteArray} {f:Int} {k b:Nat}
theorem EvI.nil:EvI S b []:=fun i e h=>by simp at h
theorem EvI.app {x y:List ByteArray} (h:EvI S b x) (h2:EvI S (b+x.length) y):EvI S b (x++y):=fun i e he=>by
 by_cases hi:i < x.length
 ·rw [List.getElem?_append_left hi] at he;exact h i e he
 ·rw [List.getElem?_append_right FJ] at he;have:=h2 _ e he
  rwa [show b+x.length+(i - x.length)=b+i by omega] at this
theorem SlI.drop {l:List Gh} (h:SlI S k l) (m:Nat):SlI S (k+m) (l.drop m):=fun j s hs hv=>by
 rw [List.getElem?_drop] at hs;have:=h _ s hs hv
 rwa [show k+(m+j)=k+m+j by omega] at this
theorem SlI.nil:SlI S k []:=fun j s h=>by simp at h
theorem EvI.mono {S2:List ByteArray} {es:List ByteArray} (h:EvI S b es):EvI (S++S2) b es:=fun i e he=>by
 rcases h i e he with h|⟨t,h,e2⟩
 ·exact .inl h
 ·exact .inr ⟨t,by rw [List.getElem?_append_left (List.getElem?_eq_some_iff.1 h).1];exact h,e2⟩
theorem SlI.mono {S2:List ByteArray} {l:List Gh} (h:SlI S k l):SlI (S++S2) k l:=fun j s hs hv=>by
 have:=h j s hs hv;rw [List.getElem?_append_left (List.getElem?_eq_some_iff.1 this).1];exact this
structure PkI (S:List ByteArray) (f:Int) (p:Ar):Prop where
 t:Mt p=true→∃i:Nat,i≤S.length∧p.Ap=Ci f i
 l:Mt p=true→∃i:Nat,i≤S.length∧p.Fv=Ci f i
 n:Mt p=true→p.Cp≠5→∃i:Nat,S[i]?=some p.data∧p.Ae=Ci f i
theorem PkI.mono {S2:List ByteArray} {p:Ar} (h:PkI S f p):PkI (S++S2) f p :=
 ⟨fun hn=>by obtain ⟨i,a,e⟩:=h.t hn;exact ⟨i,HI,e⟩,fun hn=>by obtain ⟨i,a,e⟩:=h.l hn;exact ⟨i,HI,e⟩,
  fun hn h5=>by obtain ⟨i,a,e⟩:=h.n hn h5;exact ⟨i,by rw [List.getElem?_append_left (List.getElem?_eq_some_iff.1 a).1];exact a,e⟩⟩
structure WnI (S:List ByteArray) (f:Int) (w:Aj) (es:List ByteArray) (k:Nat):Prop where
 le:k≤S.length
 n:w.next=Ci f k
 s:SlI S k w.Am
 e:Yt∈es∨∃b,b+es.length=k∧EvI S b es
theorem WnI.on {w w2:Aj} {es e2:List ByteArray} (h:WnI S f w es k) (h1:EvI S k e2) (h2:k+e2.length≤S.length) (h3:w2.next=Ci f ((k+e2.length:Nat):Int)) (h4:SlI S (k+e2.length) w2.Am):WnI S f w2 (es++e2) (k+e2.length) :=
 ⟨h2,h3,h4,by
  rcases h.e with h|⟨b,hb,he⟩
  ·exact .inl (List.mem_append_left _ h)
  ·exact .inr ⟨b,HI,he.app (by rw [hb];exact h1)⟩⟩
theorem WnI.mono {S2:List ByteArray} {w:Aj} {es:List ByteArray} (h:WnI S f w es k):WnI (S++S2) f w es k :=
 ⟨by rw [List.length_append];have:=h.le;omega,h.n,h.s.mono,by
  rcases h.e with h|⟨b,hb,he⟩
  ·exact .inl h
  ·exact .inr ⟨b,hb,he.mono⟩⟩
structure RcI (S:List ByteArray) (f:Int) (r:Az) (es:List ByteArray):Prop where
 z:r.Be=false→es=[]
 w:r.Be=true→∃k,WnI S f r.Aa es k∧∀q∈r.Al,∃j:Nat,j < S.length∧q.Ae=Ci f j
theorem RcI.mono {S2:List ByteArray} {r:Az} {es:List ByteArray} (h:RcI S f r es):RcI (S++S2) f r es :=
 ⟨h.z,fun hs=>by obtain ⟨k,a,c⟩:=h.w hs;exact ⟨k,a.mono,fun q hq=>by obtain ⟨j,hj,e⟩:=c q hq;exact ⟨j,HI,e⟩⟩⟩
end
end Go.Proofs.YtkblpelckhegbaaGreatDoor
namespace Go.Proofs.YtkblpelckhegbaaGreatDoor

open Go.RowKit
end Go.Proofs.YtkblpelckhegbaaGreatDoor
namespace Go.Proofs.YtkblpelckhegbaaGreatDoor
open Go.RowKit
theorem goL {X:Prop} {c:Cx} {fr:Fr} {H:List Pc} {Φ:Gl} (h:X) (hs:Kp X→T c fr H Φ:=by intro hX;(repeat (first|apply Q7|apply Akx|(apply wO;apply oc;rfl;exact ydE)|(apply wO;apply oc;rfl;apply Aud;rfl;exact A9;assumption)|apply X6|apply Abl|(apply Arr;rfl;rfl)|(apply Arq;rfl;rfl;rfl;rfl)|(apply Ars;rfl;rfl;rfl)|(apply c_t;rfl)|(apply c_f;rfl)|apply Wy|apply Tj|apply Afp|apply Ar3|apply Az3|apply Bg7|apply Bg8|(apply Ase;rfl)|apply Azx|(apply wO;apply As8;rfl;rfl;rfl;exact hX;clear hX;intro _ hX)|(apply wO;apply Aik;rfl;exact hX;clear hX;intro _ hX)|(apply wO;apply Axx;rfl;rfl;rfl;(first|exact AggC.s|exact OneC.s);rfl;exact Aki;exact Be9;rfl)|(apply wO;apply Bjh;rfl;rfl;exact AggC.s;exact Aki;assumption;rfl;assumption)|(apply wO;apply As9;rfl;kernel_rfl;exact X8)|(refine Ax rfl (fun h=>absurd h (by first|omega|simp)) (fun h=>?_);clear h)|(refine Dx rfl rfl (fun h=>absurd h (by first|omega|simp)) (fun h=>?_);clear h)));exact hX.h):T c fr H Φ:=hs ⟨h⟩
end Go.Proofs.YtkblpelckhegbaaGreatDoor
