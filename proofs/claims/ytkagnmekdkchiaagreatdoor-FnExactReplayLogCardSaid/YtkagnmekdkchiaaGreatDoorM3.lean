/- Part 3 of the proof: 34 texts, one behind the other. -/
import Derived.Lib.ItoaNum
import Derived.Lib.Bytealg
import Derived.Test.YtkagnmekdkchiaaGreatDoorShelf
import Derived.Lib.Strings
import Derived.Lib.LaidTab
import Derived.Lib.ItoaMem
import Derived.Lib.SliceRun
import Derived.ArgAppend
import Derived.Deep.RegionLaw
import Derived.Test.YtkagnmekdkchiaaGreatDoorM2
open _root_.Go.Proofs.Tryz
set_option maxRecDepth 100000
set_option maxHeartbeats 8000000
set_option linter.all false
set_option linter.unusedVariables false
set_option linter.unusedSimpArgs false
namespace Go.Proofs.YtkagnmekdkchiaaGreatDoor
theorem AG{p:Prop}(h:p:=by refine go ?_;intros;rw [←eo,←es,←el];refine Cu (⟨k+1,_,_,_,_,_,_,_,_,_⟩:TkS) (by show k+1≤l.length;omega) (by show l.length - (k+1) < l.length - k;omega)):p:=h
theorem AL{p:Prop}(h:p:=by simp only [Pc.F] at hb hb2;exact Ca (List.nodup_append.1 (List.nodup_append.1 hn).1).1 (by simp [hb]) hb2):p:=h
theorem AM{p:Prop}(h:p:=by simp only [Pc.F] at hb hb2;exact Ca (List.nodup_append.1 hn).1 (by simp [hb]) hb2):p:=h
theorem AO{p:Prop}(h:p:=by simp only [Pc.F] at hb hb2;exact Ca (List.nodup_append.1 (List.nodup_append.1 (List.nodup_append.1 hn).1).1).1 (by simp [hb]) hb2):p:=h
theorem AP{p:Prop}(h:p:=by refine dk ?_;refine dN 13 ?_;refine oC ?_;refine cf (Iz n.up _ _ F7 (by have:=hs.u;omega) (fun q hq=>by have:=hs.uq q hq;omega)) fun s7 _=>?_;refine Ar ?_;refine dk ?_;refine dt 14 ?_;refine dN 16 ?_;refine oS ?_;refine dk ?_;refine dd ?_;refine Bw (⟨_,b1,d1,G1,b2,d2,G2,b3,d3,G3,_,_,_,_⟩:ClN) trivial):p:=h
theorem AR{p:Prop}(h:p:=by simp only [Pc.F] at hb hb2;exact Ca hn (by simp [hb]) hb2):p:=h
theorem AW{p:Prop}(h:p:=by simp only [Pc.F] at hb hb2;exact Ca (List.nodup_append.1 (List.nodup_append.1 (List.nodup_append.1 (List.nodup_append.1 hn).1).1).1).1 (by simp [hb]) hb2):p:=h
theorem BL{p:Prop}(h:p:=by refine ret (_,_,_) trivial rfl):p:=h
theorem CH{p:Prop}(h:p:=by intro q hq b hb;refine .inr (.inl ⟨_,List.mem_singleton.2 rfl,rfl,?_⟩);simp only [List.mem_cons,List.not_mem_nil,or_false] at hq;rcases hq with rfl|rfl|rfl|rfl|rfl|rfl|rfl <;> simp only [Pc.F] at hb ⊢ <;> simp [hb]):p:=h
theorem CN{p:Prop}(h:p:=by apply wO;refine Oh (ys:=[l[k].Af]) (Rd _) C5 fun a8 c8 F8=>?_;refine go ?_;intros;apply wO;refine Oh (ys:=[(⟨l[k].Af,2,c+3,l[k].D6+1⟩:A1)]) (Na (⟨l[k].Af,2,c+3,l[k].D6+1⟩:A1)) C3 fun a7 c7 F7=>?_;exact AG):p:=h
theorem CO{p:Prop}(h:p:=by have h6:=run_slice_string (P:=prog) wx 9 ⟨#[48,49,50,51,52,53,54,55,56,57]⟩ .i64 .i64 ((n:Int) % 10) ((n:Int) % 10+1) underlying9 (by omega) (by omega) (by show _≤((10:Nat):Int);omega);rw [h6,e3,e4,hd.out]):p:=h
theorem CQ{p:Prop}(h:p:=by obtain ⟨a',c',rfl⟩:=h1.slice;exact ⟨(a',c',F'),trivial,rfl,⟨h2,h1⟩,fun b hb=>.inl (h3 b hb),h4⟩):p:=h
theorem CU{p:Prop}(h:p:=by refine go ?_;intros;refine ret () trivial ?_;rw [show Bz x=decide ((x.Am.length:Int)=0) by unfold Bz;rw [g1,hs];unfold Od;rw [decide_eq_true h1,decide_eq_true (show x.Ab.Ap.length=0 by omega)];simp];rfl):p:=h
theorem DA{p:Prop}(h:p:=by refine go ?_;intros;refine ret (a2,c2,F2) trivial rfl):p:=h
theorem DC{p:Prop}(h:p:=by simp only [List.singleton_append,List.append_nil,List.append_assoc];refine List.Perm.cons _ ?_;rw [←List.append_assoc,←List.append_assoc];exact (List.perm_append_comm).append_right _):p:=h
theorem DI{p:Prop}(h:p:=by refine ⟨Rf ?_,0,rfl⟩;rw [hd.out,Lib.decDigits,dif_pos h3];rfl):p:=h
theorem DK{p:Prop}(h:p:=by simp only [Pc.F] at hb hb2;exact Ca (List.nodup_append.1 (List.nodup_append.1 (List.nodup_append.1 (List.nodup_append.1 (List.nodup_append.1 hn).1).1).1).1).1 (by simp [hb]) hb2):p:=h
theorem DR{p:Prop}(h:p:=by exact ⟨(List.nodup_append.1 (List.nodup_append.1 (List.nodup_append.1 (List.nodup_append.1 (List.nodup_append.1 (List.nodup_append.1 hn).1).1).1).1).1).2.1,h2⟩):p:=h
theorem DT{p:Prop}(h:p:=by exact ⟨(List.nodup_append.1 (List.nodup_append.1 (List.nodup_append.1 (List.nodup_append.1 (List.nodup_append.1 (List.nodup_append.1 hn).1).1).1).1).1).1,h1⟩):p:=h
theorem ED{p:Prop}(h:p:=by exact (h hi b o a1 c1 G ha  l1).h ac w (t1.ro (List.mem_cons_of_mem _ hm) rfl rfl ⟨hne,hr⟩ (by intro x hx;simp [Pc.F] at hx;subst hx;exact hb)) g):p:=h
theorem EJ{p:Prop}(h:p:=by have s1:=s.pick hp;obtain ⟨-,ho⟩:=s1.on (.own O v x F) (by simp);obtain ⟨F',hF,hs⟩:=N0.weak hW ho;exact (h F').h a w (s1.conv rfl hs hF) g):p:=h
theorem EK{p:Prop}(h:p:=by refine go ?_;intros;rw [←eo];refine Cu (⟨k+1,_,_,_⟩:PkS) (by show k+1≤sn.length;omega) (by show sn.length - (k+1) < sn.length - k;omega)):p:=h
theorem EN{p:Prop}(h:p:=by exact ⟨(List.nodup_append.1 (List.nodup_append.1 (List.nodup_append.1 (List.nodup_append.1 (List.nodup_append.1 hn).1).1).1).1).2.1,h3⟩):p:=h
theorem ER{p:Prop}(h:p:=by refine go ?_;intros;refine ret () trivial ?_;rw [nog (by unfold Od;rw [decide_eq_false (show ¬x.Ab.Ap.length=0 by omega)];simp)];rfl):p:=h
theorem ES{p:Prop}(h:p:=by unfold Cs at hg;simp only [Bool.and_eq_true] at hg;exact Bb.1 hg.1.1.1):p:=h
theorem FB{p:Prop}(h:p:=by rw [List.take_left' (by rw [List.take_left' hk,hk]),List.take_left' hk,←hk];refine go ?_;intros;refine ret (_,c,F2) trivial rfl):p:=h
theorem FD{p:Prop}(h:p:=by refine ret (_,_) trivial rfl):p:=h
theorem FK{p:Prop}(h:p:=by apply wO;refine Oh (ys:=[(⟨l[k].Af,1,c+d,l[k].D6⟩:A1)]) (Na (⟨l[k].Af,1,c+d,l[k].D6⟩:A1)) C3 fun a7 c7 F7=>?_;exact AG):p:=h
theorem FQ{p:Prop}(h:p:=by refine go ?_;intros;refine ret () trivial ?_;rw [show Lu l base=false by unfold Lu;rw [decide_eq_false (by omega)];simp];rfl):p:=h
theorem HB{p:Prop}(h:p:=by rw [List.length_replicate];omega):p:=h
theorem HJ{p:Prop}(h:p:=by intro b hb;simp only [Pc.F] at hb ⊢;exact hG b (by simp [hb])):p:=h
theorem HK{p:Prop}(h:p:=by simp [Value.oneCell']):p:=h
theorem IT{p:Prop}(h:p:=by intro p hp;simp at hp;subst hp;rfl):p:=h
theorem JZ{p:Prop}(h:p:=by exact Kd):p:=h
theorem KC{p:Prop}(h:p:=by simp [fp,Pc.F]):p:=h
theorem KO{p:Prop}(h:p:=by rw [Nat.pow_succ] at h;omega):p:=h
end Go.Proofs.YtkagnmekdkchiaaGreatDoor
namespace Go.Proofs.YtkagnmekdkchiaaGreatDoor
open Go.RowKit
abbrev Bs:=List UInt8
def D5 (b:UInt8) (l:Bs):Bs:=l.takeWhile (· != b)
def Ll (b:UInt8) (l:Bs):Bs:=(l.dropWhile (· != b)).drop 1
theorem Aea {b:UInt8} {x r:Bs} (h:∀c∈x,c≠b):D5 b (x++b::r)=x:=by
 unfold D5;rw [List.takeWhile_append_of_pos GW];simp
theorem Aqv {b:UInt8} {x:Bs} (h:∀c∈x,c≠b):D5 b x=x:=by
 have:=List.takeWhile_append_of_pos (p:=(· != b)) (l₁:=x) (l₂:=[]) GW;simpa [D5] using this
theorem Ahf {b:UInt8} {x r:Bs} (h:∀c∈x,c≠b):Ll b (x++b::r)=r:=by
 unfold Ll;rw [List.dropWhile_append_of_pos GW];simp
theorem Ahg {b:UInt8} {x:Bs} (h:∀c∈x,c≠b):Ll b x=[]:=by
 have:=List.dropWhile_append_of_pos (p:=(· != b)) (l₁:=x) (l₂:=[]) GW;simp only [List.append_nil,List.dropWhile_nil] at this;simp [Ll,this]
theorem W6 {b:UInt8} {l:Bs}:∀c∈D5 b l,c≠b:=by
 unfold D5
 induction l with
 | nil=>simp
 | cons d l ih =>
  intro c hc;rw [List.takeWhile_cons] at hc
  split at hc
  ·rename_i h;rcases List.mem_cons.1 hc with rfl|hc
   ·simpa using h
   ·exact ih c hc
  ·simp at hc
theorem Nl (b:UInt8) (l:Bs):(b∈l∧l=D5 b l++b::Ll b l)∨(b ∉ l∧D5 b l=l∧Ll b l=[]):=by
 by_cases h:b∈l
 ·left;refine ⟨h,?_⟩;unfold D5 Ll
  induction l with
  | nil=>cases h
  | cons c l ih =>
   by_cases hc:c=b
   ·subst hc;simp
   ·have hm:b∈l:=by
     rcases List.mem_cons.1 h with e|e
     ·exact absurd e.symm hc
     ·exact e
    simp only [List.takeWhile_cons,List.dropWhile_cons,bne_iff_ne,ne_eq,hc,not_false_eq_true,if_true,List.cons_append];rw [←ih hm]
 ·right;exact ⟨h,Aqv fun c hc e=>h (e▸hc),Ahg fun c hc e=>h (e▸hc)⟩
def Dw:Bs→List Bs
 | []=>[]
 | b::r=>if b == 10 then [10]::Dw r else match Dw r with
  | []=>[[b]]
  | x::xs=>(b::x)::xs
theorem Q9:∀l:Bs,(Dw l).flatten=l
 | []=>rfl
 | b::r=>by
  have ih:=Q9 r;unfold Dw
  split
  ·rename_i h;simp at h;subst h;simp [ih]
  ·cases h:Dw r with
   | nil=>rw [h] at ih;simp at ih;subst ih;simp
   | cons x xs=>rw [h] at ih;simp at ih;simp [ih]
theorem Sf:∀{x:Bs} (r:Bs),(∀c∈x,c≠10)→Dw (x++10::r)=(x++[10])::Dw r
 | [],r,_=>by simp [Dw]
 | b::x,r,h=>by
  have ih:=Sf (x:=x) r fun c hc=>h c JN;have hb:(b == 10)=false:=by simpa using h b GL
  simp only [List.cons_append,Dw,hb,ih];simp
theorem Uy:∀{x:Bs},x≠[]→(∀c∈x,c≠10)→Dw x=[x]
 | [b],_,h=>by
  have hb:(b == 10)=false:=by simpa using h b GL
  simp [Dw,hb]
 | b::c::x,_,h=>by
  have ih:=Uy (x:=c::x) GL fun c hc=>h c JN;have hb:(b == 10)=false:=by simpa using h b GL
  rw [Dw,hb,ih];simp
theorem Uz:∀{l:Bs} {x:Bs},x∈Dw l→x≠[]
 | b::r,x,h=>by
  unfold Dw at h
  split at h
  ·rcases List.mem_cons.1 h with rfl|h
   ·simp
   ·exact Uz h
  ·cases h2:Dw r with
   | nil=>rw [h2] at h;simp at h;simp [h]
   | cons y ys =>
    rw [h2] at h;rcases List.mem_cons.1 h with rfl|h
    ·simp
    ·exact Uz (l:=r) (by rw [h2];simp [h])
def Whole (x:Bs):Prop:=∃y,x=y++[10]∧∀c∈y,c≠10
theorem Wm:∀{xs:List Bs} (r:Bs),(∀x∈xs,Whole x)→Dw (xs.flatten++r)=xs++Dw r
 | [],_,_=>rfl
 | x::xs,r,h=>by
  obtain ⟨y,rfl,hy⟩:=h x GL;have ih:=Wm (xs:=xs) r fun z hz=>h z JH;simp only [List.flatten_cons,List.append_assoc,List.cons_append,List.nil_append];rw [Sf _ hy,ih]
theorem Oj:∀(u:Nat) (c:UInt8),c∈Lib.decDigits u→48≤c.toNat∧c.toNat≤57:=by
 intro u
 induction u using Nat.strongRecOn with
 | ind u ih =>
  intro c hc;rw [Lib.decDigits] at hc;have hd:∀d:Nat,d < 10→48≤(UInt8.ofNat (48+d)).toNat∧(UInt8.ofNat (48+d)).toNat≤57:=fun d hd=>by
   rw [UInt8.toNat_ofNat'];omega
  split at hc
  ·simp only [List.mem_singleton] at hc;subst hc;exact hd _ GJ
  ·rcases List.mem_append.1 hc with h|h
   ·exact ih _ GJ c h
   ·simp only [List.mem_singleton] at h;subst h;exact hd _ GJ
theorem Ak9 {u:Nat} {b:UInt8} (hb:b.toNat < 48∨57 < b.toNat):∀c∈Lib.decDigits u,c≠b:=fun c hc e=>by
 have:=Oj u c hc;subst e;omega
theorem Dx:∀(n u:Nat),u < 10 ^ (n+1)→(Lib.decDigits u).length≤n+1
 | 0,u,h=>by rw [Lib.decDigits,dif_pos GW];simp
 | n+1,u,h=>by
  rw [Lib.decDigits]
  split
  ·simp
  ·have:=Dx n (u / 10) KO;simp;omega
theorem Xb (u:Nat):1≤(Lib.decDigits u).length:=by
 rw [Lib.decDigits];split <;> simp
def Aaq (h:Nat) (c:UInt8):Nat:=(41 * h+c.toNat+1) % 999979
def Ri (l:Bs):Nat:=l.foldl Aaq 7
theorem Aap (l:Bs):Ri l < 999979:=by
 have h:∀(l:Bs) (n:Nat),n < 999979→l.foldl Aaq n < 999979:=by
  intro l
  induction l with
  | nil=>intro n hn;simpa using hn
  | cons c l ih=>intro n hn;rw [List.foldl_cons];exact ih _ (by unfold Aaq;omega)
 exact h l 7 GJ
theorem Atn (l:Bs) (c:UInt8):Ri (l++[c])=Aaq (Ri l) c:=by simp [Ri]
def Ny (l:Bs):Bs:=l++35::Lib.decDigits (Ri l)
theorem Abz (l:Bs):(Ny l).length≤l.length+7:=by
 have:=Dx 5 (Ri l) (by have:=Aap l;omega);simp [Ny];omega
def Kh (k:Nat) (c r:Bs):Bs:=Lib.decDigits k++32::(c++64::r)
def J4 (k:Nat) (c r:Bs):Bs:=Ny (Kh k c r)++[10]
def Acm (c r:Bs):Bool:=Eu 1 c.length 160 && decide ((r.length:Int)≤200) && H9 c && H9 r && !Jk 64 c
theorem Acw {b:UInt8}:Pf b=true↔(32≤b.toNat∧b.toNat≤126)∧b≠35:=by
 simp [Pf,Eu];omega
theorem Acx {l:Bs} (h:H9 l=true):∀c∈l,(32≤c.toNat∧c.toNat≤126)∧c≠35:=fun c hc=>by
 unfold H9 at h;exact Acw.1 (List.all_eq_true.1 h c hc)
structure Xx (c r:Bs):Prop where
 c0:1≤c.length
 c1:c.length≤160
 r1:r.length≤200
 ct:∀b∈c,(32≤b.toNat∧b.toNat≤126)∧b≠35
 rt:∀b∈r,(32≤b.toNat∧b.toNat≤126)∧b≠35
 ca:∀b∈c,b≠64
theorem Ip {c r:Bs} (h:Acm c r=true):Xx c r:=by
 unfold Acm Eu at h;simp only [Bool.and_eq_true,decide_eq_true_eq,Bool.not_eq_true'] at h;obtain ⟨⟨⟨⟨⟨h1,h2⟩,h3⟩,h4⟩,h5⟩,h6⟩:=h;refine ⟨GJ,GJ,GJ,Acx h4,Acx h5,fun b hb e=>?_⟩;unfold Jk at h6;have:=List.any_eq_false.1 h6 b hb;simp [e] at this
theorem Acy {a b:UInt8} (h:a.toNat≠b.toNat):a≠b:=fun e=>h (by rw [e])
theorem Rm {k:Nat} {c r:Bs} (h:Xx c r):∀b∈Kh k c r,(32≤b.toNat∧b.toNat≤126)∧b≠35:=by
 intro b hb;unfold Kh at hb;simp only [List.mem_append,List.mem_cons] at hb;rcases hb with hb|rfl|hb|rfl|hb
 ·have:=Oj k b hb;exact ⟨GJ,Acy GU⟩
 ·decide
 ·exact h.ct b hb
 ·decide
 ·exact h.rt b hb
theorem Al0 {k:Nat} {c r:Bs} (h:Xx c r):Whole (J4 k c r):=by
 refine ⟨Ny (Kh k c r),rfl,fun b hb=>?_⟩;unfold Ny at hb;simp only [List.mem_append,List.mem_cons] at hb;rcases hb with hb|rfl|hb
 ·have:=Rm h b hb;exact Acy GU
 ·decide
 ·exact Ak9 GL b hb
theorem Aa6 {k:Nat} {c r:Bs} (hk:k≤59) (h:Xx c r):(Kh k c r).length≤364:=by
 have:=Dx 1 k GJ;have:=h.c1;have:=h.r1;simp [Kh];omega
theorem Abr {k:Nat} {c r:Bs} (hk:k≤59) (h:Xx c r):(J4 k c r).length≤372:=by
 have:=Aa6 hk h;have:=Abz (Kh k c r);simp [J4];omega
def Adi (k:Int) (c r:Bs):Option Bs:=if Eu 0 k 59 && Acm c r then some (J4 k.toNat c r) else none
theorem Are {k:Int} {c r x:Bs} (h:Adi k c r=some x):(0≤k∧k≤59)∧Xx c r∧x=J4 k.toNat c r:=by
 unfold Adi at h
 split at h
 ·rename_i h2;simp only [Bool.and_eq_true,Eu,decide_eq_true_eq] at h2;exact ⟨h2.1,Ip h2.2,by simpa using h.symm⟩
 ·cases h
def Agf (x:Bs):Bs:=Ll 32 (D5 35 x)
def Adg (x:Bs):Bs:=D5 64 (Agf x)
def Ado (x:Bs):Bs:=Ll 64 (Agf x)
theorem Ai1 {k:Nat} {c r s:Bs} (h:Xx c r):Agf (Kh k c r++35::s)=c++64::r:=by
 unfold Agf;rw [Aea fun b hb=>(Rm h b hb).2];exact Ahf (Ak9 GL)
theorem Alz (k:Nat) (c r:Bs):J4 k c r=Kh k c r++35::(Lib.decDigits (Ri (Kh k c r))++[10]):=by simp [J4,Ny]
theorem Aeq {k:Nat} {c r:Bs} (h:Xx c r):Adg (J4 k c r)=c:=by
 unfold Adg;rw [Alz,Ai1 h];exact Aea h.ca
theorem Afx {k:Nat} {c r:Bs} (h:Xx c r):Ado (J4 k c r)=r:=by
 unfold Ado;rw [Alz,Ai1 h];exact Ahf h.ca
def Xz (k:Nat) (x:Bs):Bool:=Adi k (Adg x) (Ado x) == some x
theorem S8 {k:Nat} {x:Bs}:Xz k x=true↔∃c r,k≤59∧Acm c r=true∧x=J4 k c r:=by
 unfold Xz;rw [beq_iff_eq];constructor
 ·intro h;have h2:=Are h;refine ⟨Adg x,Ado x,GJ,?_,by simpa using h2.2.2⟩;unfold Adi at h
  split at h
  ·rename_i h3;simp only [Bool.and_eq_true] at h3;exact h3.2
  ·cases h
 ·rintro ⟨c,r,hk,hg,rfl⟩;have hG:=Ip hg;rw [Aeq hG,Afx hG];unfold Adi;rw [if_pos (by simp [hg,Eu];omega)];simp
theorem Aig {k:Nat} {x:Bs} (h:Xz k x=true):Whole x:=by
 obtain ⟨c,r,_,hg,rfl⟩:=S8.1 h;exact Al0 (Ip hg)
theorem Azu {k:Nat} {x:Bs} (h:Xz k x=true):x.length≤372:=by
 obtain ⟨c,r,hk,hg,rfl⟩:=S8.1 h;exact Abr hk (Ip hg)
def acc:Nat→List Bs→List Bs
 | _,[]=>[]
 | k,x::r=>if Xz k x then x::acc (k+1) r else []
theorem Apr:∀(k:Nat) (xs:List Bs),acc k xs <+: xs
 | _,[]=>List.prefix_rfl
 | k,x::r=>by
  unfold acc
  split
  ·exact (List.cons_prefix_cons).2 ⟨rfl,Apr (k+1) r⟩
  ·exact List.nil_prefix
theorem Ajh:∀(k:Nat) (xs:List Bs),∀x∈acc k xs,∃j,Xz j x=true
 | _,[],x,h=>by simp [acc] at h
 | k,y::r,x,h=>by
  unfold acc at h
  split at h
  ·rename_i hy;rcases List.mem_cons.1 h with rfl|h
   ·exact ⟨k,hy⟩
   ·exact Ajh (k+1) r x h
  ·cases h
theorem Apq:∀(k:Nat) (xs:List Bs),k≤60→k+(acc k xs).length≤60
 | _,[],hk=>by simpa [acc] using hk
 | k,x::r,hk=>by
  unfold acc
  split
  ·rename_i h;obtain ⟨c,r',h2,_⟩:=S8.1 h;have:=Apq (k+1) r GJ;simp;omega
  ·simpa using hk
theorem Aui (k:Nat) (xs:List Bs):(acc k xs).flatten.length≤372 * (acc k xs).length:=by
 have h:=Ajh k xs;revert h;generalize acc k xs=ys;intro h
 induction ys with
 | nil=>simp
 | cons y ys ih =>
  obtain ⟨j,hj⟩:=h y GL;have h1:=Azu hj;have h2:=ih fun x hx=>h x IX;simp only [List.flatten_cons,List.length_append,List.length_cons];omega
theorem App:∀(k:Nat) (xs:List Bs) (m:Nat),acc k ((acc k xs).take m)=(acc k xs).take m
 | _,[],m=>by simp [acc]
 | k,x::r,m=>by
  by_cases h:Xz k x=true
  ·have e:acc k (x::r)=x::acc (k+1) r:=by simp [acc,h]
   rw [e];cases m with
   | zero=>simp [acc]
   | succ m=>simp [acc,h,App (k+1) r m]
  ·simp [acc,h]
theorem Um:∀(k:Nat) (xs ys:List Bs),acc k xs=xs→acc k (xs++ys)=xs++acc (k+xs.length) ys
 | _,[],_,_=>by simp
 | k,x::r,ys,h=>by
  unfold acc at h
  split at h
  ·rename_i hx;have h2:=Um (k+1) r ys GW;simp only [List.cons_append,acc,hx,if_true,h2,List.length_cons];rw [show k+1+r.length=k+(r.length+1) by omega]
  ·cases h
def Bn (s:Bs):List Bs:=acc 0 (Dw s)
theorem Wp {s:Bs} (h:(Bn s).flatten.length=s.length):Bn s=Dw s:=by
 obtain ⟨t,ht⟩:=Apr 0 (Dw s);have h2:=Q9 s;rw [←ht,List.flatten_append] at h2;have h3:t.flatten=[]:=by
  have:=congrArg List.length h2;rw [List.length_append] at this;have h4:(acc 0 (Dw s)).flatten.length=s.length:=h;exact List.eq_nil_of_length_eq_zero GJ
 have h4:t=[]:=by
  cases t with
  | nil=>rfl
  | cons x t =>
   have:=Uz (l:=s) (x:=x) (by rw [←ht];simp);simp at h3;exact absurd h3.1 this
 unfold Bn;rw [h4] at ht;simpa using ht
theorem Ub {s:Bs} (h:(Bn s).flatten.length=s.length):(Bn s).flatten=s:=by rw [Wp h,Q9]
theorem Js (s:Bs):(Bn s).flatten.length≤22320∧(Bn s).length≤60:=by
 have h1:=Aui 0 (Dw s);have h2:=Apq 0 (Dw s) GJ;unfold Bn;omega
theorem Rb {xs:List Bs} (h:acc 0 xs=xs) (r:Bs):Bn (xs.flatten++r)=xs++acc xs.length (Dw r):=by
 unfold Bn;rw [Wm r (fun x hx=>by rw [←h] at hx;obtain ⟨j,hj⟩:=Ajh 0 _ x hx;exact Aig hj),Um 0 xs _ h];simp
def Ki:Nat→List Bs→List Nat
 | n,[]=>[n]
 | n,x::r=>n::Ki (n+x.length) r
theorem Ahn {m:Nat}:∀{n:Nat} {xs:List Bs},m∈Ki n xs↔∃j,j≤xs.length∧m=n+(xs.take j).flatten.length
 | n,[]=>by simp [Ki]
 | n,x::r=>by
  unfold Ki;rw [List.mem_cons,Ahn];constructor
  ·rintro (rfl|⟨j,hj,rfl⟩)
   ·exact ⟨0,GL,GL⟩
   ·exact ⟨j+1,JL,GU⟩
  ·rintro ⟨j,hj,rfl⟩;cases j with
   | zero=>left;simp
   | succ j=>right;exact ⟨j,JL,GU⟩
theorem Yv:∀{n:Nat} {xs:List Bs},(Ki n xs).getLast?=some (n+xs.flatten.length)
 | n,[]=>by simp [Ki]
 | n,x::r=>by
  have ih:=Yv (n:=n+x.length) (xs:=r);unfold Ki;rw [List.getLast?_cons];rw [ih];simp;omega
theorem Ro:∀{n:Nat} {xs:List Bs},(Ki n xs).length=xs.length+1
 | n,[]=>rfl
 | n,x::r=>by simp [Ki,Ro]
theorem Aex:∀{n:Nat} {xs:List Bs} {x:Bs},Ki n (xs++[x])=Ki n xs++[n+xs.flatten.length+x.length]
 | n,[],x=>by simp [Ki]
 | n,y::r,x=>by
  have:=Aex (n:=n+y.length) (xs:=r) (x:=x);simp only [List.cons_append,Ki,this];simp;omega
def Apf (d p:Bs) (n:Int):Bool:=decide ((Bn (d++p)).flatten.length=d.length+p.length) && (Ki 0 (Bn (d++p))).contains d.length && decide (n=(Bn (d++p)).length)
def H2 (d p:Bs) (n:Int):Bool:=decide (d.length+p.length≤30000) && (decide ((Bn (d++p)).flatten.length=d.length+p.length) && decide ((Bn d).flatten.length=d.length) && decide (((Bn (d++p)).length:Int)=n))
theorem Ag9 {d p:Bs} (h:(Bn (d++p)).flatten.length=d.length+p.length):d.length∈Ki 0 (Bn (d++p))↔(Bn d).flatten.length=d.length:=by
 rw [Ahn];have hA:(Bn (d++p)).flatten=d++p:=Ub (by rw [h];simp);constructor
 ·rintro ⟨j,hj,e⟩;rw [Nat.zero_add] at e;have hd:((Bn (d++p)).take j).flatten=d:=by
   have h1:((Bn (d++p)).take j).flatten++((Bn (d++p)).drop j).flatten=d++p:=by rw [←List.flatten_append,List.take_append_drop,hA]
   exact (List.append_inj h1 e.symm).1
  have h2:=Rb (xs:=(Bn (d++p)).take j) (App 0 _ j) [];rw [List.append_nil,hd] at h2;rw [h2];simp [Dw,acc,hd]
 ·intro hd;have hf:=Wp hd;have hD:(Bn d).flatten=d:=Ub hd;have h2:=Rb (xs:=Bn d) (by rw [hf];exact hf) p;rw [hD] at h2;refine ⟨(Bn d).length,by rw [h2];simp,?_⟩;rw [h2];simp [hD]
theorem Ax2 (d p:Bs) (n:Int):Apf d p n=H2 d p n:=by
 unfold Apf H2;by_cases h:(Bn (d++p)).flatten.length=d.length+p.length
 ·have h1:=Js (d++p);have h2:=Ag9 h;have h3:decide (d.length+p.length≤30000)=true:=by simp;omega
  have h4:(Ki 0 (Bn (d++p))).contains d.length=decide ((Bn d).flatten.length=d.length):=by
   rw [Bool.eq_iff_iff,decide_eq_true_iff,List.contains_iff_mem];exact h2
  rw [h3,h4];have h5:decide (n=((Bn (d++p)).length:Int))=decide (((Bn (d++p)).length:Int)=n):=by
   rw [Bool.eq_iff_iff];simp [eq_comm]
  rw [h5];cases decide ((Bn d).flatten.length=d.length) <;> simp [h]
 ·rw [decide_eq_false h];simp
def Hc (k:Nat):Bs:=Lib.decDigits k++[32]
def Si (s:Bs) (k:Nat):(Bs × Bs) × Bool :=
 let text:=D5 35 s
 if text.length < (Hc k).length∨text.take (Hc k).length≠Hc k then (([],[]),false)
 else
  let rest:=text.drop (Hc k).length
  if (D5 64 rest).length=rest.length then (([],[]),false)
  else ((D5 64 rest,rest.drop ((D5 64 rest).length+1)),Acm (D5 64 rest) (rest.drop ((D5 64 rest).length+1)) && (J4 k (D5 64 rest) (rest.drop ((D5 64 rest).length+1)) == s++[10]))
theorem Aml {k:Nat} {s:Bs} (hk:k≤59):(Si s k).2=Xz k (s++[10]):=by
 rw [Bool.eq_iff_iff,S8];constructor
 ·intro h;unfold Si at h;dsimp only at h
  split at h
  ·cases h
  ·split at h
   ·cases h
   ·simp only [Bool.and_eq_true,beq_iff_eq] at h;exact ⟨_,_,hk,h.1,h.2.symm⟩
 ·rintro ⟨c,r,_,hg,e⟩;have hG:=Ip hg;have e2:s=Kh k c r++35::Lib.decDigits (Ri (Kh k c r)):=by
   unfold J4 at e;exact (List.append_cancel_right e)
  have ht:D5 35 s=Kh k c r:=by rw [e2];exact Aea fun b hb=>(Rm hG b hb).2
  have hb:Kh k c r=Hc k++(c++64::r):=by simp [Kh,Hc]
  unfold Si;simp only [ht,hb,List.length_append,List.take_left',List.drop_left',ne_eq,not_true_eq_false,or_false];rw [if_neg GL,Aea hG.ca,if_neg GL];have hd:(c++64::r).drop (c.length+1)=r:=by
   rw [←List.drop_drop];simp
  simp only [hd,hg,Bool.true_and];rw [e];simp
theorem As8 {k:Nat} {s:Bs} (h:(Si s k).2=true):(Si s k).1=(Adg (s++[10]),Ado (s++[10])):=by
 unfold Si at h ⊢;dsimp only at h ⊢
 split at h
 ·cases h
 ·rename_i h1;rw [if_neg h1]
  split at h
  ·cases h
  ·rename_i h2;rw [if_neg h2];simp only [Bool.and_eq_true,beq_iff_eq] at h;have hG:=Ip h.1;rw [←h.2,Aeq hG,Afx hG]
def bz (l:Bs):ByteArray:=⟨l.toArray⟩
theorem Jq (l:Bs):(bz l).data.toList=l:=by simp [bz]
theorem V8 (s:ByteArray):bz s.data.toList=s:=by simp [bz]
theorem Jb (l:Bs):(bz l).size=l.length:=by simp [bz,ByteArray.size]
theorem Cb (s:ByteArray):s.data.toList.length=s.size:=by simp
theorem Bbs (a b:Bs):bz a++bz b=bz (a++b):=by apply ByteArray.ext;simp [bz,ByteArray.data_append]
theorem Hb (s t:ByteArray):(s++t).data.toList=s.data.toList++t.data.toList:=by simp [ByteArray.data_append]
theorem Rf {a b:ByteArray} (h:a=b):Ending.returned (.string a)=.returned (.string b):=by rw [h]
theorem Yn (w:World) (k:Nat) (os:Array Obj):Below w.heap.size w (Go.Sort.grow (w.drewN k) os):=by
 refine ⟨rfl,rfl,rfl,?_,fun i hi=>?_⟩
 ·simp [Go.Sort.grow,World.drewN]
 ·simp [Go.Sort.grow,World.drewN,Array.getElem?_append_left hi]
def Bex:Bx Unit where
 sz:=0
 Lo w cs _ F:=cs=[]∧(Lib.TabIs prog w "internal/strconv.uint64pow10" .u64 Lib.pow10Tab∧(∃m,w.cell? ⟨0,0,none⟩=some (.int .i64 m))∧(∃tp p,w.var? prog "strconv.ErrSyntax" = some #[.iface tp p])∧(∃tp p,w.var? prog "strconv.ErrRange" = some #[.iface tp p]))∧F=[1,0,4,5]∧∀b∈F,b < w.heap.size
 len h:=by simp [h.1]
 lt h:=h.2.2.2
 frame h hF:=by
  obtain ⟨h1,⟨h2,h3,h4,h5⟩,rfl,h6⟩:=h;have e0:=hF 1 GL;have e1:=hF 0 GL;have e2:=hF 4 GL;have e3:=hF 5 GL;refine ⟨h1,⟨?_,?_,?_,?_⟩,rfl,fun b hb=>?_⟩
  ·unfold Lib.TabIs World.var? at h2 ⊢;rw [show prog.globalNamed "internal/strconv.uint64pow10" = some 1 by kernel_rfl] at h2 ⊢;simp only [Option.bind_some] at h2 ⊢;rw [e0];exact h2
  ·obtain ⟨m,hm⟩:=h3;refine ⟨m,?_⟩;unfold World.cell? at hm ⊢;rw [e1];exact hm
  ·obtain ⟨tp,p,hm⟩:=h4;refine ⟨tp,p,?_⟩;unfold World.var? at hm ⊢;rw [show prog.globalNamed "strconv.ErrSyntax" = some 4 by kernel_rfl] at hm ⊢;simp only [Option.bind_some] at hm ⊢;rw [e2];exact hm
  ·obtain ⟨tp,p,hm⟩:=h5;refine ⟨tp,p,?_⟩;unfold World.var? at hm ⊢;rw [show prog.globalNamed "strconv.ErrRange" = some 5 by kernel_rfl] at hm ⊢;simp only [Option.bind_some] at hm ⊢;rw [e3];exact hm
  ·have e:=hF b hb;have:=h6 b hb;rw [Array.getElem?_eq_getElem this] at e;exact (Array.getElem?_eq_some_iff.1 e).1
theorem Pu:∀n:Nat,n < 10→(⟨#[48,49,50,51,52,53,54,55,56,57]⟩:ByteArray).extract n (n+1)=⟨#[UInt8.ofNat (48+n)]⟩:=by decide
theorem Xh:∀(k n:Nat) (w:World),n < 10 ^ (k+1)→n≤999999999999999999 →
  Calls prog 77 #[.int .i64 (n:Int)] w fun e w'=>e=.returned (.string (bz (Lib.decDigits n)))∧∃j,w'=w.drewN j:=by
 intro k
 induction k with
 | zero =>
  intro n w h1 h2;have h3:n < 10:=by simpa using h1
  have hd:=Lib.hid (Pu n h3);have hn:¬((n:Int) < 0):=by omega
  go_enter func77,ntmps77
  go_wp2_with fail
  go_ret
  exact DI
 | succ k ih =>
  intro n w h1 h2;by_cases h3:n < 10
  ·have hd:=Lib.hid (Pu n h3);have hn:¬((n:Int) < 0):=by omega
   go_enter func77,ntmps77
   go_wp2_with fail
   go_ret
   exact DI
  ·have h4:n / 10 < 10 ^ (k+1):=by rw [Nat.pow_succ] at h1;omega
   have hc:=fun w=>ih (n / 10) w h4 GJ;rw [show ((n / 10:Nat):Int)=(n:Int) / 10 from by omega] at hc;have hn:¬((n:Int) < 0):=by omega
   have h5:¬((n:Int) < 10):=by omega
   have hd:=Lib.hid (Pu (n % 10) GJ);have b0:(0:Int)≤(n:Int) % 10:=by omega
   have b1:(n:Int) % 10≤9:=by omega
   have e0:IntKind.i64.wrap ((n:Int) / 10)=(n:Int) / 10:=by rw [IntKind.wrap_i64];omega
   have e1:IntKind.i64.wrap ((n:Int) % 10)=(n:Int) % 10:=by rw [IntKind.wrap_i64];omega
   have e2:IntKind.i64.wrap ((n:Int) % 10+1)=(n:Int) % 10+1:=by rw [IntKind.wrap_i64];omega
   have e3:((n:Int) % 10).toNat=n % 10:=by omega
   have e4:((n:Int) % 10+1).toNat=n % 10+1:=by omega
   have e5:(n:Int).tmod 10=(n:Int) % 10:=Int.tmod_eq_emod_of_nonneg GJ;have e6:(n:Int).tdiv 10=(n:Int) / 10:=Int.tdiv_eq_ediv_of_nonneg GJ;have hsl:∀wx,(Instr.slice 9 (.string ⟨#[48,49,50,51,52,53,54,55,56,57]⟩) (some (.int .i64 ((n:Int) % 10))) (some (.int .i64 ((n:Int) % 10+1))) none).run prog wx=.ok (.string ⟨#[UInt8.ofNat (48+n % 10)]⟩) wx:=fun wx=>by
    exact CO
   have hD:(bz (Lib.decDigits (n / 10))).size≤18:=by rw [Jb];exact Dx 17 _ GJ
   have hd1:(⟨#[UInt8.ofNat (48+n % 10)]⟩:ByteArray).size≤1:=by simp [ByteArray.size]
   have hR:Hid (bz (Lib.decDigits (n / 10))++⟨#[UInt8.ofNat (48+n % 10)]⟩=bz (Lib.decDigits n)):=by
    refine Lib.hid ?_
    conv=>rhs;rw [Lib.decDigits,dif_neg GJ,←Bbs]
    rfl
   generalize bz (Lib.decDigits (n / 10))=D at *;generalize (⟨#[UInt8.ofNat (48+n % 10)]⟩:ByteArray)=d at *;clear ih h1 e3 e4
   go_enter func77,ntmps77
   go_wp2_with fail
   go_quiet ((go_at_call 77;exact Calls.quiet_of (v:=.string D) (hc (World.drewN _ _))))
   go_wp2_with fail
   go_ret
   refine ⟨Rf ?_,_,rfl⟩;exact hR.out
def Gc (FT:List Nat):Pc:=.isv Bex (.agg #[]) () FT
theorem Gc.env {w:World} {FT:List Nat} (h:(Gc FT).P w):Lib.TabIs prog w "internal/strconv.uint64pow10" .u64 Lib.pow10Tab∧(∃m,w.cell? ⟨0,0,none⟩=some (.int .i64 m))∧(∃tp p,w.var? prog "strconv.ErrSyntax" = some #[.iface tp p])∧(∃tp p,w.var? prog "strconv.ErrRange" = some #[.iface tp p]):=by
 obtain ⟨cs,_,h⟩:=h;exact h.2.1
theorem Yz (n:Int) (h0:-9223372036854775808≤n) (h1:n≤9223372036854775807) (FT:List Nat) (w:World) (hT:(Gc FT).P w) :
  Calls prog 74 #[.int .i64 n] w fun e w'=>e=.returned (.string (bz (Lib.itoa n)))∧Below w.heap.size w w':=by
 refine (Tryz.strconv_Itoa n h0 h1 w (Gc.env hT).1).mono ?_;rintro e w' ⟨rfl,k,os,rfl⟩;exact ⟨rfl,Yn w k os⟩
theorem Ahv {w:World}:∀{l:List ByteArray},(∀s∈l,s.size≤maxLen)→Cw A8 w (l.map Value.string) l []
 | [],_=>⟨rfl,rfl⟩
 | s::l,h=>⟨[.string s],l.map Value.string,[],[],GL,GL,⟨rfl,h s GL,rfl⟩,Ahv fun t ht=>h t (by simp [ht])⟩
theorem U9 (sep:ByteArray) (n:Nat):∀(k:Nat) (s:ByteArray),s.size≤n→∀t∈Lib.splitB sep 0 k s,t.size≤n
 | 0,s,h,t,ht=>by rw [Lib.splitB_zero,List.mem_singleton] at ht;subst ht;exact h
 | k+1,s,h,t,ht=>by
  unfold Lib.splitB at ht
  split at ht
  ·rw [List.mem_singleton] at ht;subst ht;exact h
  ·rcases List.mem_cons.1 ht with rfl|ht
   ·simp [ByteArray.size_extract];omega
   ·exact U9 sep n k _ (by simp [ByteArray.size_extract];omega) t ht
theorem Baf (s sep:ByteArray) (hs:s.size≤1000000000) (h1:1≤sep.size) (FT:List Nat) (w:World) (hT:(Gc FT).P w) :
  Calls prog 64 #[.string s,.string sep] w (Ul A8 9 (Lib.splitB sep 0 (Lib.countB s sep) s) w):=by
 obtain ⟨m,hm⟩:=(Gc.env hT).2.1;refine (Tryz.strings_Split s sep m w GJ hm h1).mono ?_;rintro e w2 ⟨rfl,rfl⟩;have hl:=Lib.splitB_all sep h1 0 (Lib.countB s sep) s rfl;have hc:=Lib.countB_le sep h1 s.size s (Nat.le_refl _);have hb:Below w.heap.size w (w.alloc (.cells ((Lib.splitB sep 0 (Lib.countB s sep) s).map Value.string).toArray 9)):=V2 _ _
 refine ⟨_,[w.heap.size],rfl,.inr ⟨w.heap.size,Lib.countB s sep+1,(Lib.splitB sep 0 (Lib.countB s sep) s).map Value.string,[],[],by rw [hl],by rw [List.append_nil];exact Ha.made _ _ _,GJ,GZ,by simp [hl,A8],Ahv fun t ht=>?_,rfl⟩,GL,GL,hb⟩;have:=U9 sep s.size _ s (Nat.le_refl _) t ht;unfold maxLen;omega
theorem Ba9 (n:Nat) (hn:n≤999999) (w:World):Calls prog 77 #[.int .i64 (n:Int)] w fun e w2=>e=.returned (.string (bz (Lib.decDigits n)))∧Below w.heap.size w w2:=by
 refine (Xh 5 n w GJ GJ).mono ?_;rintro e w2 ⟨rfl,j,rfl⟩;exact ⟨rfl,Dl (Below.refl _ _) j⟩
def Mq (i:Nat) (e:ByteArray):ByteArray:=bz (Lib.itoa ((i:Nat):Int))++⟨#[32]⟩++e
def Tj (i:Nat) (es:List ByteArray):List ByteArray:=es.map (Mq i)
def Ms (i:Nat):Int:=1+((i:Nat):Int) % 3
section
variable {c:Cx} {fr:Fr} {H:List Pc} {Φ:Gl}
theorem Qh {a:Option Addr} {n cp:Nat} {xs:List Av} {F:List Nat} (i:Nat) (h:∀(hi:i < xs.length) (b o:Nat),a=some ⟨b,o,none⟩→xs[i].data.size≤maxLen→T c fr (.cel b (o+i * 5) [.int .i64 xs[i].Ct,.int .i64 xs[i].Af,.int .i64 xs[i].Ao,.int .i64 xs[i].Ff,.string xs[i].data]::H) Φ) (hm:.sl Aj (.slice a n cp) xs F∈H:=by exact Bp) (hi:i < xs.length:=by omega):T c fr H Φ:=.mk fun ac w s g=>by
 exact CP
theorem Arn {t:TypeId} {a:Option Addr} {n cp:Nat} {xs:List Av} {F:List Nat} {S:List Pc} (i:Nat) (h:∀(_:i < xs.length) g A B,a=some ⟨g,0,none⟩→F=[g]→xs[i].data.size≤maxLen→At4 Aj t g (.slice (some ⟨g,0,none⟩) n cp) xs i A B→T c fr (.row g t (0+i * 5) A [.int .i64 xs[i].Ct,.int .i64 xs[i].Af,.int .i64 xs[i].Ao,.int .i64 xs[i].Ff,.string xs[i].data] B::S) Φ) (hp:Cz H (.ow Aj t (.slice a n cp) xs F) S:=by exact Df) (hi:i < xs.length:=by omega):T c fr H Φ :=
 R5 I3 i (fun hi g A cs B ha hF hr hh=>by obtain ⟨rfl,s1, -⟩:=hr default;exact h hi g A B ha hF s1 hh) hp rfl hi
theorem C8 (x:Av) (s1:x.data.size≤maxLen) (w:World):Cw Aj w [.int .i64 x.Ct,.int .i64 x.Af,.int .i64 x.Ao,.int .i64 x.Ff,.string x.data] [x] []:=⟨_,[],[],[],GL,GL,⟨rfl,s1,rfl⟩,rfl,rfl⟩
end
theorem Kd {p:Prop} (h:p:=by first|omega|(simp only [List.length_append,List.length_take,List.length_drop,List.length_cons,List.length_nil,List.length_set,List.length_replicate];omega)):p:=h
def EC (m:Nat):Bx (List Value) where
 sz:=m
 Lo _ cs x F:=cs=x∧(x.length=m∧∀u∈x,u.oneCell'=true)∧F=[]
 len h:=by obtain ⟨rfl,⟨h,_⟩,_⟩:=h;exact h
 lt h:=by obtain ⟨_,_,rfl⟩:=h;simp
 frame h _:=h
theorem Lh (m:Nat):Zp (EC m):=fun h=>h.2.2
theorem Aop (m:Nat):One (EC m):=fun h=>by obtain ⟨rfl,⟨_,h⟩,_⟩:=h;exact h
theorem Ajo {m:Nat} {w:World}:∀{ys:List (List Value)} {cs:List Value} {F:List Nat},Cw (EC m) w cs ys F→cs=ys.flatten∧F=[]∧∀y∈ys,y.length=m
 | [],_,_,h=>⟨h.1,h.2,GL⟩
 | y::r,_,_,h=>by
  obtain ⟨c1,c2,F1,F2,rfl,rfl,⟨rfl,⟨h1,_⟩,rfl⟩,h2⟩:=h;obtain ⟨rfl,rfl,h4⟩:=Ajo h2;refine ⟨GL,rfl,fun z hz=>?_⟩;rcases List.mem_cons.1 hz with rfl|hz
  ·exact h1
  ·exact h4 z hz
theorem Ap2 {α:Type} {E:Bx α} {w w':World} (one:One E):∀{xs:List α} {cs:List Value} {G:List Nat},Cw E w cs xs G→∃ys:List (List Value),ys.length=xs.length∧cs=ys.flatten∧(∀y∈ys,y.length=E.sz)∧Cw (EC E.sz) w' cs ys []
 | [],_,_,h=>⟨[],rfl,h.1,GL,h.1,rfl⟩
 | x::r,_,_,h=>by
  obtain ⟨c1,c2,F1,F2,rfl,rfl,h1,h2⟩:=h;obtain ⟨ys,e1,rfl,e2,h3⟩:=Ap2 (w':=w') one h2;refine ⟨c1::ys,by simp [e1],GL,fun z hz=>?_,c1,ys.flatten,[],[],rfl,rfl,⟨rfl,⟨E.len h1,one h1⟩,rfl⟩,h3⟩;rcases List.mem_cons.1 hz with rfl|hz
  ·exact E.len h1
  ·exact e2 z hz
theorem Alh {m:Nat}:∀{ys:List (List Value)},(∀y∈ys,y.length=m)→ys.flatten.length=ys.length * m
 | [],_=>by simp
 | y::r,h=>by
  have:=Alh (m:=m) (ys:=r) fun z hz=>h z JH;rw [List.flatten_cons,List.length_append,this,h y GL,List.length_cons,Nat.add_mul];omega
theorem Cw.cut {α:Type} {E:Bx α} {w:World} {c1 c2:List Value} {x1 x2:List α} {G:List Nat} (h:Cw E w (c1++c2) (x1++x2) G) (hl:c1.length=x1.length * E.sz):∃G1 G2,G=G1++G2∧Cw E w c1 x1 G1∧Cw E w c2 x2 G2:=by
 obtain ⟨d1,d2,G1,G2,he,hG,h1,h2⟩:=h.split;have:d1.length=c1.length:=by rw [h1.len,hl]
 obtain ⟨rfl,rfl⟩:=List.append_inj he this.symm;exact ⟨G1,G2,hG,h1,h2⟩
theorem Aw9:∀{N:List Pc},(fp N).Nodup→Sq N
 | [],_=>trivial
 | p::N,h=>⟨fun q hq _ b hb hqb=>Ca h hb (Q0.2 ⟨q,hq,hqb⟩),Aw9 (List.nodup_append.1 h).2.1⟩
theorem St.swap {G D w0 H M N R w} (s:St G D w0 H w) (hM:Ex H M R) (hm:∀p∈M,p.mu=true) (hN:O2 N w) (hnd:(fp M).Nodup→(fp N).Nodup) (hF:∀b∈fp N,b∈fp M):St G D w0 (N++R) w :=
 have s1:St G D w0 (M++R) w:=by simpa using hM.st (X:=[]) IB
 have sM:Sq M:=by
  have:∀(M:List Pc),Sq (M++R)→Sq M:=by
   intro M
   induction M with
   | nil=>intro _;trivial
   | cons p M ih=>intro h;exact ⟨fun q hq=>h.1 q HG,ih h.2⟩
  exact this M s1.sep
 have hn:(fp M).Nodup:=Ap3 KG (fun p hp=>s1.on p IR) sM
 St.turn (M:=M) (N:=N) s1 (Dn.refl _ w) hN (Aw9 (hnd hn)) fun p hp b hb=>by
  obtain ⟨q,hq,hqb⟩:=Q0.1 (hF b (Q0.2 ⟨p,hp,hb⟩));exact .inr (.inl ⟨q,hq,hm q hq,hqb⟩)
section
variable {c:Cx} {fr:Fr} {H:List Pc} {Φ:Gl}
theorem Ab6 {α:Type} {E:Bx α} (one:One E) {t:TypeId} {v:Value} {xs:List α} {F:List Nat} {S:List Pc} {m:Nat} (hm:E.sz=m)
  (h:∀(ys:List (List Value)) F0 G,ys.length=xs.length→(∀y∈ys,y.length=m)→T c fr (.ow (EC m) t v ys F0::.flat E ys.flatten xs G::S) Φ) (hp:Cz H (.ow E t v xs F) S:=by exact Df):T c fr H Φ:=.mk fun a w s g=>by
 subst hm;have s1:=s.pick hp;obtain ⟨hnd,ho⟩:=s1.on (.ow E t v xs F) GL;rcases ho with ⟨rfl,rfl,rfl⟩|⟨b,cap,cs,rest,G,rfl,h2,h3,h4,h5,h6,rfl⟩
 ·refine (h [] [] [] rfl GL).h a w (s1.swap (M:=[_]) (N:=[.ow (EC E.sz) t (.slice none 0 0) [] [],.flat E [] [] []]) (.cons .here .nil) IT ?_ (fun _=>by simp [fp,Pc.F]) KC) g;intro p hp;simp only [List.mem_cons,List.not_mem_nil,or_false] at hp;rcases hp with rfl|rfl
  ·exact ⟨GL,.inl ⟨rfl,rfl,rfl⟩⟩
  ·exact ⟨GL,rfl,rfl⟩
 ·obtain ⟨ys,e1,rfl,e2,h7⟩:=Ap2 (w':=w) one h6;refine (h ys [b] G e1 e2).h a w (s1.swap (M:=[_]) (N:=[.ow (EC E.sz) t (.slice (some ⟨b,0,none⟩) xs.length cap) ys [b],.flat E ys.flatten xs G]) (.cons .here .nil) IT ?_ (fun hn=>by simpa [fp,Pc.F] using hn) KC) g;intro p hp;simp only [List.mem_cons,List.not_mem_nil,or_false] at hp;rcases hp with rfl|rfl
  ·exact ⟨GL,.inr ⟨b,cap,ys.flatten,rest,[],by rw [e1],h2,by rw [e1];exact h3,h4,h5,h7,rfl⟩⟩
  ·exact ⟨(List.nodup_cons.1 hnd).2,h6⟩
theorem Axk {α:Type} {E:Bx α} {t:TypeId} {a:Option Addr} {n cp:Nat} {ys:List (List Value)} {cs:List Value} {xs:List α} {F G:List Nat} {S S2:List Pc} {m:Nat}
  (h:T c fr (.ow E t (.slice a n cp) xs (F++G)::S2) Φ) (hm:E.sz=m) (hc:cs=ys.flatten) (hl:ys.length=xs.length) (hp:Cz H (.ow (EC m) t (.slice a n cp) ys F) S:=by exact Df) (hp2:Cz S (.flat E cs xs G) S2:=by exact Df):T c fr H Φ:=.mk fun ac w s g=>by
 subst hm hc;have a1:=s.on _ hp.mem;have a2:=s.on _ (hp.sub _ hp2.mem);obtain ⟨nd1,o1⟩:=a1;obtain ⟨nd2,f2⟩:=a2;refine h.h ac w (s.swap (M:=[.ow (EC E.sz) t (.slice a n cp) ys F,.flat E ys.flatten xs G]) (N:=[.ow E t (.slice a n cp) xs (F++G)]) (.cons hp (.cons hp2 .nil)) (by intro p hp;simp at hp;rcases hp with rfl|rfl <;> rfl) ?_ (fun hn=>by simpa [fp,Pc.F] using hn) KC) g;have hnd:(F++G).Nodup:=by
  have s2:=s.pick hp;refine List.nodup_append.2 ⟨nd1,nd2,fun b hb b' hb' e=>?_⟩;subst e;exact s2.sep.1 (.flat E ys.flatten xs G) hp2.mem rfl b hb hb'
 intro p hp;simp only [List.mem_cons,List.not_mem_nil,or_false] at hp;subst hp;refine ⟨hnd,?_⟩;rcases o1 with ⟨h1,rfl,rfl⟩|⟨b,cap,cs,rest,G',h1,h2,h3,h4,h5,h6,rfl⟩
 ·cases h1;have:xs=[]:=List.eq_nil_of_length_eq_zero hl.symm;subst this;exact .inl ⟨rfl,rfl,by simpa using f2.2⟩
 ·cases h1;obtain ⟨rfl,rfl, -⟩:=Ajo h6;exact .inr ⟨b,cp,ys.flatten,rest,G,by rw [hl],h2,by rw [←hl];exact h3,h4,h5,f2,rfl⟩
theorem Axl {α:Type} {E:Bx α} {ys:List (List Value)} {xs:List α} {G:List Nat} {S:List Pc} (i:Nat) (hi:i < xs.length) (hl:ys.length=xs.length) (hm:∀y∈ys,y.length=E.sz)
  (h:∀G1 Gi G2,T c fr (.flat E (ys.take i).flatten (xs.take i) G1::.own E (.agg (ys[i]'GJ).toArray) xs[i] Gi::.flat E (ys.drop (i+1)).flatten (xs.drop (i+1)) G2::S) Φ) (hp:Cz H (.flat E ys.flatten xs G) S:=by exact Df):T c fr H Φ:=.mk fun ac w s g=>by
 have s1:=s.pick hp;obtain ⟨hnd,hf⟩:=s1.on (.flat E ys.flatten xs G) GL;have e1:ys.flatten=(ys.take i).flatten++(ys[i]'GJ++(ys.drop (i+1)).flatten):=by
  rw [←List.flatten_cons,←List.drop_eq_getElem_cons,←List.flatten_append,List.take_append_drop]
 have e2:xs=xs.take i++([xs[i]]++xs.drop (i+1)):=by simp
 have hf2:Cw E w ((ys.take i).flatten++(ys[i]'GJ++(ys.drop (i+1)).flatten)) (xs.take i++([xs[i]]++xs.drop (i+1))) G:=by rw [←e1,←e2];exact hf
 obtain ⟨G1,G',rfl,f1,f2⟩:=hf2.cut (by rw [Alh (m:=E.sz) fun y hy=>hm y (List.mem_of_mem_take hy)];simp [hl]);obtain ⟨Gi,G2,rfl,⟨d1,d2,F1,F2,h1,h2,h3,h4⟩,f3⟩:=f2.cut (by rw [hm _ (List.getElem_mem _)];simp);obtain ⟨rfl,rfl⟩:=h4;simp only [List.append_nil] at h1 h2;subst h1 h2;refine (h G1 Gi G2).h ac w (s1.swap (M:=[_]) (N:=[.flat E (ys.take i).flatten (xs.take i) G1,.own E (.agg (ys[i]'GJ).toArray) xs[i] Gi,.flat E (ys.drop (i+1)).flatten (xs.drop (i+1)) G2]) (.cons .here .nil) IT ?_ (fun hn=>by simpa [fp,Pc.F] using hn) KC) g
 have hn1:=List.nodup_append.1 hnd;have hn2:=List.nodup_append.1 hn1.2.1;intro p hp;simp only [List.mem_cons,List.not_mem_nil,or_false] at hp;rcases hp with rfl|rfl|rfl
 ·exact ⟨hn1.1,f1⟩
 ·exact ⟨hn2.1,_,rfl,h3⟩
 ·exact ⟨hn2.2.1,f3⟩
theorem Aqp {α:Type} {E:Bx α} {c1 c2:List Value} {x1 x2:List α} {G1 G2:List Nat} {S S2:List Pc} (h:T c fr (.flat E (c1++c2) (x1++x2) (G1++G2)::S2) Φ) (hp:Cz H (.flat E c1 x1 G1) S:=by exact Df) (hp2:Cz S (.flat E c2 x2 G2) S2:=by exact Df):T c fr H Φ:=.mk fun ac w s g=>by
 obtain ⟨nd1,f1⟩:=s.on _ hp.mem;obtain ⟨nd2,f2⟩:=s.on _ (hp.sub _ hp2.mem);refine h.h ac w (s.swap (M:=[.flat E c1 x1 G1,.flat E c2 x2 G2]) (N:=[.flat E (c1++c2) (x1++x2) (G1++G2)]) (.cons hp (.cons hp2 .nil)) (by intro p hp;simp at hp;rcases hp with rfl|rfl <;> rfl) ?_ (fun hn=>by simpa [fp,Pc.F] using hn) KC) g;intro p hq;simp only [List.mem_cons,List.not_mem_nil,or_false] at hq;subst hq;refine ⟨List.nodup_append.2 ⟨nd1,nd2,fun b hb b' hb' e=>?_⟩,f1.append f2⟩;subst e;exact (s.pick hp).sep.1 (.flat E c2 x2 G2) hp2.mem rfl b hb hb'
def Ba0 {α:Type} (E:Bx α) (t:TypeId) (g:Nat) (v:Value) (xs:List α) (i:Nat) (A B c1 c2:List Value):Prop :=
 ∀w cs y G1 Gi G2,Ha w g t (A++cs++B)→Cw E w c1 (xs.take i) G1→E.Lo w cs y Gi→Cw E w c2 (xs.drop (i+1)) G2→Ow E t w v (xs.set i y) (g::(G1++Gi++G2))
theorem Aba {α:Type} {E:Bx α} {t:TypeId} {a:Option Addr} {n cp m:Nat} {xs:List α} {F:List Nat} {S:List Pc} (i:Nat)
  (h:∀(_:i < xs.length) g A cs B c1 c2 G1 Gi G2,a=some ⟨g,0,none⟩→n=xs.length→n≤cp→Ba0 E t g (.slice (some ⟨g,0,none⟩) n cp) xs i A B c1 c2→T c fr (.row g t (0+i * m) A cs B::.own E (.agg cs.toArray) xs[i] Gi::.flat E c1 (xs.take i) G1::.flat E c2 (xs.drop (i+1)) G2::S) Φ)
  (hm:E.sz=m) (hi:i < xs.length) (hp:Cz H (.ow E t (.slice a n cp) xs F) S:=by exact Df):T c fr H Φ:=.mk fun ac w s ag=>by
 subst hm;have s1:=s.pick hp;obtain ⟨hnd,ho⟩:=s1.on (.ow E t (.slice a n cp) xs F) GL;rcases ho with ⟨-,rfl, -⟩|⟨g,cap,cs0,rest,G,h1,h2,h3,h4,h5,h6,rfl⟩
 ·simp at hi
 cases h1;obtain ⟨A,cs,B,G1,Gi,G2,rfl,rfl,hA,hc,f1,f2,f3⟩:=h6.focus i hi;refine (h hi g A cs (B++rest) A B G1 Gi G2 rfl rfl h3 ?_).h ac w (s1.swap (M:=[_]) (N:=[.row g t (0+i * E.sz) A cs (B++rest),.own E (.agg cs.toArray) xs[i] Gi,.flat E A (xs.take i) G1,.flat E B (xs.drop (i+1)) G2]) (.cons .here .nil) IT ?_ (fun hn=>?_) (fun b hb=>?_)) ag
 ·intro w' cs' y G1' Gi' G2' hr k1 k2 k3;have:=Cw.build hi k1 k2 k3;have hl:=this.len;exact .inr ⟨g,cp,A++cs'++B,rest,G1'++Gi'++G2',GL,HY,JO,h4,by
   have e1:=E.len k2;simp only [List.length_append] at h5 ⊢;omega,this,rfl⟩
 ·have hn1:=List.nodup_append.1 (List.nodup_cons.1 hnd).2;have hn2:=List.nodup_append.1 hn1.1;intro p hp;simp only [List.mem_cons,List.not_mem_nil,or_false] at hp;rcases hp with rfl|rfl|rfl|rfl
  ·exact ⟨GJ,JC⟩
  ·exact ⟨hn2.2.1,_,rfl,f2⟩
  ·exact ⟨hn2.1,f1⟩
  ·exact ⟨hn1.2.1,f3⟩
 ·have:(g::(G1++Gi++G2)).Perm ([g]++(Gi++(G1++(G2++[])))):=by
   exact DC
  exact this.nodup_iff.1 (by simpa [fp,Pc.F] using hn)
 ·simp only [fp,Pc.F,List.append_nil,List.mem_append,List.mem_cons,List.not_mem_nil,or_false] at hb ⊢
  grind
theorem Vd {α:Type} {E:Bx α} {t:TypeId} {g o i:Nat} {u v:Value} {xs:List α} {A cs B c1 c2:List Value} {x1 x2:List α} {G1 Gi G2:List Nat} {S1 S2 S3 S4:List Pc} (y:α) (hh:Ba0 E t g u xs i A B c1 c2) (hv:v=.agg cs.toArray) (h:∀F',T c fr (.ow E t u (xs.set i y) F'::S4) Φ) (e1:x1=xs.take i:=by rfl) (e2:x2=xs.drop (i+1):=by rfl)
  (hp1:Cz H (.row g t o A cs B) S1:=by exact Df) (hp2:Cz S1 (.own E v y Gi) S2:=by exact Df) (hp3:Cz S2 (.flat E c1 x1 G1) S3:=by exact Df) (hp4:Cz S3 (.flat E c2 x2 G2) S4:=by exact Df):T c fr H Φ:=.mk fun ac w s ag=>by
 subst hv e1 e2;have hP:Ex H [.row g t o A cs B,.own E (.agg cs.toArray) y Gi,.flat E c1 (xs.take i) G1,.flat E c2 (xs.drop (i+1)) G2] S4:=.cons hp1 (.cons hp2 (.cons hp3 (.cons hp4 .nil)));have s1:St c.G c.D c.w0 ([.row g t o A cs B,.own E (.agg cs.toArray) y Gi,.flat E c1 (xs.take i) G1,.flat E c2 (xs.drop (i+1)) G2]++S4) w:=by simpa using hP.st (X:=[]) IB
 obtain ⟨-,r⟩:=s1.on (.row g t o A cs B) GL;obtain ⟨-,cs',e,hr⟩:=s1.on (.own E (.agg cs.toArray) y Gi) GL;obtain rfl:cs=cs':=by simpa using e
 have f1:=(s1.on (.flat E c1 (xs.take i) G1) GL).2;have f3:=(s1.on (.flat E c2 (xs.drop (i+1)) G2) GL).2;have hO:=hh w cs y G1 Gi G2 r f1 hr f3;have hpm:(g::(G1++Gi++G2)).Perm ([g]++(Gi++(G1++(G2++[])))):=by
  exact DC
 have hmM:∀p∈[Pc.row g t o A cs B,.own E (.agg cs.toArray) y Gi,.flat E c1 (xs.take i) G1,.flat E c2 (xs.drop (i+1)) G2],p.mu=true:=by intro p hp;simp only [List.mem_cons,List.not_mem_nil,or_false] at hp;rcases hp with rfl|rfl|rfl|rfl <;> rfl
 have hndM:(fp [Pc.row g t o A cs B,.own E (.agg cs.toArray) y Gi,.flat E c1 (xs.take i) G1,.flat E c2 (xs.drop (i+1)) G2]).Nodup:=Ap3 (by simpa using hmM) (fun p hp=>s1.on p (List.mem_append_left _ hp)) (by
  have sp:=s1.sep;exact ⟨fun q hq=>sp.1 q (List.mem_append_left _ hq),fun q hq=>sp.2.1 q (List.mem_append_left _ hq),fun q hq=>sp.2.2.1 q (List.mem_append_left _ hq),fun q hq=>sp.2.2.2.1 q (List.mem_append_left _ hq),trivial⟩)
 have hnd:(g::(G1++Gi++G2)).Nodup:=hpm.nodup_iff.2 (by simpa [fp,Pc.F] using hndM);refine (h (g::(G1++Gi++G2))).h ac w (s.swap hP hmM (N:=[.ow E t u (xs.set i y) (g::(G1++Gi++G2))]) (by intro p hp;rw [List.mem_singleton] at hp;subst hp;exact ⟨hnd,hO⟩) (fun _=>by simpa [fp,Pc.F] using hnd) (fun b hb=>?_)) ag;simp only [fp,Pc.F,List.append_nil,List.mem_append,List.mem_cons,List.not_mem_nil,or_false] at hb ⊢
 grind
theorem Aa4 {α:Type} {E:Bx α} {t e m b:Nat} {z:Value} [hS:SlC c.P t e m] [hE:ElT c.P e z m b] {xs:List α} {F Fy:List Nat} {g tt:Nat} {cs:List Value} {u:Value} {R R2 S:List Pc} {d:Nat} {ty:TypeId} {v:Value} {x y:Operand} (one:One E) (ey:α) (hu:u=.agg cs.toArray)
  (h:∀a' c' F',T c ((d,.slice a' (xs++[ey]).length c')::fr) (.ow E e (.slice a' (xs++[ey]).length c') (xs++[ey]) F'::S) Φ)
  (hx:ev fr x=some v:=by rfl) (hy:ev fr y=some (.slice (some ⟨g,0,none⟩) 1 1):=by rfl) (hp:Cz H (.ow E e v xs F) R:=by exact Df) (hp2:Cz R (.row g tt 0 [] cs []) R2:=by exact Df) (hp3:Cz R2 (.own E u ey Fy) S:=by exact Df) (hz:0 < E.sz:=by decide) (hm:E.sz=m:=by rfl)
  (h63:xs.length+1≤9223372036854775807:=by omega) (hby:(xs.length+1) * b≤140737488355328:=by omega) (hd:Nat.blt d c.n=true:=by rfl) :
  On c fr H (some d) (.call { callee:=.builtin .append,args:=#[x,y],argTypes:=#[t,t] }) ty Φ:=⟨fun _ _ _=>by
 subst hu;refine ap (ys:=[ey]) (Fy:=Fy) (S:=S) one hz hm hp hx hy rfl (fun w s=>?_) (fun w v' F' s hF w' hk hv=>?_) (by unfold maxLen;exact h63) hby h hd
 ·have hro:=s.on (.row g tt 0 [] cs []) (by simp [hp2.mem]);have how:=s.on (.own E (.agg cs.toArray) ey Fy) (by simp [hp2.sub _ hp3.mem]);obtain ⟨hnd,cs',e1,hrep⟩:=how;obtain rfl:cs=cs':=by simpa using e1
  refine ⟨cs,Cw.one hrep,.inr ⟨_,rfl,fun j u hu=>?_⟩,fun b hb hbF=>?_,hnd⟩
  ·have hr:=hro.2;have:=hr.cell j;simp only [List.nil_append,List.append_nil] at this;rw [hu] at this;unfold Addr.add
   split
   ·rename_i e;subst e;exact this
   ·exact GF
  ·exact s.sep.1 (.own E (.agg cs.toArray) ey Fy) (hp2.sub _ hp3.mem) rfl b hbF hb
 ·have hP:Ex (.ow E e v xs F::R) [.ow E e v xs F,.own E (.agg cs.toArray) ey Fy,.row g tt 0 [] cs []] S:=.cons .here (by
   have:∀{R R2 S:List Pc} {p q:Pc},Cz R p R2→Cz R2 q S→Ex R [q,p] S:=by
    intro R R2 S p q h1
    induction h1 generalizing S with
    | here=>intro h2;exact .cons (.there h2) (.cons .here .nil)
    | @there x p R R' h ih =>
     intro h2;cases h2 with
     | here=>exact .cons .here (.cons h .nil)
     | there h3 =>
      cases ih h3 with
      | cons a1 a2 =>
       cases a2 with
       | cons b1 b2=>cases b2;exact .cons (.there a1) (.cons (.there b1) .nil)
   exact this hp2 hp3)
  have s1:St c.G c.D c.w0 ([.ow E e v xs F,.own E (.agg cs.toArray) ey Fy]++S) w:=by
   have s0:St c.G c.D c.w0 ([.ow E e v xs F,.own E (.agg cs.toArray) ey Fy,.row g tt 0 [] cs []]++S) w:=by simpa using hP.st (X:=[]) IB
   have sp:=s0.sep;have hm3:∀q,q∈[Pc.ow E e v xs F,.own E (.agg cs.toArray) ey Fy]++S→q∈[Pc.ow E e v xs F,.own E (.agg cs.toArray) ey Fy,.row g tt 0 [] cs []]++S:=fun q hq=>by
    simp only [List.cons_append,List.nil_append,List.mem_cons] at hq ⊢;rcases hq with h|h|h
    ·exact .inl h
    ·exact .inr (.inl h)
    ·exact .inr (.inr (.inr h))
   exact ⟨s0.H8,fun q hq=>s0.on q (hm3 q hq),⟨fun q hq=>sp.1 q (by
    rcases List.mem_cons.1 hq with h|h
    ·simp [h]
    ·exact List.mem_cons_of_mem _ (List.mem_cons_of_mem _ h)),fun q hq=>sp.2.1 q (List.mem_cons_of_mem _ hq),sp.2.2.2⟩,fun q hq=>s0.Abs q (hm3 q hq)⟩
  refine St.turn (M:=[.ow E e v xs F,.own E (.agg cs.toArray) ey Fy]) (N:=[.ow E e v' (xs++[ey]) F']) s1 (hk.mono (fun b hb _=>by simp [List.filter,Pc.mu,fp,Pc.F,hb])) JI ⟨GL,trivial⟩ ?_;intro q hq b hb;simp only [List.mem_cons,List.not_mem_nil,or_false] at hq;subst hq;rcases hF b hb with h|h|h
  ·exact .inr (.inl ⟨.ow E e v xs F,GL,rfl,h⟩)
  ·exact .inr (.inl ⟨.own E (.agg cs.toArray) ey Fy,GL,rfl,h⟩)
  ·exact .inl GJ⟩
theorem Axo {α:Type} {E:Bx α} {a:Option Addr} {n cp:Nat} {xs:List α} {F:List Nat} (k:Nat) (hk:k≤xs.length) (h:∀F',n≤cp→cp≤9223372036854775807→T c fr (.sl E (.slice a k cp) (xs.take k) F'::H) Φ) (hm:.sl E (.slice a n cp) xs F∈H:=by exact Bp):T c fr H Φ:=.mk fun ac w s g=>by
 obtain ⟨hz,hs⟩:=s.get hm;obtain ⟨rfl,hnc,hmx⟩:=hs.caps;obtain ⟨F',hF,h2⟩:=hs.takeS k hk;exact (h F' hnc (by unfold maxLen at hmx;omega)).h ac w (s.ro hm rfl rfl ⟨hz,h2⟩ hF) g
/-! the same for slices that read -/
def EA {α:Type} (E:Bx α) (n:Nat):Bx (List α) where
 sz:=n * E.sz
 Lo w cs xs F:=xs.length=n∧Cw E w cs xs F
 len h:=by obtain ⟨rfl,h⟩:=h;exact h.len
 lt h:=h.2.lt
 frame h hF:=⟨h.1,h.2.frame hF⟩
theorem Ad5 {α:Type} {E:Bx α} {a:Option Addr} {n cp m k:Nat} {ys:List (List Value)} {v:Value} {xs:List α} {F G:List Nat} (hm:E.sz=m) (hl:ys.length=xs.length) (hv:v=.agg ys.flatten.toArray)
  (h:∀F',T c fr (.sl E (.slice a n cp) xs F'::H) Φ) (hp:.sl (EC m) (.slice a n cp) ys F∈H:=by exact Bp) (hp2:.isv (EA E k) v xs G∈H:=by exact Bp):T c fr H Φ:=.mk fun ac w s g=>by
 subst hm hv;obtain ⟨hz,a',cap,hv,hlc,hh⟩:=s.get hp;cases hv;obtain ⟨cs,e, -,hf⟩:=s.get hp2;obtain rfl:ys.flatten=cs:=by simpa using e
 rcases hh with ⟨rfl,rfl,h0⟩|⟨b,off,F',rfl,hne,rfl,hc⟩
 ·have:xs=[]:=List.eq_nil_of_length_eq_zero hl.symm;subst this;refine (h []).h ac w (s.add (N:=[.sl E (.slice a 0 cp) [] []]) (Below.refl _ _) (by intro p hp;simp only [List.mem_cons,List.not_mem_nil,or_false] at hp;subst hp;exact ⟨hz,a,cp,rfl,hlc,.inl ⟨rfl,rfl,h0⟩⟩) ⟨GL,trivial⟩ (by intro p hp b hb;simp only [List.mem_cons,List.not_mem_nil,or_false] at hp;subst hp;simp [Pc.F] at hb)) g
 ·have hxs:xs≠[]:=by rintro rfl;exact hne (List.eq_nil_of_length_eq_zero hl)
  have key:∀(ys:List (List Value)) (off:Nat) (G:List Nat),N4 (EC E.sz) w b off ys G→∀j u,ys.flatten[j]?=some u→w.cell? ⟨b,off+j,none⟩=some u:=by
   intro ys
   induction ys with
   | nil=>intro off G _ j u hu;simp at hu
   | cons y r ih =>
    intro off G h j u hu;obtain ⟨c1,F1,F2,rfl,⟨rfl,⟨hy, -⟩, -⟩,h2,h3⟩:=h;rw [List.flatten_cons] at hu;by_cases hj:j < c1.length
    ·rw [List.getElem?_append_left hj] at hu;rw [h2 j (by show j < E.sz;omega)];exact hu
    ·rw [List.getElem?_append_right GJ] at hu;have:=ih _ _ h3 _ _ hu
     rwa [show off+(EC E.sz).sz+(j - c1.length)=off+j by show off+E.sz+(j - c1.length)=off+j;omega] at this
  refine (h (b::G)).h ac w (s.add (N:=[.sl E (.slice (some ⟨b,off,none⟩) ys.length cp) xs (b::G)]) (Below.refl _ _) (by
   intro p hp;simp only [List.mem_cons,List.not_mem_nil,or_false] at hp;subst hp;exact ⟨hz,_,cp,by rw [hl],by rw [←hl];exact hlc,.inr ⟨b,off,G,rfl,hxs,rfl,hf.cells (fun j u hu=>key ys off F' hc j u hu)⟩⟩) ⟨GL,trivial⟩ (by
   intro p hq z hb;simp only [List.mem_cons,List.not_mem_nil,or_false] at hq;subst hq;simp only [Pc.F,List.mem_cons] at hb;rcases hb with rfl|hb
   ·exact .inr ⟨rfl,_,hp,rfl,JK⟩
   ·exact .inr ⟨rfl,_,hp2,rfl,hb⟩)) g
theorem Xs {α:Type} {O R:Bx α} (hW:Kv O R) {v:Value} {x:α} {F:List Nat} {S:List Pc} (h:∀F',T c fr (.isv R v x F'::S) Φ) (hp:Cz H (.own O v x F) S:=by exact Df):T c fr H Φ:=.mk fun a w s g=>by
 exact EJ
end
section
variable {c:Cx} {fr:Fr} {H:List Pc} {Φ:Gl}
theorem O6 {α:Type} {E:Bx α} {hz:0 < E.sz} {a:Option Addr} {n cp:Nat} {xs:List (List α)} {F:List Nat} (i:Nat) (h:∀(hi:i < xs.length) (b o:Nat) (a1:Option Addr) (c1:Nat) (F1:List Nat),a=some ⟨b,o,none⟩→xs[i].length≤maxLen→T c fr (.cel b (o+i * 1) [.slice a1 xs[i].length c1]::.sl E (.slice a1 xs[i].length c1) xs[i] F1::H) Φ) (hm:.sl (Nn E hz) (.slice a n cp) xs F∈H:=by exact Bp) (hi:i < xs.length:=by omega):T c fr H Φ:=.mk fun ac w s g=>by
 obtain ⟨b,o,cs,G,ha,hrep,hG,hb,hne,hr⟩:=Wv (s.get hm) i hi;obtain ⟨v1,rfl,h1⟩:=hrep;obtain ⟨a1,c1,rfl⟩:=h1.slice;have l1:=h1.len;have t1:=s.ro (p:=.sl E (.slice a1 xs[i].length c1) xs[i] G) hm rfl rfl ⟨hz,h1⟩ HJ;exact (h hi b o a1 c1 G ha l1).h ac w (t1.ro (List.mem_cons_of_mem _ hm) rfl rfl ⟨hne,hr⟩ HR) g
theorem Xn {α:Type} {O:Bx α} {t:TypeId} {v:Value} {xs:List α} {F:List Nat} {S:List Pc} (h:∀(a1:Option Addr) (c1:Nat),v=.agg #[.slice a1 xs.length c1]→xs.length≤maxLen→T c fr (.ow O t (.slice a1 xs.length c1) xs F::S) Φ) (hp:Cz H (.own (Fv O t) v xs F) S:=by exact Df):T c fr H Φ:=.mk fun a w s g=>by
 have z1:=s.pick hp;obtain ⟨hn,cs,rfl,v1,rfl,h1⟩:=z1.on (.own (Fv O t) v xs F) GL;obtain ⟨a1,c1,rfl⟩:=h1.slice;have l1:=h1.len;exact (h a1 c1 rfl l1).h a w (z1.conv rfl ⟨hn,h1⟩ (fun b hb=>hb)) g
theorem Jv {α:Type} {O:Bx α} {t:TypeId} (xs:List α) {a1:Option Addr} {c1:Nat} {F:List Nat} {S:List Pc} (h:T c fr (.own (Fv O t) (.agg #[.slice a1 xs.length c1]) xs F::S) Φ) (hp:Cz H (.ow O t (.slice a1 xs.length c1) xs F) S:=by exact Df):T c fr H Φ:=.mk fun a w s g=>by
 have z1:=s.pick hp;obtain ⟨hn,h1⟩:=z1.on (.ow O t (.slice a1 xs.length c1) xs F) GL;exact h.h a w (z1.conv rfl ⟨hn,_,rfl,_,rfl,h1⟩ (fun b hb=>hb)) g
end
theorem Aj6:∀(A:List Pc),A.all (fun p=>!p.mu)=true→Sq A
 | [],_=>trivial
 | p::A,h=>by
  simp only [List.all_cons,Bool.and_eq_true,Bool.not_eq_true'] at h;exact ⟨fun q hq hm=>by
   have hq':=List.all_eq_true.1 h.2 q hq;simp only [Bool.not_eq_true'] at hq';rw [h.1,hq'] at hm;simp at hm,Aj6 A h.2⟩
section
variable {c:Cx} {fr:Fr} {H:List Pc} {d:Nat} {Φ:Gl}
theorem cfr {f:Nat} {vs:List Value} {σ:Type} {C:σ→Prop} {vv:σ→Value} {N:σ→List Pc} (hf:∀w,St c.G c.D c.w0 H w→∃A,O2 A w∧A.all (fun p=>!p.mu)=true∧Fn c.P f vs A [] C vv N)
  (h:∀s,C s→T c ((d,vv s)::fr) (N s++H) Φ) (hN:∀s,(N s).all (·.mu)=true:=by intro s;rfl):Cl c fr H d f vs Φ :=
 Zr (R:=fun w e w'=>∃s,C s∧e=.returned (vv s)∧O2 (N s) w'∧Sq (N s)∧Dn [] w w'∧∀p∈N s,∀b∈p.F,w.heap.size≤b)
  (fun w s=>by
   obtain ⟨A,hA,hm,hF⟩:=hf w s;refine (hF w JJ (by simpa using Aj6 A hm)).mono fun e w' ⟨z,hz,he,h1,h2,h3,h4⟩=>⟨z,hz,he,h1,h2,h3,fun p hp b hb=>?_⟩;rcases h4 p hp b hb with h|⟨q,hq, -⟩|⟨hp', -⟩
   ·exact h
   ·cases hq
   ·have:=List.all_eq_true.1 (hN z) p hp;rw [hp'] at this;cases this)
  (fun w e w' s ⟨z,hz,he,h1,h2,h3,h4⟩=>⟨_,he,fun a g=>(h z hz).h a w' (St.turn (M:=[]) (R:=H) (N:=N z) s h3 h1 h2 fun p hp b hb=>.inl (h4 p hp b hb)) g⟩)
theorem Aw8 {M A R:List Pc} (hm:M.all (·.mu)=true) (hA:A.all (fun p=>!p.mu)=true) (hb:∀p∈A,∀b∈p.F,∃q∈R,b∈q.F):Sq (M++R)→Sq (M++A):=by
 induction M with
 | nil=>intro _;exact Aj6 A hA
 | cons p M ih =>
  simp only [List.all_cons,Bool.and_eq_true] at hm;intro s;refine ⟨fun q hq=>?_,ih hm.2 s.2⟩;rcases List.mem_append.1 hq with h|h
  ·exact s.1 q JB
  ·intro _ b hp hq2;obtain ⟨r,hr,hbr⟩:=hb q h b hq2;exact s.1 r (by simp [hr]) (by rw [hm.1];rfl) b hp hbr
theorem cfm {f:Nat} {vs:List Value} {M R:List Pc} {σ:Type} {C:σ→Prop} {vv:σ→Value} {N:σ→List Pc} (hM:Ex H M R) (hf:∀w,St c.G c.D c.w0 (M++R) w→∃A,O2 A w∧A.all (fun p=>!p.mu)=true∧(∀p∈A,∀b∈p.F,∃q∈R,b∈q.F)∧Fn c.P f vs A M C vv N)
  (h:∀s,C s→T c ((d,vv s)::fr) (N s++R) Φ) (hmM:M.all (·.mu)=true:=by rfl) (hN:∀s,(N s).all (·.mu)=true:=by intro s;rfl):Cl c fr H d f vs Φ :=
 have hMR:∀w,St c.G c.D c.w0 H w→St c.G c.D c.w0 (M++R) w:=fun w s=>by simpa using hM.st (X:=[]) IB
 have hmu:∀p∈M,p.mu=true:=fun p hp=>List.all_eq_true.1 hmM p hp
 Zr (R:=fun w e w'=>∃s,C s∧e=.returned (vv s)∧O2 (N s) w'∧Sq (N s)∧Dn (fp M) w w'∧∀p∈N s,∀b∈p.F,w.heap.size≤b∨∃q∈M,b∈q.F)
  (fun w s=>by
   obtain ⟨A,hA,hm,hb,hF⟩:=hf w (hMR w s);have s2:=hMR w s;refine (hF w (fun p hp=>?_) (Aw8 hmM hm hb s2.sep)).mono fun e w' ⟨z,hz,he,h1,h2,h3,h4⟩=>⟨z,hz,he,h1,h2,h3,fun p hp b hb=>?_⟩
   ·rcases List.mem_append.1 hp with hp|hp
    ·exact s2.on p IR
    ·exact hA p hp
   ·rcases h4 p hp b hb with h|h|⟨hp', -⟩
    ·exact .inl h
    ·exact .inr h
    ·have:=List.all_eq_true.1 (hN z) p hp;rw [hp'] at this;cases this)
  (fun w e w' s ⟨z,hz,he,h1,h2,h3,h4⟩=>⟨_,he,fun a g=>(h z hz).h a w' (St.turn (hMR w s) (by rwa [List.filter_eq_self.2 hmu]) h1 h2 fun p hp b hb=>by
   rcases h4 p hp b hb with h|⟨q,hq,hqb⟩
   ·exact .inl h
   ·exact .inr (.inl ⟨q,hq,hmu q hq,hqb⟩)) g⟩)
theorem Akc {α:Type} {E:Bx α} (Q:α→Prop) (hQ:∀w cs x F,E.Lo w cs x F→Q x) {a:Option Addr} {n cp:Nat} {xs:List α} {F:List Nat} (h:(∀x∈xs,Q x)→T c fr H Φ) (hm:.sl E (.slice a n cp) xs F∈H:=by exact Bp):T c fr H Φ:=.mk fun ac w s g =>
 (h fun x hx=>by
  obtain ⟨k,hk,rfl⟩:=List.getElem_of_mem hx;obtain ⟨-,hs⟩:=s.get hm;obtain ⟨-, -,cs,F1, -,h1, -, -⟩:=hs.at k hk;exact hQ _ _ _ _ h1).h ac w s g
theorem Vc {P:Program} {fn:Func} {G D:List Nat} {w0:World} {n:Nat} {R:Ending→World→Prop} (h:T ⟨P,G,D,w0,n,bodyPost P fn R⟩ fr H (.fin .ret)):T ⟨P,G,D,w0,n,bodyPost P fn R⟩ fr H (.norm []):=Bd5 ⟨fun a w s g=>h.h a w s g⟩
end
section
variable {P:Program} {ops:Array Oper} {Q:Exit→Act→World→Prop} {md:Region.Mode} {S:World→Prop} {X:Nat→Bool}
theorem En.firstP {i:Nat} {oi:Oper} {v:Value} (hi:ops[i]?=some oi) (hsel:∀(j:Nat) (o:Oper) cs b,ops[j]?=some o→o.op≠.select cs b)
  (hQ:∀c a w,Q (.panic c) (a.put oi.dst v) w→Q (.panic c) a w) (hXi:X i=true) :
  ∀(f:Nat) (listed:Array Bool) (a:Act) (w:World),
   (∀j oj,ops[j]?=some oj→j≠i→listed.getD j true=false→(∀e∈oj.after,Region.binds md e=true→e.on≠i)→oi.apart ops oj=true) →
   i∈Region.ready md ops listed→YieldsIf P ops (fun _=>True) oi v a→En P md ops Q S X f (listed.setIfInBounds i true) (a.put oi.dst v) w→En P md ops Q S X (f+1) listed a w:=by
 intro f
 induction f with
 | zero =>
  intro listed a w _ hr hy H;refine ⟨fun h=>IP,fun j hj=>?_⟩;by_cases hji:j=i
  ·subst hji;exact hy.wpOp hi trivial ⟨(fun h=>by rw [hXi] at h;cases h),H⟩
  ·have:=ready_mono hj hji;rw [H.1] at this;cases this
 | succ f ih =>
  intro listed a w hfree hr hy H;refine ⟨fun h=>IP,fun j hj=>?_⟩;by_cases hji:j=i
  ·subst hji;exact hy.wpOp hi trivial ⟨(fun h=>by rw [hXi] at h;cases h),H⟩
  ·obtain ⟨hju,oj,hoj,hall⟩:=mem_ready.1 hj;have hiu:=W5 (mem_ready.1 hr).1;have hnot:∀e∈oj.after,Region.binds md e=true→e.on≠i:=fun e he hb heq=>by
    have h1:=hall e he hb;rw [heq,hiu] at h1;cases h1
   have h2:=wpOp_putIf hoj (hfree j oj hoj hji hju hnot) (fun cs b=>hsel i oi cs b hi) (fun cs b=>hsel j oj cs b hoj) hQ hy (H.2 j (ready_mono hj hji));refine wpOp_mono (fun a' w' h3=>⟨h3.2.1,ih (listed.setIfInBounds j true) a' w' (fun k ok hk hki hun hno=>hfree k ok hk hki ?_ hno) (ready_mono hr (Ne.symm hji)) h3.1 ?_⟩) h2
   ·by_cases hjk:j=k
    ·subst hjk;exact hju
    ·rw [getD_set_ne true hjk] at hun;exact hun
   ·rw [Array.setIfInBounds_comm _ _ hji];exact h3.2.2
theorem En.takeP {i:Nat} {oi:Oper} {v:Value} {f:Nat} {listed:Array Bool} {a:Act} {w:World} (hi:ops[i]?=some oi)
  (hs:Region.noSelect ops=true) (hf:Region.free md ops listed i=true) (hr:(Region.ready md ops listed).contains i=true) (hXi:X i=true)
  (hQ:∀c a w,Q (.panic c) (a.put oi.dst v) w→Q (.panic c) a w) (hy:YieldsIf P ops (fun _=>True) oi v a)
  (h:En P md ops Q S X f (listed.setIfInBounds i true) (a.put oi.dst v) w):En P md ops Q S X (f+1) listed a w :=
 En.firstP hi (Region.noSelect_spec hs) hQ hXi f listed a w (Region.free_spec hi hf) HY hy h
end
section
variable {c:Cx} {fr:Fr} {H H0:List Pc} {k:List It} {X:List Nat} {ops:Array Oper} {f:Nat} {listed:Array Bool} {d:Nat} {o:Op} {ty:TypeId} {pos:String} {Ce:Array Edge} {v:Value}
theorem dtp (i:Nat) (h:T c ((d,v)::fr) H (.dx k H0 X ops f (listed.setIfInBounds i true))) (ho:ops[i]?=some ⟨some d,o,ty,pos,Ce,none⟩:=by rw [List.getElem?_toArray];rfl) (hy:Yd c.P c.n fr [] o ty v:=by exact ydE) (hX:X.contains i=true:=by rfl)
  (h1:Region.noSelect ops=true:=by kernel_rfl) (h2:Region.free .any ops listed i=true:=by kernel_rfl) (h3:(Region.ready .any ops listed).contains i=true:=by kernel_rfl) (hR:Vz c:=by exact Ya) (hd:Nat.blt d c.n=true:=by rfl) :
  T c fr H (.dx k H0 X ops (f+1) listed):=.mk fun a w s g =>
 En.takeP (v:=v) ho h1 h2 h3 hX (fun ch a w hp=>by rw [L8] at hp ⊢;exact hR _ _ _ _ _ hp) (.inl ⟨rfl,fun w' _=>hy.h a w' _ _ _ _ g (by intro p hp;simp at hp)⟩) (h.h _ _ s (g.put hd))
theorem Ayy {c:Cx} {fr:Fr} {H:List Pc} {k:List It} {x y:Code} {σ:Type} {cst:Fr} {rest:List Pc} (ks rs:List Nat) (upd:σ→Fr) (chg:σ→List Pc) (C:σ→Prop) (h:T c fr H (.code (.cd y::.lp (Jn c (fun s=>upd s++cst) (fun s=>chg s++rest) C)::k) x)) (h2:∀s,C s→T c (upd s++cst) (chg s++rest) (.norm k))
  (_hk:Kf fr ks cst:=by repeat (first|exact Kf.nil|apply Kf.cons GV)) (_hr:Sel H rs rest:=by repeat constructor):T c fr H (.code (.cd y::k) x):=.mk fun a w s g=>by
 refine wp_mono (h.h a w s g) fun e a1 w1 he=>?_;cases e with
 | normal =>
  refine wp_mono he fun e a2 w2 he=>?_;cases e with
  | normal=>obtain ⟨s,hC,hs,hg⟩:=he;exact (h2 s hC).h a2 w2 hs hg
  | _=>exact he
 | _=>exact he
end
section
variable {c:Cx} {fr:Fr} {H H0:List Pc} {k:List It} {Φ:Gl} {X:List Nat} {ops:Array Oper} {f:Nat} {listed:Array Bool} {d:Nat} {o:Op} {ty:TypeId} {v u:Value} {x y:Operand}
theorem Ad8 {α:Type} {O R:Bx α} (hW:Kv O R) {v:Value} {x:α} {F:List Nat} {S:List Pc} (h:∀F',T c fr (.isv R v x F'::S) Φ) (hp:Cz H (.own O v x F) S:=by exact Df):T c fr H Φ:=.mk fun a w s g=>by
 exact EJ
theorem Ad7 {α:Type} {O R:Bx α} (hW:Kv O R) {t:TypeId} {v:Value} {xs:List α} {F:List Nat} {S:List Pc} (h:∀F',T c fr (.sl R v xs F'::S) Φ) (hp:Cz H (.ow O t v xs F) S:=by exact Df) (hz:0 < R.sz:=by decide):T c fr H Φ:=.mk fun a w s g=>by
 have s1:=s.pick hp;obtain ⟨-,ho⟩:=s1.on (.ow O t v xs F) GL;obtain ⟨F',hF,hs⟩:=ho.sl hW;exact (h F').h a w (s1.conv rfl ⟨hz,hs⟩ hF) g
theorem Bcx {α:Type} {E:Bx α} {v:Value} {x:α} {F:List Nat} (one:One E) (h:∀cs:List Value,v=.agg cs.toArray→cs.length=E.sz→cs.all (·.oneCell')=true→T c fr H Φ) (hm:.isv E v x F∈H:=by exact Bp):T c fr H Φ:=.mk fun a w s g=>by
 obtain ⟨cs,hv,hx⟩:=s.get hm;exact (h cs hv (E.len hx) (List.all_eq_true.2 fun u hu=>one hx u hu)).h a w s g
theorem Bcy {α:Type} {E:Bx α} {v:Value} {x:α} {F:List Nat} (one:One E) (h:∀cs:List Value,v=.agg cs.toArray→cs.length=E.sz→cs.all (·.oneCell')=true→T c fr H Φ) (hm:.own E v x F∈H:=by exact Bp):T c fr H Φ:=.mk fun a w s g=>by
 obtain ⟨-,cs,hv,hx⟩:=s.get hm;exact (h cs hv (E.len hx) (List.all_eq_true.2 fun u hu=>one hx u hu)).h a w s g
theorem Put.all:∀{zs l:List Value},zs.length=l.length→Put zs 0 l l
 | [],[],_=>.zero
 | [],_::_,h=>by simp at h
 | _::_,[],h=>by simp at h
 | _::zs,_::l,h=>.one (Put.all GW)
theorem Ze {P:Program} {n:Nat} {H:List Pc} {t g o tt m:Nat} {A cs B:List Value} [AggC P t m] (hx:ev fr x=some (Hm g o 0)) (hm:Pc.row g tt o A cs B∈H) (hl:cs.length=m):Yd P n fr H (.load t x) ty (.agg cs.toArray):=Ayc hx hm (hl▸Cut.whole cs)
theorem Aes {id:Nat} {l:List Oper} (X:List Nat) (h:T c fr H (.dx k H X l.toArray l.length (Array.replicate l.length false))) (hm:c.P.follows .mixedOrders=true:=by kernel_rfl):T c fr H (.code k (Code.region id l.toArray true)):=.mk fun a w s g=>by
 refine En.start (S:=O2 H) (X:=fun i=>X.contains i) hm ?_;exact EB
theorem Apu {x:Code} {σ:Type} {cst:Fr} (ks:List Nat) (upd:σ→Fr) (chg:σ→List Pc) (C:σ→Prop) (h:T c fr H (.code (.lp (Jn c (fun s=>upd s++cst) (fun s=>chg s++H) C)::k) x)) (h2:∀s,C s→T c (upd s++cst) (chg s++H) (.norm k)) (_hk:Kf fr ks cst:=by repeat (first|exact Kf.nil|apply Kf.cons GV)):T c fr H (.code k x) :=
 Aur _ _ C h h2
theorem Beb {t g tt m:Nat} {cs l:List Value} {S:List Pc} (hx:ev fr x=some (Hm g 0 0)) (hy:ev fr y=some (.agg l.toArray)) (hs:(c.P.info? t).map (·.size)=some m) (hr:Rpl H (.row g tt 0 [] cs []) (.row g tt 0 [] l []) S) (hl:l.length=m) (hc:cs.length=m) (h1:l.all (·.oneCell')=true) (h:T c fr S Φ):On c fr H none (.store t x y) ty Φ :=
 Awd hx hy rfl hs hl hr (Put.all GJ) h1 h
end
/-! contracts, with what they ask read off pieces -/
theorem ex1 {α:Type} {A:α→Prop} {C:Prop} (f:∀a,A a→C):(∃a,A a)→C:=fun ⟨a,h⟩=>f a h
theorem ex2 {α β:Type} {A:α→Prop} {B:β→Prop} {C:Prop} (f:∀a b,A a→B b→C):(∃a,A a)→(∃b,B b)→C:=fun ⟨a,h⟩ ⟨b,h2⟩=>f a b h h2
section
variable {G D:List Nat} {w0 w:World} {H:List Pc}
theorem St.rI {α:Type} {E:Bx α} {v:Value} {x:α} {F:List Nat} (s:St G D w0 H w) (hm:.isv E v x F∈H:=by exact Bp):∃F',N0 E w v x F':=⟨F,s.get hm⟩
theorem St.rO {α:Type} {O R:Bx α} (hW:Kv O R) {v:Value} {x:α} {F:List Nat} (s:St G D w0 H w) (hm:.own O v x F∈H:=by exact Bp):∃F',N0 R w v x F':=by
 obtain ⟨-,ho⟩:=s.get hm;obtain ⟨F', -,h⟩:=N0.weak hW ho;exact ⟨F',h⟩
end
theorem Pa {α:Type} {l:List α} {i:Nat} (h:i < l.length) (x:α):l.getD i x=l[i]:=by rw [List.getD_eq_getElem?_getD,List.getElem?_eq_getElem h];rfl
theorem Abu (d:List (List Av)) (i:Nat) (p:Av) (a:Option Addr) (n c:Nat) (F:List Nat) (hn:n=d.length) (hi:i < d.length) (hs:p.data.size≤maxLen):Fn prog 160 [.slice a n c,.int .i64 (i:Nat),.agg #[.int .i64 (p).Ct,.int .i64 (p).Af,.int .i64 (p).Ao,.int .i64 (p).Ff,.string (p).data]] [] [.ow (Fv Aj 159) 135 (.slice a n c) d F] (fun (_:List Nat)=>True) (fun _=>.tuple #[]) (fun G=>[.ow (Fv Aj 159) 135 (.slice a n c) (d.set i (Ue d[i] p)) G]):=by
 refine enter func160 rfl ntmps160 fun w0=>?_;refine Aba (m:=1) i ?_ rfl hi;rintro _ g A cs B k1 k2 G1 Gi G2 rfl - hc hH;refine Xn ?_;rintro a5 c5 ev l5;obtain rfl:cs=[.slice a5 d[i].length c5]:=by simpa using ev
 refine go ?_;intros;refine Be rfl (fun h1=>?_) (fun h1=>?_)
 ·have h6:d[i].length < 6:=by omega
  rw [show Ue d[i] p=d[i]++[p] by unfold Ue;rw [if_pos h6]];refine go ?_;intros;refine At [0,2] [10] ?_;refine Dk 0 1 2 3 ?_;refine Dy 4 5 ?_;refine dt 6 ?_;refine dN 7 ?_;apply Km;rfl;rfl;rfl;rfl;exact Ke;exact Jy;intro _;refine dk ?_;refine dN 8 ?_;refine Oh (ys:=[p]) (C8 p hs) Hf fun a7 c7 F7=>?_;refine dk ?_;refine dt 9 ?_;refine dN 10 ?_;refine oS ?_;refine Rn ?_;refine dd ?_;refine Jv (d[i]++[p]) ?_;refine go ?_;intros;refine Vd _ hH rfl fun F6=>?_;refine Vc ?_;refine ret F6 trivial rfl
 ·rw [show Ue d[i] p=d[i] by unfold Ue;rw [if_neg GJ]];refine go ?_;intros;refine Jv d[i] ?_;refine Vd _ hH rfl fun F6=>?_;refine Vc ?_;refine ret F6 trivial rfl
theorem Aim (q l:List Av) (p:Av):Gw q (l++[p])=Ue (Gw q l) p:=by
 unfold Gw Ue;by_cases h:l.length < 6 - q.length
 ·rw [List.take_of_length_le (by rw [List.length_append];simp;omega),List.take_of_length_le GJ,if_pos HT,List.append_assoc]
 ·have e:(l++[p]).take (6 - q.length)=l.take (6 - q.length):=by rw [List.take_append_of_le_length GJ]
  rw [e,if_neg (by rw [List.length_append,List.length_take];omega)]
def Qr (s:List (List Av)) (i:Nat) (ps:List Av):List (List Av):=s.modify i fun q=>Gw q ps
theorem Aik (s:List (List Av)) (i:Nat) (ps:List Av):(Qr s i ps).length=s.length:=List.length_modify ..
theorem Ail (s:List (List Av)) (i:Nat):Qr s i []=s:=by
 unfold Qr;by_cases h:i < s.length
 ·rw [Hq h,Amj,List.set_getElem_self]
 ·exact Y5 h
theorem Afu {s:List (List Av)} {i j:Nat} {ps:List Av} (hi:i < s.length) (hj:j < ps.length) (h:i < (Qr s i (ps.take j)).length):(Qr s i (ps.take j)).set i (Ue (Qr s i (ps.take j))[i] ps[j])=Qr s i (ps.take (j+1)):=by
 unfold Qr;simp only [Hq hi];rw [List.getElem_set_self,List.set_set,List.take_succ_eq_append_getElem hj,Aim]
theorem Ac8 {d:List (List Av)} {nodes:List Int} {ps:List Av} {k:Nat} (hk:k < nodes.length):Dg d (nodes.take (k+1)) ps=Qr (Dg d (nodes.take k) ps) nodes[k].toNat ps:=by rw [List.take_succ_eq_append_getElem hk,Amv];rfl
structure KF where
 k:Nat
 F:List Nat
theorem Yr (d:List (List Av)) (nodes:List Int) (ps:List Av) (g:Nat) (v0 v1 v2 v3 v4 v5 v6 v7 v8 v10:Value) (a:Option Addr) (n c:Nat) (F:List Nat) (an:Option Addr) (cn:Nat) (Fn_:List Nat) (ap:Option Addr) (cp:Nat) (Fp:List Nat) (hn:n=d.length) (hx:∀x∈nodes,0≤x∧x.toNat < d.length) :
  Fn prog 110 [Hm g 0 0,.slice an nodes.length cn,.slice ap ps.length cp] [.sl Bc (.slice an nodes.length cn) nodes Fn_,.sl Aj (.slice ap ps.length cp) ps Fp] [.row g 48 0 [] [v0,v1,v2,v3,v4,v5,v6,v7,v8,.slice a n c,v10] [],.ow (Fv Aj 159) 135 (.slice a n c) d F] (fun (_:List Nat)=>True) (fun _=>.tuple #[]) (fun G=>[.row g 48 0 [] [v0,v1,v2,v3,v4,v5,v6,v7,v8,.slice a n c,v10] [],.ow (Fv Aj 159) 135 (.slice a n c) (Dg d nodes ps) G]):=by
 refine enter func110 rfl ntmps110 fun w0=>?_;refine Akg (E:=Bc) (xs:=nodes) ?_;rintro _ _ e0 hn1 hn2;refine Akg (E:=Aj) (xs:=ps) ?_;rintro _ _ e3 hp1 hp2;refine Akc (E:=Aj) (fun p:Av=>p.data.size≤maxLen) (fun w cs x F h=>by obtain ⟨_,h,_⟩:=h;exact h) ?_;intro hz;cases e0;cases e3;refine go ?_;intros;refine Ck [0,2,10,11] (fun z:KF=>[(12,.int .i64 (z.k:Nat))]) (fun z=>[.ow (Fv Aj 159) 135 (.slice a n c) (Dg d (nodes.take z.k) ps) z.F]) (fun z=>z.k≤nodes.length) (fun z=>nodes.length - z.k) ⟨0,_⟩ (Nat.zero_le _) fun z hz0=>?_;have hsl:=Zb ps (nodes.take z.k) d;refine go ?_;intros
 refine Be rfl (fun h1=>?_) (fun h1=>?_)
 ·have hk:z.k < nodes.length:=by omega
  obtain ⟨x0,x1⟩:=hx _ (List.getElem_mem hk);obtain ⟨i,hi⟩:∃i:Nat,nodes[z.k]=((i:Nat):Int):=⟨nodes[z.k].toNat,GJ⟩;have hil:i < (Dg d (nodes.take z.k) ps).length:=by omega
  have hst:=Ac8 (d:=d) (ps:=ps) hk;rw [show nodes[z.k].toNat=i by omega] at hst;refine Io (xs:=nodes) z.k ?_;rintro hi2 b o e1;rw [e1,hi];refine go ?_;intros;rw [show Dg d (nodes.take z.k) ps=Qr (Dg d (nodes.take z.k) ps) i (ps.take 0) by rw [List.take_zero,Ail]];refine Ck [0,2,7,10,11,12,13,14,15,16,17] (fun y:KF=>[(18,.int .i64 (y.k:Nat))]) (fun y=>[.ow (Fv Aj 159) 135 (.slice a n c) (Qr (Dg d (nodes.take z.k) ps) i (ps.take y.k)) y.F]) (fun y=>y.k≤ps.length) (fun y=>ps.length - y.k) ⟨0,z.F⟩ (Nat.zero_le _) fun y hy0=>?_;have hpl:=Aik (Dg d (nodes.take z.k) ps) i (ps.take y.k)
  refine go ?_;intros;refine Be rfl (fun h2=>?_) (fun h2=>?_)
  ·have hj:y.k < ps.length:=by omega
   refine Qh (xs:=ps) y.k ?_;rintro hi3 b3 o3 e3 s3;rw [e3];refine go ?_;intros;refine At [0,4] [] ?_;refine Dk 0 1 2 3 ?_;refine Dy 4 5 ?_;refine dN 6 ?_;refine oC ?_;refine cf (Abu (Qr (Dg d (nodes.take z.k) ps) i (ps.take y.k)) i ps[y.k] a n c y.F GJ GJ s3) fun f1 _=>?_;refine Ar ?_;rw [Afu hil hj];refine dk ?_;refine dd ?_;refine go ?_;intros;refine Cu ⟨y.k+1,f1⟩ hj (by show ps.length - (y.k+1) < ps.length - y.k;omega)
  ·rw [show ps.take y.k=ps from List.take_of_length_le GJ,←hst];refine go ?_;intros;refine Cu ⟨z.k+1,y.F⟩ hk (by show nodes.length - (z.k+1) < nodes.length - z.k;omega)
 ·rw [show nodes.take z.k=nodes from List.take_of_length_le GJ];refine go ?_;intros;refine Vc ?_;refine ret z.F trivial rfl
section
variable {c:Cx} {fr:Fr} {H:List Pc} {Φ:Gl}
theorem In {a:Option Addr} {n cp:Nat} {xs:List A1} {F:List Nat} (i:Nat) (h:∀(hi:i < xs.length) (b o:Nat),a=some ⟨b,o,none⟩→T c fr (.cel b (o+i * 4) [.int .i64 xs[i].Af,.int .i64 xs[i].state,.int .i64 xs[i].Cg,.int .i64 xs[i].D6]::H) Φ) (hm:.sl Ax (.slice a n cp) xs F∈H:=by exact Bp) (hi:i < xs.length:=by omega):T c fr H Φ:=.mk fun ac w s g=>by
 exact CR
theorem Ae1 {t:TypeId} {a:Option Addr} {n cp:Nat} {xs:List A1} {F:List Nat} {S:List Pc} (i:Nat) (h:∀(_:i < xs.length) g A B,a=some ⟨g,0,none⟩→F=[g]→At4 Ax t g (.slice (some ⟨g,0,none⟩) n cp) xs i A B→T c fr (.row g t (0+i * 4) A [.int .i64 xs[i].Af,.int .i64 xs[i].state,.int .i64 xs[i].Cg,.int .i64 xs[i].D6] B::S) Φ) (hp:Cz H (.ow Ax t (.slice a n cp) xs F) S:=by exact Df) (hi:i < xs.length:=by omega):T c fr H Φ :=
 R5 Dq i (fun hi g A cs B ha hF hr hh=>by obtain ⟨rfl, -⟩:=hr default;exact h hi g A B ha hF  hh) hp rfl hi
theorem Na (x:A1)  (w:World):Cw Ax w [.int .i64 x.Af,.int .i64 x.state,.int .i64 x.Cg,.int .i64 x.D6] [x] []:=⟨_,[],[],[],GL,GL,⟨rfl,rfl⟩,rfl,rfl⟩
end
theorem Akm {P:Program} {n:Nat} {fr:Fr} {H:List Pc} {ty t':TypeId} {x:Operand} {t e m:Nat} [hS:SlC P t e m] {a:Option Addr} {l c:Nat} (hx:ev fr x=some (.slice a l c)):Yd P n fr H (.binOp .eql t x (.const (.slice none 0 0)) t') ty (.bool a.isNone):=.mk fun ac w d pos Ce gd hA _=>by
 have he:ac.eval (.const (.slice none 0 0))=.slice none 0 0:=rfl;have eg:eqGuard .eql t x (.const (.slice none 0 0)) (.slice a l c) (.slice none 0 0)=pure ():=by unfold eqGuard;simp
 simp only [execOp,hA.ev hx,he,eg,Sem.run_bind,Sem.run_pure,Result.andThen_ok,Lib.run_eql_slice_nil w t e a l c 0 0 hS.u]
theorem Axn {c:Cx} {fr:Fr} {H:List Pc} {Φ:Gl} {α:Type} {E:Bx α} {n cp:Nat} {xs:List α} {F:List Nat} (h:xs=[]→T c fr H Φ) (hm:.sl E (.slice none n cp) xs F∈H:=by exact Bp):T c fr H Φ:=.mk fun ac w s g=>by
 obtain ⟨-,a,cap,hv, -,⟨rfl, -, -⟩|⟨b,off,F',rfl, -⟩⟩:=s.get hm
 ·exact (h rfl).h ac w s g
 ·cases hv
theorem Su (xs:List A1) (a:Option Addr) (c:Nat) (F:List Nat) (hl:xs.length≤1000000000) :
  Fn prog 105 [.slice a xs.length c] [.sl Ax (.slice a xs.length c) xs F] [] (fun (_:Option Addr × Nat × List Nat)=>True) (fun z=>.slice z.1 xs.length z.2.1) (fun z=>[.ow Ax 166 (.slice z.1 xs.length z.2.1) xs z.2.2]):=by
 refine enter func105 rfl ntmps105 fun w0=>?_;refine go ?_;intros;cases a with
 | none =>
  refine Axn (xs:=xs) fun h0=>?_;subst h0;apply wO;apply oc;rfl;exact Akm rfl;refine Br Ax 166 ?_;refine go ?_;intros;refine ret (none,0,[]) trivial rfl
 | some ad =>
  apply wO;apply oc;rfl;exact Akm rfl;refine go ?_;intros;refine C4 Ax ?_;apply wO;refine N3 C3 Dq fun a2 c2 F2=>?_;rw [List.nil_append];exact DA
section
variable {P:Program} {n:Nat} {fr:Fr} {H:List Pc} {ty:TypeId} {x y z u:Operand}
theorem Aye {t e m i g o len cp:Nat} {kd:IntKind} {q:Int} [hS:SlC P t e m] (hx:ev fr x=some (.slice (some ⟨g,o,none⟩) len cp)) (hy:ev fr y=some (.int kd q)) (hq:q=(i:Int)) (hi:i≤len) (hlc:len≤cp):Yd P n fr H (.slice t x (some y) none none) ty (.slice (some ⟨g,if cp=i then o else o+i * m,none⟩) (len - i) (cp - i)):=.mk fun ac w d pos Ce gd hA _=>by
 subst hq;have he2:P.elem t=e:=by simp [Program.elem,hS.u]
 have h3:(Instr.sliceAt t (.slice (some ⟨g,o,none⟩) len cp) (some (.int kd (i:Int))) none none).run P w=.ok (.slice (some ⟨g,if cp=i then o else o+i * m,none⟩) (len - i) (cp - i)) w:=by
  rw [run_sliceAt_slice (h:=HH),run_slice_l (ht:=HH) (h0:=GJ) (h1:=GJ),he2,Mk hS.s];simp only [Result.andThen,sliced,Option.map_some,Addr.add_lit,Int.toNat_natCast]
  split <;> rfl
 exact AY
theorem Aqw {t e m i j g o len cp:Nat} {kd kd2:IntKind} {q r:Int} [hS:SlC P t e m] (hx:ev fr x=some (.slice (some ⟨g,o,none⟩) len cp)) (hy:ev fr y=some (.int kd q)) (hz:ev fr z=some (.int kd2 r)) (hq:q=(i:Int)) (hr:r=(j:Int)) (hi:i < cp) (hij:i≤j) (hj:j≤cp):Yd P n fr H (.slice t x (some y) (some z) none) ty (.slice (some ⟨g,o+i * m,none⟩) (j - i) (cp - i)):=.mk fun ac w d pos Ce gd hA _=>by
 subst hq hr;have he2:P.elem t=e:=by simp [Program.elem,hS.u]
 have h3:(Instr.sliceAt t (.slice (some ⟨g,o,none⟩) len cp) (some (.int kd (i:Int))) (some (.int kd2 (j:Int))) none).run P w=.ok (.slice (some ⟨g,o+i * m,none⟩) (j - i) (cp - i)) w:=by
  rw [run_sliceAt_slice (h:=HH),run_slice_lh (ht:=HH) (h0:=GJ) (h1:=GJ) (h2:=GJ),he2,Mk hS.s];simp only [Result.andThen,sliced,Option.map_some,Addr.add_lit,Int.toNat_natCast];rw [if_neg GJ]
 exact FP
end
section
variable {c:Cx} {fr:Fr} {H:List Pc} {k:List It} {Φ:Gl} {d:Nat} {ty:TypeId} {x y z u:Operand}
theorem Al8 {t e m n cp i j l:Nat} {a:Option Addr} {q r s:Int} [hS:SlC c.P t e m] (hd:Nat.blt d c.n=true) (hx:ev fr x=some (.slice a n cp)) (hy:ev fr y=some (.int .i64 q)) (hz:ev fr z=some (.int .i64 r)) (hu:ev fr u=some (.int .i64 s)) (hq:q=(i:Int)) (hr:r=(j:Int)) (hs:s=(l:Int)) (hij:i≤j) (hjl:j≤l) (hl:l≤cp) (h:∀v,T c ((d,v)::fr) H Φ):On c fr H (some d) (.slice t x (some y) (some z) (some u)) ty Φ:=⟨fun _ _ _=>Ok fun Q ac w st g=>by
 subst hq hr hs;have he2:=Ady hS;obtain ⟨v,h3⟩:∃v,(Instr.sliceAt t (.slice a n cp) (some (.int .i64 (i:Int))) (some (.int .i64 (j:Int))) (some (.int .i64 (l:Int)))).run c.P w=.ok v w:=by
  rw [run_sliceAt_slice (h:=HH),run_slice_lhm (ht:=HH) (h0:=GJ) (h1:=GJ) (h2:=GJ) (h3:=GJ),he2,Mk hS.s];exact ⟨_,rfl⟩
 have e1:∀pos Ce gd,(execOp ac.eval ⟨some d,.slice t x (some y) (some z) (some u),ty,pos,Ce,gd⟩).run c.P w=.ok (.value v) w:=by
  intro pos Ce gd;simp only [execOp,Option.map_none,Option.map_some,g.ev hx,g.ev hy,g.ev hz,g.ev hu,Sem.run_bind,h3,Result.andThen_ok,Sem.run_pure]
 rw [e1];exact (h v).h _ w st (g.put hd)⟩
theorem Awa {α:Type} {E:Bx α} (sc:Zp E) (one:One E) {t e m b g n cp i j q c2:Nat} {zv:Value} [hS:SlC c.P t e m] [hE:ElT c.P e zv m b] (hm:E.sz=m) {xs:List α} {F:List Nat} {S:List Pc}
  (hd:Nat.blt d c.n=true) (hx:ev fr x=some (.slice (some ⟨g,0,none⟩) i cp)) (hy:ev fr y=some (.slice (some ⟨g,q,none⟩) (n - j) c2)) (hq:j < n→q=j * m) (hij:i≤j) (hj:j≤n) (hn:n=xs.length)
  (hp:Cz H (.ow E e (.slice (some ⟨g,0,none⟩) n cp) xs F) S) (h:T c ((d,.slice (some ⟨g,0,none⟩) (i+(n - j)) cp)::fr) (.ow E e (.slice (some ⟨g,0,none⟩) n cp) (xs.take i++xs.drop j++xs.drop (i+(n - j))) F::S) Φ) :
  On c fr H (some d) (.call { callee:=.builtin .append,args:=#[x,y],argTypes:=#[t,t] }) ty Φ:=⟨fun _ _ _=>Ok fun Q a w s ag=>by
 subst hm hn;have s1:=s.pick hp;obtain ⟨hnd,ho⟩:=s1.on (.ow E e (.slice (some ⟨g,0,none⟩) xs.length cp) xs F) GL;have hF:=ho.scal sc;rcases ho with ⟨h1, -, -⟩|⟨g2,cap,cs,rest,G,h1,h2,h3,h4,h5,h6,h7⟩
 ·cases h1
 cases h1;have hG:G=[]:=by rw [h7] at hF;simpa [Value.ownBlock] using hF
 subst hG h7;obtain ⟨ti,hi,hiz⟩:=Option.map_eq_some_iff.1 hE.i;simp only [Prod.mk.injEq] at hiz;obtain ⟨-,i2, -⟩:=hiz;have hl:=h6.len;have hle:i+(xs.length - j)≤xs.length:=by omega
 have fi:=(h6.cutL i GJ).1;have fj:=(h6.cutL j hj).2;have fk:=(h6.cutL (i+(xs.length - j)) hle).2;have hd1:(cs.take (i * E.sz)).length=i * E.sz:=by have:=fi.len;rw [List.length_take (l:=xs),Nat.min_eq_left GJ] at this;exact this
 have hd2:(cs.drop (j * E.sz)).length=(xs.length - j) * E.sz:=by have:=fj.len;rwa [List.length_drop (l:=xs)] at this
 have h1c:=h6.one' one;have hsm:(i+(xs.length - j)) * E.sz≤xs.length * E.sz:=Nat.mul_le_mul_right _ hle;have hadd:(i+(xs.length - j)) * E.sz=i * E.sz+(xs.length - j) * E.sz:=Nat.add_mul _ _ _;have hsrc:∀r u,(cs.drop (j * E.sz))[r]?=some u→w.cell? ((⟨g,q,none⟩:Addr).add r)=some u:=fun r u hu=>by
  have hr:r < (cs.drop (j * E.sz)).length:=(List.getElem?_eq_some_iff.1 hu).1;have hlt:j < xs.length:=by
   rcases Nat.lt_or_ge j xs.length with h|h
   ·exact h
   ·rw [hd2,show xs.length - j=0 by omega] at hr;simp at hr
  rw [hq hlt,Addr.add_lit,h2.cell,List.getElem?_append_left (by rw [List.length_drop] at hr;omega)];rw [List.getElem?_drop] at hu;exact hu
 have hr:=fun ty=>run_append_room_cells (P:=c.P) w t ty e ti hS.u hi g 0 i cp ⟨g,q,none⟩ (xs.length - j) c2 (cs.drop (j * E.sz)) (by rw [hd2,i2]) hsrc (fun u hu=>h1c u (List.mem_of_mem_drop hu)) GJ
  (fun r hr=>by rw [i2,h2.cell,List.getElem?_eq_getElem HT];rfl) (fun r _=>h2.frozen _)
 have e1:∀pos Ce gd,(execOp a.eval ⟨some d,.call { callee:=.builtin .append,args:=#[x,y],argTypes:=#[t,t] },ty,pos,Ce,gd⟩).run c.P w=.ok (.value (.slice (some ⟨g,0,none⟩) (i+(xs.length - j)) cp)) (w.setCells g (0+i * E.sz) (cs.drop (j * E.sz))):=by
  intro pos Ce gd;simp only [execOp,resolve,invoke,builtin,Sem.run_bind,Sem.run_pure,Result.andThen_ok,List.map_toArray,List.map_cons,List.map_nil,ag.ev hx,ag.ev hy,hr,i2]
 rw [e1];have R0:Ha w g e (cs.take (i * E.sz)++(cs.drop (i * E.sz)).take ((xs.length - j) * E.sz)++(cs.drop ((i+(xs.length - j)) * E.sz)++rest)):=by
  rw [hadd,←List.drop_drop,List.append_assoc,←List.append_assoc _ _ rest,List.take_append_drop,←List.append_assoc,List.take_append_drop];exact h2
 have R1:=Ha.put (cs.drop (j * E.sz)) _ R0 (p:=0+i * E.sz) GJ (by rw [hd2,List.length_take,List.length_drop];omega);have hk:=Ln (g:=g) (cs.drop (j * E.sz)) w (0+i * E.sz);rw [Mb w g] at R1 hk;have hW:(Pc.ow E e (.slice (some ⟨g,0,none⟩) xs.length cp) (xs.take i++xs.drop j++xs.drop (i+(xs.length - j))) [g]).P (w.setCells g (0+i * E.sz) (cs.drop (j * E.sz))):=by
  have hll:(xs.take i++xs.drop j++xs.drop (i+(xs.length - j))).length=xs.length:=by simp only [List.length_append,List.length_take,List.length_drop];omega
  refine ⟨GL,.inr ⟨g,cp,cs.take (i * E.sz)++cs.drop (j * E.sz)++cs.drop ((i+(xs.length - j)) * E.sz),rest,[],by rw [hll],by simpa [List.append_assoc] using R1,by rw [hll];exact h3,h4,?_,?_,rfl⟩⟩
  ·rw [List.length_append,List.length_append,hd1,hd2,List.length_drop,hl,←h5];omega
  ·have:=((fi.all (w.setCells g (0+i * E.sz) (cs.drop (j * E.sz)))).append (fj.all _)).append (fk.all _);exact GF
 exact h.h _ _ (St.turn (M:=[.ow E e (.slice (some ⟨g,0,none⟩) xs.length cp) xs [g]]) (N:=[.ow E e (.slice (some ⟨g,0,none⟩) xs.length cp) (xs.take i++xs.drop j++xs.drop (i+(xs.length - j))) [g]]) s1 II KP ⟨GL,trivial⟩ (by
   intro q hq b hb;rw [List.mem_singleton] at hq;subst hq;exact .inr (.inl ⟨_,List.mem_singleton.2 rfl,rfl,hb⟩))) (ag.put hd)⟩
end
theorem Bbi (xs:List (List Value)) (n i:Nat) (j:Int) (a:Option Addr) (c:Nat) (F:List Nat) (hn:n=xs.length) (hi:i < xs.length) (hj:j=(i:Int)+1) (hl:xs.length≤1000000) :
  Fn prog 285 [.slice a n c,.int .i64 i,.int .i64 j] [] [.ow (EC 3) 162 (.slice a n c) xs F] (fun (_:Option Addr × Nat × List Nat)=>True)
   (fun z=>.slice z.1 (xs.take i++xs.drop (i+1)).length z.2.1) (fun z=>[.ow (EC 3) 162 (.slice z.1 (xs.take i++xs.drop (i+1)).length z.2.1) (xs.take i++xs.drop (i+1)) z.2.2]):=by
 subst hn;refine enter func285 rfl ntmps285 fun w0=>?_;refine Akd (xs:=xs) (Lh 3) (by rintro rfl;simp at hi) ?_;rintro g rfl rfl - hc1 hc2;refine go ?_;intros;apply wO;refine Al8 (i:=i) (j:=i+1) (l:=xs.length) rfl rfl rfl rfl rfl rfl GJ rfl GJ GJ hc1 (fun _=>?_);refine go ?_;intros;refine Be rfl (fun h=>absurd h GJ) (fun _=>?_);refine go ?_;intros;refine At [] [] ?_;refine Dy 0 1 ?_;refine dt 2 ?_ (hy:=Og (i:=i) rfl rfl rfl GJ GJ);refine Dy 3 4 ?_;refine dt 5 ?_ (hy:=Aye (i:=i+1) rfl rfl GJ GJ hc1);refine dN 6 ?_
 refine Awa (m:=3) (i:=i) (j:=i+1) (q:=if c=i+1 then 0 else 0+(i+1) * 3) (g:=g) (cp:=c) (n:=xs.length) (Lh 3) (Aop 3) rfl rfl rfl rfl (fun h=>by rw [if_neg GJ];omega) GJ GJ rfl GP ?_;refine dk ?_;refine dt 7 ?_;refine dd ?_;refine go ?_;intros;apply wO;apply oc;rfl;exact Aqw (i:=i+(xs.length - (i+1))) (j:=xs.length) rfl rfl rfl rfl rfl GJ GJ hc1;refine go ?_;intros;apply wO
 refine Aqd (xs:=xs.take i++xs.drop (i+1)++xs.drop (i+(xs.length - (i+1)))) (z0:=[.int .i64 0,.slice none 0 0,.int .i64 0]) (n:=xs.length) (cp:=c) (i:=i+(xs.length - (i+1))) (g:=g) (Lh 3) (fun w=>⟨rfl,⟨rfl,HK⟩,rfl⟩) GM rfl rfl GJ JZ GP ?_;have hk:(xs.take i++xs.drop (i+1)).length=i+(xs.length - (i+1)):=by exact Kd
 refine Akh (xs:=(xs.take i++xs.drop (i+1)++xs.drop (i+(xs.length - (i+1)))).take (i+(xs.length - (i+1)))++List.replicate (xs.length - (i+(xs.length - (i+1)))) [.int .i64 0,.slice none 0 0,.int .i64 0]) (i+(xs.length - (i+1))) (fun F2=>?_) JZ;exact FB
section
variable {c:Cx} {fr:Fr} {H:List Pc} {k:List It} {Φ:Gl} {ops:Array Oper} {o:Op} {ty:TypeId} {pos:String} {Ce:Array Edge} {H0:List Pc} {X:List Nat} {f:Nat} {listed:Array Bool}
theorem En.many {P:Program} {md:Region.Mode} {Q:Exit→Act→World→Prop} {S:World→Prop} {Y:Nat→Bool} {a:Act} {w:World} (hne:(Region.ready md ops listed).isEmpty=false)
  (h:∀i∈Region.ready md ops listed,∃oi,ops[i]?=some oi∧∀K':Act→World→Prop,Shut (∀a w,(Y i=false→S w)→En P md ops Q S Y f (listed.setIfInBounds i true) a w→K' a w)→if Region.wanted oi (yielded ops a.tmps)=true then Oper.wp P oi a w K' Q else K' (a.put oi.dst undef) w) :
  En P md ops Q S Y (f+1) listed a w:=by
 refine ⟨fun h0=>(by rw [h0] at hne;cases hne),fun j hj=>?_⟩;obtain ⟨oi,ho,hh⟩:=h j hj;exact wpOp_step ho (fun K' hK=>hh K' (fun a w hS hW=>hK a w ⟨hS,hW⟩))
theorem dP (L:List Nat) (hr:(Region.ready .any ops listed).all (fun i=>L.contains i)=true) (hne:(Region.ready .any ops listed).isEmpty=false)
  (h:∀i∈L,listed.getD i true=false→∃o,ops[i]?=some o∧o.guard=none∧Ef c fr H o (.dk i k H0 X ops f (listed.setIfInBounds i true))):T c fr H (.dx k H0 X ops (f+1) listed):=.mk fun a w s g =>
 En.many hne fun i hi=>by
  obtain ⟨o,ho,hg,he⟩:=h i (by simpa using List.all_eq_true.1 hr i hi) (by have:=(List.mem_filter.1 hi).2;simp only [Bool.and_eq_true,Bool.not_eq_true'] at this;exact this.1);refine ⟨o,ho,fun K hK=>?_⟩;rw [if_pos (by simp [Region.wanted,hg])];exact Oper.wp_mono (fun a' w' h'=>hK a' w' h'.1 h'.2) (he.h _ a w s g)
theorem dE (i:Nat) {od:Option Tmp} (ho:ops[i]?=some ⟨od,o,ty,pos,Ce,none⟩) (h:On c fr H od o ty Φ):∃o,ops[i]?=some o∧o.guard=none∧Ef c fr H o Φ:=⟨_,ho,rfl,h.h _ _ _⟩
theorem U1 (z:List Value) (n:Nat):madeCells z.toArray (n * z.length)=((List.replicate n z).flatten).toArray:=by
 have:=Nh z.toArray n;rw [List.size_toArray] at this;rw [←Array.toArray_toList (xs:=madeCells z.toArray (n * z.length)),this]
theorem Ba8 {b:Bool} (h:b=false) (h2:b=true):False:=by rw [h2] at h;cases h
end
def zP:Av:=⟨0,0,0,0,⟨#[]⟩⟩
def My (q:List Av):Av:=q.headD zP
theorem Wq {q:List Av} (h:0 < q.length):My q=q[0]:=by
 cases q with
 | nil=>cases h
 | cons p r=>rfl
theorem Bbj (xs:List Av) (n i:Nat) (j:Int) (a:Option Addr) (c:Nat) (F:List Nat) (hn:n=xs.length) (hi:i < xs.length) (hj:j=(i:Int)+1) (hl:xs.length≤1048576) :
  Fn prog 228 [.slice a n c,.int .i64 i,.int .i64 j] [] [.ow Aj 159 (.slice a n c) xs F] (fun (_:Option Addr × Nat × List Nat)=>True)
   (fun z=>.slice z.1 (xs.take i++xs.drop (i+1)).length z.2.1) (fun z=>[.ow Aj 159 (.slice z.1 (xs.take i++xs.drop (i+1)).length z.2.1) (xs.take i++xs.drop (i+1)) z.2.2]):=by
 subst hn;refine enter func228 rfl ntmps228 fun w0=>?_;refine Akd (xs:=xs) I3 (by rintro rfl;simp at hi) ?_;rintro g rfl rfl - hc1 hc2;refine go ?_;intros;apply wO;refine Al8 (i:=i) (j:=i+1) (l:=xs.length) rfl rfl rfl rfl rfl rfl GJ rfl GJ GJ hc1 (fun _=>?_);refine go ?_;intros;refine Be rfl (fun h=>absurd h GJ) (fun _=>?_);refine go ?_;intros;refine At [] [] ?_;refine Dy 0 1 ?_;refine dt 2 ?_ (hy:=Og (i:=i) rfl rfl rfl GJ GJ);refine Dy 3 4 ?_;refine dt 5 ?_ (hy:=Aye (i:=i+1) rfl rfl GJ GJ hc1);refine dN 6 ?_
 refine Awa (m:=5) (i:=i) (j:=i+1) (q:=if c=i+1 then 0 else 0+(i+1) * 5) (g:=g) (cp:=c) (n:=xs.length) I3 Hf rfl rfl rfl rfl (fun h=>by rw [if_neg GJ];omega) GJ GJ rfl GP ?_;refine dk ?_;refine dt 7 ?_;refine dd ?_;refine go ?_;intros;apply wO;apply oc;rfl;exact Aqw (i:=i+(xs.length - (i+1))) (j:=xs.length) rfl rfl rfl rfl rfl GJ GJ hc1;refine go ?_;intros;apply wO
 refine Aqd (xs:=xs.take i++xs.drop (i+1)++xs.drop (i+(xs.length - (i+1)))) (z0:=zP) (n:=xs.length) (cp:=c) (i:=i+(xs.length - (i+1))) (g:=g) I3 (fun w=>⟨rfl,Nat.zero_le _,rfl⟩) GM rfl rfl GJ JZ GP ?_;have hk:(xs.take i++xs.drop (i+1)).length=i+(xs.length - (i+1)):=by exact Kd
 refine Akh (xs:=(xs.take i++xs.drop (i+1)++xs.drop (i+(xs.length - (i+1)))).take (i+(xs.length - (i+1)))++List.replicate (xs.length - (i+(xs.length - (i+1)))) zP) (i+(xs.length - (i+1))) (fun F2=>?_) JZ;exact FB
theorem Bdq (xs:List Av) (a:Option Addr) (c:Nat) (F:List Nat) (hl:xs.length≤1000000000) :
  Fn prog 102 [.slice a xs.length c] [.sl Aj (.slice a xs.length c) xs F] [] (fun (_:Option Addr × Nat × List Nat)=>True) (fun z=>.slice z.1 xs.length z.2.1) (fun z=>[.ow Aj 159 (.slice z.1 xs.length z.2.1) xs z.2.2]):=by
 refine enter func102 rfl ntmps102 fun w0=>?_;refine go ?_;intros;cases a with
 | none =>
  refine Axn (xs:=xs) fun h0=>?_;subst h0;apply wO;apply oc;rfl;exact Akm rfl;refine Br Aj 159 ?_;refine go ?_;intros;refine ret (none,0,[]) trivial rfl
 | some ad =>
  apply wO;apply oc;rfl;exact Akm rfl;refine go ?_;intros;refine C4 Aj ?_;apply wO;refine N3 Hf I3 fun a2 c2 F2=>?_;rw [List.nil_append];exact DA
theorem Afl (d:List (List Av)) (i:Nat) (a:Option Addr) (n c:Nat) (F:List Nat) (hn:n=d.length) (hi:i < d.length) (h6:d[i].length≤6):Fn prog 168 [.slice a n c,.int .i64 (i:Nat)] [] [.ow (Fv Aj 159) 135 (.slice a n c) d F] (fun (_:List Nat)=>True) (fun _=>.tuple #[.agg #[.int .i64 (My d[i]).Ct,.int .i64 (My d[i]).Af,.int .i64 (My d[i]).Ao,.int .i64 (My d[i]).Ff,.string (My d[i]).data],.bool (decide (0 < d[i].length))]) (fun G=>[.ow (Fv Aj 159) 135 (.slice a n c) (d.set i (d[i].drop 1)) G]):=by
 refine enter func168 rfl ntmps168 fun w0=>?_;refine Aba (m:=1) i ?_ rfl hi;rintro _ g A cs B k1 k2 G1 Gi G2 rfl - hc hH;refine Xn ?_;rintro a5 c5 ev l5;obtain rfl:cs=[.slice a5 d[i].length c5]:=by simpa using ev
 refine go ?_;intros;refine Be rfl (fun h1=>?_) (fun h1=>?_)
 ·have h0:d[i]=[]:=List.length_eq_zero_iff.1 GJ;rw [h0];refine go ?_;intros;refine Jv [] ?_;refine Vd _ hH rfl fun F6=>?_;refine ret F6 trivial rfl
 ·have h0:0 < d[i].length:=by omega
  rw [decide_eq_true h0,Wq h0];refine Arn (xs:=d[i]) 0 ?_;rintro _ g2 A2 B2 rfl rfl sz hH2;refine M7 ?_;intros;refine Qv d[i][0] hH2 (fun w=>⟨rfl,sz,rfl⟩) ?_;rw [List.set_getElem_self];refine go ?_;intros;refine cf (Bbj d[i] d[i].length 0 1 _ c5 _ rfl h0 rfl GJ) fun z _=>?_;refine Ar ?_;rw [show d[i].take 0++d[i].drop (0+1)=d[i].drop 1 by simp];refine go ?_;intros;refine Jv (d[i].drop 1) ?_;refine Vd _ hH rfl fun F6=>?_;refine ret F6 trivial rfl
def Vo (l:List (List Av)) (k:Nat):List (List Av):=l.take k++List.replicate (l.length - k) []
theorem Arl {l:List (List Av)} {k:Nat} (h:k≤l.length):(Vo l k).length=l.length:=by unfold Vo;simp;omega
theorem Arm {l:List (List Av)} {k:Nat} (h:k < l.length):(Vo l k).set k l[k]=Vo l (k+1):=by
 unfold Vo;have e:List.replicate (l.length - k) ([]:List Av)=[]::List.replicate (l.length - (k+1)) []:=by rw [show l.length - k=(l.length - (k+1))+1 by omega,List.replicate_succ]
 have hl:(l.take k).length=k:=by rw [List.length_take];omega
 rw [e,List.set_append_right _ _ GJ,hl,Nat.sub_self,List.set_cons_zero,List.take_succ_eq_append_getElem h,List.append_assoc];rfl
theorem Iz (l:List (List Av)) (a:Option Addr) (c:Nat) (F:List Nat) (hl:l.length≤1048576) (hq:∀q∈l,q.length≤1000000000):Fn prog 61 [.slice a l.length c] [.sl (Nn Aj GM) (.slice a l.length c) l F] [] (fun (_:Nat × List Nat)=>True) (fun z=>.slice (some ⟨z.1,0,none⟩) l.length l.length) (fun z=>[.ow (Fv Aj 159) 135 (.slice (some ⟨z.1,0,none⟩) l.length l.length) l z.2]):=by
 refine enter func61 rfl ntmps61 fun w0=>?_;refine go ?_;intros;apply wO;refine Ag4 l.length (cs:=(List.replicate l.length ([.slice none 0 0]:List Value)).flatten) rfl rfl rfl (U1 _ _) GJ GJ fun g=>?_;refine Ic (E:=Fv Aj 159) (xs:=List.replicate l.length []) (fun w=>Cw.rep0 (E:=Fv Aj 159) (w:=w) (zs:=[.slice none 0 0]) (z:=([]:List Av)) ⟨_,rfl,.inl ⟨rfl,rfl,rfl⟩⟩ _) ?_ HB;rw [List.length_replicate,show List.replicate l.length ([]:List Av)=Vo l 0 by unfold Vo;simp];refine go ?_;intros
 refine Ck [2,3,9,10] (fun z:KF=>[(11,.int .i64 (z.k:Nat))]) (fun z=>[.ow (Fv Aj 159) 135 (.slice (some ⟨g,0,none⟩) l.length l.length) (Vo l z.k) z.F]) (fun z=>z.k≤l.length) (fun z=>l.length - z.k) ⟨0,_⟩ (Nat.zero_le _) fun z hz0=>?_;have hfl:=Arl hz0;refine go ?_;intros;refine Be rfl (fun h1=>?_) (fun h1=>?_)
 ·have hk:z.k < l.length:=by omega
  refine O6 (E:=Aj) (hz:=GM) (xs:=l) z.k ?_;rintro hi6 b6 o6 a11 c11 F11 rfl l11;refine Aba (xs:=Vo l z.k) (m:=1) z.k ?_ rfl GJ;rintro _ g2 A cs B k1 k2 G1 Gi G2 e2 - hc hH;cases e2;refine Xn ?_;rintro a5 c5 ev l5;obtain rfl:cs=[.slice a5 (Vo l z.k)[z.k].length c5]:=by simpa using ev
  refine go ?_;intros;refine cf (Bdq l[z.k] a11 c11 F11 (hq _ (List.getElem_mem hk))) fun y _=>?_;refine Ar ?_;refine go ?_;intros;refine Jv l[z.k] ?_;refine Vd _ hH rfl fun F6=>?_;rw [Arm hk];refine go ?_;intros;refine Cu ⟨z.k+1,F6⟩ hk (by show l.length - (z.k+1) < l.length - z.k;omega)
 ·rw [show Vo l z.k=l by unfold Vo;rw [show z.k=l.length by omega];simp];refine go ?_;intros;refine ret (g,z.F) trivial rfl
theorem Aee (fid:FuncId) (hbd:Xv prog fid) (caps:Array Value) (v:Value) (xs:List Iw) (F:List Nat) (p:Iw→Bool) (w:World) (h:Sl Bi w v xs F)
  (hp:∀(k:Nat) (hk:k < xs.length) (wr:World) (u:Value) (G:List Nat),Below w.heap.size w wr→N0 Bi wr u xs[k] G→Calls prog fid (#[u]++caps) wr fun e w'=>e=.returned (.bool (p xs[k]))∧Below wr.heap.size wr w') :
  Calls prog 275 #[v,.func (.func fid) #[] caps] w fun e w'=>e=.returned (.int .i64 (Qy p xs))∧Below w.heap.size w w':=by
 obtain ⟨a,cap,rfl⟩:=h.slice;have hl:=h.len;unfold maxLen at hl
 go_enter func275,ntmps275
 go_wp2
 go_loopw [5,8] (fun _ i wr=>∃k:Nat,k≤xs.length∧i=.int .i64 k∧Hid (∀j,j < k→∀hj:j < xs.length,p xs[j]=false)∧Below w.heap.size w wr) (fun _ i _=>xs.length - (intOf i).toNat)
 case atStart=>exact ⟨0,Nat.zero_le _,rfl,fun j hj=>by omega,Below.refl _ _⟩
 case round =>
  obtain ⟨k,hk,rfl,hz,hB⟩:=hrel;by_cases hlt:k < xs.length
  ·have hz0:=hz;clear hz;obtain ⟨b,off,_,F1,rfl,hx, -,ja⟩:=(h.below GM hB).at k hlt;obtain ⟨rfl,rfl⟩:=id hx;have a0:=ja 0 GM;have a1:=ja 1 GM;simp only [show Bi.sz=2 from rfl,Nat.mul_one,Nat.add_zero,List.getElem?_cons_zero,List.getElem?_cons_succ] at a0 a1;clear ja;have hr:=hp k hlt wr _ _ hB ⟨_,rfl,hx⟩;have hp:=Lib.hid hp;cases hpk:p xs[k]
   all_goals
    rw [hpk] at hr;have hpk:=Lib.hid hpk;have hr:=Lib.hid hr;go_wp2_with fail;refine hbd.upon hr.out ?_;rintro e w1 ⟨rfl,hb1⟩;refine ⟨_,rfl,?_⟩;have hB:=tr hB hb1 (Nat.le_refl _);clear hb1;go_wp2_with fail
   ·exact AS
   ·go_ret
    exact FO
  ·go_wp2
   go_ret
   exact DN
theorem Anj (v:Value) (xs:List Iw) (F:List Nat) (w:World) (h:Sl Bi w v xs F) (hm:xs.length≤4294967296) :
  Calls prog 101 #[v] w (Ul Bi 156 xs w):=by
 obtain ⟨ao,c,news,Fy,rfl,hl,hfy,hFy,hsrc⟩:=h.src;have hFl:=hfy.lt;have he:=fun w (a:Option Addr) (n c:Nat)=>Lib.run_eql_slice_nil (P:=prog) w 41 _ a n c 0 0 underlying41
 go_enter func101,ntmps101
 rcases hsrc with ⟨rfl,rfl,rfl⟩|⟨ad,rfl,hn⟩
 ·go_wp2
  go_ret
  exact CB
 ·go_wp2_with (at_builtin;refine Mn Jc GM GV _ _ _ GV 156 (.agg #[.int .i64 0,.int .i64 0]) 16 underlying41 Ah0 rfl (.slice (some ⟨w.heap.size,0,none⟩) 0 0) [] [w.heap.size] GV (Ow.empty (Ha.made _ _ _)) (Hd.one _) (some ad) xs c GV news Fy (hfy.frame fun b hb=>Below.heap_alloc _ _ _ (hFl b hb)) (.inr ⟨ad,rfl,fun j u hu=>kc ((Below.refl _ _).alloc (Nat.le_refl _) _) (hn j u hu)⟩) (fun b hb e=>by have:=hFl b hb;simp [Value.ownBlock] at e;omega) IH IA ?_);intro v2 w2 F2 hA;go_wp2_with fail
  go_ret
  have hB:Below w.heap.size w w2:=((Below.refl _ _).alloc (Nat.le_refl _) _).trans (hA.H8.below GL GL);have hs:∀b,v2.ownBlock=some b→w.heap.size≤b:=fun b hb=>by rcases hA.Ao1 with e|e <;> rw [e] at hb <;> simp [Value.ownBlock] at hb <;> omega
  refine ⟨v2,F2,rfl,JF,hA.ow.scal Lp▸?_,fun b hb=>?_,hB⟩
  ·cases v2.ownBlock <;> simp
  ·rw [hA.ow.scal Lp] at hb;exact hs b KB
theorem Vj (fid:FuncId) (hbd:Xv prog fid) (caps:Array Value) (v:Value) (xs:List Iw) (F:List Nat) (p:Iw→Bool) (w:World) (h:Ow Bi 156 w v xs F) (hn:F.Nodup)
  (hp:∀(k:Nat) (hk:k < xs.length) (wr:World) (u:Value) (G:List Nat),Dn F w wr→N0 Bi wr u xs[k] G→Calls prog fid (#[u]++caps) wr fun e w'=>e=.returned (.bool (p xs[k]))∧Below wr.heap.size wr w') :
  Calls prog 219 #[v,.func (.func fid) #[] caps] w fun e w'=>∃v' F',e=.returned v'∧Ow Bi 156 w' v' (xs.filter fun x=>!p x) F'∧F'.Nodup∧(∀b∈F',b∈F)∧Dn F w w':=by
 obtain ⟨F1,hF1,hs⟩:=h.sl (Kv.refl _);obtain ⟨a,cap,rfl⟩:=h.slice;have hl:=h.len;unfold maxLen at hl;have hp:=Lib.hid hp
 go_enter func219,ntmps219
 go_wp2_with fail;refine (Aee fid hbd caps _ xs F1 p _ hs (fun k hk wr u G hb hu=>hp.out k hk wr u G (Dn.ofBelow hb) hu)).mono ?_;rintro e w1 ⟨rfl,hb1⟩;have hK1:=Dn.ofBelow (F:=F) hb1;by_cases hany:xs.any p=true
 ·obtain ⟨k0,hk0,hfx,hpk,hfl⟩:=Xd hany;rw [hfx];obtain ⟨g,rfl, -,hg0⟩:=Gap.start (h.below hb1) hn (ys:=xs.take k0) (zs:=xs[k0]::xs.drop (k0+1)) GL GJ;obtain ⟨F0,hg0,hF0⟩:=hg0.skip;have hG0:=Lib.hid hg0;clear hg0;have hk1:((k0:Int) == -1)=false:=by simp
  go_wp2_with fail
  go_loopw [5,6,7] (fun i j _ wr=>∃(q m:Nat) (F1:List Nat),q≤xs.length∧0 < m∧((xs.take q).filter fun x=>!p x).length+m=q∧i=.int .i64 ((xs.take q).filter fun x=>!p x).length∧j=.int .i64 q∧Hid (Gap Bi 156 wr g xs.length cap ((xs.take q).filter fun x=>!p x) m (xs.drop q) F1)∧(∀b∈F1,b∈F)∧Dn F w wr) (fun _ j _ _=>xs.length - (intOf j).toNat)
  case atStart=>exact ⟨k0+1,1,F0,hk0,GJ,IJ,IJ,HZ,by rw [C2 hk0 KH,hfl];exact hG0,hF0,hK1⟩
  case round =>
   obtain ⟨q,m,F1,hq,hm,hlen,rfl,rfl,hG,hF1,hK⟩:=hrel;obtain ⟨-,hcap, -⟩:=hG.out.caps;generalize hys:((xs.take q).filter fun x=>!p x)=ys at *;by_cases hlt:q < xs.length
   ·rw [List.drop_eq_getElem_cons hlt] at hG;obtain ⟨c,Fx,hx,hFx,hcell⟩:=hG.out.first;obtain ⟨Fx2, -,hxe⟩:=(Kv.refl _).Lo hx;obtain ⟨rfl,rfl⟩:=id hx;have a0:=hcell 0 GM;have a1:=hcell 1 GM;simp only [hlen,show Bi.sz=2 from rfl,Nat.mul_one,Nat.add_zero,List.getElem?_cons_zero,List.getElem?_cons_succ] at a0 a1;have hr:=fun A=>hp.out q hlt (wr.alloc A) _ Fx2 (hK.alloc A) ⟨_,rfl,Bi.below hxe ((Below.refl wr.heap.size wr).alloc (Nat.le_refl _) A)⟩;cases hpq:p xs[q]
    ·obtain ⟨st,c2,Fx3,hx3, -,hcell2,back⟩:=hG.out.move hm;simp only [hpq] at hr;obtain rfl:=Af3 (Bi.len hx) (Bi.len hx3) hcell hcell2;have st:=st;obtain ⟨⟨x0,z0⟩,g0⟩:=st 0 GM;obtain ⟨⟨x1,z1⟩,g1⟩:=st 1 GM;simp only [show Bi.sz=2 from rfl,Nat.mul_one,Nat.add_zero] at z0 g0 z1 g1;have hr:=Lib.hid hr;have hbk:=Lib.hid back;have hpq:=Lib.hid hpq;have hys:=Lib.hid hys;have hlen:=Lib.hid hlen;have hyl:ys.length < xs.length:=by have:=hlen.out;omega
     clear hx hxe hcell hcell2 hx3 back st hfx hpk hfl;go_wp2_with fail;refine hbd.upon (hr.out _) ?_;rintro e w2 ⟨rfl,hb2⟩;refine ⟨_,rfl,?_⟩;have b2:=(Ha.below (g:=wr.heap.size) (t:=156) (cs:=[.int .i64 xs[q].Af,.int .i64 xs[q].Cg]) JP hb2).cells;have hbb:=tr ((Below.refl wr.heap.size wr).alloc (Nat.le_refl _) _) hb2 (Nat.le_refl _);clear hb2;have g0:=(kf hbb z0).trans g0;have z0:=kc hbb z0;have g1:=(kf hbb z1).trans g1;have z1:=kc hbb z1;obtain ⟨F2,hg2,hF2⟩:=hbk.out w2 hbb;simp only [Ni,show Bi.sz=2 from rfl,Nat.mul_one] at hg2;have hg2:=Lib.hid hg2
     have hgF:g∈F:=hF1 g hG.out.caps.2.2.2.2.1;go_wp2_with fail;exact ⟨⟨q+1,m,F2,GJ,hm,KJ,KK,HZ,by rw [Gm hlt JG,hys.out];exact hg2.out,fun b hb=>hF1 b (hF2 b hb),KE⟩,HA⟩
    ·obtain ⟨F2,hg2,hF2⟩:=hG.out.skip;simp only [hpq] at hr;have hr:=Lib.hid hr;have hg2:=Lib.hid hg2;have hpq:=Lib.hid hpq;have hys:=Lib.hid hys;have hlen:=Lib.hid hlen;clear hx hxe hcell hfx hpk hfl;go_wp2_with fail;refine hbd.upon (hr.out _) ?_;rintro e w2 ⟨rfl,hb2⟩;refine ⟨_,rfl,?_⟩;have hbb:=tr ((Below.refl wr.heap.size wr).alloc (Nat.le_refl _) _) hb2 (Nat.le_refl _);clear hb2;go_wp2_with fail
     exact BM
   ·have hqe:q=xs.length:=by omega
    subst hqe;simp only [List.drop_length,List.take_length] at hG hys;obtain ⟨hc,F2,ho2,hn2,hF2⟩:=hG.out.done (z:=#[.int .i64 0,.int .i64 0]) rfl;have hmm:xs.length - ys.length=m:=by omega
    have hcl:=fun ty=>Sk (P:=prog) wr 41 156 ty (.agg #[.int .i64 0,.int .i64 0]) underlying41 (Vh Ah0) (by simp [Value.cells,Value.oneCell']) g (ys.length * 2) m (cap - ys.length) hm (fun j hj=>(hc j hj).1) (fun j hj=>(hc j hj).2);have hyl:ys.length < xs.length:=by omega
    have hgF:g∈F:=hF1 g hG.out.caps.2.2.2.2.1;have hO:=Lib.hid ho2;have hlen:=Lib.hid hlen;have hys:=Lib.hid hys;clear ho2 hc hfx hpk hfl;go_wp2_with fail
    go_ret
    exact DL
 ·obtain ⟨hfx,hfl⟩:=Zy hany;rw [hfx];go_wp2_with fail
  go_ret
  exact ⟨_,F,rfl,by rw [hfl];exact h.below hb1,hn,fun b hb=>hb,hK1⟩
theorem Aeh (x:Cr) (v:Value) (F:List Nat) (hl:x.Ab.Ak.length≤4294967296) (hl2:x.holds.length≤4294967296):Fn prog 60 [v] [.isv D7 v x F] [] (fun (_:Value × List Nat)=>True)
  (fun s=>s.1) (fun s=>[.own W9 s.1 x s.2]):=by
 refine enter func60 rfl ntmps60 fun w0=>?_;refine Jh ?_;rintro a1 c1 F1 a2 c2 F2 rfl l1 l2;refine Ds x.Ab ?_;generalize F1=F3;refine go ?_;intros;refine cv (fun w s=>Yl _ x.Ab _ w (s.get (p:=.isv Cd (.agg #[.int .i64 x.Ab.Ao,.int .i64 x.Ab.size,.slice a1 x.Ab.Ak.length c1]) x.Ab F3) GL) hl) fun v F'=>?_;refine Jg ?_;rintro a5 c5 F5 rfl l5;refine go ?_;intros;refine cn (fun w s=>Anj _ _ _ _ (s.get (p:=.sl Bi (.slice a2 x.holds.length c2) x.holds F2) GL).2 hl2) fun a6 c6 F6=>?_;refine go ?_;intros;refine Ajm x ?_;exact FD
theorem Aze (W:Az) (h:Iw) (gb g o:Nat) (u:Value) (a:Option Addr) (c:Nat) (cl q:Value) (Hs:Value) (G Fw:List Nat) (t0:0≤W.Ao) (t1:W.Ao≤65535) (n0:0≤h.Af) (n1:h.Af≤65535) :
  Fn prog 220 [u,Hm gb 0 0] [.isv Bi u h G,.cel gb 0 [Hm g o 0],.cel g o [.int .i64 W.Ao,.int .i64 W.size,.slice a W.Ak.length c,cl,q,Hs],.isv Cd (.agg #[.int .i64 W.Ao,.int .i64 W.size,.slice a W.Ak.length c]) W Fw] [] (fun (_:Unit)=>True) (fun _=>.bool (!Ik W h.Af)) (fun _=>[]):=by
 refine enter func220 rfl ntmps220 fun w0=>?_;refine Ama ?_;rintro _ rfl;refine go ?_;intros;refine At [0,2,3] [] ?_;refine Dk 0 1 2 3 ?_;refine Dy 4 5 ?_;refine dN 6 ?_;refine oC ?_;refine cb (fun w st=>(Wf W h.Af _ _ t0 t1 n0 n1).val w (I9 (st.get (p:=.isv Cd (.agg #[.int .i64 W.Ao,.int .i64 W.size,.slice a W.Ak.length c]) W Fw) GL))) ?_;refine dk ?_;refine Dy 7 8 ?_;refine dd ?_;refine go ?_;intros;refine ret () trivial ?_;simp only [Ik,Ss,decide_not]
theorem An4 {P:Program} {f:FuncId} {args:List Value} {p:Pc} {R:List Pc} {σ:Type} {C:σ→Prop} {v:σ→Value} {N:σ→Pc} (hm:p.mu=true)
  (h:∀w,p.P w→O2 R w→(∀wr,Dn p.F w wr→O2 R wr)→Calls P f args.toArray w fun e w'=>∃s,C s∧e=.returned (v s)∧(N s).P w'∧(∀b∈(N s).F,b∈p.F∨w.heap.size≤b)∧Dn p.F w w'):Fn P f args [] (p::R) C v (fun s=>N s::R):=fun w hH hS=>by
 rw [List.append_nil] at hH hS;have hR:O2 R w:=fun q hq=>hH q HG;have ap:∀q∈R,∀b∈q.F,b ∉ p.F:=fun q hq b hb hp=>hS.1 q hq (by simp [hm]) b hp hb;have hk:∀wr,Dn p.F w wr→O2 R wr:=fun wr k q hq=>q.st (hR q hq) fun b hb=>k.block b (q.lt (hR q hq) b hb) (ap q hq b hb);refine (h w (hH p GL) hR hk).mono ?_;rintro e w' ⟨s,hC,he,hN,hF,k⟩;refine ⟨s,hC,he,?_,⟨fun q hq _ b hb hbq=>?_,hS.2⟩,k.mono (fun b hb _=>by simp [fp,hb]),?_⟩
 ·intro q hq;rcases List.mem_cons.1 hq with rfl|hq
  ·exact hN
  ·exact hk w' k q hq
 ·rcases hF b hb with h|h
  ·exact ap q hq b hbq h
  ·have:=q.lt (hR q hq) b hbq;omega
 ·intro q hq b hb;rcases List.mem_cons.1 hq with rfl|hq
  ·rcases hF b hb with h|h
   ·exact .inr (.inl ⟨p,GL,h⟩)
   ·exact .inl h
  ·exact .inr (.inl ⟨q,HG,hb⟩)
theorem Bd6 {P:Program} {fn:Func} {R:Ending→World→Prop} {G D:List Nat} {w0:World} {n:Nat} {fr:Fr} {H:List Pc} (h:T ⟨P,G,D,w0,n,bodyPost P fn R⟩ fr H (.fin .ret)):T ⟨P,G,D,w0,n,bodyPost P fn R⟩ fr H (.norm []):=.mk fun a w s g=>h.h a w s g
def Nc (W:Az) (hs:List Iw):List Iw:=hs.filter fun h=>Ik W h.Af
theorem Azf (W:Az) (hs:List Iw) (gb tb g t o:Nat) (A B:List Value) (a a2:Option Addr) (c c2:Nat) (cl q:Int) (F F2:List Nat) (t0:0≤W.Ao) (t1:W.Ao≤65535) (hn:∀h∈hs,B9 h.Af=true) :
  Fn prog 219 [.slice a2 hs.length c2,.func (.func 220) #[] #[Hm gb 0 0]] [] [.ow Bi 156 (.slice a2 hs.length c2) hs F2,.row gb tb 0 [] [Hm g o 0] [],.row g t o A [.int .i64 W.Ao,.int .i64 W.size,.slice a W.Ak.length c,.int .i64 cl,.int .i64 q,.slice a2 hs.length c2] B,.ow A8 9 (.slice a W.Ak.length c) W.Ak F] (fun (_:Option Addr × Nat × List Nat)=>True)
   (fun z=>.slice z.1 (Nc W hs).length z.2.1) (fun z=>[.ow Bi 156 (.slice z.1 (Nc W hs).length z.2.1) (Nc W hs) z.2.2,.row gb tb 0 [] [Hm g o 0] [],.row g t o A [.int .i64 W.Ao,.int .i64 W.size,.slice a W.Ak.length c,.int .i64 cl,.int .i64 q,.slice a2 hs.length c2] B,.ow A8 9 (.slice a W.Ak.length c) W.Ak F]):=by
 refine An4 rfl fun w ⟨hnd,ho⟩ _ hk=>?_;refine (Vj _ (Uo GK) #[Hm gb 0 0] _ hs F2 (fun h=>!Ik W h.Af) w ho hnd fun k hk2 wr u G hK hu=>?_).mono ?_
 ·have hr:=hk wr hK;have r1:=hr (.row gb tb 0 [] [Hm g o 0] []) GL;have r2:=hr (.row g t o A [.int .i64 W.Ao,.int .i64 W.size,.slice a W.Ak.length c,.int .i64 cl,.int .i64 q,.slice a2 hs.length c2] B) GL;obtain ⟨Fw, -,hw⟩:=(hr (.ow A8 9 (.slice a W.Ak.length c) W.Ak F) GL).2.read;obtain ⟨n0,n1⟩:=Bb.1 (hn hs[k] (List.getElem_mem hk2));refine (Aze W hs[k] gb g o u a c (.int .i64 cl) (.int .i64 q) (.slice a2 hs.length c2) G Fw t0 t1 n0 n1).val wr ?_;intro p hp;simp only [List.mem_cons,List.not_mem_nil,or_false] at hp;rcases hp with rfl|rfl|rfl|rfl
  ·exact hu
  ·exact ⟨GL,Hz r1⟩
  ·exact ⟨GL,Hz r2⟩
  ·exact ⟨_,rfl,_,rfl,hw⟩
 ·rintro e w' ⟨v',F',rfl,h1,h2,h3,h4⟩;have e:(hs.filter fun x=>!(fun h:Iw=>!Ik W h.Af) x)=Nc W hs:=by simp [Nc]
  rw [e] at h1;exact CQ
theorem Alq (W:Az) (hs:List Iw) (g t o:Nat) (A B:List Value) (a a2:Option Addr) (c c2:Nat) (cl q:Int) (F F2:List Nat) (t0:0≤W.Ao) (t1:W.Ao≤65535) (hn:∀h∈hs,B9 h.Af=true) :
  Fn prog 162 [Hm g o 0] [] [.row g t o A [.int .i64 W.Ao,.int .i64 W.size,.slice a W.Ak.length c,.int .i64 cl,.int .i64 q,.slice a2 hs.length c2] B,.ow Bi 156 (.slice a2 hs.length c2) hs F2,.ow A8 9 (.slice a W.Ak.length c) W.Ak F] (fun (_:Option Addr × Nat × List Nat)=>True)
   (fun _=>.tuple #[]) (fun z=>[.row g t o A [.int .i64 W.Ao,.int .i64 W.size,.slice a W.Ak.length c,.int .i64 cl,.int .i64 q,.slice z.1 (Nc W hs).length z.2.1] B,.ow Bi 156 (.slice z.1 (Nc W hs).length z.2.1) (Nc W hs) z.2.2,.ow A8 9 (.slice a W.Ak.length c) W.Ak F]):=by
 refine enter func162 rfl ntmps162 fun w0=>?_;refine go ?_;intros;refine At [0,1] [9] ?_;refine Dk 0 1 2 3 ?_;refine Dy 4 5 ?_;refine dN 6 ?_;refine oC ?_;refine cf (Azf W hs _ _ g t o A B a a2 c c2 cl q F F2 t0 t1 hn) fun z _=>?_;refine Ar ?_;refine dk ?_;refine Dy 7 8 ?_;refine dN 9 ?_;refine oS ?_;refine Rn ?_;refine dd ?_;refine Bd6 ?_;exact BL
theorem Xr {a t:Int}:Em a t≤(gp a t).toNat:=by unfold Em;split <;> omega
theorem T8 {w:An} {t:Int} (hg:Cs w=true):(Iu w t).next=Ce w.next ((Is w t).length:Nat)∧(Iu w t).Ap=w.Ap.drop (Is w t).length∧(Is w t).length≤Em w.next t+8∧Em w.next t≤(Is w t).length:=by
 obtain ⟨h0,h1⟩:0≤w.next∧w.next≤65535:=by
  exact ES
 have hl:w.Ap.length≤8:=by
  unfold Cs at hg;simp only [Bool.and_eq_true,decide_eq_true_eq] at hg;have:=hg.1.1.2;omega
 have e1:∀k (x:An),(Nw k x).length=k:=by
  intro k
  induction k with
  | zero=>intro x;rfl
  | succ k ih=>intro x;simp [Nw,ih]
 have h2:=Acl (Em w.next t) w h0 h1;have h3:=Wt (If (Em w.next t) w).Ap (If (Em w.next t) w).next;have h4:=R6 (Em w.next t) w;have h5:=Aqk (If (Em w.next t) w);rw [h4,List.length_drop] at h5;refine ⟨h2,?_,?_,?_⟩
 ·have e:(Iu w t).Ap=(If (Em w.next t) w).Ap.drop (Qs (If (Em w.next t) w)).length:=h3.1;rw [e,h4,List.drop_drop];unfold Is;rw [List.length_append,e1]
 ·unfold Is;rw [List.length_append,e1];omega
 ·unfold Is;rw [List.length_append,e1];omega
theorem Ap5 (w:An) (n:Int):Ie w n=I6 w.Ap (gp w.next n).toNat:=rfl
theorem Azq {w:An} {t n:Int} (hg:Cs w=true) (ht:gp w.next t≤8) (hn:B9 n=true) (h8:gp w.next n < 8) (hh:Ie w n=false) :
  (Sp n (Iu w t).next=true∧gp w.next n < ((Is w t).length:Nat))∨(Sp n (Iu w t).next=false∧Ie (Iu w t) n=false∧gp w.next n=((Is w t).length:Nat)+gp (Iu w t).next n):=by
 obtain ⟨e1,e2,e3, -⟩:=T8 (t:=t) hg;have hs:=@Xr w.next t;obtain ⟨n0,n1⟩:=Bb.1 hn;obtain ⟨w0,w1⟩:0≤w.next∧w.next≤65535:=by
  exact ES
 have hm:(Is w t).length≤16:=by omega
 have hb:=Ky w.next n;rw [Ap5,e1,e2,Uu];rw [Ap5] at hh;generalize hM:(Is w t).length=m at *;clear e1 e2 e3 hs hM hg ht;by_cases hc:gp w.next n < (m:Nat)
 ·left;refine ⟨?_,hc⟩;unfold Sp Eu gp Ce at *;simp only [Bool.and_eq_true,decide_eq_true_eq];omega
 ·right;have e:gp w.next n=m+gp (Ce w.next m) n:=by unfold gp Ce at *;omega
  refine ⟨?_,?_,e⟩
  ·have:¬(1≤gp n (Ce w.next m)∧gp n (Ce w.next m)≤32767):=by unfold gp Ce at *;omega
   unfold Sp Eu;exact GF
  ·have hb2:=Ky (Ce w.next m) n;rw [show m+(gp (Ce w.next m) n).toNat=(gp w.next n).toNat by omega];exact hh
theorem Ajy {w:An} {t:Int} (hg:Cs w=true) (ht:gp w.next t≤8) {l:List A1} (hl:∀q∈l,B9 q.Af=true∧gp w.next q.Af < 8∧Ie w q.Af=false):D8 l (Iu w t)=X8 l (Iu w t).next:=by
 unfold D8 X8;refine List.filter_congr fun q hq=>?_;obtain ⟨a,b,c⟩:=hl q hq;rcases Azq hg ht a b c with ⟨h, -⟩|⟨h,h2,h3⟩
 ·simp [h]
 ·have:=Ky (Iu w t).next q.Af;simp [h,h2,show gp (Iu w t).next q.Af < 8 by omega]
theorem Aki {c d:Int} {r q:A1} (h:Tb c d r=some q):q.Af=r.Af:=by
 unfold Tb at h
 split at h
 ·cases h;rfl
 ·split at h
  ·cases h
  ·split at h <;> cases h <;> rfl
theorem Bam {c:Int} {r:A1} {n:Int} (h:Tk c r=some n):n=r.Af:=by
 unfold Tk at h
 split at h
 ·cases h
 ·split at h <;> cases h <;> rfl
theorem Wu {r:A9} (hg:Lq r) {q:A1} (hq:q∈r.Am):B9 q.Af=true∧gp r.Ab.next q.Af < 8∧Ie r.Ab q.Af=false:=by
 obtain ⟨-, -,h3, -⟩:=C9.1 hg.q;have:=Ei.1 (h3 q hq);exact ⟨this.n,this.g,hg.f q hq⟩
theorem Aas {r:A9} {d:Int} (hg:Lq r) {q:A1} (hq:q∈M5 r d):B9 q.Af=true∧gp r.Ab.next q.Af < 8∧Ie r.Ab q.Af=false:=by
 obtain ⟨q',hq',h⟩:=List.mem_filterMap.1 hq;rw [Aki h];exact Wu hg hq'
theorem Aca {r:A9} (hg:Lq r) {n:Int} (hn:n∈C1 r):B9 n=true∧gp r.Ab.next n < 8:=by
 obtain ⟨q',hq',h⟩:=List.mem_filterMap.1 hn;rw [Bam h];exact ⟨(Wu hg hq').1,(Wu hg hq').2.1⟩
theorem Hy {w:An} (hg:Cs w=true):0≤w.next∧w.next≤65535:=by
 exact ES
theorem Ad1 {r:A9} (hg:Lq r) (h:C1 r≠[]):gp r.Ab.next (Db (C1 r))≤8∧B9 (Db (C1 r))=true:=by
 unfold Db;have hm:(C1 r).getLastD 0∈C1 r:=by
  rw [List.getLastD_eq_getLast?,List.getLast?_eq_some_getLast h];exact List.getLast_mem h
 obtain ⟨a,b⟩:=Aca hg hm;refine ⟨?_,Un _ _⟩;obtain ⟨n0,n1⟩:=Bb.1 a;obtain ⟨w0,w1⟩:=Hy hg.w;unfold gp Ce at *;omega
theorem Adc {r:A9} {d:Int} (hg:Lq r) (h:C1 r≠[]):D8 (M5 r d) (Iu r.Ab (Db (C1 r)))=X8 (M5 r d) (Iu r.Ab (Db (C1 r))).next :=
 Ajy hg.w (Ad1 hg h).1 fun _ hq=>Aas hg hq
theorem Axm {P:Program} {f:FuncId} {α:Type} {E:Bx α} {v:Value} {xs:List α} {F:List Nat} {rest:List Value} {A M:List Pc} {σ:Type} {C:σ→Prop} {w:σ→Value} {N:σ→List Pc} (h:∀a c,Fn P f (.slice a xs.length c::rest) (.sl E (.slice a xs.length c) xs F::A) M C w N):Fn P f (v::rest) (.sl E v xs F::A) M C w N:=fun w0 hH hS=>by
 obtain ⟨-,hs⟩:=hH (.sl E v xs F) GL;obtain ⟨a,c,rfl⟩:=hs.slice;exact h a c w0 hH hS
theorem Arz (d:Int):Fn prog 351 [.int .i64 d] [] [] (fun (_:Unit)=>True) (fun _=>.bool (Avl d)) (fun _=>[]):=by
 refine enter func351 rfl ntmps351 fun w0=>?_;refine go ?_;intros;refine ce (fun w s=>Hk _ _ _ _) ?_;exact AB
theorem Wh (r:A1) (base:Int) (b0:0≤base) (b1:base≤65535):Fn prog 300 [.agg #[.int .i64 r.Af,.int .i64 r.state,.int .i64 r.Cg,.int .i64 r.D6],.int .i64 base] [] [] (fun (_:Unit)=>True) (fun _=>.bool (Mp base r)) (fun _=>[]):=by
 refine enter func300 rfl ntmps300 fun w0=>?_;refine go ?_;intros;refine ce (fun w s=>Il _ _) ?_;cases g1:B9 r.Af
 ·refine go ?_;intros;refine ret () trivial ?_;simp [Mp,g1,Ss]
 obtain ⟨n0,n1⟩:=Bb.1 g1;refine go ?_;intros;refine ce (fun w s=>Om _ _ _ GJ GJ GJ GJ) ?_;refine go ?_;intros;refine Dj rfl rfl (fun g2=>?_) (fun g2=>?_)
 rotate_left
 ·refine go ?_;intros;refine ret () trivial ?_;simp [Mp,g2,Ss]
 refine go ?_;intros;refine ce (fun w s=>Hk _ _ _ _) ?_;cases g3:Eu 1 r.state 3
 ·refine go ?_;intros;refine ret () trivial ?_;simp [Mp,g3,Ss]
 refine go ?_;intros;refine ce (fun w s=>Hk _ _ _ _) ?_;cases g4:Eu 0 r.Cg 10007
 ·refine go ?_;intros;refine ret () trivial ?_;simp [Mp,g4,Ss]
 refine go ?_;intros;refine ce (fun w s=>Hk _ _ _ _) ?_;refine go ?_;intros;refine ret () trivial ?_;simp [Mp,g1,g2,g3,g4,Ss]
theorem P7 (l:List A1) (base:Int) (v:Value) (F:List Nat):Fn prog 237 [v,.int .i64 base] [.sl Ax v l F] [] (fun (_:Unit)=>True) (fun _=>.bool (Lu l base)) (fun _=>[]):=by
 refine Axm (fun a c=>?_);refine enter func237 rfl ntmps237 fun w0=>?_;refine go ?_;intros;refine ce (fun w s=>Il _ _) ?_;cases g1:B9 base
 ·refine go ?_;intros;refine ret () trivial ?_;simp [Lu,g1,Ss]
 obtain ⟨b0,b1⟩:=Bb.1 g1;refine go ?_;intros;refine Be rfl (fun g2=>?_) (fun g2=>?_)
 ·exact FQ
 refine go ?_;intros;refine Ev [0,1,4,15,16] (fun k:Nat=>[(17,.int .i64 (k:Nat))]) (fun k=>k≤l.length∧∀j,j < k→Agx l base j=true) (fun k=>l.length - k) 0 ⟨Nat.zero_le _,fun j h=>by omega⟩ fun k hk=>?_;obtain ⟨hk1,hk2⟩:=hk;refine go ?_;intros;refine Be rfl (fun h3=>?_) (fun h3=>?_)
 ·have hk3:k < l.length:=by omega
  have bad:Agx l base k=false→Lu l base=false:=fun h=>Apt hk3 h;have hck:=Up (base:=base) hk3;refine In (xs:=l) k ?_;rintro hi b o e;rw [e];have p4:0 < k→∃h:k - 1 < l.length,Auc base l[k - 1]:=fun h0=>by
   have hk4:k - 1 < l.length:=by omega
   have hp:=hk2 (k - 1) GJ;rw [Up hk4] at hp;simp only [Bool.and_eq_true] at hp;exact ⟨hk4,Ei.1 hp.1⟩
  refine go ?_;intros;cases g4:Mp base l[k]
  ·skip
   refine At [0] [] ?_;refine Dy 0 1 ?_;refine dN 2 ?_;refine oC ?_;refine cf (Wh l[k] base b0 b1) fun _ _=>?_;refine Ar ?_;rw [g4];refine dk ?_;refine Dy 3 4 ?_;refine ds 5 ?_;refine ds 6 ?_;refine ds 7 ?_;refine Zf 8 ?_;refine Zf 9 ?_;refine Zf 10 ?_;refine Zf 11 ?_;refine Zf 12 ?_;refine Zf 13 ?_;refine Zf 14 ?_;refine Zf 15 ?_;refine Zf 16 ?_;refine Zf 17 ?_;refine Zf 18 ?_;refine Zf 19 ?_;refine Zf 20 ?_;refine ds 21 ?_;refine dt 22 ?_;refine dd ?_;exact EE
  obtain ⟨q0,q1⟩:=Bb.1 (Ei.1 g4).n;by_cases hk0:0 < k
  ·obtain ⟨hk4,p5⟩:=p4 hk0;obtain ⟨p0,p1⟩:=Bb.1 p5.n;rw [←e];refine In (xs:=l) (k - 1) ?_;rintro hi5 b5 o5 e5;rw [e5];refine At [0,1] [] ?_;refine Dy 0 1 ?_;refine dN 2 ?_;refine oC ?_;refine cf (Wh l[k] base b0 b1) fun _ _=>?_;refine Ar ?_;rw [g4];refine dk ?_;refine Dy 3 4 ?_;refine Di 5 ?_;refine Di 6 ?_;rw [decide_eq_true (show (0:Int) < k by omega)];refine Di 7 ?_;refine Di 8 ?_;refine Di 9 ?_;refine Di 10 ?_;refine Di 11 ?_;rw [show (k:Int) - 1=((k - 1:Nat):Int) by omega];refine Di 12 ?_;refine Di 13 ?_;refine Di 14 ?_;refine Di 16 ?_;refine Di 17 ?_;refine Di 18 ?_;refine d1g 15 ?_
   apply On.h;refine oC ?_;refine ce (fun w s=>Om _ _ _ GJ GJ GJ GJ) ?_;refine dk ?_;refine d1g 19 ?_;apply On.h;refine oC ?_;refine ce (fun w s=>Om _ _ _ GJ GJ GJ GJ) ?_;refine dk ?_;refine Di 20 ?_;refine Di 21 ?_;refine dt 22 ?_;refine dd ?_;refine go ?_;intros;refine Be rfl (fun h6=>?_) (fun h6=>?_)
   ·exact BH
   ·refine go ?_;intros;refine Cu (k+1) ⟨GJ,fun j hj=>?_⟩ GJ;rcases Nat.lt_or_eq_of_le (Nat.lt_succ_iff.1 hj) with h|rfl
    ·exact hk2 j h
    ·rw [hck,g4,decide_eq_false h6];simp
  ·have hz:k=0:=by omega
   refine At [0] [] ?_;refine Dy 0 1 ?_;refine dN 2 ?_;refine oC ?_;refine cf (Wh l[k] base b0 b1) fun _ _=>?_;refine Ar ?_;rw [g4];refine dk ?_;refine Dy 3 4 ?_;refine Di 5 ?_;refine Di 6 ?_;rw [decide_eq_false (show ¬(0:Int) < k by omega)];refine Di 7 ?_;refine ds 8 ?_;refine ds 9 ?_;refine ds 10 ?_;refine ds 11 ?_;refine ds 12 ?_;refine ds 13 ?_;refine ds 14 ?_;refine ds 15 ?_;refine ds 16 ?_;refine ds 17 ?_;refine ds 18 ?_;refine ds 19 ?_;refine ds 20 ?_;refine Di 21 ?_;refine dt 22 ?_;refine dd ?_;refine go ?_;intros;refine Cu (k+1) ⟨GJ,fun j hj=>?_⟩ GJ
   rcases Nat.lt_or_eq_of_le (Nat.lt_succ_iff.1 hj) with h|rfl
   ·exact hk2 j h
   ·rw [hck,g4,decide_eq_true hz];simp
 have hkl:k=l.length:=by omega
 refine go ?_;intros;refine ret () trivial ?_;rw [Ak4 g1 GJ (hkl▸hk2)];rfl
theorem Asb (l:List A1) (base:Int) (v:Value) (F:List Nat):Fn prog 185 [v,.int .i64 base] [.sl Ax v l F] [] (fun (_:Unit)=>True) (fun _=>.bool (Lu l base)) (fun _=>[]):=by
 refine Axm (fun a c=>?_);refine enter func185 rfl ntmps185 fun w0=>?_;refine go ?_;intros;refine ce (fun w s=>Ng _ _) ?_;cases g1:B9 base
 ·refine go ?_;intros;refine ret () trivial ?_;simp [Lu,g1,Ss]
 obtain ⟨b0,b1⟩:=Bb.1 g1;refine go ?_;intros;refine Be rfl (fun g2=>?_) (fun g2=>?_)
 ·exact FQ
 refine go ?_;intros;refine Ev [0,1,4] (fun k:Nat=>[(5,.int .i64 (k:Nat))]) (fun k=>k≤l.length∧∀j,j < k→Agx l base j=true) (fun k=>l.length - k) 0 ⟨Nat.zero_le _,fun j h=>by omega⟩ fun k hk=>?_;obtain ⟨hk1,hk2⟩:=hk;refine go ?_;intros;refine Be rfl (fun h3=>?_) (fun h3=>?_)
 ·have hk3:k < l.length:=by omega
  have bad:Agx l base k=false→Lu l base=false:=fun h=>Apt hk3 h;have hck:=Up (base:=base) hk3;refine In (xs:=l) k ?_;rintro hi b o e;rw [e];have p4:0 < k→∃h:k - 1 < l.length,Auc base l[k - 1]:=fun h0=>by
   have hk4:k - 1 < l.length:=by omega
   have hp:=hk2 (k - 1) GJ;rw [Up hk4] at hp;simp only [Bool.and_eq_true] at hp;exact ⟨hk4,Ei.1 hp.1⟩
  refine go ?_;intros;refine ce (fun w s=>Ng _ _) ?_;cases g5:B9 l[k].Af
  ·refine go ?_;intros;refine ret () trivial ?_;rw [bad (by rw [hck,show Mp base l[k]=false by unfold Mp;simp [g5]];rfl)];rfl
  obtain ⟨q0,q1⟩:=Bb.1 g5;refine go ?_;intros;refine ce (fun w s=>I1 _ _ _ GJ GJ) ?_;refine go ?_;intros;refine Dj rfl rfl (fun g6=>?_) (fun g6=>?_)
  ·refine go ?_;intros;refine ret () trivial ?_;rw [bad (by rw [hck,show Mp base l[k]=false by unfold Mp;rw [decide_eq_false GJ];simp];rfl)];rfl
  refine go ?_;intros;refine ce (fun w s=>Iq _ _ _ _) ?_;cases g7:Eu 1 l[k].state 3
  ·refine go ?_;intros;refine ret () trivial ?_;rw [bad (by rw [hck,show Mp base l[k]=false by unfold Mp;simp [g7]];rfl)];rfl
  refine go ?_;intros;refine ce (fun w s=>Iq _ _ _ _) ?_;cases g8:Eu 0 l[k].Cg 10007
  ·refine go ?_;intros;refine ret () trivial ?_;rw [bad (by rw [hck,show Mp base l[k]=false by unfold Mp;simp [g8]];rfl)];rfl
  refine go ?_;intros;refine ce (fun w s=>Iq _ _ _ _) ?_;cases g9:Eu 0 l[k].D6 3
  ·refine go ?_;intros;refine ret () trivial ?_;rw [bad (by rw [hck,show Mp base l[k]=false by unfold Mp;simp [g9]];rfl)];rfl
  refine go ?_;intros;have g4:Mp base l[k]=true:=by unfold Mp;rw [g5,g7,g8,g9,decide_eq_true GJ];rfl
  by_cases hk0:0 < k
  ·obtain ⟨hk4,p5⟩:=p4 hk0;obtain ⟨p0,p1⟩:=Bb.1 p5.n;rw [←e];refine In (xs:=l) (k - 1) ?_;rintro hi5 b5 o5 e5;rw [e5];refine At [1,0] [] ?_;refine Dy 0 1 ?_;rw [decide_eq_true (show (0:Int) < k by omega)];refine dt 2 ?_;refine Di 3 ?_;refine Di 4 ?_;refine Di 5 ?_;refine Di 6 ?_;rw [show (k:Int) - 1=((k - 1:Nat):Int) by omega];refine Di 7 ?_;refine Di 8 ?_;refine Di 9 ?_;refine Di 11 ?_;refine Di 12 ?_;refine Di 13 ?_;refine d1g 10 ?_;apply On.h;refine oC ?_;refine ce (fun w s=>I1 _ _ _ GJ GJ) ?_;refine dk ?_;refine d1g 14 ?_;apply On.h;refine oC ?_
   refine ce (fun w s=>I1 _ _ _ GJ GJ) ?_;refine dk ?_;refine Di 15 ?_;refine dt 16 ?_;refine dd ?_;refine go ?_;intros;refine Be rfl (fun h6=>?_) (fun h6=>?_)
   ·exact BH
   ·refine go ?_;intros;refine Cu (k+1) ⟨GJ,fun j hj=>?_⟩ GJ;rcases Nat.lt_or_eq_of_le (Nat.lt_succ_iff.1 hj) with h|rfl
    ·exact hk2 j h
    ·rw [hck,g4,decide_eq_false h6];simp
  ·have hz:k=0:=by omega
   refine At [0] [] ?_;refine Dy 0 1 ?_;rw [decide_eq_false (show ¬(0:Int) < k by omega)];refine dt 2 ?_;refine ds 3 ?_;refine ds 4 ?_;refine ds 5 ?_;refine ds 6 ?_;refine ds 7 ?_;refine ds 8 ?_;refine ds 9 ?_;refine ds 10 ?_;refine ds 11 ?_;refine ds 12 ?_;refine ds 13 ?_;refine ds 14 ?_;refine ds 15 ?_;refine dt 16 ?_;refine dd ?_;refine go ?_;intros;refine Cu (k+1) ⟨GJ,fun j hj=>?_⟩ GJ;rcases Nat.lt_or_eq_of_le (Nat.lt_succ_iff.1 hj) with h|rfl
   ·exact hk2 j h
   ·rw [hck,g4,decide_eq_true hz];simp
 have hkl:k=l.length:=by omega
 refine go ?_;intros;refine ret () trivial ?_;rw [Ak4 g1 GJ (hkl▸hk2)];rfl
section
variable {c:Cx} {fr:Fr} {H:List Pc} {Φ:Gl}
theorem Gt {v:Value} {x:A9} {F:List Nat} (h:∀(a1:Option Addr) (c1:Nat) (F1:List Nat) (a2:Option Addr) (c2:Nat) (F2:List Nat),v=.agg #[.bool x.Bd,.int .i64 x.Ai,.int .i64 x.Ab.next,.slice a1 x.Ab.Ap.length c1,.slice a2 x.Am.length c2]→x.Ab.Ap.length≤maxLen→x.Am.length≤maxLen→T c fr (.sl Cm (.slice a1 x.Ab.Ap.length c1) x.Ab.Ap F1::.sl Ax (.slice a2 x.Am.length c2) x.Am F2::H) Φ) (hm:.isv B4 v x F∈H:=by exact Bp):T c fr H Φ:=.mk fun a w s g=>by
 obtain ⟨cs,rfl,v1,v2,G1,G2,rfl,h1,h2,rfl⟩:=s.get hm;obtain ⟨a1,c1,rfl⟩:=h1.slice;have l1:=h1.len;obtain ⟨a2,c2,rfl⟩:=h2.slice;have l2:=h2.len;have t2:=s.ro (p:=.sl Ax (.slice a2 x.Am.length c2) x.Am G2) hm rfl rfl ⟨GM,h2⟩ GR;have t1:=t2.ro (p:=.sl Cm (.slice a1 x.Ab.Ap.length c1) x.Ab.Ap G1) (List.mem_cons_of_mem _ hm) rfl rfl ⟨GM,h1⟩ GR;exact (h a1 c1 G1 a2 c2 G2 rfl  l1 l2).h a w t1 g
theorem Ee (x:A9) {a1:Option Addr} {c1:Nat} {F1:List Nat} {a2:Option Addr} {c2:Nat} {F2:List Nat}  (h:T c fr (.isv B4 (.agg #[.bool x.Bd,.int .i64 x.Ai,.int .i64 x.Ab.next,.slice a1 x.Ab.Ap.length c1,.slice a2 x.Am.length c2]) x (F1++F2)::H) Φ) (m1:.sl Cm (.slice a1 x.Ab.Ap.length c1) x.Ab.Ap F1∈H:=by exact Bp) (m2:.sl Ax (.slice a2 x.Am.length c2) x.Am F2∈H:=by exact Bp):T c fr H Φ:=.mk fun a w s g=>by
 have hP:N0 B4 w (.agg #[.bool x.Bd,.int .i64 x.Ai,.int .i64 x.Ab.next,.slice a1 x.Ab.Ap.length c1,.slice a2 x.Am.length c2]) x (F1++F2):=⟨_,rfl,_,_,_,_,rfl,(s.get m1).2,(s.get m2).2,rfl⟩;refine h.h a w (s.add (N:=[.isv B4 (.agg #[.bool x.Bd,.int .i64 x.Ai,.int .i64 x.Ab.next,.slice a1 x.Ab.Ap.length c1,.slice a2 x.Am.length c2]) x (F1++F2)]) (Below.refl _ _) HP ⟨GL,trivial⟩ fun q hq b hb=>?_) g;simp at hq;subst hq;simp only [Pc.F,List.mem_append] at hb;rcases hb with hb|hb
 ·exact .inr ⟨rfl,_,m1,rfl,hb⟩
 ·exact .inr ⟨rfl,_,m2,rfl,hb⟩
theorem H4 {v:Value} {x:A9} {F:List Nat} {S:List Pc} (h:∀(a1:Option Addr) (c1:Nat) (F1:List Nat) (a2:Option Addr) (c2:Nat) (F2:List Nat),v=.agg #[.bool x.Bd,.int .i64 x.Ai,.int .i64 x.Ab.next,.slice a1 x.Ab.Ap.length c1,.slice a2 x.Am.length c2]→x.Ab.Ap.length≤maxLen→x.Am.length≤maxLen→T c fr (.ow Cm 196 (.slice a1 x.Ab.Ap.length c1) x.Ab.Ap F1::.ow Ax 166 (.slice a2 x.Am.length c2) x.Am F2::S) Φ) (hp:Cz H (.own Bg v x F) S:=by exact Df):T c fr H Φ:=.mk fun a w s g=>by
 have z1:=s.pick hp;obtain ⟨hn,cs,rfl,v1,v2,G1,G2,rfl,h1,h2,rfl⟩:=z1.on (.own Bg v x F) GL;obtain ⟨a1,c1,rfl⟩:=h1.slice;have l1:=h1.len;obtain ⟨a2,c2,rfl⟩:=h2.slice;have l2:=h2.len;have hn2:=hn;simp only [List.nodup_append,List.mem_append] at hn2;refine (h a1 c1 G1 a2 c2 G2 rfl  l1 l2).h a w (St.turn (M:=[.own Bg (.agg #[.bool x.Bd,.int .i64 x.Ai,.int .i64 x.Ab.next,.slice a1 x.Ab.Ap.length c1,.slice a2 x.Am.length c2]) x _]) (N:=[.ow Cm 196 (.slice a1 x.Ab.Ap.length c1) x.Ab.Ap G1,.ow Ax 166 (.slice a2 x.Am.length c2) x.Am G2]) z1 (Dn.refl _ w) ?_ ?_ ?_) g
 ·intro q hq;simp only [List.mem_cons,List.not_mem_nil,or_false] at hq;rcases hq with rfl|rfl
  ·exact ⟨(List.nodup_append.1 hn).1,h1⟩
  ·exact ⟨(List.nodup_append.1 hn).2.1,h2⟩
 ·refine ⟨?_,⟨?_,trivial⟩⟩
  ·exact DZ
  ·intro q hq _ b hb hb2;simp at hq
 ·exact CX
theorem Ju (x:A9) {a1:Option Addr} {c1:Nat} {F1:List Nat} {a2:Option Addr} {c2:Nat} {F2:List Nat} {S1 S2:List Pc}  (h:T c fr (.own Bg (.agg #[.bool x.Bd,.int .i64 x.Ai,.int .i64 x.Ab.next,.slice a1 x.Ab.Ap.length c1,.slice a2 x.Am.length c2]) x (F1++F2)::S2) Φ) (m1:Cz H (.ow Cm 196 (.slice a1 x.Ab.Ap.length c1) x.Ab.Ap F1) S1:=by exact Df) (m2:Cz S1 (.ow Ax 166 (.slice a2 x.Am.length c2) x.Am F2) S2:=by exact Df)  : T c fr H Φ:=.mk fun a w s g=>by
 have z1:St c.G c.D c.w0 ([.ow Cm 196 (.slice a1 x.Ab.Ap.length c1) x.Ab.Ap F1,.ow Ax 166 (.slice a2 x.Am.length c2) x.Am F2]++S2) w:=by simpa using (show Ex H [.ow Cm 196 (.slice a1 x.Ab.Ap.length c1) x.Ab.Ap F1,.ow Ax 166 (.slice a2 x.Am.length c2) x.Am F2] S2 from Ex.cons m1 (Ex.cons m2 (Ex.nil))).st (X:=[]) IB
 obtain ⟨n1,k1⟩:=z1.on (.ow Cm 196 (.slice a1 x.Ab.Ap.length c1) x.Ab.Ap F1) GL;obtain ⟨n2,k2⟩:=z1.on (.ow Ax 166 (.slice a2 x.Am.length c2) x.Am F2) GL;have hsp:=z1.sep;have p1_2:∀b∈F1,b ∉ F2:=hsp.1 (.ow Ax 166 (.slice a2 x.Am.length c2) x.Am F2) GL rfl;have hN:(F1++F2).Nodup:=by
  simp only [List.nodup_append,List.mem_append]
  grind
 refine h.h a w (St.turn (M:=[.ow Cm 196 (.slice a1 x.Ab.Ap.length c1) x.Ab.Ap F1,.ow Ax 166 (.slice a2 x.Am.length c2) x.Am F2]) (N:=[.own Bg (.agg #[.bool x.Bd,.int .i64 x.Ai,.int .i64 x.Ab.next,.slice a1 x.Ab.Ap.length c1,.slice a2 x.Am.length c2]) x (F1++F2)]) z1 (Dn.refl _ w) KD ⟨GL,trivial⟩ fun q hq b hb=>?_) g;simp at hq;subst hq;simp only [Pc.F,List.mem_append] at hb;rcases hb with hb|hb
 ·exact .inr (.inl ⟨.ow Cm 196 (.slice a1 x.Ab.Ap.length c1) x.Ab.Ap F1,GL,rfl,hb⟩)
 ·exact .inr (.inl ⟨.ow Ax 166 (.slice a2 x.Am.length c2) x.Am F2,GL,rfl,hb⟩)
theorem Jt {a:Option Addr} {n cp:Nat} {xs:List A9} {F:List Nat} (i:Nat) (h:∀(hi:i < xs.length) (b o:Nat) (a1:Option Addr) (c1:Nat) (F1:List Nat) (a2:Option Addr) (c2:Nat) (F2:List Nat),a=some ⟨b,o,none⟩→xs[i].Ab.Ap.length≤maxLen→xs[i].Am.length≤maxLen→T c fr (.cel b (o+i * 5) [.bool xs[i].Bd,.int .i64 xs[i].Ai,.int .i64 xs[i].Ab.next,.slice a1 xs[i].Ab.Ap.length c1,.slice a2 xs[i].Am.length c2]::.sl Cm (.slice a1 xs[i].Ab.Ap.length c1) xs[i].Ab.Ap F1::.sl Ax (.slice a2 xs[i].Am.length c2) xs[i].Am F2::H) Φ) (hm:.sl B4 (.slice a n cp) xs F∈H:=by exact Bp) (hi:i < xs.length:=by omega):T c fr H Φ:=.mk fun ac w s g=>by
 obtain ⟨b,o,cs,G,ha,hrep,hG,hb,hne,hr⟩:=Wv (s.get hm) i hi;obtain ⟨v1,v2,G1,G2,rfl,h1,h2,rfl⟩:=hrep;obtain ⟨a1,c1,rfl⟩:=h1.slice;have l1:=h1.len;obtain ⟨a2,c2,rfl⟩:=h2.slice;have l2:=h2.len;have t2:=s.ro (p:=.sl Ax (.slice a2 xs[i].Am.length c2) xs[i].Am G2) hm rfl rfl ⟨GM,h2⟩ HJ;have t1:=t2.ro (p:=.sl Cm (.slice a1 xs[i].Ab.Ap.length c1) xs[i].Ab.Ap G1) (List.mem_cons_of_mem _ hm) rfl rfl ⟨GM,h1⟩ HJ
 exact (h hi b o a1 c1 G1 a2 c2 G2 ha  l1 l2).h ac w (t1.ro (List.mem_cons_of_mem _ (List.mem_cons_of_mem _ hm)) rfl rfl ⟨hne,hr⟩ HR) g
end
theorem Ake {c:Cx} {fr:Fr} {H S:List Pc} {Φ:Gl} {g t:Nat} {cs:List Value} (h:T c fr (.cel g 0 cs::S) Φ) (h0:cs≠[]) (hp:Cz H (.row g t 0 [] cs []) S:=by exact Df):T c fr H Φ:=.mk fun ac w s ag=>by
 have s1:=s.pick hp;exact h.h ac w (s1.conv rfl ⟨h0,Hz (s1.on (.row g t 0 [] cs []) GL)⟩ (fun b hb=>hb)) ag
theorem Aqq {c:Cx} {fr:Fr} {H S:List Pc} {Φ:Gl} {g t o k:Nat} {A B L:List Value} (X cs Y:List Value) (h:T c fr (.row g t (o+k) (A++X) cs (Y++B)::S) Φ) (hL:L=X++cs++Y:=by rfl) (hk:X.length=k:=by rfl) (hp:Cz H (.row g t o A L B) S:=by exact Df):T c fr H Φ:=.mk fun ac w s ag=>by
 subst hL hk;have s1:=s.pick hp;obtain ⟨hA,hr⟩:=s1.on (.row g t o A (X++cs++Y) B) GL;exact h.h ac w (s1.conv rfl ⟨by simp [hA],by simpa [List.append_assoc] using hr⟩ (fun b hb=>hb)) ag
theorem Age {c:Cx} {fr:Fr} {H S:List Pc} {Φ:Gl} {g t o k:Nat} {A B L:List Value} (X cs Y:List Value) (h:T c fr (.row g t o A L B::S) Φ) (hL:L=X++cs++Y:=by rfl) (hk:X.length=k:=by rfl) (hp:Cz H (.row g t (o+k) (A++X) cs (Y++B)) S:=by exact Df):T c fr H Φ:=.mk fun ac w s ag=>by
 subst hL hk;have s1:=s.pick hp;obtain ⟨hA,hr⟩:=s1.on (.row g t (o+X.length) (A++X) cs (Y++B)) GL;exact h.h ac w (s1.conv rfl ⟨JJ,by simpa [List.append_assoc] using hr⟩ (fun b hb=>hb)) ag
theorem Abd {p:Pc}:∀(A:List Pc),Ku (p::A) A
 | []=>.nil
 | _::r=>.cons (.there .here) (Abd r)
theorem Aks (fid:FuncId) (bd caps:List Value) (A:List Pc) (hA:A.all (fun p=>!p.mu)=true) (xs:List A1) (a:Option Addr) (c:Nat) (F:List Nat) (p:A1→Bool) (hb:Qi prog fid=true) (hl:xs.length≤1000000000)
  (hp:∀x∈xs,∀w,O2 A w→Calls prog fid (bd++[(.agg #[.int .i64 (x).Af,.int .i64 (x).state,.int .i64 (x).Cg,.int .i64 (x).D6]:Value)]++caps).toArray w fun e w'=>e=.returned (.bool (p x))∧Below w.heap.size w w') :
  Fn prog 301 [.slice a xs.length c,.func (.func fid) bd.toArray caps.toArray] (.sl Ax (.slice a xs.length c) xs F::A) [] (fun (_:Unit)=>True) (fun _=>.int .i64 (Qy p xs)) (fun _=>[]):=by
 refine enter func301 rfl ntmps301 (fun w0=>?_) rfl HD .nil;refine go ?_;intros;refine Ev [0,1,4,7] (fun k:Nat=>[(8,.int .i64 (k:Nat))]) (fun k=>k≤xs.length∧∀j (_:j < k) (hj:j < xs.length),p xs[j]=false) (fun k=>xs.length - k) 0 ⟨Nat.zero_le _,fun j h=>by omega⟩ fun k hk=>?_;obtain ⟨hk1,hk2⟩:=hk;refine go ?_;intros;refine Be rfl (fun h5=>?_) (fun h5=>?_)
 ·have hh:k < xs.length:=by omega
  refine go ?_;intros;refine In (xs:=xs) k ?_;rintro hi b o e;rw [e];refine go ?_;intros;apply wO;refine Aab rfl rfl hb Tw ?_;refine cb (fun w st=>hp xs[k] (List.getElem_mem hh) w (fun q hq=>st.on q HG)) ?_;cases hpk:p xs[k]
  ·refine go ?_;intros;refine Vb ?_;refine Cu (hH:=Kr _) (k+1) ⟨hh,fun j hj h=>?_⟩ GJ;rcases Nat.lt_or_eq_of_le (Nat.lt_succ_iff.1 hj) with h2|rfl
   ·exact hk2 j h2 h
   ·exact hpk
  ·exact FI
 ·obtain rfl:k=xs.length:=by omega
  exact BP
structure At2 where
 i:Nat
 j:Nat
 zs:List A1
theorem Akq (fid:FuncId) (bd caps:List Value) (A:List Pc) (hA:A.all (fun p=>!p.mu)=true) (xs:List A1) (a:Option Addr) (c:Nat) (F:List Nat) (p:A1→Bool) (hb:Qi prog fid=true) (hl:xs.length≤1000000000)
  (hp:∀x∈xs,∀w,O2 A w→Calls prog fid (bd++[(.agg #[.int .i64 (x).Af,.int .i64 (x).state,.int .i64 (x).Cg,.int .i64 (x).D6]:Value)]++caps).toArray w fun e w'=>e=.returned (.bool (p x))∧Below w.heap.size w w') :
  Fn prog 279 [.slice a xs.length c,.func (.func fid) bd.toArray caps.toArray] A [.ow Ax 166 (.slice a xs.length c) xs F] (fun (_:Option Addr × Nat × List Nat)=>True)
   (fun z=>.slice z.1 (xs.filter fun x=>!p x).length z.2.1) (fun z=>[.ow Ax 166 (.slice z.1 (xs.filter fun x=>!p x).length z.2.1) (xs.filter fun x=>!p x) z.2.2]):=by
 refine enter func279 rfl ntmps279 (fun w0=>?_) rfl HD (.cons .nil);refine go ?_;intros;refine cb (fun w st=>by
  obtain ⟨Fw, -,hw⟩:=(st.get (p:=.ow Ax 166 (.slice a xs.length c) xs F) GL).2.read;refine (Aks fid bd caps A hA xs a c Fw p hb hl hp).val w ?_ HD;intro q hq;rcases List.mem_cons.1 hq with rfl|hq
  ·exact ⟨GM,hw⟩
  ·exact st.on q HG) ?_
 by_cases hany:xs.any p=true
 ·obtain ⟨i0,hi0,hfx,hpi,hfl⟩:=Xd hany;rw [hfx];refine Akd (xs:=xs) Dq (by rintro rfl;simp at hi0) ?_;rintro g rfl rfl - hc1 hc2;refine go ?_;intros;refine Ck [0,1,4] (fun s:At2=>[(5,.int .i64 (s.i:Nat)),(6,.int .i64 (s.j:Nat))]) (fun s=>[.ow Ax 166 (.slice (some ⟨g,0,none⟩) xs.length c) s.zs [g]]) (fun s=>s.zs.length=xs.length∧s.j≤xs.length∧s.i < s.j∧s.zs.take s.i=(xs.take s.j).filter (fun x=>!p x)∧s.zs.drop s.j=xs.drop s.j) (fun s=>xs.length - s.j) ⟨i0,i0+1,xs⟩ ⟨rfl,hi0,Nat.lt_succ_self _,by rw [C2 hi0 (by simp [hpi]),hfl],rfl⟩ fun s hs=>?_;obtain ⟨i,j,zs⟩:=s;obtain ⟨h1,h2,h3,h4,h5⟩:=hs
  dsimp only at h1 h2 h3 h4 h5 ⊢;refine go ?_;intros;refine Be rfl (fun h6=>?_) (fun h6=>?_)
  ·have hj:j < xs.length:=by omega
   have hjz:j < zs.length:=by omega
   have hx:zs[j]=xs[j]:=by
    exact FM
   have hdz:zs.drop (j+1)=xs.drop (j+1):=by
    rw [←List.drop_drop,h5,List.drop_drop]
   refine go ?_;intros;refine R5 (m:=4) Dq j ?_ GP rfl hjz;rintro _ g2 A2 cs2 B2 e1 e2 hc3 hh;cases e1;obtain ⟨rfl, -⟩:=hc3 w0;refine go ?_;intros;refine Qv zs[j] hh hc3 ?_;rw [List.set_getElem_self,hx];apply wO;refine Aab rfl rfl hb Tw ?_;refine cb (fun w st=>hp xs[j] (List.getElem_mem hj) w (fun q hq=>st.on q HG)) ?_;cases hpj:p xs[j]
   ·refine go ?_;intros;refine R5 (m:=4) Dq i ?_ GP rfl GJ;rintro _ g3 A3 cs3 B3 e1 e2 hc4 hh3;cases e1;obtain ⟨rfl, -⟩:=hc4 w0;refine go ?_;intros;refine Qv xs[j] hh3 (fun w=>⟨rfl,rfl⟩) ?_;refine Cu (hH:=.cons .here (Abd _)) (⟨i+1,j+1,zs.set i xs[j]⟩:At2) ⟨by simp [h1],hj,Nat.succ_lt_succ h3,?_,?_⟩ IZ
    ·exact EP
    ·dsimp only;rw [List.drop_set_of_lt GJ,hdz]
   ·refine go ?_;intros;refine Cu (hH:=.cons .here (Abd _)) (⟨i,j+1,zs⟩:At2) ⟨h1,hj,Nat.lt_succ_of_lt h3,?_,hdz⟩ IZ;dsimp only;rw [C2 hj (by simp [hpj]),h4]
  ·obtain rfl:j=xs.length:=by omega
   have h4':zs.take i=xs.filter fun x=>!p x:=by rw [h4,List.take_length]
   have hil:(xs.filter fun x=>!p x).length=i:=by rw [←h4',List.length_take];omega
   refine go ?_;intros;apply wO;apply oc;rfl;exact Kb (i:=i) rfl rfl rfl GJ GJ GJ;refine go ?_;intros;apply wO;refine Aqd (z0:=⟨0,0,0,0⟩) (n:=xs.length) (cp:=c) (i:=i) (g:=g) Dq (fun w=>⟨rfl,rfl⟩) GM rfl rfl h3 h1.symm GP ?_;refine go ?_;intros;refine Akh (xs:=zs.take i++List.replicate (xs.length - i) ⟨0,0,0,0⟩) i (fun F2=>?_) JW;rw [List.take_left' HW,h4']
   apply wO;apply oc;rfl;exact Og (i:=i) rfl rfl rfl GJ GJ;refine go ?_;intros;subst hil;refine ret (_,c,F2) trivial rfl
 ·obtain ⟨hfx,hfl⟩:=Zy hany;rw [hfx,hfl];refine go ?_;intros;refine ret (a,c,F) trivial rfl
theorem Atz (fid:FuncId) (bd caps:List Value) (A:List Pc) (hA:A.all (fun p=>!p.mu)=true) (xs:List A1) (a:Option Addr) (c:Nat) (F:List Nat) (p:A1→Bool) (hb:Qi prog fid=true) (hl:xs.length≤1000000000)
  (hp:∀x∈xs,∀w,O2 A w→Calls prog fid (bd++[(.agg #[.int .i64 (x).Af,.int .i64 (x).state,.int .i64 (x).Cg,.int .i64 (x).D6]:Value)]++caps).toArray w fun e w'=>e=.returned (.bool (p x))∧Below w.heap.size w w') :
  Fn prog 238 [.slice a xs.length c,.func (.func fid) bd.toArray caps.toArray] (.sl Ax (.slice a xs.length c) xs F::A) [] (fun (_:Unit)=>True) (fun _=>.bool (xs.any p)) (fun _=>[]):=by
 refine enter func238 rfl ntmps238 (fun w0=>?_) rfl HD .nil;refine go ?_;intros;refine cb (fun w st=>(Aks fid bd caps A hA xs a c F p hb hl hp).val w (fun q hq=>st.on q (by simpa using hq)) HD) ?_;refine go ?_;intros;refine ret () trivial ?_;rw [Rz];rfl
theorem Az6 (x:An) (r:A1) (g:Nat) (b:Bool) (ck:Int) (q:Value) (a1:Option Addr) (c1:Nat) (F:List Nat) (h0:0≤x.next) (h1:x.next≤65535) (n0:0≤r.Af) (n1:r.Af≤65535):Fn prog 239 [.agg #[.int .i64 r.Af,.int .i64 r.state,.int .i64 r.Cg,.int .i64 r.D6],Hm g 0 0] [.cel g 0 [.bool b,.int .i64 ck,.int .i64 x.next,.slice a1 x.Ap.length c1,q],.isv Bv (.agg #[.int .i64 x.next,.slice a1 x.Ap.length c1]) x F] [] (fun (_:Unit)=>True) (fun _=>.bool (Ie x r.Af)) (fun _=>[]):=by
 refine enter func239 rfl ntmps239 fun w0=>?_;refine go ?_;intros;refine cf (Zn x r.Af _ F h0 h1 n0 n1) fun _ _=>?_;refine Ar ?_;exact AB
theorem Sv (x:A9) (v:Value) (F:List Nat):Fn prog 178 [v] [.isv B4 v x F] [] (fun (_:Unit)=>True) (fun _=>.bool (Bz x)) (fun _=>[]):=by
 refine enter func178 rfl ntmps178 fun w0=>?_;refine Gt ?_;rintro a1 c1 F1 a2 c2 F2 rfl l1 l2;unfold maxLen at l1 l2;refine Ci x.Ab ?_;generalize F1=F3;refine go ?_;intros;refine ce (fun w s=>Rp _ _) ?_;cases g1:J3 x.Ai
 ·refine go ?_;intros;refine ret () trivial ?_;simp [Bz,g1,Ss]
 refine go ?_;intros;cases hs:x.Bd
 ·have nog:Od x=false→Bz x=false:=fun h=>by unfold Bz;rw [g1,hs];simpa using h
  refine go ?_;intros;refine Dj rfl rfl (fun h1=>?_) (fun h1=>?_)
  rotate_left
  ·refine go ?_;intros;refine ret () trivial ?_;rw [nog (by unfold Od;rw [decide_eq_false h1];rfl)];rfl
  refine go ?_;intros;refine Dj rfl rfl (fun h2=>?_) (fun h2=>?_)
  rotate_left
  ·exact ER
  exact CU
 rename_i g;refine Ake (cs:=[.bool true,.int .i64 x.Ai,.int .i64 x.Ab.next,.slice a1 x.Ab.Ap.length c1,.slice a2 x.Am.length c2]) ?_ GL;refine go ?_;intros;refine cf (Aud x.Ab _ F3) fun _ _=>?_;refine Ar ?_;cases g2:Cs x.Ab
 ·refine go ?_;intros;refine ret () trivial ?_;simp [Bz,g1,g2,hs,Ss]
 obtain ⟨w0_,w1_⟩:=Hy g2;refine go ?_;intros;refine cf (P7 x.Am x.Ab.next _ F2) fun _ _=>?_;refine Ar ?_;cases g3:Lu x.Am x.Ab.next
 ·refine go ?_;intros;refine ret () trivial ?_;simp [Bz,g1,g2,g3,hs,Ss]
 obtain ⟨-,q1,q2, -⟩:=C9.1 g3;refine go ?_;intros;refine cb (fun w st=>(Atz 239 [] [Hm g 0 0] [.cel g 0 [.bool true,.int .i64 x.Ai,.int .i64 x.Ab.next,.slice a1 x.Ab.Ap.length c1,.slice a2 x.Am.length c2],.isv Bv (.agg #[.int .i64 x.Ab.next,.slice a1 x.Ab.Ap.length c1]) x.Ab F3] rfl x.Am a2 c2 F2 (fun z=>Ie x.Ab z.Af) GK GJ (fun z hz w hA=>by
  obtain ⟨n0,n1⟩:=Bb.1 (Ei.1 (q2 z hz)).n;exact (Az6 x.Ab z g true x.Ai _ a1 c1 F3 w0_ w1_ n0 n1).val w hA)).val w (fun q hq=>by
   simp only [List.mem_cons,List.not_mem_nil,or_false] at hq;rcases hq with rfl|rfl|rfl <;> exact st.get GO)) ?_
 refine go ?_;intros;refine ret () trivial ?_;rw [show Bz x = !(x.Am.any fun z=>Ie x.Ab z.Af) by unfold Bz Ahx;rw [g1,g2,g3,hs,List.not_any_eq_all_not];simp];rfl
theorem Avd {x:A9} {k:Nat} (h:k < x.Am.length) (hh:Ie x.Ab x.Am[k].Af=true):Ahx x=false:=List.all_eq_false.2 ⟨_,List.getElem_mem h,by simp [hh]⟩
theorem Avh {w:An} {n:Int} (hw:Cs w=true) (hn:B9 n=true) (h8:gp w.next n < 8):(Sp n w.next || Ie w n)=Ie w n:=by
 obtain ⟨w0,w1⟩:=Hy hw;obtain ⟨n0,n1⟩:=Bb.1 hn;have:Sp n w.next=false:=by
  have:¬(1≤gp n w.next∧gp n w.next≤32767):=by unfold gp at *;omega
  unfold Sp Eu;exact GF
 rw [this];rfl
theorem Ah6 (x:A9) (v:Value) (F:List Nat):Fn prog 132 [v] [.isv B4 v x F] [] (fun (_:Unit)=>True) (fun _=>.bool (Bz x)) (fun _=>[]):=by
 refine enter func132 rfl ntmps132 fun w0=>?_;refine Gt ?_;rintro a1 c1 F1 a2 c2 F2 rfl l1 l2;unfold maxLen at l1 l2;refine Ci x.Ab ?_;generalize F1=F3;refine go ?_;intros;refine ce (fun w s=>Sa _ _) ?_;cases g1:J3 x.Ai
 ·refine go ?_;intros;refine ret () trivial ?_;simp [Bz,g1,Ss]
 refine go ?_;intros;refine cf (Ar4 x.Ab _ F3) fun _ _=>?_;refine Ar ?_;cases g2:Cs x.Ab
 ·refine go ?_;intros;refine ret () trivial ?_;cases hg:Bz x
  ·rfl
  ·rw [(D9.1 hg).w] at g2;cases g2
 obtain ⟨w0_,w1_⟩:=Hy g2;refine go ?_;intros;refine cf (Asb x.Am x.Ab.next _ F2) fun _ _=>?_;refine Ar ?_;cases g3:Lu x.Am x.Ab.next
 ·refine go ?_;intros;refine ret () trivial ?_;cases hg:Bz x
  ·rfl
  ·rw [(D9.1 hg).q] at g3;cases g3
 obtain ⟨-,q1,q2, -⟩:=C9.1 g3;refine go ?_;intros;cases hs:x.Bd
 ·have nog:Od x=false→Bz x=false:=fun h=>by unfold Bz;rw [g1,hs];simpa using h
  refine go ?_;intros;refine Dj rfl rfl (fun h1=>?_) (fun h1=>?_)
  rotate_left
  ·refine go ?_;intros;refine ret () trivial ?_;rw [nog (by unfold Od;rw [decide_eq_false h1];rfl)];rfl
  refine go ?_;intros;refine Dj rfl rfl (fun h2=>?_) (fun h2=>?_)
  rotate_left
  ·exact ER
  exact CU
 refine go ?_;intros;refine Ev [1,2] (fun k:Nat=>[(3,.int .i64 (k:Nat))]) (fun k=>k≤x.Am.length∧∀j (_:j < k) (h:j < x.Am.length),Ie x.Ab x.Am[j].Af=false) (fun k=>x.Am.length - k) 0 ⟨Nat.zero_le _,fun j h=>by omega⟩ fun k hk=>?_;obtain ⟨hk1,hk2⟩:=hk;refine go ?_;intros;refine Be rfl (fun h3=>?_) (fun h3=>?_)
 ·have hk3:k < x.Am.length:=by omega
  have hq:=Ei.1 (q2 _ (List.getElem_mem hk3));obtain ⟨n0,n1⟩:=Bb.1 hq.n;refine In (xs:=x.Am) k ?_;rintro hi b o e;rw [e];refine go ?_;intros;refine At [0,1] [] ?_;refine Dk 0 1 2 3 ?_;refine Dk 4 5 6 7 ?_;refine dN 8 ?_;refine oC ?_;refine cf (Abh x.Ab x.Am[k].Af _ F3 w0_ w1_ n0 n1) fun _ _=>?_;refine Ar ?_;refine dk ?_;refine dd ?_;rw [show Gj x.Ab x.Am[k].Af=Ie x.Ab x.Am[k].Af from Avh g2 hq.n hq.g];cases g5:Ie x.Ab x.Am[k].Af
  ·refine go ?_;intros;refine Cu (k+1) ⟨GJ,fun j hj h=>?_⟩ GJ;rcases Nat.lt_or_eq_of_le (Nat.lt_succ_iff.1 hj) with h'|rfl
   ·exact hk2 j h' h
   ·exact g5
  ·refine go ?_;intros;refine ret () trivial ?_;rw [show Bz x=false by unfold Bz;rw [g1,g2,g3,hs,Avd hk3 g5];rfl];rfl
 have hkl:k=x.Am.length:=by omega
 refine go ?_;intros;refine ret () trivial ?_;rw [show Bz x=true by
  unfold Bz Ahx;rw [g1,g2,g3,hs,List.all_eq_true.2 fun z hz=>?_];rfl;obtain ⟨i,hi,rfl⟩:=List.getElem_of_mem hz;rw [hk2 i GJ hi];rfl];rfl
theorem H1 {α β:Type} {f:α→Option β} {l:List α} {k:Nat} (h:k < l.length):(l.take (k+1)).filterMap f=(l.take k).filterMap f++(f l[k]).toList:=by
 rw [List.take_add_one,List.getElem?_eq_getElem h,List.filterMap_append];cases hf:f l[k] <;> simp [hf]
theorem Aa9 {α β:Type} (f:α→Option β) (l:List α) (k:Nat):((l.take k).filterMap f).length≤k:=by
 have:=List.length_filterMap_le f (l.take k);rw [List.length_take] at this;omega
structure TkS where
 k:Nat
 a:Option Addr
 c:Nat
 F:List Nat
 a2:Option Addr
 c2:Nat
 F2:List Nat
 a3:Option Addr
 c3:Nat
 F3:List Nat
theorem Agi (l:List A1) (c d:Int) (a0:Option Addr) (c0:Nat) (F:List Nat) (hl:l.length≤1000000) (ht:∀r∈l,0≤r.D6∧r.D6≤3) (c0_:0≤c) (c1_:c≤1000000) (d0_:-1000000≤d) (d1_:d≤1000000) :
  Fn prog 225 [.slice a0 l.length c0,.int .i64 c,.int .i64 d] [.sl Ax (.slice a0 l.length c0) l F] [] (fun (_:TkS)=>True) (fun s=>.tuple #[.slice s.a (l.filterMap (Tb c d)).length s.c,.slice s.a2 (l.filterMap (Pq c)).length s.c2,.slice s.a3 (l.filterMap (Tk c)).length s.c3]) (fun s=>[.ow Ax 166 (.slice s.a (l.filterMap (Tb c d)).length s.c) (l.filterMap (Tb c d)) s.F,.ow Bc 3 (.slice s.a2 (l.filterMap (Pq c)).length s.c2) (l.filterMap (Pq c)) s.F2,.ow Bc 3 (.slice s.a3 (l.filterMap (Tk c)).length s.c3) (l.filterMap (Tk c)) s.F3]):=by
 refine enter func225 rfl ntmps225 fun w0=>?_;refine go ?_;intros;refine Br Ax 166 ?_;refine Br Bc 3 ?_;refine Br Bc 3 ?_
 refine Ck [1,2,6,7,8,14,15] (fun s:TkS=>[(16,.int .i64 (s.k:Nat)),(9,.slice s.a ((l.take s.k).filterMap (Tb c d)).length s.c),(10,.slice s.a2 ((l.take s.k).filterMap (Pq c)).length s.c2),(11,.slice s.a3 ((l.take s.k).filterMap (Tk c)).length s.c3)]) (fun s=>[.ow Ax 166 (.slice s.a ((l.take s.k).filterMap (Tb c d)).length s.c) ((l.take s.k).filterMap (Tb c d)) s.F,.ow Bc 3 (.slice s.a2 ((l.take s.k).filterMap (Pq c)).length s.c2) ((l.take s.k).filterMap (Pq c)) s.F2,.ow Bc 3 (.slice s.a3 ((l.take s.k).filterMap (Tk c)).length s.c3) ((l.take s.k).filterMap (Tk c)) s.F3]) (fun s=>s.k≤l.length) (fun s=>l.length - s.k) ⟨0,_,_,_,_,_,_,_,_,_⟩ (Nat.zero_le _) fun s hs=>?_
 obtain ⟨k,a4,c4,F4,a5,c5,F5,a6,c6,F6⟩:=s;dsimp only at hs ⊢;have h1:=Aa9 (Tb c d) l k;have h2:=Aa9 (Pq c) l k;have h3:=Aa9 (Tk c) l k;refine go ?_;intros;refine Be rfl (fun h4=>?_) (fun h4=>?_)
 ·have hk:k < l.length:=by omega
  obtain ⟨t0,t1⟩:=ht _ (List.getElem_mem hk);refine In (xs:=l) k ?_;rintro hi b o e;rw [e];refine go ?_;intros;refine Be rfl (fun h5=>?_) (fun h5=>?_)
  ·have h5':c < l[k].Cg:=by omega
   refine go ?_;intros;have eo:((l.take (k+1)).filterMap (Tb c d))=((l.take k).filterMap (Tb c d))++[l[k]]:=by rw [H1 hk];simp [Tb,h5']
   have es:((l.take (k+1)).filterMap (Pq c))=((l.take k).filterMap (Pq c)):=by rw [H1 hk];simp [Pq,h5']
   have el:((l.take (k+1)).filterMap (Tk c))=((l.take k).filterMap (Tk c)):=by rw [H1 hk];simp [Tk,h5']
   apply wO;refine Oh (ys:=[l[k]]) (Na l[k]) C3 fun a7 c7 F7=>?_;exact AG
  refine go ?_;intros;refine Be rfl (fun h6=>?_) (fun h6=>?_)
  ·refine go ?_;intros;have eo:((l.take (k+1)).filterMap (Tb c d))=((l.take k).filterMap (Tb c d)):=by rw [H1 hk];simp [Tb,h5,h6]
   have es:((l.take (k+1)).filterMap (Pq c))=((l.take k).filterMap (Pq c)):=by rw [H1 hk];simp [Pq,h5,h6]
   have el:((l.take (k+1)).filterMap (Tk c))=((l.take k).filterMap (Tk c))++[l[k].Af]:=by rw [H1 hk];simp [Tk,h5,h6]
   apply wO;refine Oh (ys:=[l[k].Af]) (Rd _) C5 fun a8 c8 F8=>?_;exact AG
  refine go ?_;intros;refine Be rfl (fun h7=>?_) (fun h7=>?_)
  ·refine go ?_;intros;have eo:((l.take (k+1)).filterMap (Tb c d))=((l.take k).filterMap (Tb c d))++[(⟨l[k].Af,2,c+3,l[k].D6+1⟩:A1)]:=by rw [H1 hk];simp [Tb,h5,h6,h7]
   have es:((l.take (k+1)).filterMap (Pq c))=((l.take k).filterMap (Pq c))++[l[k].Af]:=by rw [H1 hk];simp [Pq,h5,h6,h7]
   have el:((l.take (k+1)).filterMap (Tk c))=((l.take k).filterMap (Tk c)):=by rw [H1 hk];simp [Tk,h5,h6,h7]
   exact CN
  ·refine go ?_;intros;have eo:((l.take (k+1)).filterMap (Tb c d))=((l.take k).filterMap (Tb c d))++[(⟨l[k].Af,1,c+d,l[k].D6⟩:A1)]:=by rw [H1 hk];simp [Tb,h5,h6,h7]
   have es:((l.take (k+1)).filterMap (Pq c))=((l.take k).filterMap (Pq c)):=by rw [H1 hk];simp [Pq,h5,h6,h7]
   have el:((l.take (k+1)).filterMap (Tk c))=((l.take k).filterMap (Tk c)):=by rw [H1 hk];simp [Tk,h5,h6,h7]
   exact FK
 ·obtain rfl:k=l.length:=by omega
  rw [List.take_length];refine go ?_;intros;refine ret ⟨0,_,_,_,_,_,_,_,_,_⟩ trivial rfl
theorem Asc (l:List A1) (c d:Int) (a0:Option Addr) (c0:Nat) (F:List Nat) (hl:l.length≤1000000) (ht:∀r∈l,0≤r.D6∧r.D6≤3) (c0_:0≤c) (c1_:c≤1000000) (d0_:-1000000≤d) (d1_:d≤1000000) :
  Fn prog 254 [.slice a0 l.length c0,.int .i64 c,.int .i64 d] [.sl Ax (.slice a0 l.length c0) l F] [] (fun (_:TkS)=>True) (fun s=>.tuple #[.slice s.a (l.filterMap (Tb c d)).length s.c,.slice s.a2 (l.filterMap (Pq c)).length s.c2,.slice s.a3 (l.filterMap (Tk c)).length s.c3]) (fun s=>[.ow Ax 166 (.slice s.a (l.filterMap (Tb c d)).length s.c) (l.filterMap (Tb c d)) s.F,.ow Bc 3 (.slice s.a2 (l.filterMap (Pq c)).length s.c2) (l.filterMap (Pq c)) s.F2,.ow Bc 3 (.slice s.a3 (l.filterMap (Tk c)).length s.c3) (l.filterMap (Tk c)) s.F3]):=by
 refine enter func254 rfl ntmps254 fun w0=>?_;refine go ?_;intros;refine C4 Bc ?_;refine C4 Bc ?_;refine C4 Ax ?_
 refine Ck [0,1,2,6,7,8] (fun s:TkS=>[(12,.int .i64 (s.k:Nat)),(9,.slice s.a ((l.take s.k).filterMap (Tb c d)).length s.c),(10,.slice s.a2 ((l.take s.k).filterMap (Pq c)).length s.c2),(11,.slice s.a3 ((l.take s.k).filterMap (Tk c)).length s.c3)]) (fun s=>[.ow Ax 166 (.slice s.a ((l.take s.k).filterMap (Tb c d)).length s.c) ((l.take s.k).filterMap (Tb c d)) s.F,.ow Bc 3 (.slice s.a2 ((l.take s.k).filterMap (Pq c)).length s.c2) ((l.take s.k).filterMap (Pq c)) s.F2,.ow Bc 3 (.slice s.a3 ((l.take s.k).filterMap (Tk c)).length s.c3) ((l.take s.k).filterMap (Tk c)) s.F3]) (fun s=>s.k≤l.length) (fun s=>l.length - s.k) ⟨0,_,_,_,_,_,_,_,_,_⟩ (Nat.zero_le _) fun s hs=>?_
 obtain ⟨k,a4,c4,F4,a5,c5,F5,a6,c6,F6⟩:=s;dsimp only at hs ⊢;have h1:=Aa9 (Tb c d) l k;have h2:=Aa9 (Pq c) l k;have h3:=Aa9 (Tk c) l k;refine go ?_;intros;refine Be rfl (fun h4=>?_) (fun h4=>?_)
 ·have hk:k < l.length:=by omega
  obtain ⟨t0,t1⟩:=ht _ (List.getElem_mem hk);refine In (xs:=l) k ?_;rintro hi b o e;rw [e];refine go ?_;intros;refine Be rfl (fun h5=>?_) (fun h5=>?_)
  ·have h5':c < l[k].Cg:=by omega
   refine go ?_;intros;have eo:((l.take (k+1)).filterMap (Tb c d))=((l.take k).filterMap (Tb c d))++[l[k]]:=by rw [H1 hk];simp [Tb,h5']
   have es:((l.take (k+1)).filterMap (Pq c))=((l.take k).filterMap (Pq c)):=by rw [H1 hk];simp [Pq,h5']
   have el:((l.take (k+1)).filterMap (Tk c))=((l.take k).filterMap (Tk c)):=by rw [H1 hk];simp [Tk,h5']
   apply wO;refine Oh (ys:=[l[k]]) (Na l[k]) C3 fun a7 c7 F7=>?_;exact AG
  refine go ?_;intros;refine Be rfl (fun h6=>?_) (fun h6=>?_)
  ·refine go ?_;intros;have eo:((l.take (k+1)).filterMap (Tb c d))=((l.take k).filterMap (Tb c d)):=by rw [H1 hk];simp [Tb,h5,h6]
   have es:((l.take (k+1)).filterMap (Pq c))=((l.take k).filterMap (Pq c)):=by rw [H1 hk];simp [Pq,h5,h6]
   have el:((l.take (k+1)).filterMap (Tk c))=((l.take k).filterMap (Tk c))++[l[k].Af]:=by rw [H1 hk];simp [Tk,h5,h6]
   apply wO;refine Oh (ys:=[l[k].Af]) (Rd _) C5 fun a8 c8 F8=>?_;exact AG
  refine go ?_;intros;refine Be rfl (fun h7=>?_) (fun h7=>?_)
  ·refine go ?_;intros;have eo:((l.take (k+1)).filterMap (Tb c d))=((l.take k).filterMap (Tb c d))++[(⟨l[k].Af,2,c+3,l[k].D6+1⟩:A1)]:=by rw [H1 hk];simp [Tb,h5,h6,h7]
   have es:((l.take (k+1)).filterMap (Pq c))=((l.take k).filterMap (Pq c))++[l[k].Af]:=by rw [H1 hk];simp [Pq,h5,h6,h7]
   have el:((l.take (k+1)).filterMap (Tk c))=((l.take k).filterMap (Tk c)):=by rw [H1 hk];simp [Tk,h5,h6,h7]
   exact CN
  ·refine go ?_;intros;have eo:((l.take (k+1)).filterMap (Tb c d))=((l.take k).filterMap (Tb c d))++[(⟨l[k].Af,1,c+d,l[k].D6⟩:A1)]:=by rw [H1 hk];simp [Tb,h5,h6,h7]
   have es:((l.take (k+1)).filterMap (Pq c))=((l.take k).filterMap (Pq c)):=by rw [H1 hk];simp [Pq,h5,h6,h7]
   have el:((l.take (k+1)).filterMap (Tk c))=((l.take k).filterMap (Tk c)):=by rw [H1 hk];simp [Tk,h5,h6,h7]
   exact FK
 ·obtain rfl:k=l.length:=by omega
  rw [List.take_length];refine go ?_;intros;refine ret ⟨0,_,_,_,_,_,_,_,_,_⟩ trivial rfl
theorem Aug (x:A9) (v:Value) (F:List Nat) (hl:x.Ab.Ap.length≤1000000000) (hl2:x.Am.length≤1000000000):Fn prog 63 [v] [.isv B4 v x F] [] (fun (_:Value × List Nat)=>True) (fun s=>s.1) (fun s=>[.own Bg s.1 x s.2]):=by
 refine enter func63 rfl ntmps63 fun w0=>?_;refine Gt ?_;rintro a1 c1 F1 a2 c2 F2 rfl l1 l2;refine Ci x.Ab ?_;generalize F1=F3;refine go ?_;intros;refine cf (Aq1 x.Ab _ F3 GJ) fun z _=>?_;refine Ar ?_;refine go ?_;intros;refine cf (Su x.Am a2 c2 F2 hl2) fun q _=>?_;refine Ar ?_;refine go ?_;intros;refine Ju x ?_;exact FD
theorem Bej (r:A1) (n:Int) (gb:Nat) (h0:B9 r.Af=true) (h1:0≤n) (h2:n≤65535):Fn prog 280 [.agg #[.int .i64 r.Af,.int .i64 r.state,.int .i64 r.Cg,.int .i64 r.D6],Hm gb 0 0] [.cel gb 0 [.int .i64 n]] [] (fun (_:Unit)=>True) (fun _=>.bool (Sp r.Af n)) (fun _=>[]):=by
 obtain ⟨n0,n1⟩:=Bb.1 h0;refine enter func280 rfl ntmps280 fun w0=>?_;refine go ?_;intros;refine ce (fun w s=>Nb _ _ _ GJ GJ GJ GJ) ?_;exact AB
theorem Adt (l:List A1) (n:Int) (a:Option Addr) (c:Nat) (F:List Nat) (hl:l.length≤1000000000) (hs:∀q∈l,B9 q.Af=true) (h1:0≤n) (h2:n≤65535):Fn prog 227 [.slice a l.length c,.int .i64 n] [.sl Ax (.slice a l.length c) l F] [] (fun (_:Option Addr × Nat × List Nat)=>True) (fun z=>.slice z.1 (X8 l n).length z.2.1) (fun z=>[.ow Ax 166 (.slice z.1 (X8 l n).length z.2.1) (X8 l n) z.2.2]):=by
 refine enter func227 rfl ntmps227 fun w0=>?_;refine go ?_;intros;rename_i gb;refine cf (Su l a c F hl) fun q _=>?_;refine Ar ?_;refine Ake (cs:=[.int .i64 n]) ?_ GL;refine go ?_;intros;refine cf (Akq 280 [] [Hm gb 0 0] [.cel gb 0 [.int .i64 n]] rfl l q.1 q.2.1 q.2.2 (fun z=>Sp z.Af n) GK hl (fun z hz w hA=>(Bej z n gb (hs z hz) h1 h2).val w hA)) fun z _=>?_;refine Ar ?_;refine go ?_;intros;refine ret (z.1,z.2.1,z.2.2) trivial rfl
theorem Acb (r:A9) (d:Int):(M5 r d).length≤r.Am.length:=List.length_filterMap_le _ _
theorem Agj (r:A9):(C1 r).length≤r.Am.length:=List.length_filterMap_le _ _
theorem Agh {r:A9} {d:Int} (h:C1 r=[]):Cy r d=⟨r.Bd,r.Ai+1,r.Ab,M5 r d⟩:=if_pos h
theorem Ab9 {r:A9} {d:Int} (h:C1 r≠[]):Cy r d=⟨r.Bd,r.Ai+1,Iu r.Ab (Db (C1 r)),X8 (M5 r d) (Iu r.Ab (Db (C1 r))).next⟩:=if_neg h
theorem Am3 {r:A9} (h:C1 r=[]):Gz r=[]:=if_pos h
theorem Ai3 {r:A9} (h:C1 r≠[]):Gz r=Is r.Ab (Db (C1 r)):=if_neg h
theorem Aid {l:List Int} (h:l≠[]):Db l=Ce (l[l.length - 1]'(by have:=List.length_pos_iff.2 h;omega)) 1:=by
 unfold Db;rw [List.getLastD_eq_getLast?,List.getLast?_eq_getElem?,List.getElem?_eq_getElem (by have:=List.length_pos_iff.2 h;omega)];rfl
theorem J0 {x:An} (hg:Cs x=true):x.Ap.length≤8∧∀s∈x.Ap,s.De.size≤8:=by
 have hg0:=hg;unfold Cs at hg;simp only [Bool.and_eq_true,decide_eq_true_eq] at hg;refine ⟨by have:=hg.1.1.2;omega,fun s hs=>?_⟩;have:=List.all_eq_true.1 hg.1.2 s hs;unfold Gs at this;simp only [Bool.and_eq_true] at this;exact T4 this.1
structure PkS where
 k:Nat
 a:Option Addr
 c:Nat
 F:List Nat
structure TkR where
 a1:Option Addr
 c1:Nat
 F1:List Nat
 a2:Option Addr
 c2:Nat
 F2:List Nat
 a3:Option Addr
 c3:Nat
 F3:List Nat
 a4:Option Addr
 c4:Nat
 F4:List Nat
theorem Ayn (r:A9) (d:Int) (g t o:Nat) (A B:List Value) (a1:Option Addr) (c1:Nat) (F1:List Nat) (a2:Option Addr) (c2:Nat) (F2:List Nat) (hg:Lq r) (d0:0≤d) (d1:d≤100) :
  Fn prog 165 [Hm g o 0,.int .i64 d] [] [.row g t o A [.bool r.Bd,.int .i64 r.Ai,.int .i64 r.Ab.next,.slice a1 r.Ab.Ap.length c1,.slice a2 r.Am.length c2] B,.ow Cm 196 (.slice a1 r.Ab.Ap.length c1) r.Ab.Ap F1,.ow Ax 166 (.slice a2 r.Am.length c2) r.Am F2] (fun (_:TkR)=>True)
   (fun s=>.tuple #[.slice s.a3 (Ew r).length s.c3,.slice s.a4 (Gz r).length s.c4]) (fun s=>[.row g t o A [.bool (Cy r d).Bd,.int .i64 (Cy r d).Ai,.int .i64 (Cy r d).Ab.next,.slice s.a1 (Cy r d).Ab.Ap.length s.c1,.slice s.a2 (Cy r d).Am.length s.c2] B,.ow Cm 196 (.slice s.a1 (Cy r d).Ab.Ap.length s.c1) (Cy r d).Ab.Ap s.F1,.ow Ax 166 (.slice s.a2 (Cy r d).Am.length s.c2) (Cy r d).Am s.F2,.ow Aj 159 (.slice s.a3 (Ew r).length s.c3) (Ew r) s.F3,.ow A8 9 (.slice s.a4 (Gz r).length s.c4) (Gz r) s.F4]):=by
 have k0:=hg.k0;have k1:=hg.k1;obtain ⟨-,q1,q2, -⟩:=C9.1 hg.q;obtain ⟨w0_,w1_⟩:=Hy hg.w;obtain ⟨hw8,hit⟩:=J0 hg.w;have hpl:(r.Am.filterMap (Pq (r.Ai+1))).length≤8:=Nat.le_trans (List.length_filterMap_le _ _) q1;refine enter func165 rfl ntmps165 fun w0=>?_;refine go ?_;intros;refine A4 (E:=Ax) fun F9=>?_;refine At [1] [] ?_;refine Dk 0 1 2 3 ?_;refine Dk 4 5 6 7 ?_;refine dt 8 ?_;refine dN 9 ?_;refine oC ?_;refine cf (Agi r.Am (r.Ai+1) d a2 c2 F9 GJ (fun q hq=>⟨(Ei.1 (q2 q hq)).t0,(Ei.1 (q2 q hq)).t1⟩) GJ GJ GJ GJ) fun z _=>?_;refine Ar ?_
 rw [show r.Am.filterMap (Tk (r.Ai+1))=C1 r from rfl,show r.Am.filterMap (Tb (r.Ai+1) d)=M5 r d from rfl];refine dk ?_;refine Dk 10 11 12 13 ?_;refine Dy 14 15 ?_;refine dt 16 ?_;refine dd ?_;refine A4 (E:=Bc) (xs:=r.Am.filterMap (Pq (r.Ai+1))) fun G2=>?_;refine A4 (E:=Bc) (xs:=C1 r) fun G3=>?_;refine Br Aj 159 ?_;refine go ?_;intros
 refine Ck [0,4,5,6,9,44,45] (fun s:PkS=>[(46,.int .i64 (s.k:Nat)),(10,.slice s.a (((r.Am.filterMap (Pq (r.Ai+1))).take s.k).map (pkR r.Ab.next)).length s.c)]) (fun s=>[.ow Aj 159 (.slice s.a (((r.Am.filterMap (Pq (r.Ai+1))).take s.k).map (pkR r.Ab.next)).length s.c) (((r.Am.filterMap (Pq (r.Ai+1))).take s.k).map (pkR r.Ab.next)) s.F]) (fun s=>s.k≤(r.Am.filterMap (Pq (r.Ai+1))).length) (fun s=>(r.Am.filterMap (Pq (r.Ai+1))).length - s.k) ⟨0,_,_,_⟩ (Nat.zero_le _) fun s hs=>?_;obtain ⟨k,a4,c4,F4⟩:=s;dsimp only at hs ⊢;generalize hsn:r.Am.filterMap (Pq (r.Ai+1))=sn at *;refine go ?_;intros
 refine Be rfl (fun h4=>?_) (fun h4=>?_)
 ·have hk:k < sn.length:=by omega
  have hkl:((sn.take k).map (pkR r.Ab.next)).length≤k:=by simp;omega
  refine Io (xs:=sn) k ?_;rintro hi b o2 e;rw [e];refine go ?_;intros;have eo:(sn.take (k+1)).map (pkR r.Ab.next)=(sn.take k).map (pkR r.Ab.next)++[pkR r.Ab.next sn[k]]:=by rw [List.take_add_one,List.getElem?_eq_getElem hk,List.map_append];rfl
  apply wO;refine Oh (ys:=[pkR r.Ab.next sn[k]]) (C8 (pkR r.Ab.next sn[k]) (by show (0:Nat)≤maxLen;exact Nat.zero_le _)) Hf fun a7 c7 F7=>?_;exact EK
 have hk:k=sn.length:=by omega
 subst hk;rw [List.take_length];have ep:Ew r=sn.map (pkR r.Ab.next):=by unfold Ew;rw [hsn]
 rw [ep];refine go ?_;intros;by_cases hL:C1 r=[]
 ·refine Be rfl (fun _=>?_) (fun h=>absurd (show ((C1 r).length:Int)=0 by rw [hL];rfl) h);rw [Agh hL,Am3 hL];refine Br A8 9 ?_;refine go ?_;intros;refine ret ⟨_,_,_,_,_,_,_,_,_,_,_,_⟩ trivial rfl
 ·have hl0:=List.length_pos_iff.2 hL;refine Be rfl (fun h=>absurd h GJ) (fun _=>?_);rw [Ab9 hL,Ai3 hL];obtain ⟨hs8,hsr⟩:=Ad1 hg hL;have hll8:=Agj r;obtain ⟨hs0,hs1⟩:=Bb.1 hsr;have hll:=Aid hL;obtain ⟨l0,l1⟩:=Bb.1 (Aca hg (List.getElem_mem (show (C1 r).length - 1 < (C1 r).length by omega))).1;have hi1:((C1 r).length:Int) - 1=(((C1 r).length - 1:Nat):Int):=by omega
  refine Io (xs:=C1 r) ((C1 r).length - 1) ?_;rintro hi b o2 e;rw [e];refine Aqq [.bool r.Bd,.int .i64 (r.Ai+1)] [.int .i64 r.Ab.next,.slice a1 r.Ab.Ap.length c1] [.slice z.a (M5 r d).length z.c] ?_;refine go ?_;intros;refine At [1] [] ?_;refine Dk 0 1 2 3 ?_;refine Dy 4 5 ?_;refine dt 6 ?_;rw [hi1];refine Dy 7 8 ?_;refine dN 9 ?_;refine oC ?_;refine ce (fun w s=>Q5 _ _ _ GJ GJ) ?_;rw [←hll];refine dk ?_;refine dN 10 ?_;refine oC ?_;refine cf (Akv r.Ab (Db (C1 r)) g t (o+2) (A++[.bool r.Bd,.int .i64 (r.Ai+1)]) _ a1 c1 F1 w0_ w1_ hs0 hs1 hw8 hit) fun y hy=>?_;refine Ar ?_
  refine dk ?_;refine dt 11 ?_;refine dd ?_;obtain ⟨hy1,hy2⟩:=hy;have hmv:=T8 (t:=Db (C1 r)) hg.w;have hm0:0≤y.y.next:=by rw [hy1];show 0≤(Iu r.Ab (Db (C1 r))).next;rw [hmv.1];exact (Je _ _).1
  have hm1:y.y.next≤65535:=by rw [hy1];show (Iu r.Ab (Db (C1 r))).next≤65535;rw [hmv.1];exact (Je _ _).2
  refine Age [.bool r.Bd,.int .i64 (r.Ai+1)] [.int .i64 y.y.next,.slice y.a y.y.Ap.length y.c] [.slice z.a (M5 r d).length z.c] ?_;refine A4 (E:=Ax) (xs:=M5 r d) fun F8=>?_;refine go ?_;intros;refine At [1] [13] ?_;refine Dk 0 1 2 3 ?_;refine Dk 4 5 6 7 ?_;refine Dy 8 9 ?_;refine dN 10 ?_;refine oC ?_;refine cf (Adt (M5 r d) y.y.next z.a z.c F8 (by have:=Acb r d;omega) (fun q hq=>(Aas hg hq).1) hm0 hm1) fun u _=>?_;refine Ar ?_;refine dk ?_;refine Dy 11 12 ?_;refine dN 13 ?_;refine oS ?_;refine Rn ?_;refine dd ?_;refine go ?_;intros
  rw [show Iu r.Ab (Db (C1 r))=y.y from hy1.symm,show Is r.Ab (Db (C1 r))=y.es from hy2.symm];refine ret ⟨_,_,_,_,_,_,_,_,_,_,_,_⟩ trivial rfl
theorem Rj (v:Value) (xs:List Int) (F:List Nat) (w:World) (h:Sl Bc w v xs F) (hm:xs.length≤4294967296) :
  Calls prog 52 #[v] w (Ul Bc 3 xs w):=by
 obtain ⟨ao,c,news,Fy,rfl,hl,hfy,hFy,hsrc⟩:=h.src;have hFl:=hfy.lt;have he:=fun w (a:Option Addr) (n c:Nat)=>Lib.run_eql_slice_nil (P:=prog) w 22 _ a n c 0 0 underlying22
 go_enter func52,ntmps52
 rcases hsrc with ⟨rfl,rfl,rfl⟩|⟨ad,rfl,hn⟩
 ·go_wp2
  go_ret
  exact CB
 ·go_wp2_with (at_builtin;refine Mn C5 GM GV _ _ _ GV 3 (.int .i64 0) 8 underlying22 Z3 rfl (.slice (some ⟨w.heap.size,0,none⟩) 0 0) [] [w.heap.size] GV (Ow.empty (Ha.made _ _ _)) (Hd.one _) (some ad) xs c GV news Fy (hfy.frame fun b hb=>Below.heap_alloc _ _ _ (hFl b hb)) (.inr ⟨ad,rfl,fun j u hu=>kc ((Below.refl _ _).alloc (Nat.le_refl _) _) (hn j u hu)⟩) (fun b hb e=>by have:=hFl b hb;simp [Value.ownBlock] at e;omega) IH IA ?_);intro v2 w2 F2 hA;go_wp2_with fail
  go_ret
  have hB:Below w.heap.size w w2:=((Below.refl _ _).alloc (Nat.le_refl _) _).trans (hA.H8.below GL GL);have hs:∀b,v2.ownBlock=some b→w.heap.size≤b:=fun b hb=>by rcases hA.Ao1 with e|e <;> rw [e] at hb <;> simp [Value.ownBlock] at hb <;> omega
  refine ⟨v2,F2,rfl,JF,hA.ow.scal Ea▸?_,fun b hb=>?_,hB⟩
  ·cases v2.ownBlock <;> simp
  ·rw [hA.ow.scal Ea] at hb;exact hs b KB
theorem Xi (v:Value) (xs:List Int) (F:List Nat) (w:World) (h:Sl Bc w v xs F) (hm:xs.length≤4294967296) :
  Calls prog 37 #[v] w (Ul Bc 3 xs w):=by
 obtain ⟨ao,c,news,Fy,rfl,hl,hfy,hFy,hsrc⟩:=h.src;have hFl:=hfy.lt;have hsrc2:(ao=none∧c=0∧xs=[])∨∃ad,ao=some ad∧∀j u,news[j]?=some u→(w.alloc (.cells #[] 3)).cell? (ad.add j)=some u:=by
  rcases hsrc with h|⟨ad,h1,h2⟩
  ·exact .inl h
  ·exact .inr ⟨ad,h1,fun j u hu=>kc ((Below.refl _ _).alloc (Nat.le_refl _) _) (h2 j u hu)⟩
 go_enter func37,ntmps37
 go_wp2_with (at_builtin;refine Mn C5 GM GV _ _ _ GV 3 (.int .i64 0) 8 underlying22 Z3 rfl (.slice (some ⟨w.heap.size,0,none⟩) 0 0) [] [w.heap.size] GV (Ow.empty (Ha.made _ _ _)) (Hd.one _) ao xs c GV news Fy (hfy.frame fun b hb=>Below.heap_alloc _ _ _ (hFl b hb)) hsrc2 (fun b hb e=>by have:=hFl b hb;simp [Value.ownBlock] at e;omega) IH IA ?_);intro v2 w2 F2 hA;go_wp2_with fail
 go_ret
 have hB:Below w.heap.size w w2:=((Below.refl _ _).alloc (Nat.le_refl _) _).trans (hA.H8.below GL GL);have hs:∀b,v2.ownBlock=some b→w.heap.size≤b:=fun b hb=>by rcases hA.Ao1 with e|e <;> rw [e] at hb <;> simp [Value.ownBlock] at hb <;> omega
 refine ⟨v2,F2,rfl,JF,hA.ow.scal Ea▸?_,fun b hb=>?_,hB⟩
 ·cases v2.ownBlock <;> simp
 ·rw [hA.ow.scal Ea] at hb;exact hs b KB
theorem Ade (v:Value) (e:Bl) (F:List Nat) (w:World) (h:N0 Bt w v e F) (hm:e.Ah.length≤4294967296) (hm2:∀x∈e.Ah,x.Bm.length≤4294967296) :
  Calls prog 62 #[v] w (Anm Bj e w):=by
 obtain ⟨_,rfl,v1,rfl,h1⟩:=h;obtain ⟨a,cap,rfl⟩:=h1.slice;have hl:=h1.len;unfold maxLen at hl;have hB0:∀A B:Obj,Below w.heap.size w ((w.alloc A).alloc B):=fun A B=>((Below.refl _ _).alloc (Nat.le_refl _) _).alloc GL _;have hFl:=h1.lt GM
 go_enter func62,ntmps62
 go_wp2_with fail;refine (Ako _ e.Ah F _ (h1.below GM (hB0 _ _)) hm).mono ?_;rintro e' w1 ⟨v2,F2,rfl,ho,hd,hs,hF2,hb1⟩;obtain ⟨a2,cap2,rfl⟩:=ho.slice;have r0:=Ha.below (g:=w.heap.size) (t:=110) (cs:=[.int .i64 e.Ai,.slice a e.Ah.length cap]) HN hb1;have r1:=Ha.below (g:=w.heap.size+1) (t:=110) (cs:=[.int .i64 0,.slice none 0 0]) HN hb1;have hB:=tr (hB0 _ _) hb1 (Nat.le_refl _);have hm1:=Lib.hid (Mix.start (O:=Ej) (R:=Gb) (B1:=w.heap.size) (B0:=w.heap.size+2) rfl ho (by simpa using hs) (fun b hb=>(hF2 b hb).imp id fun hb=>hFl b hb) hd)
 have c0:=r0.cells;have f0:=r0.frozens;have f1:=r1.frozens;have c1:=r1.cells;clear hb1 ho hs hd hF2;go_wp2_with fail;have R0:=r0.set 1 (.slice a2 e.Ah.length cap2);have R1:=r1.setOther (p:=⟨w.heap.size,1,none⟩) GL (.slice a2 e.Ah.length cap2);have M1:=Lib.hid (hm1.out.setFar (p:=⟨w.heap.size,1,none⟩) (Nat.le_refl _) GL (.slice a2 e.Ah.length cap2));clear hm1
 go_loopw [3,11] (fun _ i wr=>∃k:Nat,k≤e.Ah.length∧i=.int .i64 k∧Hid (Mix Ej Gb 162 w.heap.size (w.heap.size+2) wr (.slice a2 e.Ah.length cap2) e.Ah k)∧Ha wr w.heap.size 110 [.int .i64 e.Ai,.slice a2 e.Ah.length cap2]∧Ha wr (w.heap.size+1) 110 [.int .i64 0,.slice none 0 0]∧Below w.heap.size w wr) (fun _ i _=>e.Ah.length - (intOf i).toNat)
 case atStart=>exact ⟨0,Nat.zero_le _,rfl,M1,by simpa using R0,R1,hB.setCell (Nat.le_refl _) _⟩
 case round =>
  obtain ⟨k,hk,rfl,hM,hr,hr1,hB⟩:=hrel;have c0:=hr.cells;have f0:=hr.frozens;have hsz:=hr1.lt;by_cases hlt:k < e.Ah.length
  ·obtain ⟨g,cap3,A,c,B,Fk,hv,hg,hrow,hA,hcl,hx, -,back⟩:=hM.out.at rfl hlt GJ GJ;cases hv;obtain ⟨u1,rfl,hf⟩:=id hx;obtain ⟨fa,fc,rfl⟩:=hf.slice;have a1:=hrow.cellMid (p:=k * 3+1) (j:=1) (by rw [hA];rfl) GL;simp only [List.getElem?_cons_zero,List.getElem?_cons_succ] at a1;have hne:¬g=w.heap.size:=by omega
   have hne2:¬w.heap.size=g:=by omega
   have hbk:=Lib.hid back;clear back;have hfl:=hm2 e.Ah[k] (List.getElem_mem _);go_wp2_with fail
   go_region_law (first|(go_simp;go_at_call 52;refine (Rj _ e.Ah[k].Bm Fk wr.drew (hf.frame fun _ _=>rfl) hfl).mono ?_;rintro e' w2 ⟨v3,F3,rfl,o3,n3,g3,hb2⟩;obtain ⟨d3,p3,rfl⟩:=o3.slice;have z3:=kc hb2 (show wr.drew.cell? ⟨w.heap.size,1,none⟩=some (.slice (some ⟨g,0,none⟩) e.Ah.length cap2) by simpa using c0 1);have z1:=kc hb2 (by simpa using a1);have zf:=((show Ha wr.drew g 162 _ from hrow).below hb2).frozens (k * 3+1)))
   all_goals
    have hr2:=((show Ha wr.drew w.heap.size 110 _ from hr).below hb2).setOther (p:=⟨g,k * 3+1,none⟩) hne (.slice d3 e.Ah[k].Bm.length p3);have hr3:=((show Ha wr.drew (w.heap.size+1) 110 _ from hr1).below hb2).setOther (p:=⟨g,k * 3+1,none⟩) GU (.slice d3 e.Ah[k].Bm.length p3);have hro:=((show Ha wr.drew g 162 _ from hrow).below hb2).setMid (p:=k * 3+1) (j:=1) (by rw [hA];rfl) GL (.slice d3 e.Ah[k].Bm.length p3);have hg3:∀b∈F3,wr.heap.size≤b:=g3;have hgs:=hrow.lt
    have hMk:=Lib.hid (hbk.out _ _ F3 hro ⟨_,rfl,o3.setFar (fun hm=>by have:=hg3 _ hm;simp at this;omega) _⟩ n3 hg3 (fun b hb hbg=>(Below.heap_setCell _ _ _ _ hbg).trans (hb2.block b hb)));have hB3:Below w.heap.size w (w2.setCell ⟨g,k * 3+1,none⟩ (.slice d3 e.Ah[k].Bm.length p3)):=(tr (Dl hB 1) hb2 (Nat.le_refl _)).setCell GU _;go_wp2_with fail;exact ⟨⟨k+1,GJ,HZ,hMk,hr2,hr3,hB3⟩,HA⟩
  ·have hk:k=e.Ah.length:=by omega
   subst hk;obtain ⟨F4,o4,n4,g4⟩:=hM.out.done;have O4:=Lib.hid o4;clear hM o4;have d1:=hr1.cells;have fd:=hr1.frozens;go_wp2_with fail;refine bodyPost_ret (v:=.agg #[.int .i64 e.Ai,.slice a2 e.Ah.length cap2]) ?_ rfl ?_
   ·simp [results,results62,go_sem,c0,d1,fd]
   ·refine ⟨_,F4,rfl,⟨_,rfl,_,rfl,?_⟩,n4,fun b hb=>by have:=g4 b hb;omega,?_⟩
    ·repeat refine Ow.setFar ?_ (fun hm=>by have:=g4 _ hm;simp at this <;> omega) _
     exact O4.out
    ·repeat refine Below.setCell ?_ HI _
     exact hB
section
variable {c:Cx} {fr:Fr} {H:List Pc} {Φ:Gl}
theorem Ia {v:Value} {x:Dt} {F:List Nat} (h:∀(a1:Option Addr) (c1:Nat) (F1:List Nat) (a2:Option Addr) (c2:Nat) (F2:List Nat) (a3:Option Addr) (c3:Nat) (F3:List Nat) (a4:Option Addr) (c4:Nat) (F4:List Nat) (a5:Option Addr) (c5:Nat) (F5:List Nat) (a6:Option Addr) (c6:Nat) (F6:List Nat) (a7:Option Addr) (c7:Nat) (F7:List Nat),v=.agg #[.slice a1 x.Al.Ad.length c1,.int .i64 x.Aa.Ab.Ao,.int .i64 x.Aa.Ab.size,.slice a2 x.Aa.Ab.Ak.length c2,.int .i64 x.Aa.Ai,.int .i64 x.Aa.quiet,.slice a3 x.Aa.holds.length c3,.slice a4 x.Ae.length c4,.slice a5 x.Ac.length c5,.slice a6 x.down.length c6,.slice a7 x.up.length c7]→x.Al.Ad.length≤maxLen→x.Aa.Ab.Ak.length≤maxLen→x.Aa.holds.length≤maxLen→x.Ae.length≤maxLen→x.Ac.length≤maxLen→x.down.length≤maxLen→x.up.length≤maxLen→T c fr (.sl Bc (.slice a1 x.Al.Ad.length c1) x.Al.Ad F1::.sl A8 (.slice a2 x.Aa.Ab.Ak.length c2) x.Aa.Ab.Ak F2::.sl Bi (.slice a3 x.Aa.holds.length c3) x.Aa.holds F3::.sl Bt (.slice a4 x.Ae.length c4) x.Ae F4::.sl B4 (.slice a5 x.Ac.length c5) x.Ac F5::.sl (Nn Aj GM) (.slice a6 x.down.length c6) x.down F6::.sl (Nn Aj GM) (.slice a7 x.up.length c7) x.up F7::H) Φ) (hm:.isv O1 v x F∈H:=by exact Bp):T c fr H Φ:=.mk fun a w s g=>by
 obtain ⟨cs,rfl,v1,v2,v3,v4,v5,v6,v7,G1,G2,G3,G4,G5,G6,G7,rfl,h1,h2,h3,h4,h5,h6,h7,rfl⟩:=s.get hm;obtain ⟨a1,c1,rfl⟩:=h1.slice;have l1:=h1.len;obtain ⟨a2,c2,rfl⟩:=h2.slice;have l2:=h2.len;obtain ⟨a3,c3,rfl⟩:=h3.slice;have l3:=h3.len;obtain ⟨a4,c4,rfl⟩:=h4.slice;have l4:=h4.len;obtain ⟨a5,c5,rfl⟩:=h5.slice;have l5:=h5.len;obtain ⟨a6,c6,rfl⟩:=h6.slice;have l6:=h6.len;obtain ⟨a7,c7,rfl⟩:=h7.slice;have l7:=h7.len;have t7:=s.ro (p:=.sl (Nn Aj GM) (.slice a7 x.up.length c7) x.up G7) hm rfl rfl ⟨GM,h7⟩ GR
 have t6:=t7.ro (p:=.sl (Nn Aj GM) (.slice a6 x.down.length c6) x.down G6) (List.mem_cons_of_mem _ hm) rfl rfl ⟨GM,h6⟩ GR;have t5:=t6.ro (p:=.sl B4 (.slice a5 x.Ac.length c5) x.Ac G5) (List.mem_cons_of_mem _ (List.mem_cons_of_mem _ hm)) rfl rfl ⟨GM,h5⟩ GR;have t4:=t5.ro (p:=.sl Bt (.slice a4 x.Ae.length c4) x.Ae G4) (List.mem_cons_of_mem _ (List.mem_cons_of_mem _ (List.mem_cons_of_mem _ hm))) rfl rfl ⟨GM,h4⟩ GR
 have t3:=t4.ro (p:=.sl Bi (.slice a3 x.Aa.holds.length c3) x.Aa.holds G3) (List.mem_cons_of_mem _ (List.mem_cons_of_mem _ (List.mem_cons_of_mem _ (List.mem_cons_of_mem _ hm)))) rfl rfl ⟨GM,h3⟩ GR;have t2:=t3.ro (p:=.sl A8 (.slice a2 x.Aa.Ab.Ak.length c2) x.Aa.Ab.Ak G2) (List.mem_cons_of_mem _ (List.mem_cons_of_mem _ (List.mem_cons_of_mem _ (List.mem_cons_of_mem _ (List.mem_cons_of_mem _ hm))))) rfl rfl ⟨GM,h2⟩ GR
 have t1:=t2.ro (p:=.sl Bc (.slice a1 x.Al.Ad.length c1) x.Al.Ad G1) (List.mem_cons_of_mem _ (List.mem_cons_of_mem _ (List.mem_cons_of_mem _ (List.mem_cons_of_mem _ (List.mem_cons_of_mem _ (List.mem_cons_of_mem _ hm)))))) rfl rfl ⟨GM,h1⟩ GR;exact (h a1 c1 G1 a2 c2 G2 a3 c3 G3 a4 c4 G4 a5 c5 G5 a6 c6 G6 a7 c7 G7 rfl  l1 l2 l3 l4 l5 l6 l7).h a w t1 g
theorem Jm (x:Dt) {a1:Option Addr} {c1:Nat} {F1:List Nat} {a2:Option Addr} {c2:Nat} {F2:List Nat} {a3:Option Addr} {c3:Nat} {F3:List Nat} {a4:Option Addr} {c4:Nat} {F4:List Nat} {a5:Option Addr} {c5:Nat} {F5:List Nat} {a6:Option Addr} {c6:Nat} {F6:List Nat} {a7:Option Addr} {c7:Nat} {F7:List Nat}  (h:T c fr (.isv O1 (.agg #[.slice a1 x.Al.Ad.length c1,.int .i64 x.Aa.Ab.Ao,.int .i64 x.Aa.Ab.size,.slice a2 x.Aa.Ab.Ak.length c2,.int .i64 x.Aa.Ai,.int .i64 x.Aa.quiet,.slice a3 x.Aa.holds.length c3,.slice a4 x.Ae.length c4,.slice a5 x.Ac.length c5,.slice a6 x.down.length c6,.slice a7 x.up.length c7]) x (F1++F2++F3++F4++F5++F6++F7)::H) Φ) (m1:.sl Bc (.slice a1 x.Al.Ad.length c1) x.Al.Ad F1∈H:=by exact Bp) (m2:.sl A8 (.slice a2 x.Aa.Ab.Ak.length c2) x.Aa.Ab.Ak F2∈H:=by exact Bp) (m3:.sl Bi (.slice a3 x.Aa.holds.length c3) x.Aa.holds F3∈H:=by exact Bp) (m4:.sl Bt (.slice a4 x.Ae.length c4) x.Ae F4∈H:=by exact Bp) (m5:.sl B4 (.slice a5 x.Ac.length c5) x.Ac F5∈H:=by exact Bp) (m6:.sl (Nn Aj GM) (.slice a6 x.down.length c6) x.down F6∈H:=by exact Bp) (m7:.sl (Nn Aj GM) (.slice a7 x.up.length c7) x.up F7∈H:=by exact Bp):T c fr H Φ:=.mk fun a w s g=>by
 have hP:N0 O1 w (.agg #[.slice a1 x.Al.Ad.length c1,.int .i64 x.Aa.Ab.Ao,.int .i64 x.Aa.Ab.size,.slice a2 x.Aa.Ab.Ak.length c2,.int .i64 x.Aa.Ai,.int .i64 x.Aa.quiet,.slice a3 x.Aa.holds.length c3,.slice a4 x.Ae.length c4,.slice a5 x.Ac.length c5,.slice a6 x.down.length c6,.slice a7 x.up.length c7]) x (F1++F2++F3++F4++F5++F6++F7):=⟨_,rfl,_,_,_,_,_,_,_,_,_,_,_,_,_,_,rfl,(s.get m1).2,(s.get m2).2,(s.get m3).2,(s.get m4).2,(s.get m5).2,(s.get m6).2,(s.get m7).2,rfl⟩
 refine h.h a w (s.add (N:=[.isv O1 (.agg #[.slice a1 x.Al.Ad.length c1,.int .i64 x.Aa.Ab.Ao,.int .i64 x.Aa.Ab.size,.slice a2 x.Aa.Ab.Ak.length c2,.int .i64 x.Aa.Ai,.int .i64 x.Aa.quiet,.slice a3 x.Aa.holds.length c3,.slice a4 x.Ae.length c4,.slice a5 x.Ac.length c5,.slice a6 x.down.length c6,.slice a7 x.up.length c7]) x (F1++F2++F3++F4++F5++F6++F7)]) (Below.refl _ _) (by intro q hq;obtain rfl:=List.mem_singleton.1 hq;exact hP) ⟨GL,trivial⟩ fun q hq b hb=>?_) g;obtain rfl:=List.mem_singleton.1 hq;simp only [Pc.F,List.mem_append] at hb;rcases hb with (((((hb|hb)|hb)|hb)|hb)|hb)|hb
 ·exact .inr ⟨rfl,_,m1,rfl,hb⟩
 ·exact .inr ⟨rfl,_,m2,rfl,hb⟩
 ·exact .inr ⟨rfl,_,m3,rfl,hb⟩
 ·exact .inr ⟨rfl,_,m4,rfl,hb⟩
 ·exact .inr ⟨rfl,_,m5,rfl,hb⟩
 ·exact .inr ⟨rfl,_,m6,rfl,hb⟩
 ·exact .inr ⟨rfl,_,m7,rfl,hb⟩
theorem Aad {v:Value} {x:Dt} {F:List Nat} {S:List Pc} (h:∀(a1:Option Addr) (c1:Nat) (F1:List Nat) (a2:Option Addr) (c2:Nat) (F2:List Nat) (a3:Option Addr) (c3:Nat) (F3:List Nat) (a4:Option Addr) (c4:Nat) (F4:List Nat) (a5:Option Addr) (c5:Nat) (F5:List Nat) (a6:Option Addr) (c6:Nat) (F6:List Nat) (a7:Option Addr) (c7:Nat) (F7:List Nat),v=.agg #[.slice a1 x.Al.Ad.length c1,.int .i64 x.Aa.Ab.Ao,.int .i64 x.Aa.Ab.size,.slice a2 x.Aa.Ab.Ak.length c2,.int .i64 x.Aa.Ai,.int .i64 x.Aa.quiet,.slice a3 x.Aa.holds.length c3,.slice a4 x.Ae.length c4,.slice a5 x.Ac.length c5,.slice a6 x.down.length c6,.slice a7 x.up.length c7]→x.Al.Ad.length≤maxLen→x.Aa.Ab.Ak.length≤maxLen→x.Aa.holds.length≤maxLen→x.Ae.length≤maxLen→x.Ac.length≤maxLen→x.down.length≤maxLen→x.up.length≤maxLen→T c fr (.ow Bc 3 (.slice a1 x.Al.Ad.length c1) x.Al.Ad F1::.ow A8 9 (.slice a2 x.Aa.Ab.Ak.length c2) x.Aa.Ab.Ak F2::.ow Bi 156 (.slice a3 x.Aa.holds.length c3) x.Aa.holds F3::.ow Bj 110 (.slice a4 x.Ae.length c4) x.Ae F4::.ow Bg 117 (.slice a5 x.Ac.length c5) x.Ac F5::.ow (Fv Aj 159) 135 (.slice a6 x.down.length c6) x.down F6::.ow (Fv Aj 159) 135 (.slice a7 x.up.length c7) x.up F7::S) Φ) (hp:Cz H (.own Zm v x F) S:=by exact Df):T c fr H Φ:=.mk fun a w s g=>by
 have z1:=s.pick hp;obtain ⟨hn,cs,rfl,v1,v2,v3,v4,v5,v6,v7,G1,G2,G3,G4,G5,G6,G7,rfl,h1,h2,h3,h4,h5,h6,h7,rfl⟩:=z1.on (.own Zm v x F) GL;obtain ⟨a1,c1,rfl⟩:=h1.slice;have l1:=h1.len;obtain ⟨a2,c2,rfl⟩:=h2.slice;have l2:=h2.len;obtain ⟨a3,c3,rfl⟩:=h3.slice;have l3:=h3.len;obtain ⟨a4,c4,rfl⟩:=h4.slice;have l4:=h4.len;obtain ⟨a5,c5,rfl⟩:=h5.slice;have l5:=h5.len;obtain ⟨a6,c6,rfl⟩:=h6.slice;have l6:=h6.len;obtain ⟨a7,c7,rfl⟩:=h7.slice;have l7:=h7.len;have hn2:=hn;simp only [List.nodup_append,List.mem_append] at hn2
 refine (h a1 c1 G1 a2 c2 G2 a3 c3 G3 a4 c4 G4 a5 c5 G5 a6 c6 G6 a7 c7 G7 rfl  l1 l2 l3 l4 l5 l6 l7).h a w (St.turn (M:=[.own Zm (.agg #[.slice a1 x.Al.Ad.length c1,.int .i64 x.Aa.Ab.Ao,.int .i64 x.Aa.Ab.size,.slice a2 x.Aa.Ab.Ak.length c2,.int .i64 x.Aa.Ai,.int .i64 x.Aa.quiet,.slice a3 x.Aa.holds.length c3,.slice a4 x.Ae.length c4,.slice a5 x.Ac.length c5,.slice a6 x.down.length c6,.slice a7 x.up.length c7]) x _]) (N:=[.ow Bc 3 (.slice a1 x.Al.Ad.length c1) x.Al.Ad G1,.ow A8 9 (.slice a2 x.Aa.Ab.Ak.length c2) x.Aa.Ab.Ak G2,.ow Bi 156 (.slice a3 x.Aa.holds.length c3) x.Aa.holds G3,.ow Bj 110 (.slice a4 x.Ae.length c4) x.Ae G4,.ow Bg 117 (.slice a5 x.Ac.length c5) x.Ac G5,.ow (Fv Aj 159) 135 (.slice a6 x.down.length c6) x.down G6,.ow (Fv Aj 159) 135 (.slice a7 x.up.length c7) x.up G7]) z1 (Dn.refl _ w) ?_ ?_ ?_) g
 ·intro q hq;simp only [List.mem_cons,List.not_mem_nil,or_false] at hq;rcases hq with rfl|rfl|rfl|rfl|rfl|rfl|rfl
  ·exact DT
  ·exact DR
  ·exact EN
  ·exact ⟨(List.nodup_append.1 (List.nodup_append.1 (List.nodup_append.1 (List.nodup_append.1 hn).1).1).1).2.1,h4⟩
  ·exact ⟨(List.nodup_append.1 (List.nodup_append.1 (List.nodup_append.1 hn).1).1).2.1,h5⟩
  ·exact ⟨(List.nodup_append.1 (List.nodup_append.1 hn).1).2.1,h6⟩
  ·exact ⟨(List.nodup_append.1 hn).2.1,h7⟩
 ·refine ⟨?_,⟨?_,⟨?_,⟨?_,⟨?_,⟨?_,⟨?_,trivial⟩⟩⟩⟩⟩⟩⟩
  ·intro q hq _ b hb hb2;simp only [List.mem_cons,List.not_mem_nil,or_false] at hq;rcases hq with rfl|rfl|rfl|rfl|rfl|rfl
   ·exact DK
   ·exact AW
   ·exact AO
   ·exact AL
   ·exact AM
   ·exact AR
  ·intro q hq _ b hb hb2;simp only [List.mem_cons,List.not_mem_nil,or_false] at hq;rcases hq with rfl|rfl|rfl|rfl|rfl
   ·exact AW
   ·exact AO
   ·exact AL
   ·exact AM
   ·exact AR
  ·intro q hq _ b hb hb2;simp only [List.mem_cons,List.not_mem_nil,or_false] at hq;rcases hq with rfl|rfl|rfl|rfl
   ·exact AO
   ·exact AL
   ·exact AM
   ·exact AR
  ·intro q hq _ b hb hb2;simp only [List.mem_cons,List.not_mem_nil,or_false] at hq;rcases hq with rfl|rfl|rfl
   ·exact AL
   ·exact AM
   ·exact AR
  ·intro q hq _ b hb hb2;simp only [List.mem_cons,List.not_mem_nil,or_false] at hq;rcases hq with rfl|rfl
   ·exact AM
   ·exact AR
  ·intro q hq _ b hb hb2;simp only [List.mem_cons,List.not_mem_nil,or_false] at hq;rcases hq with rfl
   ·exact AR
  ·intro q hq _ b hb hb2;simp at hq
 ·exact CH
theorem Np (x:Dt) {a1:Option Addr} {c1:Nat} {F1:List Nat} {a2:Option Addr} {c2:Nat} {F2:List Nat} {a3:Option Addr} {c3:Nat} {F3:List Nat} {a4:Option Addr} {c4:Nat} {F4:List Nat} {a5:Option Addr} {c5:Nat} {F5:List Nat} {a6:Option Addr} {c6:Nat} {F6:List Nat} {a7:Option Addr} {c7:Nat} {F7:List Nat} {S1 S2 S3 S4 S5 S6 S7:List Pc}  (h:T c fr (.own Zm (.agg #[.slice a1 x.Al.Ad.length c1,.int .i64 x.Aa.Ab.Ao,.int .i64 x.Aa.Ab.size,.slice a2 x.Aa.Ab.Ak.length c2,.int .i64 x.Aa.Ai,.int .i64 x.Aa.quiet,.slice a3 x.Aa.holds.length c3,.slice a4 x.Ae.length c4,.slice a5 x.Ac.length c5,.slice a6 x.down.length c6,.slice a7 x.up.length c7]) x (F1++F2++F3++F4++F5++F6++F7)::S7) Φ) (m1:Cz H (.ow Bc 3 (.slice a1 x.Al.Ad.length c1) x.Al.Ad F1) S1:=by exact Df) (m2:Cz S1 (.ow A8 9 (.slice a2 x.Aa.Ab.Ak.length c2) x.Aa.Ab.Ak F2) S2:=by exact Df) (m3:Cz S2 (.ow Bi 156 (.slice a3 x.Aa.holds.length c3) x.Aa.holds F3) S3:=by exact Df) (m4:Cz S3 (.ow Bj 110 (.slice a4 x.Ae.length c4) x.Ae F4) S4:=by exact Df) (m5:Cz S4 (.ow Bg 117 (.slice a5 x.Ac.length c5) x.Ac F5) S5:=by exact Df) (m6:Cz S5 (.ow (Fv Aj 159) 135 (.slice a6 x.down.length c6) x.down F6) S6:=by exact Df) (m7:Cz S6 (.ow (Fv Aj 159) 135 (.slice a7 x.up.length c7) x.up F7) S7:=by exact Df)  : T c fr H Φ:=.mk fun a w s g=>by
 have z1:St c.G c.D c.w0 ([.ow Bc 3 (.slice a1 x.Al.Ad.length c1) x.Al.Ad F1,.ow A8 9 (.slice a2 x.Aa.Ab.Ak.length c2) x.Aa.Ab.Ak F2,.ow Bi 156 (.slice a3 x.Aa.holds.length c3) x.Aa.holds F3,.ow Bj 110 (.slice a4 x.Ae.length c4) x.Ae F4,.ow Bg 117 (.slice a5 x.Ac.length c5) x.Ac F5,.ow (Fv Aj 159) 135 (.slice a6 x.down.length c6) x.down F6,.ow (Fv Aj 159) 135 (.slice a7 x.up.length c7) x.up F7]++S7) w:=by simpa using (show Ex H [.ow Bc 3 (.slice a1 x.Al.Ad.length c1) x.Al.Ad F1,.ow A8 9 (.slice a2 x.Aa.Ab.Ak.length c2) x.Aa.Ab.Ak F2,.ow Bi 156 (.slice a3 x.Aa.holds.length c3) x.Aa.holds F3,.ow Bj 110 (.slice a4 x.Ae.length c4) x.Ae F4,.ow Bg 117 (.slice a5 x.Ac.length c5) x.Ac F5,.ow (Fv Aj 159) 135 (.slice a6 x.down.length c6) x.down F6,.ow (Fv Aj 159) 135 (.slice a7 x.up.length c7) x.up F7] S7 from Ex.cons m1 (Ex.cons m2 (Ex.cons m3 (Ex.cons m4 (Ex.cons m5 (Ex.cons m6 (Ex.cons m7 (Ex.nil)))))))).st (X:=[]) IB
 obtain ⟨n1,k1⟩:=z1.on (.ow Bc 3 (.slice a1 x.Al.Ad.length c1) x.Al.Ad F1) GL;obtain ⟨n2,k2⟩:=z1.on (.ow A8 9 (.slice a2 x.Aa.Ab.Ak.length c2) x.Aa.Ab.Ak F2) GL;obtain ⟨n3,k3⟩:=z1.on (.ow Bi 156 (.slice a3 x.Aa.holds.length c3) x.Aa.holds F3) GL;obtain ⟨n4,k4⟩:=z1.on (.ow Bj 110 (.slice a4 x.Ae.length c4) x.Ae F4) GL;obtain ⟨n5,k5⟩:=z1.on (.ow Bg 117 (.slice a5 x.Ac.length c5) x.Ac F5) GL;obtain ⟨n6,k6⟩:=z1.on (.ow (Fv Aj 159) 135 (.slice a6 x.down.length c6) x.down F6) GL
 obtain ⟨n7,k7⟩:=z1.on (.ow (Fv Aj 159) 135 (.slice a7 x.up.length c7) x.up F7) GL;have hsp:=z1.sep;have p1_2:∀b∈F1,b ∉ F2:=hsp.1 (.ow A8 9 (.slice a2 x.Aa.Ab.Ak.length c2) x.Aa.Ab.Ak F2) GL rfl;have p1_3:∀b∈F1,b ∉ F3:=hsp.1 (.ow Bi 156 (.slice a3 x.Aa.holds.length c3) x.Aa.holds F3) GL rfl;have p1_4:∀b∈F1,b ∉ F4:=hsp.1 (.ow Bj 110 (.slice a4 x.Ae.length c4) x.Ae F4) GL rfl;have p1_5:∀b∈F1,b ∉ F5:=hsp.1 (.ow Bg 117 (.slice a5 x.Ac.length c5) x.Ac F5) GL rfl
 have p1_6:∀b∈F1,b ∉ F6:=hsp.1 (.ow (Fv Aj 159) 135 (.slice a6 x.down.length c6) x.down F6) GL rfl;have p1_7:∀b∈F1,b ∉ F7:=hsp.1 (.ow (Fv Aj 159) 135 (.slice a7 x.up.length c7) x.up F7) GL rfl;have p2_3:∀b∈F2,b ∉ F3:=hsp.2.1 (.ow Bi 156 (.slice a3 x.Aa.holds.length c3) x.Aa.holds F3) GL rfl;have p2_4:∀b∈F2,b ∉ F4:=hsp.2.1 (.ow Bj 110 (.slice a4 x.Ae.length c4) x.Ae F4) GL rfl;have p2_5:∀b∈F2,b ∉ F5:=hsp.2.1 (.ow Bg 117 (.slice a5 x.Ac.length c5) x.Ac F5) GL rfl
 have p2_6:∀b∈F2,b ∉ F6:=hsp.2.1 (.ow (Fv Aj 159) 135 (.slice a6 x.down.length c6) x.down F6) GL rfl;have p2_7:∀b∈F2,b ∉ F7:=hsp.2.1 (.ow (Fv Aj 159) 135 (.slice a7 x.up.length c7) x.up F7) GL rfl;have p3_4:∀b∈F3,b ∉ F4:=hsp.2.2.1 (.ow Bj 110 (.slice a4 x.Ae.length c4) x.Ae F4) GL rfl;have p3_5:∀b∈F3,b ∉ F5:=hsp.2.2.1 (.ow Bg 117 (.slice a5 x.Ac.length c5) x.Ac F5) GL rfl;have p3_6:∀b∈F3,b ∉ F6:=hsp.2.2.1 (.ow (Fv Aj 159) 135 (.slice a6 x.down.length c6) x.down F6) GL rfl
 have p3_7:∀b∈F3,b ∉ F7:=hsp.2.2.1 (.ow (Fv Aj 159) 135 (.slice a7 x.up.length c7) x.up F7) GL rfl;have p4_5:∀b∈F4,b ∉ F5:=hsp.2.2.2.1 (.ow Bg 117 (.slice a5 x.Ac.length c5) x.Ac F5) GL rfl;have p4_6:∀b∈F4,b ∉ F6:=hsp.2.2.2.1 (.ow (Fv Aj 159) 135 (.slice a6 x.down.length c6) x.down F6) GL rfl;have p4_7:∀b∈F4,b ∉ F7:=hsp.2.2.2.1 (.ow (Fv Aj 159) 135 (.slice a7 x.up.length c7) x.up F7) GL rfl;have p5_6:∀b∈F5,b ∉ F6:=hsp.2.2.2.2.1 (.ow (Fv Aj 159) 135 (.slice a6 x.down.length c6) x.down F6) GL rfl
 have p5_7:∀b∈F5,b ∉ F7:=hsp.2.2.2.2.1 (.ow (Fv Aj 159) 135 (.slice a7 x.up.length c7) x.up F7) GL rfl;have p6_7:∀b∈F6,b ∉ F7:=hsp.2.2.2.2.2.1 (.ow (Fv Aj 159) 135 (.slice a7 x.up.length c7) x.up F7) GL rfl;have hN:(F1++F2++F3++F4++F5++F6++F7).Nodup:=by
  simp only [List.nodup_append,List.mem_append]
  grind
 refine h.h a w (St.turn (M:=[.ow Bc 3 (.slice a1 x.Al.Ad.length c1) x.Al.Ad F1,.ow A8 9 (.slice a2 x.Aa.Ab.Ak.length c2) x.Aa.Ab.Ak F2,.ow Bi 156 (.slice a3 x.Aa.holds.length c3) x.Aa.holds F3,.ow Bj 110 (.slice a4 x.Ae.length c4) x.Ae F4,.ow Bg 117 (.slice a5 x.Ac.length c5) x.Ac F5,.ow (Fv Aj 159) 135 (.slice a6 x.down.length c6) x.down F6,.ow (Fv Aj 159) 135 (.slice a7 x.up.length c7) x.up F7]) (N:=[.own Zm (.agg #[.slice a1 x.Al.Ad.length c1,.int .i64 x.Aa.Ab.Ao,.int .i64 x.Aa.Ab.size,.slice a2 x.Aa.Ab.Ak.length c2,.int .i64 x.Aa.Ai,.int .i64 x.Aa.quiet,.slice a3 x.Aa.holds.length c3,.slice a4 x.Ae.length c4,.slice a5 x.Ac.length c5,.slice a6 x.down.length c6,.slice a7 x.up.length c7]) x (F1++F2++F3++F4++F5++F6++F7)]) z1 (Dn.refl _ w) (by intro q hq;obtain rfl:=List.mem_singleton.1 hq;exact ⟨hN,_,rfl,_,_,_,_,_,_,_,_,_,_,_,_,_,_,rfl,k1,k2,k3,k4,k5,k6,k7,rfl⟩) ⟨GL,trivial⟩ fun q hq b hb=>?_) g
 obtain rfl:=List.mem_singleton.1 hq;simp only [Pc.F,List.mem_append] at hb;rcases hb with (((((hb|hb)|hb)|hb)|hb)|hb)|hb
 ·exact .inr (.inl ⟨.ow Bc 3 (.slice a1 x.Al.Ad.length c1) x.Al.Ad F1,GL,rfl,hb⟩)
 ·exact .inr (.inl ⟨.ow A8 9 (.slice a2 x.Aa.Ab.Ak.length c2) x.Aa.Ab.Ak F2,GL,rfl,hb⟩)
 ·exact .inr (.inl ⟨.ow Bi 156 (.slice a3 x.Aa.holds.length c3) x.Aa.holds F3,GL,rfl,hb⟩)
 ·exact .inr (.inl ⟨.ow Bj 110 (.slice a4 x.Ae.length c4) x.Ae F4,GL,rfl,hb⟩)
 ·exact .inr (.inl ⟨.ow Bg 117 (.slice a5 x.Ac.length c5) x.Ac F5,GL,rfl,hb⟩)
 ·exact .inr (.inl ⟨.ow (Fv Aj 159) 135 (.slice a6 x.down.length c6) x.down F6,GL,rfl,hb⟩)
 ·exact .inr (.inl ⟨.ow (Fv Aj 159) 135 (.slice a7 x.up.length c7) x.up F7,GL,rfl,hb⟩)
end
section
variable {c:Cx} {fr:Fr} {H:List Pc} {Φ:Gl}
theorem Ig {v:Value} {x:Bl} {F:List Nat} (h:∀(a1:Option Addr) (c1:Nat) (F1:List Nat),v=.agg #[.int .i64 x.Ai,.slice a1 x.Ah.length c1]→x.Ah.length≤maxLen→T c fr (.sl Gb (.slice a1 x.Ah.length c1) x.Ah F1::H) Φ) (hm:.isv Bt v x F∈H:=by exact Bp):T c fr H Φ:=.mk fun a w s g=>by
 obtain ⟨cs,rfl,v1,rfl,h1⟩:=s.get hm;obtain ⟨a1,c1,rfl⟩:=h1.slice;have l1:=h1.len;have t1:=s.ro (p:=.sl Gb (.slice a1 x.Ah.length c1) x.Ah F) hm rfl rfl ⟨GM,h1⟩ fun b hb=>hb;exact GI
theorem Mg (x:Bl) {a1:Option Addr} {c1:Nat} {F1:List Nat}  (h:T c fr (.isv Bt (.agg #[.int .i64 x.Ai,.slice a1 x.Ah.length c1]) x (F1)::H) Φ) (m1:.sl Gb (.slice a1 x.Ah.length c1) x.Ah F1∈H:=by exact Bp):T c fr H Φ:=.mk fun a w s g=>by
 have hP:N0 Bt w (.agg #[.int .i64 x.Ai,.slice a1 x.Ah.length c1]) x (F1):=⟨_,rfl,_,rfl,(s.get m1).2⟩;refine h.h a w (s.add (N:=[.isv Bt (.agg #[.int .i64 x.Ai,.slice a1 x.Ah.length c1]) x (F1)]) (Below.refl _ _) HP ⟨GL,trivial⟩ fun q hq b hb=>?_) g;exact BY
theorem Hl {v:Value} {x:Bl} {F:List Nat} {S:List Pc} (h:∀(a1:Option Addr) (c1:Nat) (F1:List Nat),v=.agg #[.int .i64 x.Ai,.slice a1 x.Ah.length c1]→x.Ah.length≤maxLen→T c fr (.ow Ej 162 (.slice a1 x.Ah.length c1) x.Ah F1::S) Φ) (hp:Cz H (.own Bj v x F) S:=by exact Df):T c fr H Φ:=.mk fun a w s g=>by
 have z1:=s.pick hp;obtain ⟨hn,cs,rfl,v1,rfl,h1⟩:=z1.on (.own Bj v x F) GL;obtain ⟨a1,c1,rfl⟩:=h1.slice;have l1:=h1.len;refine (h a1 c1 F rfl  l1).h a w (St.turn (M:=[.own Bj (.agg #[.int .i64 x.Ai,.slice a1 x.Ah.length c1]) x _]) (N:=[.ow Ej 162 (.slice a1 x.Ah.length c1) x.Ah F]) z1 (Dn.refl _ w) ?_ ?_ ?_) g
 ·intro q hq;simp at hq;subst hq;exact ⟨hn,h1⟩
 ·exact ⟨GL,trivial⟩
 ·intro q hq b hb;simp at hq;subst hq;exact CS
theorem Gk (x:Bl) {a1:Option Addr} {c1:Nat} {F1:List Nat} {S1:List Pc}  (h:T c fr (.own Bj (.agg #[.int .i64 x.Ai,.slice a1 x.Ah.length c1]) x (F1)::S1) Φ) (m1:Cz H (.ow Ej 162 (.slice a1 x.Ah.length c1) x.Ah F1) S1:=by exact Df)  : T c fr H Φ:=.mk fun a w s g=>by
 have z1:St c.G c.D c.w0 ([.ow Ej 162 (.slice a1 x.Ah.length c1) x.Ah F1]++S1) w:=by simpa using (show Ex H [.ow Ej 162 (.slice a1 x.Ah.length c1) x.Ah F1] S1 from Ex.cons m1 (Ex.nil)).st (X:=[]) IB
 obtain ⟨n1,k1⟩:=z1.on (.ow Ej 162 (.slice a1 x.Ah.length c1) x.Ah F1) GL;have hN:=n1;refine h.h a w (St.turn (M:=[.ow Ej 162 (.slice a1 x.Ah.length c1) x.Ah F1]) (N:=[.own Bj (.agg #[.int .i64 x.Ai,.slice a1 x.Ah.length c1]) x (F1)]) z1 (Dn.refl _ w) (by intro q hq;simp at hq;subst hq;exact ⟨hN,_,rfl,_,rfl,k1⟩) ⟨GL,trivial⟩ fun q hq b hb=>?_) g;simp at hq;subst hq;simp only [Pc.F,List.mem_append] at hb;exact CS
theorem Pr {a:Option Addr} {n cp:Nat} {xs:List Bl} {F:List Nat} (i:Nat) (h:∀(hi:i < xs.length) (b o:Nat) (a1:Option Addr) (c1:Nat) (F1:List Nat),a=some ⟨b,o,none⟩→xs[i].Ah.length≤maxLen→T c fr (.cel b (o+i * 2) [.int .i64 xs[i].Ai,.slice a1 xs[i].Ah.length c1]::.sl Gb (.slice a1 xs[i].Ah.length c1) xs[i].Ah F1::H) Φ) (hm:.sl Bt (.slice a n cp) xs F∈H:=by exact Bp) (hi:i < xs.length:=by omega):T c fr H Φ:=.mk fun ac w s g=>by
 obtain ⟨b,o,cs,G,ha,hrep,hG,hb,hne,hr⟩:=Wv (s.get hm) i hi;obtain ⟨v1,rfl,h1⟩:=hrep;obtain ⟨a1,c1,rfl⟩:=h1.slice;have l1:=h1.len;have t1:=s.ro (p:=.sl Gb (.slice a1 xs[i].Ah.length c1) xs[i].Ah G) hm rfl rfl ⟨GM,h1⟩ HJ;exact ED
end
section
variable {c:Cx} {fr:Fr} {H:List Pc} {Φ:Gl}
theorem Lx {v:Value} {x:Me} {F:List Nat} (h:∀(a1:Option Addr) (c1:Nat) (F1:List Nat),v=.agg #[.slice a1 x.Ad.length c1]→x.Ad.length≤maxLen→T c fr (.sl Bc (.slice a1 x.Ad.length c1) x.Ad F1::H) Φ) (hm:.isv Kt v x F∈H:=by exact Bp):T c fr H Φ:=.mk fun a w s g=>by
 obtain ⟨cs,rfl,v1,rfl,h1⟩:=s.get hm;obtain ⟨a1,c1,rfl⟩:=h1.slice;have l1:=h1.len;have t1:=s.ro (p:=.sl Bc (.slice a1 x.Ad.length c1) x.Ad F) hm rfl rfl ⟨GM,h1⟩ fun b hb=>hb;exact GI
theorem Kq (x:Me) {a1:Option Addr} {c1:Nat} {F1:List Nat}  (h:T c fr (.isv Kt (.agg #[.slice a1 x.Ad.length c1]) x (F1)::H) Φ) (m1:.sl Bc (.slice a1 x.Ad.length c1) x.Ad F1∈H:=by exact Bp):T c fr H Φ:=.mk fun a w s g=>by
 have hP:N0 Kt w (.agg #[.slice a1 x.Ad.length c1]) x (F1):=⟨_,rfl,_,rfl,(s.get m1).2⟩;refine h.h a w (s.add (N:=[.isv Kt (.agg #[.slice a1 x.Ad.length c1]) x (F1)]) (Below.refl _ _) HP ⟨GL,trivial⟩ fun q hq b hb=>?_) g;exact BY
end
structure Aei (n:Dt):Prop where
 t:n.Al.Ad.length≤1048576
 i:n.Aa.Ab.Ak.length≤1048576
 h:n.Aa.holds.length≤1048576
 e:n.Ae.length≤1048576
 e1:∀x∈n.Ae,x.Ah.length≤1048576
 e2:∀x∈n.Ae,∀y∈x.Ah,y.Bm.length≤1048576
 rl:n.Ac.length≤1048576
 r:∀x∈n.Ac,x.Ab.Ap.length≤1048576∧x.Am.length≤1048576
 d:n.down.length≤1048576
 dq:∀q∈n.down,q.length≤1048576
 u:n.up.length≤1048576
 uq:∀q∈n.up,q.length≤1048576
structure ClN where
 g:Nat
 a1:Option Addr
 c1:Nat
 F1:List Nat
 a2:Option Addr
 c2:Nat
 F2:List Nat
 a3:Option Addr
 c3:Nat
 F3:List Nat
 g6:Nat
 F6:List Nat
 g7:Nat
 F7:List Nat
structure NV where
 a1:Option Addr
 c1:Nat
 F1:List Nat
 a2:Option Addr
 c2:Nat
 F2:List Nat
 a3:Option Addr
 c3:Nat
 F3:List Nat
 a4:Option Addr
 c4:Nat
 F4:List Nat
 a5:Option Addr
 c5:Nat
 F5:List Nat
 a6:Option Addr
 c6:Nat
 F6:List Nat
 a7:Option Addr
 c7:Nat
 F7:List Nat
structure KA where
 k:Nat
 a:Option Addr
 c:Nat
 F:List Nat
theorem At9 (n:Dt) (v:Value) (F:List Nat) (hs:Aei n):Fn prog 32 [v] [.isv O1 v n F] [] (fun (_:NV)=>True) (fun z=>.agg #[.slice z.a1 n.Al.Ad.length z.c1,.int .i64 n.Aa.Ab.Ao,.int .i64 n.Aa.Ab.size,.slice z.a2 n.Aa.Ab.Ak.length z.c2,.int .i64 n.Aa.Ai,.int .i64 n.Aa.quiet,.slice z.a3 n.Aa.holds.length z.c3,.slice z.a4 n.Ae.length z.c4,.slice z.a5 n.Ac.length z.c5,.slice z.a6 n.down.length z.c6,.slice z.a7 n.up.length z.c7]) (fun z=>[.ow Bc 3 (.slice z.a1 n.Al.Ad.length z.c1) n.Al.Ad z.F1,.ow A8 9 (.slice z.a2 n.Aa.Ab.Ak.length z.c2) n.Aa.Ab.Ak z.F2,.ow Bi 156 (.slice z.a3 n.Aa.holds.length z.c3) n.Aa.holds z.F3,.ow Bj 110 (.slice z.a4 n.Ae.length z.c4) n.Ae z.F4,.ow Bg 117 (.slice z.a5 n.Ac.length z.c5) n.Ac z.F5,.ow (Fv Aj 159) 135 (.slice z.a6 n.down.length z.c6) n.down z.F6,.ow (Fv Aj 159) 135 (.slice z.a7 n.up.length z.c7) n.up z.F7]):=by
 refine enter func32 rfl ntmps32 fun w0=>?_;refine Ia ?_;rintro a1 c1 F1 a2 c2 F2 a3 c3 F3 a4 c4 F4 a5 c5 F5 a6 c6 F6 a7 c7 F7 rfl l1 l2 l3 l4 l5 l6 l7;refine Gf n.Aa ?_;refine go ?_;intros
 refine Eg [1,2] [0,1,6,7] (fun z:ClN=>[(3,Hm z.g 0 0)]) (fun z=>[.row z.g 48 0 [] [.slice z.a1 n.Al.Ad.length z.c1,.int .i64 n.Aa.Ab.Ao,.int .i64 n.Aa.Ab.size,.slice z.a2 n.Aa.Ab.Ak.length z.c2,.int .i64 n.Aa.Ai,.int .i64 n.Aa.quiet,.slice z.a3 n.Aa.holds.length z.c3,.slice none 0 0,.slice none 0 0,.slice (some ⟨z.g6,0,none⟩) n.down.length n.down.length,.slice (some ⟨z.g7,0,none⟩) n.up.length n.up.length] [],.ow Bc 3 (.slice z.a1 n.Al.Ad.length z.c1) n.Al.Ad z.F1,.ow A8 9 (.slice z.a2 n.Aa.Ab.Ak.length z.c2) n.Aa.Ab.Ak z.F2,.ow Bi 156 (.slice z.a3 n.Aa.holds.length z.c3) n.Aa.holds z.F3,.ow (Fv Aj 159) 135 (.slice (some ⟨z.g6,0,none⟩) n.down.length n.down.length) n.down z.F6,.ow (Fv Aj 159) 135 (.slice (some ⟨z.g7,0,none⟩) n.up.length n.up.length) n.up z.F7]) (fun _=>True) ?_ fun z _=>?_
 ·refine At [1] [] ?_;refine Dk 0 1 2 5 ?_;refine Dk 6 8 9 11 ?_;refine dt 12 ?_;refine dM 3 15 ?_ ?_
  ·refine oC ?_;refine cn (fun w st=>Rj _ n.Al.Ad F1 w (st.get (p:=.sl Bc (.slice a1 n.Al.Ad.length c1) n.Al.Ad F1) GO).2 (by have:=hs.t;omega)) fun b1 d1 G1=>?_;refine dk ?_;refine dt 4 ?_;refine dM 7 15 ?_ ?_
   ·refine oC ?_;refine cf (Aeh n.Aa _ _ (by have:=hs.i;omega) (by have:=hs.h;omega)) fun s2 _=>?_;refine Ar ?_;refine Wo (x:=n.Aa) ?_;rintro b2 d2 G2 b3 d3 G3 e2 - -;rw [e2];refine dk ?_;refine dM 10 15 ?_ ?_
    ·refine oC ?_;refine cf (Iz n.down _ _ F6 (by have:=hs.d;omega) (fun q hq=>by have:=hs.dq q hq;omega)) fun s6 _=>?_;refine Ar ?_;refine dk ?_;refine dM 13 15 ?_ ?_
     ·refine oC ?_;refine cf (Iz n.up _ _ F7 (by have:=hs.u;omega) (fun q hq=>by have:=hs.uq q hq;omega)) fun s7 _=>?_;refine Ar ?_;refine dk ?_;refine dt 14 ?_;refine dN 15 ?_;apply Co;rfl;intro _;refine dk ?_;refine dN 16 ?_;refine oS ?_;refine dk ?_;refine dd ?_;refine Bw (⟨_,b1,d1,G1,b2,d2,G2,b3,d3,G3,_,_,_,_⟩:ClN) trivial
     ·apply Co;rfl;intro _;exact AP
    ·apply Co;rfl;intro _;refine dk ?_;refine dN 10 ?_;refine oC ?_;refine cf (Iz n.down _ _ F6 (by have:=hs.d;omega) (fun q hq=>by have:=hs.dq q hq;omega)) fun s6 _=>?_;refine Ar ?_;exact AP
   ·apply Co;rfl;intro _;refine dk ?_;refine dN 7 ?_;refine oC ?_;refine cf (Aeh n.Aa _ _ (by have:=hs.i;omega) (by have:=hs.h;omega)) fun s2 _=>?_;refine Ar ?_;refine Wo (x:=n.Aa) ?_;rintro b2 d2 G2 b3 d3 G3 e2 - -;rw [e2];refine dk ?_;refine dN 10 ?_;refine oC ?_;refine cf (Iz n.down _ _ F6 (by have:=hs.d;omega) (fun q hq=>by have:=hs.dq q hq;omega)) fun s6 _=>?_;refine Ar ?_;refine dk ?_;refine dN 13 ?_;refine oC ?_;refine cf (Iz n.up _ _ F7 (by have:=hs.u;omega) (fun q hq=>by have:=hs.uq q hq;omega)) fun s7 _=>?_;refine Ar ?_;refine dk ?_;refine dt 14 ?_;refine dN 16 ?_;refine oS ?_
    refine dk ?_;refine dd ?_;refine Bw (⟨_,b1,d1,G1,b2,d2,G2,b3,d3,G3,_,_,_,_⟩:ClN) trivial
  ·apply Co;rfl;intro _;refine dk ?_;refine dN 3 ?_;refine oC ?_;refine cn (fun w st=>Rj _ n.Al.Ad F1 w (st.get (p:=.sl Bc (.slice a1 n.Al.Ad.length c1) n.Al.Ad F1) GO).2 (by have:=hs.t;omega)) fun b1 d1 G1=>?_;refine dk ?_;refine dt 4 ?_;refine dN 7 ?_;refine oC ?_;refine cf (Aeh n.Aa _ _ (by have:=hs.i;omega) (by have:=hs.h;omega)) fun s2 _=>?_;refine Ar ?_;refine Wo (x:=n.Aa) ?_;rintro b2 d2 G2 b3 d3 G3 e2 - -;rw [e2];refine dk ?_;refine dN 10 ?_;refine oC ?_;refine cf (Iz n.down _ _ F6 (by have:=hs.d;omega) (fun q hq=>by have:=hs.dq q hq;omega)) fun s6 _=>?_;refine Ar ?_
   exact AP
 have he:=hs.e;have hr:=hs.rl;refine Br Bj 110 ?_;refine go ?_;intros
 refine Ck [1,2,3,24,25] (fun y:KA=>[(26,.int .i64 (y.k:Nat))]) (fun y=>[.row z.g 48 0 [] [.slice z.a1 n.Al.Ad.length z.c1,.int .i64 n.Aa.Ab.Ao,.int .i64 n.Aa.Ab.size,.slice z.a2 n.Aa.Ab.Ak.length z.c2,.int .i64 n.Aa.Ai,.int .i64 n.Aa.quiet,.slice z.a3 n.Aa.holds.length z.c3,.slice y.a (n.Ae.take y.k).length y.c,.slice none 0 0,.slice (some ⟨z.g6,0,none⟩) n.down.length n.down.length,.slice (some ⟨z.g7,0,none⟩) n.up.length n.up.length] [],.ow Bj 110 (.slice y.a (n.Ae.take y.k).length y.c) (n.Ae.take y.k) y.F]) (fun y=>y.k≤n.Ae.length) (fun y=>n.Ae.length - y.k) ⟨0,none,0,[]⟩ (Nat.zero_le _) fun y hy=>?_
 refine go ?_;intros;refine Be rfl (fun h1=>?_) (fun h1=>?_)
 ·have hk:y.k < n.Ae.length:=by omega
  have htl:(n.Ae.take y.k).length≤1048576:=by rw [List.length_take];omega
  refine Pr (xs:=n.Ae) y.k ?_;rintro hi4 b4 o4 a8 c8 F8 e4 l8;rw [e4];refine Mg n.Ae[y.k] ?_;refine go ?_;intros;refine At [0,4] [7] ?_;refine Dy 0 1 ?_;refine dt 2 ?_;refine dN 3 ?_;refine oC ?_;refine cv (fun w st=>Ade _ n.Ae[y.k] F8 w (st.get (p:=.isv Bt (.agg #[.int .i64 n.Ae[y.k].Ai,.slice a8 n.Ae[y.k].Ah.length c8]) n.Ae[y.k] F8) GO) (by have:=hs.e1 _ (List.getElem_mem hk);omega) (fun x hx=>by have:=hs.e2 _ (List.getElem_mem hk) x hx;omega)) fun v9 F9=>?_;refine Hl (x:=n.Ae[y.k]) ?_;rintro a9 c9 F10 rfl l9;refine Gk n.Ae[y.k] ?_;refine dk ?_;refine dN 4 ?_
  apply Km;rfl;rfl;rfl;rfl;exact Ke;exact Jy;intro _;refine dk ?_;refine dN 5 ?_;refine Aa4 Ra n.Ae[y.k] rfl fun a7 c7 F7=>?_;refine dk ?_;refine dt 6 ?_;refine dN 7 ?_;refine oS ?_;refine Rn ?_;refine dd ?_;rw [←List.take_succ_eq_append_getElem hk];refine go ?_;intros;refine Cu ⟨y.k+1,a7,c7,F7⟩ hk (by show n.Ae.length - (y.k+1) < n.Ae.length - y.k;omega)
 rw [show n.Ae.take y.k=n.Ae from List.take_of_length_le GJ];obtain ⟨_,ea,ec,eF⟩:=y;dsimp only;refine Br Bg 117 ?_;refine go ?_;intros
 refine Ck [2,3,39,40] (fun y:KA=>[(41,.int .i64 (y.k:Nat))]) (fun y=>[.row z.g 48 0 [] [.slice z.a1 n.Al.Ad.length z.c1,.int .i64 n.Aa.Ab.Ao,.int .i64 n.Aa.Ab.size,.slice z.a2 n.Aa.Ab.Ak.length z.c2,.int .i64 n.Aa.Ai,.int .i64 n.Aa.quiet,.slice z.a3 n.Aa.holds.length z.c3,.slice ea n.Ae.length ec,.slice y.a (n.Ac.take y.k).length y.c,.slice (some ⟨z.g6,0,none⟩) n.down.length n.down.length,.slice (some ⟨z.g7,0,none⟩) n.up.length n.up.length] [],.ow Bg 117 (.slice y.a (n.Ac.take y.k).length y.c) (n.Ac.take y.k) y.F]) (fun y=>y.k≤n.Ac.length) (fun y=>n.Ac.length - y.k) ⟨0,none,0,[]⟩ (Nat.zero_le _) fun y hy=>?_
 refine go ?_;intros;refine Be rfl (fun h2=>?_) (fun h2=>?_)
 ·have hk:y.k < n.Ac.length:=by omega
  have htl:(n.Ac.take y.k).length≤1048576:=by rw [List.length_take];omega
  refine Jt (xs:=n.Ac) y.k ?_;rintro hi5 b5 o5 a8 c8 F8 a9 c9 F9 e5 l8 l9;rw [e5];refine Ee n.Ac[y.k] ?_;refine go ?_;intros;refine At [0,5] [7] ?_;refine Dy 0 1 ?_;refine dt 2 ?_;refine dN 3 ?_;refine oC ?_;refine cf (Aug n.Ac[y.k] _ _ (by have:=(hs.r _ (List.getElem_mem hk)).1;omega) (by have:=(hs.r _ (List.getElem_mem hk)).2;omega)) fun s9 _=>?_;refine Ar ?_;refine H4 (x:=n.Ac[y.k]) ?_;rintro a9 c9 G9 a10 c10 G10 e9 l9 l10;rw [e9];refine Ju n.Ac[y.k] ?_;refine dk ?_;refine dN 4 ?_;apply Km;rfl;rfl;rfl;rfl;exact Ke;exact Jy;intro _;refine dk ?_;refine dN 5 ?_
  refine Aa4 Qb n.Ac[y.k] rfl fun a7 c7 F7=>?_;refine dk ?_;refine dt 6 ?_;refine dN 7 ?_;refine oS ?_;refine Rn ?_;refine dd ?_;rw [←List.take_succ_eq_append_getElem hk];refine go ?_;intros;refine Cu ⟨y.k+1,a7,c7,F7⟩ hk (by show n.Ac.length - (y.k+1) < n.Ac.length - y.k;omega)
 rw [show n.Ac.take y.k=n.Ac from List.take_of_length_le GJ];refine go ?_;intros;refine ret ⟨z.a1,z.c1,z.F1,z.a2,z.c2,z.F2,z.a3,z.c3,z.F3,ea,ec,eF,y.a,y.c,y.F,_,_,z.F6,_,_,z.F7⟩ trivial rfl
theorem Pd {v:Int} (h:0≤v):Lib.itoa v=Lib.decDigits v.natAbs:=by unfold Lib.itoa;rw [if_neg GJ,show v.toNat=v.natAbs by omega]
end Go.Proofs.YtkagnmekdkchiaaGreatDoor
