/- Part 4 of the proof: 51 texts, one behind the other. -/
import Derived.BigQuiet
import Derived.Deep.RegionLaw
import Derived.Test.YtkagnmekdkchiaaGreatDoorShelf
import Derived.Lib.RowBridge
import Derived.Test.YtkagnmekdkchiaaGreatDoorM3
open _root_.Go.Proofs.Tryz
set_option maxRecDepth 100000
set_option maxHeartbeats 8000000
set_option linter.all false
set_option linter.unusedVariables false
set_option linter.unusedSimpArgs false
namespace Go.Proofs.YtkagnmekdkchiaaGreatDoor
theorem AD{p:Prop}(h:p:=by refine dk ?_;refine dN 7 ?_;refine Oh (Pp n) C5 (fun a3 c3 F3=>?_) (h63:=by exact Kd) (hby:=by exact Kd);refine dk ?_;refine dN 11 ?_;refine N3 C5 Ea (fun a4 c4 F4=>?_) (h63:=by exact Kd) (hby:=by exact Kd);refine dk ?_;refine dt 12 ?_;refine dd ?_;rw [e];refine go ?_;intros;refine ret ⟨_,_,_⟩ trivial rfl):p:=h
theorem AN{p:Prop}(h:p:=by refine dk ?_;refine dN 7 ?_;refine Oh (Rc ⟨n,1,ck+d,0⟩) C3 fun a8 c8 F8=>?_;refine dk ?_;refine dN 11 ?_;refine N3 (ys:=l.drop (Ec base l n)) C3 Dq (h63:=by simp;omega) (hby:=by simp;omega) fun a9 c9 F9=>?_;refine dk ?_;refine dt 12 ?_;refine dd ?_;rw [hAdd];refine go ?_;intros;refine ret ⟨_,_,_⟩ trivial rfl):p:=h
theorem BB{p:Prop}(h:p:=by refine go ?_;intros;refine ret ⟨_,_,_⟩ trivial rfl):p:=h
theorem BC{p:Prop}(h:p:=by refine dk ?_;refine dN 4 ?_;refine N3 C5 Ea (fun a2 c2 F2=>?_) (hn:=by rw [List.length_take];omega) (h63:=by exact Kd) (hby:=by exact Kd);exact AD):p:=h
theorem BD{p:Prop}(h:p:=by refine ret () trivial rfl):p:=h
theorem BF{p:Prop}(h:p:=by refine go ?_;intros;refine cf (Ajf r p d g t o A B a1 c1 F1 a2 c2 F2 hg hp d0 d1) fun s _=>?_;refine Ar ?_;refine go ?_;intros;refine ret ⟨s.a1,s.c1,s.F1,s.a2,s.c2,s.F2,s.ae,s.ce,s.Fe⟩ trivial rfl):p:=h
theorem BO{p:Prop}(h:p:=by refine go ?_;intros;refine ret z trivial rfl):p:=h
theorem BS{p:Prop}(h:p:=by refine dk ?_;refine dN 8 ?_;refine oC ?_;refine cf (S0 r.Ab (Db (C1 r)) _ FW w0_ w1_ hs0 hs1 hw8 hit) fun y hy=>?_;refine Ar ?_;refine dk ?_;refine Dy 9 10 ?_;refine dt 11 ?_;refine dN 13 ?_;refine oS ?_;refine dk ?_;refine dt 14 ?_;refine dd ?_;refine Bw (⟨_,y⟩:GvS) hy):p:=h
theorem BV{p:Prop}(h:p:=by refine go ?_;intros;refine Bw () trivial):p:=h
theorem BX{p:Prop}(h:p:=by refine dk ?_;refine dN 11 ?_;refine N3 (E:=A8) (xs:=[]) (ys:=x.Ak.drop k) Dp Hi fun a7 c7 F7=>?_;rw [List.nil_append];refine dk ?_;refine dt 12 ?_;refine dN 13 ?_;refine oS ?_;refine dk ?_;refine dd ?_;refine go ?_;intros;refine ret ⟨a7,c7,F7⟩ trivial rfl):p:=h
theorem CL{p:Prop}(h:p:=by refine Cu (⟨k+1,_,_,_⟩:PkS) (by show k+1≤l.length;omega) (by show l.length - (k+1) < l.length - k;omega)):p:=h
theorem CM{p:Prop}(h:p:=by refine Cu (⟨i+1,_,_,_⟩:AwS) (by show i+1≤N.length;omega) (by show N.length - (i+1) < N.length - i;omega)):p:=h
theorem CV{p:Prop}(h:p:=by refine dk ?_;refine dN 7 ?_;refine N3 Id Ht fun a5 c5 F5=>?_;rw [List.nil_append];refine dk ?_;refine dt 8 ?_;refine dN 10 ?_;refine oS ?_;refine dk ?_;refine dd ?_;refine Bw (⟨_,_,_,_⟩:Ayk) trivial):p:=h
theorem CZ{p:Prop}(h:p:=by refine N3 C5 Ea (fun a2 c2 F2=>?_) (hn:=by rw [List.length_take];omega) (h63:=by exact Kd) (hby:=by exact Kd);refine dk ?_;refine dN 6 ?_;apply Km;rfl;rfl;rfl;rfl;exact Ke;exact Jy;intro _;exact AD):p:=h
theorem DE{p:Prop}(h:p:=by refine go ?_;intros;refine Vb ?_;refine Cu (hH:=Kr _) (q+1,j) ⟨by show q+1≤j;omega,h2,fun k hk h=>hm k q (by have:k < q+1:=hk;omega) hh h6,h4⟩ (by show j - (q+1) < j - i;omega)):p:=h
theorem DF{p:Prop}(h:p:=by rintro hi b o e;rw [e];refine go ?_;intros;apply wO;refine Ad3 rfl rfl hb Tw ?_;refine cb (fun w st=>hp xs[i] (List.getElem_mem hh) w (fun p hp=>st.on p (by simp [hp]))) ?_;exact AB):p:=h
theorem DG{p:Prop}(h:p:=by refine go ?_;intros;refine Vb ?_;refine Cu (hH:=Kr _) (i,q) ⟨by show i≤q;omega,by show q≤xs.length;omega,h3,fun k hk h hn=>h6 (hm q k hk h hn)⟩ (by show q - i < j - i;omega)):p:=h
theorem DM{p:Prop}(h:p:=by refine go ?_;intros;refine ret () trivial ?_;show Value.bool _=Value.bool _;congr 1;unfold By;rw [g1,g2,g3,g4,g5,decide_eq_true h6,decide_eq_false h7,decide_eq_false h8];rfl):p:=h
theorem DQ{p:Prop}(h:p:=by refine go ?_;intros;refine ret ⟨_,_,_,_,_,_⟩ trivial rfl):p:=h
theorem DV{p:Prop}(h:p:=by refine go ?_;intros;refine ret () trivial ?_;show Value.bool _=Value.bool _;congr 1;unfold By;rw [g1,g2,g3,g4,g5,decide_eq_true h6,decide_eq_true h8];simp):p:=h
theorem DY{p:Prop}(h:p:=by refine go ?_;intros;refine ret () trivial ?_;show Value.bool _=Value.bool _;congr 1;unfold By;rw [g1,g2,g3,g4,g5,decide_eq_true h6,decide_eq_true h7];rfl):p:=h
theorem EF{p:Prop}(h:p:=by refine go ?_;intros;exact BL):p:=h
theorem EX{p:Prop}(h:p:=by refine go ?_;intros;refine ret ⟨_,_,_,_,_,_,none,0,_⟩ trivial rfl):p:=h
theorem FA{p:Prop}(h:p:=by rw [←Tu ho];refine go ?_;intros;rw [show l.length=(Qj base l n (ck+4)).length from hcl.symm];refine ret ⟨_,_,_⟩ trivial rfl):p:=h
theorem FC{p:Prop}(h:p:=by refine ret ⟨_,_,_,_,_⟩ trivial rfl):p:=h
theorem FF{p:Prop}(h:p:=by refine go ?_;intros;refine ret () trivial ?_;rfl):p:=h
theorem FH{p:Prop}(h:p:=by refine M7 ?_;intros;refine C4 Ax ?_;refine go ?_;intros;apply wO;refine N3 C3 Dq fun a5 c5 F5=>?_;rw [List.nil_append];exact BB):p:=h
theorem FX{p:Prop}(h:p:=by apply Km;rfl;rfl;rfl;rfl;exact Ke;exact Jy;intro _;refine dk ?_;refine dN 0 ?_;apply Lr;rfl;intro _;refine C4 Bc ?_;exact BC):p:=h
theorem FZ{p:Prop}(h:p:=by rw [hlen];refine go ?_;intros;refine ret (_,cp',[g']) trivial rfl):p:=h
theorem GS{p:Prop}(h:p:=by simp only [List.length_append,List.length_cons,List.length_nil];omega):p:=h
theorem HE{p:Prop}(h:p:=by simp [List.append_assoc]):p:=h
theorem HQ{p:Prop}(h:p:=by intro e;have:=congrArg List.length e;simp only [List.length_append,List.length_nil] at this;omega):p:=h
theorem HS{p:Prop}(h:p:=by simp only [List.length_append];omega):p:=h
theorem HV{p:Prop}(h:p:=by show l.length - (k+1) < l.length - k;omega):p:=h
theorem HX{p:Prop}(h:p:=by rw [List.length_drop];omega):p:=h
theorem ID{p:Prop}(h:p:=by show es.length - (z.k+1) < es.length - z.k;omega):p:=h
theorem IE{p:Prop}(h:p:=by rw [hBl];congr 1;show _=min (xs.length+1 - i) (xs.length+1 - (i+1));omega):p:=h
theorem IG{p:Prop}(h:p:=by rw [hBl];congr 1;show _=min (xs.length - i) (xs.length+1 - (i+1));omega):p:=h
theorem IK{p:Prop}(h:p:=by show (⟨#[]⟩:ByteArray).size≤maxLen;decide):p:=h
theorem IL{p:Prop}(h:p:=by rw [List.append_assoc A B rest,hXY];simp [List.append_assoc]):p:=h
theorem IU{p:Prop}(h:p:=by rw [hcs];simp [hu]):p:=h
theorem JY{p:Prop}(h:p:=by show hs.length - (k+1) < _;omega):p:=h
end Go.Proofs.YtkagnmekdkchiaaGreatDoor
namespace Go.Proofs.YtkagnmekdkchiaaGreatDoor
open Go.RowKit
theorem Bcd (n:Int) (h0:0≤n) (h1:n≤999999) (w:World):Calls prog 77 #[.int .i64 n] w fun e w2=>e=.returned (.string (bz (Lib.itoa n)))∧Below w.heap.size w w2:=by
 have:=Ba9 n.toNat GJ w;rw [show ((n.toNat:Nat):Int)=n by omega,show n.toNat=n.natAbs by omega,←Pd h0] at this;exact this
theorem Ahm (i:Nat) (hi:i≤100):Fn prog 166 [.int .i64 (i:Nat)] [] [] (fun (_:Unit)=>True) (fun _=>.int .i64 (Ms i)) (fun _=>[]):=by
 refine enter func166 rfl ntmps166 fun w0=>?_;exact AB
theorem Ux (i:Nat) (hi:i≤100):Fn prog 195 [.int .i64 (i:Nat)] [] [] (fun (_:Unit)=>True) (fun _=>.int .i64 (Ms i)) (fun _=>[]):=by
 refine enter func195 rfl ntmps195 fun w0=>?_;exact AB
theorem Axv (i:Nat) (es:List ByteArray) (a:Option Addr) (c:Nat) (F FT:List Nat) (hi:i≤100) (hl:es.length≤1000000) (hz:∀e∈es,e.size≤1000000):Fn prog 167 [.int .i64 (i:Nat),.slice a es.length c] [.sl A8 (.slice a es.length c) es F,Gc FT] [] (fun (_:KA)=>True) (fun z=>.slice z.a (Tj i es).length z.c) (fun z=>[.ow A8 9 (.slice z.a (Tj i es).length z.c) (Tj i es) z.F]):=by
 have hs0:(bz (Lib.itoa ((i:Nat):Int))).size≤6:=by rw [Jb,Pd GJ];exact Dx 5 _ (by have:(10:Nat) ^ (5+1)=1000000:=rfl;omega)
 refine enter func167 rfl ntmps167 fun w0=>?_;refine Br A8 9 ?_;refine go ?_;intros;refine Ck [0,4,8,9] (fun z:KA=>[(5,.slice z.a ((es.take z.k).map (Mq i)).length z.c),(10,.int .i64 (z.k:Nat))]) (fun z=>[.ow A8 9 (.slice z.a ((es.take z.k).map (Mq i)).length z.c) ((es.take z.k).map (Mq i)) z.F]) (fun z=>z.k≤es.length) (fun z=>es.length - z.k) ⟨0,none,0,[]⟩ (Nat.zero_le _) fun z hz0=>?_;have hml:((es.take z.k).map (Mq i)).length=z.k:=by rw [List.length_map,List.length_take];omega
 refine go ?_;intros;refine Be rfl (fun h1=>?_) (fun h1=>?_)
 ·have hk:z.k < es.length:=by omega
  have hse:=hz _ (List.getElem_mem hk);have z1:(⟨#[32]⟩:ByteArray).size=1:=rfl;have zs:(bz (Lib.itoa ((i:Nat):Int))++⟨#[32]⟩).size=_:=ByteArray.size_append;have zt:(bz (Lib.itoa ((i:Nat):Int))++⟨#[32]⟩++es[z.k]).size=_:=ByteArray.size_append;have hst:((es.take z.k).map (Mq i))++[Mq i es[z.k]]=(es.take (z.k+1)).map (Mq i):=by rw [List.take_succ_eq_append_getElem hk,List.map_append];rfl
  have hte:(Mq i es[z.k]).size≤1000010:=by unfold Mq;omega
  refine M9 (xs:=es) z.k ?_;rintro hi b o e1 s1;rw [e1];refine go ?_;intros;refine cb (fun w st=>Yz ((i:Nat):Int) GJ GJ FT w (st.get (p:=Gc FT) GO)) ?_;refine M7 ?_;intros;apply wO;refine Oh (ys:=[Mq i es[z.k]]) (Amo GZ) Dp fun a9 c9 F9=>?_;rw [hst];refine go ?_;intros;refine Cu ⟨z.k+1,a9,c9,F9⟩ hk ID
 ·rw [show es.take z.k=es from List.take_of_length_le GJ];exact BO
theorem Ah9 (i:Nat) (es:List ByteArray) (a:Option Addr) (c:Nat) (F FT:List Nat) (hi:i≤100) (hl:es.length≤1000000) (hz:∀e∈es,e.size≤1000000):Fn prog 196 [.int .i64 (i:Nat),.slice a es.length c] [.sl A8 (.slice a es.length c) es F,Gc FT] [] (fun (_:KA)=>True) (fun z=>.slice z.a (Tj i es).length z.c) (fun z=>[.ow A8 9 (.slice z.a (Tj i es).length z.c) (Tj i es) z.F]):=by
 have hs0:(bz (Lib.itoa ((i:Nat):Int))).size≤6:=by rw [Jb,Pd GJ];exact Dx 5 _ (by have:(10:Nat) ^ (5+1)=1000000:=rfl;omega)
 refine enter func196 rfl ntmps196 fun w0=>?_;refine go ?_;intros;refine C4 A8 ?_;refine Ck [0,1,4] (fun z:KA=>[(5,.slice z.a ((es.take z.k).map (Mq i)).length z.c),(6,.int .i64 (z.k:Nat))]) (fun z=>[.ow A8 9 (.slice z.a ((es.take z.k).map (Mq i)).length z.c) ((es.take z.k).map (Mq i)) z.F]) (fun z=>z.k≤es.length) (fun z=>es.length - z.k) ⟨0,_,0,_⟩ (Nat.zero_le _) fun z hz0=>?_;have hml:((es.take z.k).map (Mq i)).length=z.k:=by rw [List.length_map,List.length_take];omega
 refine go ?_;intros;refine Be rfl (fun h1=>?_) (fun h1=>?_)
 ·have hk:z.k < es.length:=by omega
  have hse:=hz _ (List.getElem_mem hk);have z1:(⟨#[32]⟩:ByteArray).size=1:=rfl;have zs:(bz (Lib.itoa ((i:Nat):Int))++⟨#[32]⟩).size=_:=ByteArray.size_append;have zt:(bz (Lib.itoa ((i:Nat):Int))++⟨#[32]⟩++es[z.k]).size=_:=ByteArray.size_append;have hst:((es.take z.k).map (Mq i))++[Mq i es[z.k]]=(es.take (z.k+1)).map (Mq i):=by rw [List.take_succ_eq_append_getElem hk,List.map_append];rfl
  have hte:(Mq i es[z.k]).size≤1000010:=by unfold Mq;omega
  refine M9 (xs:=es) z.k ?_;rintro hi b o e1 s1;rw [e1];refine go ?_;intros;refine At [0] [] ?_;refine Dk 0 1 4 5 ?_;refine Dy 6 7 ?_;refine dN 2 ?_;refine oC ?_;refine cb (fun w st=>Bcd ((i:Nat):Int) GJ GJ w) ?_;refine dk ?_;refine Dy 3 8 ?_;refine dN 9 ?_;apply Km;rfl;rfl;rfl;rfl;exact Ke;exact Jy;intro _;refine dk ?_;refine dN 10 ?_;refine Oh (ys:=[Mq i es[z.k]]) (Amo GZ) Dp fun a9 c9 F9=>?_;refine dk ?_;refine dt 11 ?_;refine dd ?_;rw [hst];refine go ?_;intros;refine Cu ⟨z.k+1,a9,c9,F9⟩ hk ID
 ·rw [show es.take z.k=es from List.take_of_length_le GJ];exact BO
end Go.Proofs.YtkagnmekdkchiaaGreatDoor
namespace Go.Proofs.YtkagnmekdkchiaaGreatDoor

theorem W4 {α:Type} {p:α→Bool}:∀{xs:List α} {k:Nat},k≤xs.length→(∀j (_:j < k) (h:j < xs.length),p xs[j]=true)→(∀h:k < xs.length,p xs[k]=false)→(xs.takeWhile p).length=k
 | [],k,hk,_,_=>by simp at hk;simp [hk]
 | x::r,0,_,_,h2=>by have:=h2 GL;simp at this;simp [this]
 | x::r,k+1,hk,h1,h2=>by
  have hx:p x=true:=h1 0 GJ GL;rw [List.takeWhile_cons_of_pos hx,List.length_cons,W4 (xs:=r) (k:=k) (by simpa using hk) (fun j hj h=>by have:=h1 (j+1) GJ GW;simpa using this) (fun h=>by have:=h2 GW;simpa using this)]
theorem Qc {α:Type} {p:α→Bool}:∀{xs:List α},(xs.takeWhile p).length≤xs.length∧(∀j (_:j < (xs.takeWhile p).length) (h:j < xs.length),p xs[j]=true)∧∀h:(xs.takeWhile p).length < xs.length,p xs[(xs.takeWhile p).length]=false
 | []=>by simp
 | x::r=>by
  cases hx:p x
  ·rw [List.takeWhile_cons_of_neg IX];simp [hx]
  ·rw [List.takeWhile_cons_of_pos hx];obtain ⟨h1,h2,h3⟩:=Qc (p:=p) (xs:=r);refine ⟨JM,fun j hj h=>?_,fun h=>?_⟩
   ·cases j with
    | zero=>simpa using hx
    | succ j=>simpa using h2 j JL GW
   ·simpa using h3 GW
def Ay9 {α:Type} (f:α→Int):Option α→Bool
 | some x=>decide (f x=0)
 | none=>false
end Go.Proofs.YtkagnmekdkchiaaGreatDoor
namespace Go.Proofs.YtkagnmekdkchiaaGreatDoor
open Go.RowKit
theorem Ba6 {t a b:Int} (ha:B9 a=true) (hb:B9 b=true) (h:gp t a=gp t b):a=b:=by
 obtain ⟨a0,a1⟩:=Bb.1 ha;obtain ⟨b0,b1⟩:=Bb.1 hb;unfold gp at h;omega
def Ec (base:Int) (l:List A1) (n:Int):Nat:=(l.takeWhile fun r=>decide (gp base r.Af < gp base n)).length
def Mo (base:Int) (l:List A1) (n:Int):Bool:=match l[Ec base l n]? with|some r=>decide (r.Af=n)|none=>false
def Bd7 (n u:Int):A1:=⟨n,1,u,0⟩
def Vw (base:Int) (l:List A1) (n u:Int):List A1:=l.take (Ec base l n)++Bd7 n u::l.drop (Ec base l n)
def Tp (base:Int) (l:List A1) (n u:Int):List A1:=if Mo base l n || !decide (gp base n < 8) then l else Vw base l n u
def Qj (base:Int) (l:List A1) (n u:Int):List A1:=match l[Ec base l n]? with|some r=>if r.Af=n then l.set (Ec base l n) ⟨n,3,u,r.D6⟩ else l|none=>l
theorem Rw (base:Int) (l:List A1) (n:Int):Ec base l n≤l.length:=Qc.1
theorem Tq {base:Int} {l:List A1} {n:Int} (h:Ec base l n < l.length):Mo base l n=decide (l[Ec base l n].Af=n):=by unfold Mo;rw [List.getElem?_eq_getElem h]
theorem Ahd {base:Int} {l:List A1} {n:Int} (h:¬Ec base l n < l.length):Mo base l n=false:=by unfold Mo;rw [List.getElem?_eq_none GJ]
theorem Tr {base:Int} {l:List A1} {n:Int} (h:Mo base l n=true):Ec base l n < l.length:=by
 by_cases h2:Ec base l n < l.length
 ·exact h2
 ·rw [Ahd h2] at h;cases h
theorem Wa {base:Int} {l:List A1} {n u:Int} (h:Mo base l n=false):Qj base l n u=l:=by
 unfold Qj;unfold Mo at h;cases hq:l[Ec base l n]? with
 | none=>rfl
 | some r=>rw [hq] at h;dsimp only at h ⊢;rw [if_neg GW]
theorem Tu {base:Int} {l:List A1} {n u:Int} (h:Mo base l n=true):Qj base l n u=l.set (Ec base l n) ⟨n,3,u,(l[Ec base l n]'(Tr h)).D6⟩:=by
 have h2:=Tr h;rw [Tq h2] at h;unfold Qj;rw [List.getElem?_eq_getElem h2];dsimp only;rw [if_pos GW]
theorem Ahi (base:Int) (l:List A1) (n u:Int):(Qj base l n u).length=l.length:=by
 cases h:Mo base l n
 ·rw [Wa h]
 ·rw [Tu h,List.length_set]
theorem Bbq {base n:Int} {l:List A1} (hq:Lu l base=true) (hn:B9 n=true) (h:Mo base l n=false):∀r∈l,gp base r.Af≠gp base n:=by
 obtain ⟨-, -,h3,h4⟩:=C9.1 hq;obtain ⟨t1,t2,t3⟩:=Qc (p:=fun r:A1=>decide (gp base r.Af < gp base n)) (xs:=l);intro r hr e;obtain ⟨i,hi,rfl⟩:=List.getElem_of_mem hr;have e2:=Ba6 (Ei.1 (h3 _ hr)).n hn e;have hk:Ec base l n=i:=W4 GJ (fun j hj h=>by
  have:=List.pairwise_iff_getElem.1 h4 j i h hi hj;simp only [decide_eq_true_eq];omega) (fun h=>by simp only [decide_eq_false_iff_not];omega)
 rw [Tq GJ] at h;simp only [hk] at h;simp [e2] at h
theorem Bcg {base:Int} {l:List A1} (hp:l.Pairwise fun a b=>gp base a.Af < gp base b.Af) (h8:∀q∈l,gp base q.Af < 8):l.length≤8:=by
 have key:∀i (h:i < l.length),(i:Int)≤gp base l[i].Af:=by
  intro i
  induction i with
  | zero=>intro h;exact (Ky _ _).1
  | succ i ih =>
   intro h;have a:=ih GJ;have b:=List.pairwise_iff_getElem.1 hp i (i+1) GJ h GJ;omega
 by_cases h:l.length≤8
 ·exact h
 ·have a:=key 8 GJ;have b:=h8 _ (List.getElem_mem (show 8 < l.length by omega));omega
theorem Avk (base:Int) (l:List A1) (n u:Int):(Vw base l n u).length=l.length+1:=by
 have:=Rw base l n;unfold Vw;rw [List.length_append,List.length_cons,List.length_take,List.length_drop];omega
theorem Ah1 {base n u:Int} {l:List A1} (hq:Lu l base=true) (hn:B9 n=true) (h8:gp base n < 8) (u0:0≤u) (u1:u≤10007) (h:Mo base l n=false):Lu (Vw base l n u) base=true:=by
 have hne:=Bbq hq hn h;obtain ⟨h1,h2,h3,h4⟩:=C9.1 hq;obtain ⟨t1,t2,t3⟩:=Qc (p:=fun r:A1=>decide (gp base r.Af < gp base n)) (xs:=l);have hle:=Rw base l n;have hok:∀r∈Vw base l n u,Mp base r=true:=by
  intro r hr;unfold Vw at hr;rcases List.mem_append.1 hr with h|h
  ·exact h3 r (List.mem_of_mem_take h)
  ·rcases List.mem_cons.1 h with rfl|h
   ·exact Ei.2 ⟨hn,h8,by show (1:Int)≤1;decide,by show (1:Int)≤3;decide,u0,u1,by show (0:Int)≤0;decide,by show (0:Int)≤3;decide⟩
   ·exact h3 r (List.mem_of_mem_drop h)
 have hpw:(Vw base l n u).Pairwise fun a b=>gp base a.Af < gp base b.Af:=by
  unfold Vw;rw [List.pairwise_append];refine ⟨h4.sublist (List.take_sublist _ _),?_,?_⟩
  ·rw [List.pairwise_cons];refine ⟨fun b hb=>?_,h4.sublist (List.drop_sublist _ _)⟩;obtain ⟨j,hj,rfl⟩:=List.getElem_of_mem hb;rw [List.getElem_drop];rw [List.length_drop] at hj;have hk:Ec base l n < l.length:=by omega
   have h0:=t3 hk;simp only [decide_eq_false_iff_not,Int.not_lt] at h0;have h00:gp base n≤gp base (l[Ec base l n]'hk).Af:=h0;have hd:=hne _ (List.getElem_mem hk);show gp base n < _;rcases Nat.eq_zero_or_pos j with e|e
   ·subst e;simp only [Nat.add_zero];omega
   ·have h5:=List.pairwise_iff_getElem.1 h4 (Ec base l n) (Ec base l n+j) hk GJ GJ;omega
  ·intro a ha b hb;obtain ⟨i,hi,rfl⟩:=List.getElem_of_mem ha;rw [List.length_take] at hi;rw [List.getElem_take];have ha2:=t2 i (by show i < Ec base l n;omega) GJ;simp only [decide_eq_true_eq] at ha2;rcases List.mem_cons.1 hb with rfl|hb
   ·exact ha2
   ·obtain ⟨j,hj,rfl⟩:=List.getElem_of_mem hb;rw [List.getElem_drop];rw [List.length_drop] at hj;exact List.pairwise_iff_getElem.1 h4 i (Ec base l n+j) GJ GJ GJ
 exact C9.2 ⟨h1,Bcg hpw fun q hq=>(Ei.1 (hok q hq)).g,hok,hpw⟩
theorem Aq5 {base n u:Int} {l:List A1} (hq:Lu l base=true) (hn:B9 n=true) (u0:0≤u) (u1:u≤10007):Lu (Tp base l n u) base=true:=by
 unfold Tp
 split
 ·exact hq
 ·rename_i h;simp only [Bool.or_eq_true,Bool.not_eq_true',not_or,Bool.not_eq_false,Bool.not_eq_true,decide_eq_true_eq] at h;exact Ah1 hq hn h.2 u0 u1 h.1
theorem Av7 {base n u:Int} {l:List A1} {q:A1} (h:q∈Tp base l n u):q∈l∨q.Af=n:=by
 unfold Tp Vw at h
 split at h
 ·exact .inl h
 ·rcases List.mem_append.1 h with h|h
  ·exact .inl (List.mem_of_mem_take h)
  ·rcases List.mem_cons.1 h with rfl|h
   ·exact .inr rfl
   ·exact .inl (List.mem_of_mem_drop h)
theorem Ans {base n u:Int} {l:List A1} (hq:Lu l base=true) (u0:0≤u) (u1:u≤10007):Lu (Qj base l n u) base=true:=by
 cases h:Mo base l n
 ·rw [Wa h];exact hq
 obtain ⟨h1,h2,h3,h4⟩:=C9.1 hq;have hk:=Tr h;have hn:l[Ec base l n].Af=n:=by rw [Tq hk] at h;simpa using h
 have ho:=Ei.1 (h3 _ (List.getElem_mem hk));rw [Tu h];have hnum:∀i (h:i < (l.set (Ec base l n) ⟨n,3,u,l[Ec base l n].D6⟩).length),(l.set (Ec base l n) ⟨n,3,u,l[Ec base l n].D6⟩)[i].Af=(l[i]'GW).Af:=fun i h=>by
  rw [List.getElem_set]
  split
  ·rename_i e;subst e;exact hn.symm
  ·rfl
 refine C9.2 ⟨h1,JC,fun r hr=>?_,?_⟩
 ·have gn:=ho.n;have gg:=ho.g;rw [hn] at gn gg;rcases List.mem_or_eq_of_mem_set hr with h|rfl
  ·exact h3 r h
  ·exact Ei.2 ⟨gn,gg,by show (1:Int)≤3;decide,by show (3:Int)≤3;decide,u0,u1,ho.t0,ho.t1⟩
 ·refine List.pairwise_iff_getElem.2 fun i j hi hj hij=>?_;rw [hnum i hi,hnum j hj];exact List.pairwise_iff_getElem.1 h4 i j _ _ hij
theorem Asv {base n u:Int} {l:List A1} {q:A1} (h:q∈Qj base l n u):∃r∈l,r.Af=q.Af:=by
 cases h2:Mo base l n
 ·rw [Wa h2] at h;exact ⟨q,h,rfl⟩
 have hk:=Tr h2;have hn:l[Ec base l n].Af=n:=by rw [Tq hk] at h2;simpa using h2
 rw [Tu h2] at h;rcases List.mem_or_eq_of_mem_set h with h|rfl
 ·exact ⟨q,h,rfl⟩
 ·exact ⟨_,List.getElem_mem hk,hn⟩
def D0 (r:A9) (p:Av):An:=if r.Bd then r.Ab else ⟨if p.Ct=5 then p.Ff else p.Af,r.Ab.Ap⟩
def E9 (r:A9) (p:Av):An:=if p.Ct=5 then D0 r p else Ls (D0 r p) p.Af p.data
def Ka (r:A9) (p:Av):List ByteArray:=if p.Ct=5 then [] else Li (D0 r p) p.Af p.data
def Nz (w:An) (t:Int):An:=if Sp w.next t then (if gp w.next t≤8 then Iu w t else ⟨t,[]⟩) else w
def Ob (w:An) (t:Int):List ByteArray:=if Sp w.next t then (if gp w.next t≤8 then Is w t else [⟨#[33]⟩]) else []
def Cn (r:A9) (p:Av):An:=Nz (E9 r p) p.Ao
def Ma (r:A9) (p:Av):List ByteArray:=Ka r p++Ob (E9 r p) p.Ao
def Kk (base u:Int) (l:List A1) (ns:List Int):List A1:=ns.foldl (fun l n=>Tp base l n u) l
def Ym (w:An) (Ff:Int):Nat:=(min (gp w.next Ff) 8).toNat
def O7 (w:An) (l:List A1) (Ff u:Int):List A1:=if Sp w.next Ff then Kk w.next u l (Nx w (Ym w Ff)) else l
def Kj (r:A9) (p:Av) (d:Int):A9:=⟨true,r.Ai,Cn r p,O7 (Cn r p) (D8 r.Am (Cn r p)) p.Ff (r.Ai+d)⟩
def Lm (p:Av):Bool:=decide (p.Ct=1) || decide (p.Ct=2) || decide (p.Ct=5)
def Ak7 (r:A9) (p:Av):A9:=⟨r.Bd,r.Ai,r.Ab,Qj r.Ab.next r.Am p.Af (r.Ai+4)⟩
def Dc (r:A9) (p:Av) (d:Int):A9:=if Lm p then Kj r p d else if decide (p.Ct=4) && r.Bd then Ak7 r p else r
def Hx (r:A9) (p:Av):List ByteArray:=if Lm p then Ma r p else []
theorem Ato {w:An} {n:Int} {s:ByteArray} (hg:Cs w=true) (hn:B9 n=true) (hs:P9 s=true):Cs (Ls w n s)=true∧(∃m:Nat,m≤8∧(Ls w n s).next=Ce w.next m)∧(Li w n s).length≤8:=by
 obtain ⟨w0,w1⟩:=Hy hg;cases ht:Mz w n
 ·have e:(Gj w n || !decide (gp w.next n < 8))=true:=by unfold Mz at ht;simp only [Bool.or_eq_false_iff] at ht;rw [ht.1,ht.2];rfl
  have e1:Ls w n s=w:=by unfold Ls;rw [if_pos e]
  have e2:Li w n s=[]:=by unfold Li;rw [if_pos e]
  rw [e1,e2];exact ⟨hg,⟨0,GJ,(Rk w0 w1).symm⟩,GL⟩
 ·have hok:U3 w n s=true:=by unfold U3;rw [hg,hn,hs,ht];rfl
  have h:=Av0 w n s (by unfold I8;rw [hok];rfl);rw [show I8 w n s=(Ls w n s,Li w n s,true) by unfold I8;rw [hok];rfl] at h;obtain ⟨-, -,h3,h4, -, -,h7, -⟩:=h;dsimp only at h3 h4 h7;refine ⟨h3,⟨_,h7,?_⟩,h7⟩;obtain ⟨v0,v1⟩:=Hy h3;rw [←h4];unfold Ce gp at *;omega
theorem P4 {r:A9} {p:Av} (hg:Lq r) (hp:By p=true):Cs (D0 r p)=true∧(r.Bd=true→D0 r p=r.Ab):=by
 unfold D0;unfold By at hp;simp only [Bool.and_eq_true] at hp;cases hs:r.Bd
 ·refine ⟨?_,fun h=>by cases h⟩;rw [(hg.z hs).1];simp only [Bool.false_eq_true,if_false];unfold Cs
  split
  ·rw [hp.1.1.1.2];rfl
  ·rw [hp.1.1.1.1.1.2];rfl
 ·exact ⟨hg.w,fun _=>rfl⟩
theorem Sn {r:A9} {p:Av} (hg:Lq r) (hp:By p=true):Cs (E9 r p)=true∧(∃m:Nat,m≤8∧(E9 r p).next=Ce (D0 r p).next m)∧(Ka r p).length≤8:=by
 have h1:=(P4 hg hp).1;obtain ⟨w0,w1⟩:=Hy h1;unfold E9 Ka
 split
 ·exact ⟨h1,⟨0,GJ,(Rk w0 w1).symm⟩,GL⟩
 ·unfold By at hp;simp only [Bool.and_eq_true] at hp;exact Ato h1 hp.1.1.1.1.1.2 hp.1.1.2
theorem Ath {w:An} {t:Int} (hg:Cs w=true) (ht:B9 t=true):Cs (Nz w t)=true∧(∃m:Nat,m≤32767∧(Nz w t).next=Ce w.next m)∧(Ob w t).length≤16:=by
 obtain ⟨w0,w1⟩:=Hy hg;obtain ⟨t0,t1⟩:=Bb.1 ht;unfold Nz Ob;cases hb:Sp w.next t
 ·exact ⟨hg,⟨0,GJ,(Rk w0 w1).symm⟩,GL⟩
 ·simp only [if_true]
  split
  ·obtain ⟨e1,e2,e3,e4⟩:=T8 (t:=t) hg;have:=@Xr w.next t;exact ⟨Ack _ _ hg,⟨_,GJ,e1⟩,GJ⟩
  ·refine ⟨by unfold Cs;rw [ht];rfl,⟨(gp w.next t).toNat,?_,?_⟩,GL⟩
   ·unfold Sp Eu at hb;simp only [Bool.and_eq_true,decide_eq_true_eq] at hb;omega
   ·have:=Ky w.next t;show t=_;unfold Ce gp at *;omega
theorem Acz {l:List A1} {b:Int} {w:An} {m:Nat} (hm:m≤65528) (hq:Lu l b=true) (hw:Cs w=true) (e:w.next=Ce b m):Lu (D8 l w) w.next=true:=by
 obtain ⟨h1,h2,h3,h4⟩:=C9.1 hq;obtain ⟨b0,b1⟩:=Bb.1 h1;have key:∀q∈l,gp w.next q.Af < 8→gp w.next q.Af=gp b q.Af - m:=fun q hq h=>by
  have ho:=Ei.1 (h3 q hq);obtain ⟨n0,n1⟩:=Bb.1 ho.n;have:=ho.g;rw [e] at h ⊢;unfold gp Ce at *;omega
 have hin:∀q∈D8 l w,q∈l∧gp w.next q.Af < 8:=fun q hq=>by
  unfold D8 at hq;rw [List.mem_filter] at hq;simp only [Bool.and_eq_true,decide_eq_true_eq] at hq;exact ⟨hq.1,hq.2.2⟩
 refine C9.2 ⟨Bb.2 (Hy hw),Nat.le_trans (List.length_filter_le _ _) h2,fun q hq=>?_,?_⟩
 ·obtain ⟨a,c⟩:=hin q hq;have ho:=Ei.1 (h3 q a);exact Ei.2 ⟨ho.n,c,ho.s0,ho.s1,ho.u0,ho.u1,ho.t0,ho.t1⟩
 ·have h5:(D8 l w).Pairwise fun a b'=>gp b a.Af < gp b b'.Af:=h4.sublist List.filter_sublist;refine h5.imp_of_mem fun ha hb h=>?_;rw [key _ (hin _ ha).1 (hin _ ha).2,key _ (hin _ hb).1 (hin _ hb).2];omega
theorem Oq {l:List A1} {w:An}:∀q∈D8 l w,Ie w q.Af=false:=fun q hq=>by
 unfold D8 at hq;rw [List.mem_filter] at hq;simp only [Bool.and_eq_true,Bool.not_eq_true',Bool.or_eq_false_iff] at hq;exact hq.2.1.2
theorem Qp {w:An} {k:Nat} (hk:k≤8) {n:Int} (h:n∈Nx w k):B9 n=true∧gp w.next n < 8∧Ie w n=false:=by
 unfold Nx Qu at h;obtain ⟨h1,h2⟩:=List.mem_filter.1 h;obtain ⟨i,hi,rfl⟩:=List.mem_map.1 h1;rw [List.mem_range] at hi;refine ⟨Un _ _,?_,JC⟩;unfold gp Ce;omega
theorem Qg {w:An} {u:Int} (u0:0≤u) (u1:u≤10007):∀(ns:List Int) (l:List A1),(∀n∈ns,B9 n=true∧Ie w n=false)→Lu l w.next=true→(∀q∈l,Ie w q.Af=false)→Lu (Kk w.next u l ns) w.next=true∧∀q∈Kk w.next u l ns,Ie w q.Af=false
 | [],l,_,h2,h3=>⟨h2,h3⟩
 | n::ns,l,h1,h2,h3=>by
  obtain ⟨a,b⟩:=h1 n GL;refine Qg u0 u1 ns (Tp w.next l n u) (fun n hn=>h1 n (by simp [hn])) (Aq5 h2 a u0 u1) fun q hq=>?_;rcases Av7 hq with h|h
  ·exact h3 q h
  ·rw [h];exact b
theorem Acg {base u:Int} {l:List A1} {ns:List Int} {k:Nat} (h:k < ns.length):Kk base u l (ns.take (k+1))=Tp base (Kk base u l (ns.take k)) ns[k] u:=by
 unfold Kk;rw [List.take_add_one,List.getElem?_eq_getElem h,List.foldl_append];rfl
theorem Rl (w:An) (t:Int):Ym w t≤8:=by unfold Ym;omega
theorem Xm {r:A9} {p:Av} {d:Int} (hg:Lq r) (hp:By p=true) (d0:1≤d) (d1:d≤8) (hk:r.Ai+d≤10007):Cs (Cn r p)=true∧Lu (D8 r.Am (Cn r p)) (Cn r p).next=true∧Lq (Kj r p d)∧(Ma r p).length≤24:=by
 obtain ⟨a1,a2⟩:=P4 hg hp;obtain ⟨b1,⟨m,hm,em⟩,b3⟩:=Sn hg hp;have htr:B9 p.Ao=true:=by unfold By at hp;simp only [Bool.and_eq_true] at hp;exact hp.1.1.1.1.2
 obtain ⟨c1,⟨k,hk2,ek⟩,c3⟩:=Ath b1 htr;have hk0:=hg.k0;have hq:Lu (D8 r.Am (Cn r p)) (Cn r p).next=true:=by
  cases hs:r.Bd
  ·rw [(hg.z hs).2];exact (C9 (l:=[])).2 ⟨Bb.2 (Hy c1),Nat.zero_le 8,fun r hr=>(by cases hr),List.Pairwise.nil⟩
  ·refine Acz (m:=m+k) GJ hg.q c1 ?_;show (Cn r p).next=_;rw [show (Cn r p).next=Ce (E9 r p).next k from ek,em,a2 hs,Adu]
 have hn:Cn r p=Nz (E9 r p) p.Ao:=rfl;refine ⟨c1,hq,⟨hg.k0,hg.k1,c1,?_,?_,fun h=>by cases h⟩,by unfold Ma;rw [List.length_append];omega⟩
 ·show Lu (O7 (Cn r p) (D8 r.Am (Cn r p)) p.Ff (r.Ai+d)) (Cn r p).next=true;unfold O7
  split
  ·exact (Qg GJ GJ _ _ (fun n hn=>⟨(Qp (Rl _ _) hn).1,(Qp (Rl _ _) hn).2.2⟩) hq Oq).1
  ·exact hq
 ·show ∀q∈O7 (Cn r p) (D8 r.Am (Cn r p)) p.Ff (r.Ai+d),Ie (Cn r p) q.Af=false;unfold O7
  split
  ·exact (Qg GJ GJ _ _ (fun n hn=>⟨(Qp (Rl _ _) hn).1,(Qp (Rl _ _) hn).2.2⟩) hq Oq).2
  ·exact Oq
theorem Tz {r:A9} {p:Av} {d:Int} (hg:Lq r) (hp:By p=true) (d0:1≤d) (d1:d≤8):Lq (Dc r p d)∧(Hx r p).length≤24:=by
 have hk1:=hg.k1;have hk0:=hg.k0;unfold Dc Hx
 split
 ·exact ⟨(Xm hg hp d0 d1 GJ).2.2.1,(Xm hg hp d0 d1 GJ).2.2.2⟩
 ·refine ⟨?_,GL⟩
  split
  ·rename_i h;simp only [Bool.and_eq_true,decide_eq_true_eq] at h;refine ⟨hk0,hk1,hg.w,Ans hg.q GJ GJ,fun q hq=>?_,fun hs=>?_⟩
   ·obtain ⟨r',hr,e⟩:=Asv hq;show Ie r.Ab q.Af=false;rw [←e];exact hg.f r' hr
   ·have:r.Bd=false:=hs;rw [h.2] at this;cases this
  ·exact hg
theorem Rc (y:A1) (w:World):Cw Ax w [.int .i64 y.Af,.int .i64 y.state,.int .i64 y.Cg,.int .i64 y.D6] [y] []:=⟨_,[],[],[],GL,GL,⟨rfl,rfl⟩,rfl,rfl⟩
theorem At7 (xs:List A1) (y:A1) (i:Nat) (a:Option Addr) (c vb:Nat) (F:List Nat) (hi:i≤xs.length) (hl:xs.length≤1000000) :
  Fn prog 352 [.slice a xs.length c,.int .i64 i,.slice (some ⟨vb,0,none⟩) 1 1] [] [.ow Ax 166 (.slice a xs.length c) xs F,.row vb 166 0 [] [.int .i64 y.Af,.int .i64 y.state,.int .i64 y.Cg,.int .i64 y.D6] []] (fun (_:Option Addr × Nat × List Nat)=>True)
   (fun z=>.slice z.1 (xs.take i++y::xs.drop i).length z.2.1) (fun z=>[.ow Ax 166 (.slice z.1 (xs.take i++y::xs.drop i).length z.2.1) (xs.take i++y::xs.drop i) z.2.2]):=by
 have hone:∀w':World,∀cs:List Value,Cw Ax w' cs xs []→∀u∈cs,u.oneCell'=true:=fun w' cs h=>h.one' C3;have hy:=Rc y;have h1y:∀u∈([.int .i64 y.Af,.int .i64 y.state,.int .i64 y.Cg,.int .i64 y.D6]:List Value),u.oneCell'=true:=by intro u hu;simp at hu;rcases hu with rfl|rfl|rfl|rfl <;> rfl
 refine enter func352 rfl ntmps352 fun w0=>?_;refine Axj (E:=Ax) fun hc1 hc2=>?_;refine go ?_;intros;apply wO;refine Ajz rfl rfl rfl rfl hi (fun _=>?_) hc1;refine go ?_;intros;refine Be rfl (fun h1=>?_) (fun h1=>?_)
 ·have hin:i=xs.length:=by omega
  subst hin;have e:xs.take xs.length++y::xs.drop xs.length=xs++[y]:=by simp
  refine go ?_;intros;apply wO;refine Oh hy C3 fun a2 c2 F2=>?_;rw [e];exact DA
 ·have hlt:i < xs.length:=by omega
  refine Akf (xs:=xs) Dq (by rintro rfl;simp at hlt) ?_;rintro g cs rest rfl - - - hcl hcr hfl;rw [show Ax.sz=4 from rfl] at hcl hcr;have h1c:=hone w0 cs (hfl w0);obtain ⟨A,B,hcs,hA,hB⟩:∃A B,cs=A++B∧A=cs.take (i * 4)∧B=cs.drop (i * 4):=⟨_,_,(List.take_append_drop _ _).symm,rfl,rfl⟩;have hAl:A.length=i * 4:=by rw [hA,List.length_take];omega
  have hBl:B.length=(xs.length - i) * 4:=by rw [hB,List.length_drop];omega
  have hins:∀w,Cw Ax w (A++[.int .i64 y.Af,.int .i64 y.state,.int .i64 y.Cg,.int .i64 y.D6]++B) (xs.take i++y::xs.drop i) []:=fun w=>by rw [hA,hB];exact (hfl w).insL (hy w) i hi
  have h1A:∀u∈A,u.oneCell'=true:=fun u hu=>h1c u IU;have h1B:∀u∈B,u.oneCell'=true:=fun u hu=>h1c u IU;have hlen:(xs.take i++y::xs.drop i).length=xs.length+1:=by simp;omega
  clear hA hB hfl hone;subst hcs;have eA:A=((A++B++rest).drop 0).take (i * 4):=by rw [List.drop_zero,List.append_assoc,List.take_left' hAl]
  have eB:B=((A++B++rest).drop (0+i * 4)).take ((xs.length - i) * 4):=by rw [Nat.zero_add,List.append_assoc,List.drop_left' hAl,List.take_left' hBl]
  rw [hlen];refine go ?_;intros;apply wO;apply oc;rfl;exact Apl rfl;refine go ?_;intros;refine Be rfl (fun h2=>?_) (fun h2=>?_)
  ·refine go ?_;intros;apply wO;apply oc;rfl;exact Og (i:=i) rfl rfl rfl GJ GJ;refine go ?_;intros;apply wO;refine Aol (k:=xs.length+1 - i) (olds:=A) rfl rfl rfl GJ (Ml (m:=i * 4) (.head _) eA) GJ GM GJ GJ GJ GJ fun g' cp' Z rest' h3 h4 h5 h6=>?_;rw [show i+(xs.length+1 - i)=xs.length+1 by omega] at h3 ⊢;obtain ⟨Z1,Z2,rfl,hZ1,hZ2⟩:∃Z1 Z2,Z=Z1++Z2∧Z1.length=4∧Z2.length=B.length:=⟨Z.take 4,Z.drop 4,(List.take_append_drop _ _).symm,HW,HX⟩;refine go ?_;intros
   apply wO;apply oc;rfl;exact Kb (i:=i) rfl rfl rfl GJ GJ GJ;refine go ?_;intros;apply wO
   refine Vr (cs:=[.int .i64 y.Af,.int .i64 y.state,.int .i64 y.Cg,.int .i64 y.D6]) (L':=A++[.int .i64 y.Af,.int .i64 y.state,.int .i64 y.Cg,.int .i64 y.D6]++(Z2++rest')) rfl rfl rfl (Ml (L:=[.int .i64 y.Af,.int .i64 y.state,.int .i64 y.Cg,.int .i64 y.D6]) (o:=0) (m:=4) GO rfl) .here (Adh (M:=Z1) HE GJ (by simpa using hZ1)) (by show 4=min 1 (xs.length+1 - i) * 4;omega) GS h1y ?_;refine go ?_;intros;refine At [] [] ?_;refine Dk 0 1 2 3 ?_
   refine dt 4 ?_ (hy:=Kb (i:=i+1) rfl rfl GJ GJ GJ GJ);refine Dy 5 6 ?_;refine dt 7 ?_ (hy:=Kb (i:=i) rfl rfl GJ GJ GJ GJ);refine dN 8 ?_
   refine Vr (cs:=B) (L':=A++[.int .i64 y.Af,.int .i64 y.state,.int .i64 y.Cg,.int .i64 y.D6]++B++rest') rfl rfl rfl (Ml GO eB) .here (Adh (P:=A++[.int .i64 y.Af,.int .i64 y.state,.int .i64 y.Cg,.int .i64 y.D6]) (M:=Z2) HE GS hZ2) IG GS h1B ?_;refine dk ?_;refine dd ?_
   refine Ab5 (cs:=A++[.int .i64 y.Af,.int .i64 y.state,.int .i64 y.Cg,.int .i64 y.D6]++B) (rest:=rest') (xs:=xs.take i++y::xs.drop i) cp' rfl hins GJ h4 (by rw [show Ax.sz=4 from rfl];simp only [List.length_append,List.length_cons,List.length_nil] at h6 ⊢;omega) ?_;exact FZ
  ·have hcx:xs.length+1≤c:=by omega
   obtain ⟨X,Y,hXY,hX,hY⟩:=Ao4 (B:=B) (R:=rest) 4 GJ;refine go ?_;intros;apply wO;apply oc;rfl;exact Og (i:=xs.length+1) rfl rfl GJ GJ GJ;refine go ?_;intros;apply wO;apply oc;rfl;exact Kb (i:=i+1) rfl rfl GJ GJ GJ GJ;refine M7 ?_;intros;apply wO
   refine Awc rfl Tw (ovl (tS:=115) (tR:=4) (run_callFunc_extern func355 GK GK GK (e:=Extern.SlicesOverlaps.overlaps #[115,115] #[4]) GK) (.there .here) (.head _) HQ) ?_;refine go ?_;intros;refine At [] [] ?_;refine Dk 0 1 2 3 ?_;refine dt 4 ?_ (hy:=Kb (i:=i+1) rfl rfl GJ GJ GJ GJ);refine Dy 5 6 ?_;refine dt 7 ?_ (hy:=Kb (i:=i) rfl rfl GJ GJ GJ GJ);refine dN 8 ?_
   refine Vr (cs:=B) (L':=A++X++B++rest.drop 4) rfl rfl rfl (Ml GO eB) .here (Adh (P:=A++X) (M:=Y) IL HS hY) IE HS h1B ?_;refine dk ?_;refine dd ?_;refine go ?_;intros;apply wO;apply oc;rfl;exact Kb (i:=i) rfl rfl rfl GJ GJ GJ;refine go ?_;intros;apply wO
   refine Vr (cs:=[.int .i64 y.Af,.int .i64 y.state,.int .i64 y.Cg,.int .i64 y.D6]) (L':=A++[.int .i64 y.Af,.int .i64 y.state,.int .i64 y.Cg,.int .i64 y.D6]++(B++rest.drop 4)) rfl rfl rfl (Ml (L:=[.int .i64 y.Af,.int .i64 y.state,.int .i64 y.Cg,.int .i64 y.D6]) (o:=0) (m:=4) GO rfl) .here (Adh (M:=X) HE GJ (by simpa using hX)) (by show 4=min 1 (xs.length+1 - i) * 4;omega) GS h1y ?_;refine go ?_;intros
   refine Ab5 (L:=A++[.int .i64 y.Af,.int .i64 y.state,.int .i64 y.Cg,.int .i64 y.D6]++(B++rest.drop 4)) (cs:=A++[.int .i64 y.Af,.int .i64 y.state,.int .i64 y.Cg,.int .i64 y.D6]++B) (rest:=rest.drop 4) (xs:=xs.take i++y::xs.drop i) c HE hins GJ GJ (by rw [show Ax.sz=4 from rfl];simp only [List.length_append,List.length_cons,List.length_nil,List.length_drop];omega) ?_;rw [hlen];refine ret (_,c,[g]) trivial rfl
instance:IntC prog 246 .u64:=⟨underlying246⟩
theorem Aq2 (fid:FuncId) (caps:List Value) (A:List Pc) (hA:A.all (fun p=>!p.mu)=true) (xs:List A1) (a:Option Addr) (c:Nat) (F:List Nat) (tv:Value) (f:A1→Int) (hm:∀i j (_:i≤j) (hj:j < xs.length),f xs[j] < 0→f (xs[i]'GJ) < 0) (hb:Qi prog fid=true) (hl:xs.length≤1000000)
  (hp:∀x∈xs,∀w,O2 A w→Calls prog fid ([.agg #[.int .i64 x.Af,.int .i64 x.state,.int .i64 x.Cg,.int .i64 x.D6],tv]++caps).toArray w fun e w'=>e=.returned (.int .i64 (f x))∧Below w.heap.size w w') :
  Fn prog 345 [.slice a xs.length c,tv,.func (.func fid) #[] caps.toArray] (.sl Ax (.slice a xs.length c) xs F::A) [] (fun (_:Unit)=>True) (fun _=>.tuple #[.int .i64 ((xs.takeWhile fun x=>decide (f x < 0)).length:Nat),.bool (Ay9 f xs[(xs.takeWhile fun x=>decide (f x < 0)).length]?)]) (fun _=>[]):=by
 refine enter func345 rfl ntmps345 (fun w0=>?_) rfl HD .nil;refine go ?_;intros;refine Ev [0,1,2,6,7,8] (fun s:Nat × Nat=>[(9,.int .i64 (s.1:Nat)),(10,.int .i64 (s.2:Nat))]) (fun s=>s.1≤s.2∧s.2≤xs.length∧(∀j (_:j < s.1) (h:j < xs.length),f xs[j] < 0)∧(∀j (_:s.2≤j) (h:j < xs.length),¬f xs[j] < 0)) (fun s=>s.2 - s.1) (0,xs.length) ⟨Nat.zero_le _,Nat.le_refl _,fun j h=>by omega,fun j h1 h2=>by omega⟩ fun s hs=>?_;obtain ⟨i,j⟩:=s;obtain ⟨h1,h2,h3,h4⟩:=hs;dsimp only at h1 h2 h3 h4 ⊢;refine go ?_;intros;refine Be rfl (fun h5=>?_) (fun h5=>?_)
 ·have hh:(i+j) / 2 < xs.length:=by omega
  have e2:((i:Int)+(j:Int)) / 2=(((i+j) / 2:Nat):Int):=by omega
  refine go ?_;intros;apply wO;apply oc;rfl;exact Apm rfl GJ GJ;refine go ?_;intros;apply wO;apply oc;rfl;exact Akn rfl;rw [e2];apply wO;apply oc;rfl;exact Agq rfl GJ GJ;generalize hq:(i+j) / 2=q at hh;refine go ?_;intros;refine In (xs:=xs) q ?_;rintro hi b o e;rw [e];refine go ?_;intros;apply wO;refine Ad3 rfl rfl hb Tw ?_;refine cb (fun w st=>hp xs[q] (List.getElem_mem hh) w (fun p hp=>st.on p IR)) ?_;refine go ?_;intros;refine Be rfl (fun h6=>?_) (fun h6=>?_)
  ·exact DE
  ·exact DG
 ·have hij:i=j:=by omega
  subst hij;have hk:(xs.takeWhile fun x=>decide (f x < 0)).length=i:=W4 h2 (fun j hj h=>decide_eq_true (h3 j hj h)) (fun h=>decide_eq_false (h4 i (Nat.le_refl _) h));rw [hk];refine go ?_;intros;refine Dj rfl rfl (fun h6=>?_) (fun h6=>?_)
  ·have hh:i < xs.length:=by omega
   rw [List.getElem?_eq_getElem hh];refine go ?_;intros;refine In (xs:=xs) i ?_;exact DF
  ·rw [List.getElem?_eq_none GJ];exact AB
theorem Axd {base n:Int} {l:List A1} (hser:∀q∈l,B9 q.Af=true) (hn:B9 n=true):(l.takeWhile fun x=>decide (gp base x.Af - gp base n < 0)).length=Ec base l n ∧
  Ay9 (fun x:A1=>gp base x.Af - gp base n) l[(l.takeWhile fun x=>decide (gp base x.Af - gp base n < 0)).length]?=Mo base l n:=by
 have e:(fun x:A1=>decide (gp base x.Af - gp base n < 0))=fun h=>decide (gp base h.Af < gp base n):=by
  funext x;rw [decide_eq_decide];omega
 have e1:(l.takeWhile fun x=>decide (gp base x.Af - gp base n < 0)).length=Ec base l n:=by unfold Ec;rw [e]
 refine ⟨e1,?_⟩;rw [e1];unfold Mo;cases hq:l[Ec base l n]? with
 | none=>rfl
 | some z =>
  show decide (gp base z.Af - gp base n=0)=decide (z.Af=n);rw [decide_eq_decide];exact ⟨fun h=>Ba6 (t:=base) (hser z (List.mem_of_getElem? hq)) hn GJ,fun h=>by rw [h];omega⟩
theorem Bd2 (r:A1) (n t:Int) (gb:Nat) (t0:0≤t) (t1:t≤65535) (n0:0≤n) (n1:n≤65535) (m0:0≤r.Af) (m1:r.Af≤65535) :
  Fn prog 346 [.agg #[.int .i64 r.Af,.int .i64 r.state,.int .i64 r.Cg,.int .i64 r.D6],.int .i64 n,Hm gb 0 0] [.cel gb 0 [.int .i64 t]] [] (fun (_:Unit)=>True) (fun _=>.int .i64 (gp t r.Af - gp t n)) (fun _=>[]):=by
 have b1:=Ky t r.Af;have b2:=Ky t n;refine enter func346 rfl ntmps346 fun w0=>?_;refine go ?_;intros;refine At [0,1] [] ?_;refine Dk 0 1 2 4 ?_;refine dt 5 ?_;refine dN 3 ?_;refine oC ?_;refine ce (fun w s=>Om _ _ _ GJ GJ GJ GJ) ?_;refine dk ?_;refine dN 6 ?_;exact FE
theorem X6 (l:List A1) (base n:Int) (a:Option Addr) (c:Nat) (F:List Nat) (hq:Lu l base=true) (hn:B9 n=true) :
  Fn prog 324 [.slice a l.length c,.int .i64 base,.int .i64 n] [.sl Ax (.slice a l.length c) l F] [] (fun (_:Unit)=>True) (fun _=>.tuple #[.int .i64 (Ec base l n:Nat),.bool (Mo base l n)]) (fun _=>[]):=by
 obtain ⟨q1,q2,q3,q4⟩:=C9.1 hq;have hser:∀q∈l,B9 q.Af=true:=fun q h=>(Ei.1 (q3 q h)).n;obtain ⟨b0,b1⟩:=Bb.1 q1;obtain ⟨n0,n1⟩:=Bb.1 hn;obtain ⟨e1,e2⟩:=Axd (base:=base) hser hn;refine enter func324 rfl ntmps324 fun w0=>?_;refine go ?_;intros;rename_i gb;refine cb (fun w st=>by
  have r1:=st.get (p:=.row gb 3 0 [] [.int .i64 base] []) GL;have hw:=(st.get (p:=.sl Ax (.slice a l.length c) l F) GL).2;refine (Aq2 346 [Hm gb 0 0] [.cel gb 0 [.int .i64 base]] rfl l a c F (.int .i64 n) (fun r=>gp base r.Af - gp base n) (fun i j hij hj h=>?_) GK GJ fun x hx w' hA=>?_).val w ?_
  ·rcases Nat.lt_or_eq_of_le hij with h2|rfl
   ·have:=List.pairwise_iff_getElem.1 q4 i j GJ hj h2;omega
   ·exact h
  ·obtain ⟨m0,m1⟩:=Bb.1 (hser x hx);exact (Bd2 x n base gb b0 b1 n0 n1 m0 m1).val w' hA
  ·intro p hp;simp only [List.mem_cons,List.not_mem_nil,or_false] at hp;rcases hp with rfl|rfl
   ·exact st.get GL
   ·exact ⟨GL,Hz r1⟩) ?_
 rw [e2,e1];exact AB
theorem Afb (l:List A1) (base n:Int) (a:Option Addr) (c:Nat) (F:List Nat) (hq:Lu l base=true) (hn:B9 n=true) :
  Fn prog 308 [.slice a l.length c,.int .i64 base,.int .i64 n] [.sl Ax (.slice a l.length c) l F] [] (fun (_:Unit)=>True) (fun _=>.tuple #[.int .i64 (Ec base l n:Nat),.bool (Mo base l n)]) (fun _=>[]):=by
 obtain ⟨q1,q2,q3,q4⟩:=C9.1 hq;have hser:∀q∈l,B9 q.Af=true:=fun q h=>(Ei.1 (q3 q h)).n;obtain ⟨b0,b1⟩:=Bb.1 q1;obtain ⟨n0,n1⟩:=Bb.1 hn;obtain ⟨t1,t2,t3⟩:=Qc (p:=fun r:A1=>decide (gp base r.Af < gp base n)) (xs:=l);have hle:=Rw base l n;have hb2:=Ky base n;refine enter func308 rfl ntmps308 fun w0=>?_;refine go ?_;intros;refine Ck [0,1,2,6,7] (fun k:Nat=>[(8,.int .i64 (k:Nat))]) (fun _=>[]) (fun k=>k≤Ec base l n) (fun k=>l.length - k) 0 (Nat.zero_le _) fun k hk=>?_;have leaf:∀h:k < l.length,decide (gp base l[k].Af < gp base n)=decide (k < Ec base l n):=fun h=>by
  by_cases h2:k < Ec base l n
  ·rw [decide_eq_true h2];exact t2 k h2 h
  ·have e:k=Ec base l n:=by omega
   subst e;rw [decide_eq_false h2];exact t3 h
 refine go ?_;intros;refine Dj rfl rfl (fun h4=>?_) (fun h4=>?_)
 ·have hi:k < l.length:=by omega
  refine go ?_;intros;refine In (xs:=l) k ?_;rintro hi b o e;rw [e];refine go ?_;intros;obtain ⟨m0,m1⟩:=Bb.1 (hser _ (List.getElem_mem hi));have hb1:=Ky base l[k].Af;refine ce (fun w s=>I1 _ _ _ GJ GJ) ?_;refine go ?_;intros;refine ce (fun w s=>I1 _ _ _ GJ GJ) ?_;have lf:=leaf hi;refine go ?_;intros;refine Be rfl (fun h5=>?_) (fun h5=>?_)
  ·have h6:k < Ec base l n:=by rw [decide_eq_true h5] at lf;simpa using lf.symm
   refine go ?_;intros;refine Cu (k+1) (by show k+1≤Ec base l n;omega) HV
  ·have h6:k=Ec base l n:=by rw [decide_eq_false h5] at lf;have:¬k < Ec base l n:=by simpa using lf.symm
                             omega
   refine go ?_;intros;refine At [0] [] ?_;refine Dk 0 1 2 3 ?_;refine dt 4 ?_;rw [decide_eq_true h4];refine dt 5 ?_;refine Di 6 ?_;refine Di 7 ?_;refine Di 8 ?_;refine Di 9 ?_;refine Di 10 ?_;refine Di 11 ?_;refine Di 12 ?_;refine Dy 13 14 ?_;refine dt 15 ?_;refine dd ?_;rw [Tq GJ];subst h6;exact AB
 ·have h6:k=Ec base l n:=by omega
  refine go ?_;intros;refine At [0] [] ?_;refine Dk 0 1 2 3 ?_;refine dt 4 ?_;rw [decide_eq_false h4];refine dt 5 ?_;refine ds 6 ?_;refine ds 7 ?_;refine ds 8 ?_;refine ds 9 ?_;refine ds 10 ?_;refine ds 11 ?_;refine ds 12 ?_;refine Dy 13 14 ?_;refine dt 15 ?_;refine dd ?_;rw [Ahd GJ];subst h6;exact AB
def Aji (base:Int) (l:List A1) (n u:Int):List A1:=if Mo base l n then [] else Vw base l n u
structure OwR where
 a:Option Addr
 c:Nat
 F:List Nat
theorem Ai8 (l:List A1) (base n ck d:Int) (a:Option Addr) (c:Nat) (F:List Nat) (hq:Lu l base=true) (hn:B9 n=true) (h8:gp base n < 8) (k0:0≤ck) (k1:ck≤9999) (d0:1≤d) (d1:d≤8) :
  Fn prog 344 [.slice a l.length c,.int .i64 base,.int .i64 n,.int .i64 ck,.int .i64 d] [.sl Ax (.slice a l.length c) l F] [] (fun (_:OwR)=>True) (fun s=>.tuple #[.slice s.a (Aji base l n (ck+d)).length s.c,.bool (!Mo base l n)]) (fun s=>[.ow Ax 166 (.slice s.a (Aji base l n (ck+d)).length s.c) (Aji base l n (ck+d)) s.F]):=by
 have hle:=Rw base l n;obtain ⟨q1,q2,q3,q4⟩:=C9.1 hq;have hck:J3 ck=true:=by unfold J3 Eu;simp;omega
 have hdl:Avl d=true:=by unfold Avl Eu;simp;omega
 refine enter func344 rfl ntmps344 fun w0=>?_;refine go ?_;intros;refine cf (P7 l base _ F) fun _ _=>?_;refine Ar ?_;rw [hq];refine go ?_;intros;refine ce (fun w s=>Il _ _) ?_;rw [hn];refine go ?_;intros;refine ce (fun w s=>Rp _ _) ?_;rw [hck];refine go ?_;intros;refine cf (Arz d) fun _ _=>?_;refine Ar ?_;rw [hdl];refine go ?_;intros;refine cf (X6 l base n a c F hq hn) fun _ _=>?_;refine Ar ?_;cases ho:Mo base l n
 ·rw [show Aji base l n (ck+d)=Vw base l n (ck+d) by unfold Aji;rw [ho];rfl];have hln:=Avk base l n (ck+d);refine go ?_;intros;refine cf (Su l a c F GJ) fun z _=>?_;refine Ar ?_;refine go ?_;intros;refine cf (At7 l ⟨n,1,ck+d,0⟩ (Ec base l n) z.1 z.2.1 _ z.2.2 hle GJ) fun y _=>?_;refine Ar ?_;rw [show l.take (Ec base l n)++(⟨n,1,ck+d,0⟩:A1)::l.drop (Ec base l n)=Vw base l n (ck+d) from rfl];refine go ?_;intros
  refine cb (fun w st=>by obtain ⟨Fw, -,hw⟩:=(st.get (p:=.ow Ax 166 (.slice y.1 (Vw base l n (ck+d)).length y.2.1) (Vw base l n (ck+d)) y.2.2) GL).2.read;exact (P7 (Vw base l n (ck+d)) base _ Fw).val w (I9 ⟨GM,hw⟩)) ?_;rw [Ah1 hq hn h8 GJ GJ ho];exact BB
 ·rw [show Aji base l n (ck+d)=[] by unfold Aji;rw [ho];rfl];refine go ?_;intros;refine Br Ax 166 ?_;refine ret ⟨none,0,[]⟩ trivial rfl
theorem Avt (l:List A1) (base n ck d:Int) (a:Option Addr) (c:Nat) (F:List Nat) (hq:Lu l base=true) (hn:B9 n=true) (k0:0≤ck) (k1:ck≤9999) (d0:1≤d) (d1:d≤8) :
  Fn prog 313 [.slice a l.length c,.int .i64 base,.int .i64 n,.int .i64 ck,.int .i64 d] [.sl Ax (.slice a l.length c) l F] [] (fun (_:OwR)=>True) (fun s=>.slice s.a (Tp base l n (ck+d)).length s.c) (fun s=>[.ow Ax 166 (.slice s.a (Tp base l n (ck+d)).length s.c) (Tp base l n (ck+d)) s.F]):=by
 have hle:=Rw base l n;obtain ⟨q1,q2,q3,q4⟩:=C9.1 hq;obtain ⟨b0,b1⟩:=Bb.1 q1;obtain ⟨n0,n1⟩:=Bb.1 hn;have hbd:=Ky base n;refine enter func313 rfl ntmps313 fun w0=>?_;refine go ?_;intros;refine cf (Afb l base n a c F hq hn) fun _ _=>?_;refine Ar ?_;cases ho:Mo base l n
 rotate_left
 ·rw [show Tp base l n (ck+d)=l by unfold Tp;rw [ho];rfl];exact FH
 refine go ?_;intros;refine ce (fun w s=>I1 _ _ _ GJ GJ) ?_;refine go ?_;intros;refine Be rfl (fun h4=>?_) (fun h4=>?_)
 ·rw [show Tp base l n (ck+d)=l by unfold Tp;rw [ho,decide_eq_false (show ¬gp base n < 8 by omega)];rfl];exact FH
 rw [show Tp base l n (ck+d)=Vw base l n (ck+d) by unfold Tp;rw [ho,decide_eq_true (show gp base n < 8 by omega)];rfl];refine Akg (E:=Ax) (xs:=l) ?_;rintro _ _ e8 c0 c1;cases e8;refine Aqr (E:=Ax) (xs:=l) (Ec base l n) (fun FT=>?_) hle;obtain ⟨T1,hT1⟩:∃T1,T1=l.take (Ec base l n):=⟨_,rfl⟩;have hT1l:T1.length=Ec base l n:=by rw [hT1,List.length_take];omega
 rw [←hT1];have hAdd:T1++[(⟨n,1,ck+d,0⟩:A1)]++l.drop (Ec base l n)=Vw base l n (ck+d):=by rw [hT1];unfold Vw Bd7;simp
 refine go ?_;intros;refine At [0,1] [] ?_;refine Dy 1 2 ?_;refine dt 3 ?_ (hy:=Og (i:=T1.length) rfl rfl (by rw [hT1l]) GJ GJ);refine Dy 5 8 ?_;refine dt 9 ?_;refine Anx 10 (Ec base l n) (fun a6 c6 F6=>?_);refine dM 0 6 ?_ ?_
 ·apply Lr;rfl;intro _;refine C4 Ax ?_;refine dk ?_;refine dM 4 6 ?_ ?_
  ·refine N3 (ys:=T1) C3 Dq fun a7 c7 F7=>?_;rw [List.nil_append];refine dk ?_;refine dN 6 ?_;apply Km;rfl;rfl;rfl;rfl;exact Ke;exact Jy;intro _;exact AN
  ·apply Km;rfl;rfl;rfl;rfl;exact Ke;exact Jy;intro _;refine dk ?_;refine dN 4 ?_;refine N3 (ys:=T1) C3 Dq fun a7 c7 F7=>?_;rw [List.nil_append];exact AN
 ·apply Km;rfl;rfl;rfl;rfl;exact Ke;exact Jy;intro _;refine dk ?_;refine dN 0 ?_;apply Lr;rfl;intro _;refine C4 Ax ?_;refine dk ?_;refine dN 4 ?_;refine N3 (ys:=T1) C3 Dq fun a7 c7 F7=>?_;rw [List.nil_append];exact AN
theorem Aaz (l:List A1) (base n ck:Int) (a:Option Addr) (c:Nat) (F:List Nat) (hq:Lu l base=true) (hn:B9 n=true) (k0:0≤ck) (k1:ck≤9999) :
  Fn prog 282 [.slice a l.length c,.int .i64 base,.int .i64 n,.int .i64 ck] [.sl Ax (.slice a l.length c) l F] [] (fun (_:OwR)=>True) (fun s=>.tuple #[.slice s.a (Qj base l n (ck+4)).length s.c,.bool true]) (fun s=>[.ow Ax 166 (.slice s.a (Qj base l n (ck+4)).length s.c) (Qj base l n (ck+4)) s.F]):=by
 have hle:=Rw base l n;obtain ⟨q1,q2,q3,q4⟩:=C9.1 hq;have hck:J3 ck=true:=by unfold J3 Eu;simp;omega
 refine enter func282 rfl ntmps282 fun w0=>?_;refine go ?_;intros;refine cf (P7 l base _ F) fun _ _=>?_;refine Ar ?_;rw [hq];refine go ?_;intros;refine ce (fun w s=>Il _ _) ?_;rw [hn];refine go ?_;intros;refine ce (fun w s=>Rp _ _) ?_;rw [hck];refine go ?_;intros;refine cf (Su l a c F GJ) fun z _=>?_;refine Ar ?_;refine go ?_;intros;refine cb (fun w st=>by obtain ⟨Fw, -,hw⟩:=(st.get (p:=.ow Ax 166 (.slice z.1 (l).length z.2.1) (l) z.2.2) GL).2.read;exact (X6 l base n z.1 z.2.1 Fw hq hn).val w (I9 ⟨GM,hw⟩)) ?_;have hcl:=Ahi base l n (ck+4);cases ho:Mo base l n
 ·rw [Wa ho];exact BB
 ·have hlt:=Tr ho;refine go ?_;intros;refine Ae1 (xs:=l) (Ec base l n) ?_ (hi:=hlt);rintro hi g A B ha hF hh;rw [ha];refine go ?_;intros;refine Qv (⟨n,3,ck+4,l[Ec base l n].D6⟩:A1) hh (fun w=>?_) ?_
  ·rw [Tq hi] at ho;have e:l[Ec base l n].Af=n:=by simpa using ho
   rw [e];exact EM
  exact FA
theorem Ajv (l:List A1) (base n ck:Int) (a:Option Addr) (c:Nat) (F:List Nat) (hq:Lu l base=true) (hn:B9 n=true) (k0:0≤ck) (k1:ck≤9999) :
  Fn prog 257 [.slice a l.length c,.int .i64 base,.int .i64 n,.int .i64 ck] [.sl Ax (.slice a l.length c) l F] [] (fun (_:OwR)=>True) (fun s=>.slice s.a (Qj base l n (ck+4)).length s.c) (fun s=>[.ow Ax 166 (.slice s.a (Qj base l n (ck+4)).length s.c) (Qj base l n (ck+4)) s.F]):=by
 have hle:=Rw base l n;obtain ⟨q1,q2,q3,q4⟩:=C9.1 hq;have hcl:=Ahi base l n (ck+4);refine enter func257 rfl ntmps257 fun w0=>?_;refine M7 ?_;intros;refine C4 Ax ?_;refine go ?_;intros;apply wO;refine N3 C3 Dq fun a5 c5 F5=>?_;rw [List.nil_append];refine go ?_;intros;refine cf (Afb l base n a c F hq hn) fun _ _=>?_;refine Ar ?_;cases ho:Mo base l n
 ·rw [Wa ho];exact BB
 ·have hlt:=Tr ho;refine go ?_;intros;refine In (xs:=l) (Ec base l n) ?_;rintro hi b o e;rw [e];refine Ae1 (xs:=l) (a:=a5) (Ec base l n) ?_ (hi:=hlt);rintro hi g A B ha hF hh;rw [ha];refine go ?_;intros;refine Qv (⟨n,3,ck+4,l[Ec base l n].D6⟩:A1) hh (fun w=>⟨rfl,rfl⟩) ?_;exact FA
structure SkS where
 a:Option Addr
 c:Nat
 F:List Nat
 ae:Option Addr
 ce:Nat
 Fe:List Nat
theorem Aym (w:An) (st:Bool) (ck tr:Int) (q:Value) (g t o:Nat) (A B:List Value) (a1:Option Addr) (c1:Nat) (F1:List Nat) (hg:Cs w=true) (ht:B9 tr=true) :
  Fn prog 321 [Hm g o 0,.int .i64 tr] [] [.row g t o A [.bool st,.int .i64 ck,.int .i64 (w).next,.slice a1 (w).Ap.length c1,q] B,.ow Cm 196 (.slice a1 (w).Ap.length c1) (w).Ap F1] (fun (_:SkS)=>True)
   (fun s=>.slice s.ae (Ob w tr).length s.ce) (fun s=>[.row g t o A [.bool st,.int .i64 ck,.int .i64 (Nz w tr).next,.slice s.a (Nz w tr).Ap.length s.c,q] B,.ow Cm 196 (.slice s.a (Nz w tr).Ap.length s.c) (Nz w tr).Ap s.F,.ow A8 9 (.slice s.ae (Ob w tr).length s.ce) (Ob w tr) s.Fe]):=by
 obtain ⟨w0_,w1_⟩:=Hy hg;obtain ⟨t0_,t1_⟩:=Bb.1 ht;obtain ⟨hw8,hit⟩:=J0 hg;have hgb:=Ky w.next tr;refine enter func321 rfl ntmps321 fun w0=>?_;refine go ?_;intros;refine ce (fun w s=>Nb _ _ _ GJ GJ GJ GJ) ?_;cases hb:Sp w.next tr
 ·have e1:Nz w tr=w:=by unfold Nz;rw [hb];rfl
  have e2:Ob w tr=[]:=by unfold Ob;rw [hb];rfl
  rw [e1,e2];refine Br A8 9 ?_;exact DQ
 refine go ?_;intros;refine ce (fun w s=>Om _ _ _ GJ GJ GJ GJ) ?_;refine go ?_;intros;refine Be rfl (fun h4=>?_) (fun h4=>?_)
 ·have e1:Nz w tr=Iu w tr:=by unfold Nz;rw [hb,if_pos rfl,if_pos h4]
  have e2:Ob w tr=Is w tr:=by unfold Ob;rw [hb,if_pos rfl,if_pos h4]
  rw [e1,e2];refine Aqq [.bool st,.int .i64 ck] [.int .i64 w.next,.slice a1 w.Ap.length c1] [q] ?_;refine go ?_;intros;refine cf (Akv w tr g t (o+2) (A++[.bool st,.int .i64 ck]) _ a1 c1 F1 w0_ w1_ t0_ t1_ hw8 hit) fun y hy=>?_;refine Ar ?_;obtain ⟨hy1,hy2⟩:=hy;refine Age [.bool st,.int .i64 ck] [.int .i64 y.y.next,.slice y.a y.y.Ap.length y.c] [q] ?_;rw [show Iu w tr=y.y from hy1.symm,show Is w tr=y.es from hy2.symm];exact DQ
 ·have e1:Nz w tr=⟨tr,[]⟩:=by unfold Nz;rw [hb,if_pos rfl,if_neg h4]
  have e2:Ob w tr=[⟨#[33]⟩]:=by unfold Ob;rw [hb,if_pos rfl,if_neg h4]
  rw [e1,e2];refine Br Cm 196 ?_;refine M7 ?_;intros;refine Ic (xs:=[(⟨#[33]⟩:ByteArray)]) (S9 _ GM) ?_ GL;refine go ?_;intros;refine ret ⟨none,0,[],_,_,_⟩ trivial rfl
structure AwS where
 i:Nat
 a:Option Addr
 c:Nat
 F:List Nat
theorem Auf (x:An) (l:List A1) (st:Bool) (ck Ff d:Int) (g t o:Nat) (A B:List Value) (a1:Option Addr) (c1:Nat) (F1:List Nat) (a2:Option Addr) (c2:Nat) (F2:List Nat) (hg:Cs x=true) (hq:Lu l x.next=true) (hf:∀q∈l,Ie x q.Af=false) (hl:B9 Ff=true) (k0:0≤ck) (k1:ck≤9999) (d0:1≤d) (d1:d≤8) :
  Fn prog 323 [Hm g o 0,.int .i64 Ff,.int .i64 d] [] [.row g t o A [.bool st,.int .i64 ck,.int .i64 (x).next,.slice a1 (x).Ap.length c1,.slice a2 (l).length c2] B,.ow Cm 196 (.slice a1 (x).Ap.length c1) (x).Ap F1,.ow Ax 166 (.slice a2 (l).length c2) (l) F2] (fun (_:OwR)=>True)
   (fun _=>.tuple #[]) (fun s=>[.row g t o A [.bool st,.int .i64 ck,.int .i64 (x).next,.slice a1 (x).Ap.length c1,.slice s.a (O7 x l Ff (ck+d)).length s.c] B,.ow Cm 196 (.slice a1 (x).Ap.length c1) (x).Ap F1,.ow Ax 166 (.slice s.a (O7 x l Ff (ck+d)).length s.c) (O7 x l Ff (ck+d)) s.F]):=by
 obtain ⟨w0_,w1_⟩:=Hy hg;obtain ⟨l0_,l1_⟩:=Bb.1 hl;have hgb:=Ky x.next Ff;refine enter func323 rfl ntmps323 fun w0=>?_;refine go ?_;intros;refine ce (fun w s=>Nb _ _ _ GJ GJ GJ GJ) ?_;cases hb:Sp x.next Ff
 ·have e1:O7 x l Ff (ck+d)=l:=by unfold O7;rw [hb];rfl
  rw [e1];exact BB
 obtain ⟨k,hk⟩:∃k,k=Ym x Ff:=⟨_,rfl⟩;have hk8:k≤8:=by rw [hk];exact Rl _ _
 have hkm:((k:Nat):Int)=min (gp x.next Ff) 8:=by rw [hk];unfold Ym;omega
 obtain ⟨N,hN⟩:∃N,N=Nx x k:=⟨_,rfl⟩;have hNl:N.length≤8:=by have:=Abt x k;rw [hN];omega
 have e1:O7 x l Ff (ck+d)=Kk x.next (ck+d) l N:=by unfold O7;rw [hb,if_pos rfl,hN,hk]
 rw [e1];have Vv:=Je x.next (min (gp x.next Ff) 8);have hgp:gp x.next (Ce x.next (min (gp x.next Ff) 8))=(k:Nat):=by rw [←hkm];unfold gp Ce;omega
 refine go ?_;intros;refine At [0] [] ?_;refine Dk 0 1 2 3 ?_;refine Dk 4 5 6 12 ?_;refine dN 7 ?_;refine oC ?_;refine ce (fun w s=>Om _ _ _ GJ GJ GJ GJ) ?_;refine dk ?_;refine dt 8 ?_;refine dN 9 ?_;refine oC ?_;refine ce (fun w s=>Q5 _ _ _ GJ GJ) ?_;refine dk ?_;refine dN 10 ?_;refine oC ?_;refine cfr (fun w st=>by obtain ⟨F9,hF9⟩:=Bch (st.get (p:=.ow Cm 196 (.slice a1 (x).Ap.length c1) (x).Ap F1) GL);exact ⟨_,I9 hF9,rfl,Akw x _ k _ F9 w0_ w1_ GJ GJ hgp⟩) (fun m _=>?_);refine dk ?_;refine dt 11 ?_;refine dd ?_;rw [←hN]
 refine A4 (E:=Bc) (xs:=N) fun GN=>?_;refine go ?_;intros;refine Ck [0,2,6,30,31] (fun s:AwS=>[(32,.int .i64 (s.i:Nat))]) (fun s=>[.row g t o A [.bool st,.int .i64 ck,.int .i64 (x).next,.slice a1 (x).Ap.length c1,.slice s.a (Kk x.next (ck+d) l (N.take s.i)).length s.c] B,.ow Ax 166 (.slice s.a (Kk x.next (ck+d) l (N.take s.i)).length s.c) (Kk x.next (ck+d) l (N.take s.i)) s.F]) (fun s=>s.i≤N.length) (fun s=>N.length - s.i) ⟨0,a2,c2,F2⟩ (Nat.zero_le _) fun s hs=>?_;obtain ⟨i,a3,c3,F3⟩:=s;dsimp only at hs ⊢;have hall:=Qg (w:=x) (u:=ck+d) GJ GJ (N.take i) l (fun n hn=>by
  have:=Qp (w:=x) (n:=n) hk8 (by rw [←hN];exact List.mem_of_mem_take hn);exact ⟨this.1,this.2.2⟩) hq hf
 have hLs:∀h:i < N.length,Kk x.next (ck+d) l (N.take (i+1))=Tp x.next (Kk x.next (ck+d) l (N.take i)) N[i] (ck+d):=fun h=>Acg h;generalize hLd:Kk x.next (ck+d) l (N.take i)=L at *;have hLq:=hall.1;have hL8:=(C9.1 hLq).2.1;refine go ?_;intros;refine Be rfl (fun h4=>?_) (fun h4=>?_)
 ·have hi:i < N.length:=by omega
  have hni:=Qp (w:=x) (n:=N[i]) hk8 (by rw [←hN];exact List.getElem_mem hi);refine Io (xs:=N) i ?_;rintro hi2 b o2 e;rw [e];refine go ?_;intros;refine At [1] [] ?_;refine Dk 0 1 2 3 ?_;refine Dk 4 5 6 7 ?_;refine Dy 8 9 ?_;refine dt 10 ?_;refine dN 11 ?_;refine oC ?_;refine cfr (fun w st=>by obtain ⟨Fq, -,hq9⟩:=(st.get (p:=.ow Ax 166 (.slice a3 (L).length c3) (L) F3) GL).2.read;exact ⟨[.sl Ax (.slice a3 L.length c3) L Fq],I9 ⟨GM,hq9⟩,rfl,Ai8 L x.next N[i] ck d a3 c3 Fq hLq hni.1 hni.2.1 k0 k1 d0 d1⟩) (fun u _=>?_);refine dk ?_;refine Dk 12 13 14 15 ?_;refine dt 16 ?_;refine dd ?_
  refine go ?_;intros;cases ho:Mo x.next L N[i]
  ·have eA:Kk x.next (ck+d) l (N.take (i+1))=Aji x.next L N[i] (ck+d):=by rw [hLs hi];unfold Tp Aji;rw [ho,decide_eq_true hni.2.1];rfl
   refine go ?_;intros;rw [←eA];exact CM
  ·have eA:Kk x.next (ck+d) l (N.take (i+1))=L:=by rw [hLs hi];unfold Tp;rw [ho];rfl
   refine go ?_;intros;rw [←eA];exact CM
 have hi:i=N.length:=by omega
 subst hi;rw [List.take_length] at hLd;rw [hLd];refine go ?_;intros;refine Vc ?_;refine ret (⟨_,_,_⟩:OwR) trivial rfl
theorem Vk (p:Av) (hs:p.data.size≤maxLen):Fn prog 330 [.agg #[.int .i64 p.Ct,.int .i64 p.Af,.int .i64 p.Ao,.int .i64 p.Ff,.string p.data]] [] [] (fun (_:Unit)=>True) (fun _=>.bool (By p)) (fun _=>[]):=by
 refine enter func330 rfl ntmps330 fun w0=>?_;refine go ?_;intros;refine ce (fun w s=>Hk _ _ _ _) ?_;cases g1:Eu 1 p.Ct 5
 ·refine go ?_;intros;refine ret () trivial ?_;show Value.bool _=Value.bool _;congr 1;unfold By;simp [g1]
 refine go ?_;intros;refine ce (fun w s=>Il _ _) ?_;cases g2:B9 p.Af
 ·refine go ?_;intros;refine ret () trivial ?_;show Value.bool _=Value.bool _;congr 1;unfold By;simp [g2]
 refine go ?_;intros;refine ce (fun w s=>Il _ _) ?_;cases g3:B9 p.Ao
 ·refine go ?_;intros;refine ret () trivial ?_;show Value.bool _=Value.bool _;congr 1;unfold By;simp [g3]
 refine go ?_;intros;refine ce (fun w s=>Il _ _) ?_;cases g4:B9 p.Ff
 ·refine go ?_;intros;refine ret () trivial ?_;show Value.bool _=Value.bool _;congr 1;unfold By;simp [g4]
 refine go ?_;intros;refine cb (fun w s=>Z4 _ _ hs) ?_;cases g5:P9 p.data
 ·refine go ?_;intros;refine ret () trivial ?_;show Value.bool _=Value.bool _;congr 1;unfold By;simp [g5]
 obtain ⟨t0,t1⟩:=Bb.1 g3;obtain ⟨l0,l1⟩:=Bb.1 g4;refine go ?_;intros;refine ce (fun w s=>Om _ _ _ GJ GJ GJ GJ) ?_;refine go ?_;intros;refine Dj rfl rfl (fun h6=>?_) (fun h6=>?_)
 ·refine go ?_;intros;refine Dj rfl rfl (fun h7=>?_) (fun h7=>?_)
  ·exact DY
  refine go ?_;intros;refine Dj rfl rfl (fun h8=>?_) (fun h8=>?_)
  ·exact DV
  ·exact DM
 ·refine go ?_;intros;refine ret () trivial ?_;show Value.bool _=Value.bool _;congr 1;unfold By;simp [h6]
theorem Alw (p:Av) (hs:p.data.size≤maxLen):Fn prog 187 [.agg #[.int .i64 p.Ct,.int .i64 p.Af,.int .i64 p.Ao,.int .i64 p.Ff,.string p.data]] [] [] (fun (_:Unit)=>True) (fun _=>.bool (By p)) (fun _=>[]):=by
 refine enter func187 rfl ntmps187 fun w0=>?_;refine go ?_;intros;refine ce (fun w s=>Iq _ _ _ _) ?_;cases g1:Eu 1 p.Ct 5
 ·refine go ?_;intros;refine ret () trivial ?_;show Value.bool _=Value.bool _;congr 1;unfold By;simp [g1]
 refine go ?_;intros;refine ce (fun w s=>Ng _ _) ?_;cases g2:B9 p.Af
 ·refine go ?_;intros;refine ret () trivial ?_;show Value.bool _=Value.bool _;congr 1;unfold By;simp [g2]
 refine go ?_;intros;refine ce (fun w s=>Ng _ _) ?_;cases g3:B9 p.Ao
 ·refine go ?_;intros;refine ret () trivial ?_;show Value.bool _=Value.bool _;congr 1;unfold By;simp [g3]
 refine go ?_;intros;refine ce (fun w s=>Ng _ _) ?_;cases g4:B9 p.Ff
 ·refine go ?_;intros;refine ret () trivial ?_;show Value.bool _=Value.bool _;congr 1;unfold By;simp [g4]
 obtain ⟨t0,t1⟩:=Bb.1 g3;obtain ⟨l0,l1⟩:=Bb.1 g4;refine go ?_;intros;refine ce (fun w s=>I1 _ _ _ GJ GJ) ?_;refine go ?_;intros;refine Dj rfl rfl (fun h6=>?_) (fun h6=>?_)
 ·refine go ?_;intros;refine ret () trivial ?_;have h6:¬gp p.Ao p.Ff≤32767:=by omega
  show Value.bool _=Value.bool _;congr 1;unfold By;simp [h6]
 have h6:gp p.Ao p.Ff≤32767:=by omega
 refine go ?_;intros;refine ce (fun w s=>Qn _ _ _ hs) ?_;rw [show (decide ((p.data.size:Int)≤8) && Y4 p.data.data.toList)=P9 p.data from rfl];cases g5:P9 p.data
 ·refine go ?_;intros;refine ret () trivial ?_;show Value.bool _=Value.bool _;congr 1;unfold By;simp [g5]
 refine go ?_;intros;refine Dj rfl rfl (fun h7=>?_) (fun h7=>?_)
 ·exact DY
 refine go ?_;intros;refine Dj rfl rfl (fun h8=>?_) (fun h8=>?_)
 ·exact DV
 ·exact DM
def Agy (x:An) (q:A1):Bool:=Sp q.Af x.next || decide (8≤gp x.next q.Af) || Ie x q.Af
theorem Azr {l:List A1} {x:An}:(l.filter fun q=>!Agy x q)=D8 l x:=by
 unfold D8 Agy;refine List.filter_congr fun q _=>?_;have e:decide (8≤gp x.next q.Af) = !decide (gp x.next q.Af < 8):=by rw [←decide_not];exact decide_eq_decide.2 GJ
 rw [e];cases Sp q.Af x.next <;> cases Ie x q.Af <;> simp
theorem Azt (q:A1) (x:An) (nb gb g o:Nat) (st:Bool) (ck:Int) (qv:Value) (a1:Option Addr) (c1:Nat) (F:List Nat) (w0_:0≤x.next) (w1_:x.next≤65535) (hn:B9 q.Af=true) :
  Fn prog 322 [.agg #[.int .i64 q.Af,.int .i64 q.state,.int .i64 q.Cg,.int .i64 q.D6],Hm nb 0 0,Hm gb 0 0] [.cel nb 0 [.int .i64 x.next],.cel gb 0 [Hm g o 0],.cel g o [.bool st,.int .i64 ck,.int .i64 x.next,.slice a1 x.Ap.length c1,qv],.isv Bv (.agg #[.int .i64 x.next,.slice a1 x.Ap.length c1]) x F] [] (fun (_:Unit)=>True) (fun _=>.bool (Agy x q)) (fun _=>[]):=by
 obtain ⟨n0,n1⟩:=Bb.1 hn;have hgb:=Ky x.next q.Af;refine enter func322 rfl ntmps322 fun w0=>?_;refine go ?_;intros;cases hb:Sp q.Af x.next
 rotate_left
 ·rw [show Agy x q=true by unfold Agy;rw [hb];rfl];refine At [0,1,2,3,4] [] ?_;refine Dy 0 1 ?_;refine dt 2 ?_;refine dN 3 ?_;refine oC ?_;refine ce (fun w s=>Nb _ _ _ GJ GJ GJ GJ) ?_;rw [hb];refine dk ?_;refine dt 4 ?_;refine ds 5 ?_;refine ds 6 ?_;refine ds 7 ?_;refine ds 8 ?_;refine ds 9 ?_;refine Dy 10 11 ?_;refine ds 12 ?_;refine ds 13 ?_;refine ds 14 ?_;refine ds 15 ?_;refine ds 16 ?_;refine ds 17 ?_;refine ds 18 ?_;refine Dy 19 20 ?_;exact CT
 by_cases h8':8≤gp x.next q.Af
 ·have h8:=decide_eq_true h8';rw [show Agy x q=true by unfold Agy;rw [h8];simp];refine At [0,1,2,3,4] [] ?_;refine Dy 0 1 ?_;refine dt 2 ?_;refine dN 3 ?_;refine oC ?_;refine ce (fun w s=>Nb _ _ _ GJ GJ GJ GJ) ?_;rw [hb];refine dk ?_;refine dt 4 ?_;refine Di 5 ?_;refine Di 6 ?_;refine Di 7 ?_;refine d1g 8 ?_;apply On.h;refine oC ?_;refine ce (fun w s=>Om _ _ _ GJ GJ GJ GJ) ?_;refine dk ?_;refine Di 9 ?_;rw [h8];refine Dy 10 11 ?_;refine ds 12 ?_;refine ds 13 ?_;refine ds 14 ?_;refine ds 15 ?_;refine ds 16 ?_;refine ds 17 ?_
  refine ds 18 ?_;refine Dy 19 20 ?_;exact CT
 ·have h8:=decide_eq_false h8';rw [show Agy x q=Ie x q.Af by unfold Agy;rw [hb,h8];rfl];refine At [0,1,2,3,4] [] ?_;refine Dy 0 1 ?_;refine dt 2 ?_;refine dN 3 ?_;refine oC ?_;refine ce (fun w s=>Nb _ _ _ GJ GJ GJ GJ) ?_;rw [hb];refine dk ?_;refine dt 4 ?_;refine Di 5 ?_;refine Di 6 ?_;refine Di 7 ?_;refine d1g 8 ?_;apply On.h;refine oC ?_;refine ce (fun w s=>Om _ _ _ GJ GJ GJ GJ) ?_;refine dk ?_;refine Di 9 ?_;rw [h8];refine Dy 10 11 ?_;refine Di 12 ?_;refine Di 13 ?_;refine Di 14 ?_;refine Di 15 ?_;refine Di 16 ?_
  refine Di 17 ?_;refine d1g 18 ?_;apply On.h;refine oC ?_;refine cf (Zn x q.Af _ F w0_ w1_ n0 n1) fun _ _=>?_;refine Ar ?_;refine dk ?_;refine Dy 19 20 ?_;exact CT
structure NwS where
 a1:Option Addr
 c1:Nat
 F1:List Nat
 a2:Option Addr
 c2:Nat
 F2:List Nat
 ae:Option Addr
 ce:Nat
 Fe:List Nat
theorem Ajf (r:A9) (p:Av) (d:Int) (g t o:Nat) (A B:List Value) (a1:Option Addr) (c1:Nat) (F1:List Nat) (a2:Option Addr) (c2:Nat) (F2:List Nat) (hg:Lq r) (hp:By p=true) (d0:1≤d) (d1:d≤8) :
  Fn prog 281 [Hm g o 0,.agg #[.int .i64 p.Ct,.int .i64 p.Af,.int .i64 p.Ao,.int .i64 p.Ff,.string p.data],.int .i64 d] [] [.row g t o A [.bool r.Bd,.int .i64 r.Ai,.int .i64 (r.Ab).next,.slice a1 (r.Ab).Ap.length c1,.slice a2 (r.Am).length c2] B,.ow Cm 196 (.slice a1 (r.Ab).Ap.length c1) (r.Ab).Ap F1,.ow Ax 166 (.slice a2 (r.Am).length c2) (r.Am) F2] (fun (_:NwS)=>True)
   (fun s=>.slice s.ae (Ma r p).length s.ce) (fun s=>[.row g t o A [.bool (Kj r p d).Bd,.int .i64 (Kj r p d).Ai,.int .i64 ((Kj r p d).Ab).next,.slice s.a1 ((Kj r p d).Ab).Ap.length s.c1,.slice s.a2 ((Kj r p d).Am).length s.c2] B,.ow Cm 196 (.slice s.a1 ((Kj r p d).Ab).Ap.length s.c1) ((Kj r p d).Ab).Ap s.F1,.ow Ax 166 (.slice s.a2 ((Kj r p d).Am).length s.c2) ((Kj r p d).Am) s.F2,.ow A8 9 (.slice s.ae (Ma r p).length s.ce) (Ma r p) s.Fe]):=by
 have k0:=hg.k0;have k1:=hg.k1;obtain ⟨-,q1,q2, -⟩:=C9.1 hg.q;have hser:∀q∈r.Am,B9 q.Af=true:=fun q hq=>(Wu hg hq).1;obtain ⟨hsg, -⟩:=P4 hg hp;obtain ⟨htg, -,htl⟩:=Sn hg hp;obtain ⟨hng,hnq, -,hnl⟩:=Xm hg hp d0 d1 GJ;obtain ⟨s0_,s1_⟩:=Hy hsg;obtain ⟨v0_,v1_⟩:=Hy hng;obtain ⟨hw8,hit⟩:=J0 hsg;obtain ⟨n0,n1⟩:=Jz hp;have hp2:=hp;unfold By at hp2;simp only [Bool.and_eq_true] at hp2;have htr:B9 p.Ao=true:=hp2.1.1.1.1.2;have hld:B9 p.Ff=true:=hp2.1.1.1.2;have hps:p.data.size≤8:=T4 hp2.1.1.2;refine enter func281 rfl ntmps281 fun w0=>?_;refine go ?_;intros;rename_i g3 g4
 refine Eg [2,3,4,6] [0,1,4] (fun _:Unit=>[]) (fun _=>[.row g t o A [.bool true,.int .i64 r.Ai,.int .i64 (D0 r p).next,.slice a1 (D0 r p).Ap.length c1,.slice a2 r.Am.length c2] B,.ow Cm 196 (.slice a1 (D0 r p).Ap.length c1) (D0 r p).Ap F1]) (fun _=>True) ?_ fun _ _=>?_
 ·cases hs:r.Bd
  ·by_cases hk:p.Ct=5
   ·have e:D0 r p=⟨p.Ff,r.Ab.Ap⟩:=by unfold D0;rw [hs,if_pos hk];rfl
    have hkd:decide (p.Ct=5)=true:=decide_eq_true hk;rw [e];refine go ?_;intros;refine Be rfl (fun _=>?_) (fun h=>absurd hk h);exact BV
   ·have e:D0 r p=⟨p.Af,r.Ab.Ap⟩:=by unfold D0;rw [hs,if_neg hk];rfl
    rw [e];refine go ?_;intros;refine Be rfl (fun h=>absurd h hk) (fun _=>?_);exact BV
  ·have e:D0 r p=r.Ab:=by unfold D0;rw [hs];rfl
   rw [e];exact BV
 refine go ?_;intros;refine Eg [2,3,4,6] [2,3,4] (fun s:SkS=>[(7,.slice s.ae (Ka r p).length s.ce)]) (fun s=>[.row g t o A [.bool true,.int .i64 r.Ai,.int .i64 (E9 r p).next,.slice s.a (E9 r p).Ap.length s.c,.slice a2 r.Am.length c2] B,.ow Cm 196 (.slice s.a (E9 r p).Ap.length s.c) (E9 r p).Ap s.F,.ow A8 9 (.slice s.ae (Ka r p).length s.ce) (Ka r p) s.Fe]) (fun _=>True) ?_ fun s _=>?_
 ·by_cases hk:p.Ct=5
  ·have e1:E9 r p=D0 r p:=by unfold E9;rw [if_pos hk]
   have e2:Ka r p=[]:=by unfold Ka;rw [if_pos hk]
   refine Be rfl (fun h=>absurd hk h) (fun _=>?_);rw [e1,e2];refine Br A8 9 ?_;refine go ?_;intros;refine Bw (⟨a1,c1,F1,none,0,[]⟩:SkS) trivial
  ·have e1:E9 r p=Ls (D0 r p) p.Af p.data:=by unfold E9;rw [if_neg hk]
   have e2:Ka r p=Li (D0 r p) p.Af p.data:=by unfold Ka;rw [if_neg hk]
   refine Be rfl (fun _=>?_) (fun h=>absurd hk h);rw [e1,e2];refine Aqq [.bool true,.int .i64 r.Ai] [.int .i64 (D0 r p).next,.slice a1 (D0 r p).Ap.length c1] [.slice a2 r.Am.length c2] ?_;refine go ?_;intros;refine At [2,3] [] ?_;refine Dk 0 1 2 3 ?_;refine Dy 4 5 ?_;refine dt 6 ?_;refine dN 7 ?_;refine oC ?_;refine cf (Aue (D0 r p) p.Af p.data g t (o+2) (A++[.bool true,.int .i64 r.Ai]) _ a1 c1 F1 s0_ s1_ n0 n1 hw8 hit hps) fun y hy=>?_;refine Ar ?_;obtain ⟨hy1,hy2⟩:=hy;refine dk ?_;refine Dk 8 9 10 11 ?_;refine dd ?_
   refine Age [.bool true,.int .i64 r.Ai] [.int .i64 y.y.next,.slice y.a y.y.Ap.length y.c] [.slice a2 r.Am.length c2] ?_;rw [←hy1,←hy2];refine go ?_;intros;refine Bw (⟨_,_,_,_,_,_⟩:SkS) trivial
 obtain ⟨a3,c3,F3,ae,ce,Fe⟩:=s;dsimp only;refine go ?_;intros;refine cf (Aym (E9 r p) true r.Ai p.Ao _ g t o A B a3 c3 F3 htg htr) fun y _=>?_;refine Ar ?_;have hsl:(Ob (E9 r p) p.Ao).length≤24:=by unfold Ma at hnl;rw [List.length_append] at hnl;omega
 refine A4 (E:=A8) (xs:=Ob (E9 r p) p.Ao) fun G8=>?_;refine go ?_;intros;apply wO;refine N3 (ys:=Ob (E9 r p) p.Ao) Dp Hi fun a9 c9 F9=>?_;rw [show Ka r p++Ob (E9 r p) p.Ao=Ma r p from rfl,show Nz (E9 r p) p.Ao=Cn r p from rfl];refine go ?_;intros;rename_i g11;refine At [3,6] [9] ?_;refine Dk 0 1 2 3 ?_;refine Dy 4 5 ?_;refine dN 6 ?_;refine oC ?_;refine cfm (M:=[.ow Ax 166 (.slice a2 r.Am.length c2) r.Am F2]) (.cons GP .nil) (fun w st=>by
   have r1:=st.on (.row g11 3 0 [] [.int .i64 (Cn r p).next] []) GL;have r2:=st.on (.row g3 264 0 [] [Hm g o 0] []) GL;have r3:=st.on (.row g t o A [.bool true,.int .i64 r.Ai,.int .i64 (Cn r p).next,.slice y.a (Cn r p).Ap.length y.c,.slice a2 r.Am.length c2] B) GL;obtain ⟨Fw,hFw,hw⟩:=(st.on (.ow Cm 196 (.slice y.a (Cn r p).Ap.length y.c) (Cn r p).Ap y.F) GL).2.read
   refine ⟨[.cel g11 0 [.int .i64 (Cn r p).next],.cel g3 0 [Hm g o 0],.cel g o [.bool true,.int .i64 r.Ai,.int .i64 (Cn r p).next,.slice y.a (Cn r p).Ap.length y.c,.slice a2 r.Am.length c2],.isv Bv (.agg #[.int .i64 (Cn r p).next,.slice y.a (Cn r p).Ap.length y.c]) (Cn r p) Fw],?_,rfl,?_,Akq 322 [] [Hm g11 0 0,Hm g3 0 0] _ rfl r.Am a2 c2 F2 (fun q=>Agy (Cn r p) q) GK GJ (fun q hq w' hA=>(Azt q (Cn r p) g11 g3 g o true r.Ai _ y.a y.c Fw v0_ v1_ (hser q hq)).val w' hA)⟩
   ·intro q hq;simp only [List.mem_cons,List.not_mem_nil,or_false] at hq;rcases hq with rfl|rfl|rfl|rfl
    ·exact ⟨GL,Hz r1⟩
    ·exact ⟨GL,Hz r2⟩
    ·exact ⟨GL,Hz r3⟩
    ·exact ⟨_,rfl,_,rfl,hw⟩
   ·intro q hq b hb;simp only [List.mem_cons,List.not_mem_nil,or_false] at hq;rcases hq with rfl|rfl|rfl|rfl
    ·exact ⟨.row g11 3 0 [] [.int .i64 (Cn r p).next] [],GL,hb⟩
    ·exact ⟨.row g3 264 0 [] [Hm g o 0] [],GL,hb⟩
    ·exact ⟨.row g t o A [.bool true,.int .i64 r.Ai,.int .i64 (Cn r p).next,.slice y.a (Cn r p).Ap.length y.c,.slice a2 r.Am.length c2] B,GL,hb⟩
    ·exact ⟨.ow Cm 196 (.slice y.a (Cn r p).Ap.length y.c) (Cn r p).Ap y.F,GL,hFw b hb⟩) (fun z _=>?_)
 rw [Azr];refine dk ?_;refine Dy 7 8 ?_;refine dN 9 ?_;refine oS ?_;refine Rn ?_;refine dd ?_;refine go ?_;intros;refine cf (Auf (Cn r p) (D8 r.Am (Cn r p)) true r.Ai p.Ff d g t o A B y.a y.c y.F z.1 z.2.1 z.2.2 hng hnq Oq hld k0 k1 d0 d1) fun u _=>?_;refine Ar ?_;refine go ?_;intros;refine ret ⟨_,_,_,_,_,_,_,_,_⟩ trivial rfl
structure Ayk where
 g:Nat
 a:Option Addr
 c:Nat
 F:List Nat
theorem Sc (x:A9) (v:Value) (F:List Nat) (hl:x.Ab.Ap.length≤1000000000) (hl2:x.Am.length≤1000000000):Fn prog 79 [v] [.isv B4 v x F] [] (fun (_:Value × List Nat)=>True) (fun s=>s.1) (fun s=>[.own Bg s.1 x s.2]):=by
 refine enter func79 rfl ntmps79 fun w0=>?_;refine Gt ?_;rintro a1 c1 F1 a2 c2 F2 rfl l1 l2;refine go ?_;intros;refine Eg [1,2] [0,1,2,3,4] (fun s:Ayk=>[(3,Hm s.g 0 0)]) (fun s=>[.row s.g 114 0 [] [.int .i64 x.Ab.next,.slice s.a x.Ab.Ap.length s.c] [],.ow Cm 196 (.slice s.a x.Ab.Ap.length s.c) x.Ab.Ap s.F]) (fun _=>True) ?_ fun s _=>?_
 ·skip
  refine At [1] [] ?_;refine Dk 0 1 2 4 ?_;refine Dy 5 6 ?_;refine dM 3 9 ?_ ?_
  ·apply Lr;rfl;intro _;refine C4 Cm ?_;refine dk ?_;refine dM 7 9 ?_ ?_
   ·refine N3 Id Ht fun a5 c5 F5=>?_;rw [List.nil_append];refine dk ?_;refine dt 8 ?_;refine dN 9 ?_;apply Co;rfl;intro _;refine dk ?_;refine dN 10 ?_;refine oS ?_;refine dk ?_;refine dd ?_;refine Bw (⟨_,_,_,_⟩:Ayk) trivial
   ·apply Co;rfl;intro _;exact CV
  ·apply Co;rfl;intro _;refine dk ?_;refine dN 3 ?_;apply Lr;rfl;intro _;refine C4 Cm ?_;exact CV
 obtain ⟨g3,a5,c5,F5⟩:=s;dsimp only;refine go ?_;intros;refine At [0,3] [] ?_;refine Dk 0 1 2 3 ?_;refine Dy 4 6 ?_;refine dt 7 ?_;refine dN 5 ?_;apply Lr;rfl;intro _;refine C4 Ax ?_;refine dk ?_;refine dN 8 ?_;refine N3 C3 Dq fun a6 c6 F6=>?_;rw [List.nil_append];refine dk ?_;refine dt 9 ?_;refine dN 10 ?_;refine oS ?_;refine dk ?_;refine dd ?_;refine go ?_;intros;refine Ju x ?_;exact FD
theorem Acs (l:List A1) (w:An) (a:Option Addr) (c:Nat) (F:List Nat) (v:Value) (Fw:List Nat) (hl:l.length≤1000000) (hs:∀q∈l,B9 q.Af=true) (w0_:0≤w.next) (w1_:w.next≤65535):Fn prog 256 [.slice a l.length c,v] [.sl Ax (.slice a l.length c) l F,.isv Bv v w Fw] [] (fun (_:Option Addr × Nat × List Nat)=>True) (fun z=>.slice z.1 (D8 l w).length z.2.1) (fun z=>[.ow Ax 166 (.slice z.1 (D8 l w).length z.2.1) (D8 l w) z.2.2]):=by
 refine enter func256 rfl ntmps256 fun w0=>?_;refine Cp ?_;rintro a1 c1 F1 rfl l1;refine go ?_;intros;refine C4 Ax ?_;refine Ck [0,3,4] (fun s:PkS=>[(6,.int .i64 (s.k:Nat)),(5,.slice s.a (D8 (l.take s.k) w).length s.c)]) (fun s=>[.ow Ax 166 (.slice s.a (D8 (l.take s.k) w).length s.c) (D8 (l.take s.k) w) s.F]) (fun s=>s.k≤l.length) (fun s=>l.length - s.k) ⟨0,_,_,_⟩ (Nat.zero_le _) fun s hk=>?_;obtain ⟨k,a4,c4,F4⟩:=s;dsimp only at hk ⊢;refine go ?_;intros;refine Be rfl (fun h4=>?_) (fun h4=>?_)
 ·have hk:k < l.length:=by omega
  have hkl:(D8 (l.take k) w).length≤k:=Nat.le_trans (List.length_filter_le _ _) HW;have hsk:=hs _ (List.getElem_mem hk);obtain ⟨n0,n1⟩:=Bb.1 hsk;have en:∀b,(!(Sp l[k].Af w.next || Ie w l[k].Af) && decide (gp w.next l[k].Af < 8))=b→D8 (l.take (k+1)) w=D8 (l.take k) w++if b then [l[k]] else []:=fun b hb=>by
   unfold D8;rw [List.take_add_one,List.getElem?_eq_getElem hk,List.filter_append]
   congr 1
   show ([l[k]].filter _)=_;rw [List.filter_cons,List.filter_nil,hb]
  refine In (xs:=l) k ?_;rintro hi b o e;rw [e];refine go ?_;intros;cases g5:(Sp l[k].Af w.next || Ie w l[k].Af)
  ·skip
   refine At [0,2] [] ?_;refine Dk 0 1 2 3 ?_;refine Dy 4 5 ?_;refine dN 6 ?_;refine oC ?_;refine cf (Abh w l[k].Af _ Fw w0_ w1_ n0 n1) fun _ _=>?_;refine Ar ?_;rw [show Gj w l[k].Af=(Sp l[k].Af w.next || Ie w l[k].Af) from rfl,g5];refine dk ?_;refine Dy 7 8 ?_;refine Di 9 ?_;refine Di 10 ?_;refine Di 11 ?_;refine Di 12 ?_;refine Di 13 ?_;refine Di 14 ?_;refine Di 15 ?_;refine d1g 16 ?_;apply On.h;refine oC ?_;refine ce (fun w s=>I1 _ _ _ GJ GJ) ?_;refine dk ?_;refine Di 17 ?_;refine dt 18 ?_;refine dd ?_;refine go ?_;intros;refine Be rfl (fun h6=>?_) (fun h6=>?_)
   ·have e1:=en true (by rw [g5,decide_eq_true h6];rfl);refine go ?_;intros;apply wO;refine Oh (ys:=[l[k]]) (Na l[k]) C3 fun a7 c7 F7=>?_;refine go ?_;intros;rw [show D8 (l.take k) w++[l[k]]=D8 (l.take (k+1)) w from e1.symm];exact CL
   ·have e1:=en false (by rw [g5,decide_eq_false h6];rfl);refine go ?_;intros;rw [show D8 (l.take k) w=D8 (l.take (k+1)) w by rw [e1];simp];exact CL
  ·skip
   refine At [0,2] [] ?_;refine Dk 0 1 2 3 ?_;refine Dy 4 5 ?_;refine dN 6 ?_;refine oC ?_;refine cf (Abh w l[k].Af _ Fw w0_ w1_ n0 n1) fun _ _=>?_;refine Ar ?_;rw [show Gj w l[k].Af=(Sp l[k].Af w.next || Ie w l[k].Af) from rfl,g5];refine dk ?_;refine Dy 7 8 ?_;refine ds 9 ?_;refine ds 10 ?_;refine ds 11 ?_;refine ds 12 ?_;refine ds 13 ?_;refine ds 14 ?_;refine ds 15 ?_;refine ds 16 ?_;refine ds 17 ?_;refine dt 18 ?_;refine dd ?_;have e1:=en false (by rw [g5];rfl);refine go ?_;intros;rw [show D8 (l.take k) w=D8 (l.take (k+1)) w by rw [e1];simp]
   exact CL
 have hk:k=l.length:=by omega
 subst hk;rw [List.take_length];exact EF
structure GvS where
 g:Nat
 y:Aa3
theorem Abj (r:A9) (d:Int) (v:Value) (F:List Nat) (hg:Lq r) (d0:0≤d) (d1:d≤100) (_hx:r.Ai≤99999) :
  Fn prog 194 [v,.int .i64 d] [.isv B4 v r F] [] (fun (_:TkR)=>True) (fun s=>.tuple #[.agg #[.bool (Cy r d).Bd,.int .i64 (Cy r d).Ai,.int .i64 (Cy r d).Ab.next,.slice s.a1 (Cy r d).Ab.Ap.length s.c1,.slice s.a2 (Cy r d).Am.length s.c2],.slice s.a3 (Ew r).length s.c3,.slice s.a4 (Gz r).length s.c4])
   (fun s=>[.isv B4 (.agg #[.bool (Cy r d).Bd,.int .i64 (Cy r d).Ai,.int .i64 (Cy r d).Ab.next,.slice s.a1 (Cy r d).Ab.Ap.length s.c1,.slice s.a2 (Cy r d).Am.length s.c2]) (Cy r d) s.F1,.ow Aj 159 (.slice s.a3 (Ew r).length s.c3) (Ew r) s.F3,.ow A8 9 (.slice s.a4 (Gz r).length s.c4) (Gz r) s.F4]):=by
 have k0:=hg.k0;have k1:=hg.k1;obtain ⟨-,q1,q2, -⟩:=C9.1 hg.q;obtain ⟨w0_,w1_⟩:=Hy hg.w;obtain ⟨hw8,hit⟩:=J0 hg.w;have hpl:(r.Am.filterMap (Pq (r.Ai+1))).length≤8:=Nat.le_trans (List.length_filterMap_le _ _) q1;refine enter func194 rfl ntmps194 fun w0=>?_;refine Gt (v:=v) (x:=r) (F:=F) ?_;rintro a1 c1 F1 a2 c2 F2 rfl l1 l2;refine go ?_;intros;refine cf (Sc r _ F GJ GJ) fun u _=>?_;refine Ar ?_;refine H4 ?_;rintro a5 c5 F5 a6 c6 F6 e6 - -;rw [e6];refine A4 (E:=Cm) fun G5=>?_;refine go ?_;intros
 refine cf (Asc r.Am (r.Ai+1) d a2 c2 F2 GJ (fun q hq=>⟨(Ei.1 (q2 q hq)).t0,(Ei.1 (q2 q hq)).t1⟩) GJ GJ GJ GJ) fun z _=>?_;refine Ar ?_;rw [show r.Am.filterMap (Tk (r.Ai+1))=C1 r from rfl,show r.Am.filterMap (Tb (r.Ai+1) d)=M5 r d from rfl];refine A4 (E:=Bc) (xs:=r.Am.filterMap (Pq (r.Ai+1))) fun G2=>?_;refine A4 (E:=Bc) (xs:=C1 r) fun G3=>?_;refine C4 A8 ?_;refine C4 Aj ?_;refine go ?_;intros
 refine Ck [2,4,5,6,7,9,11,12] (fun s:PkS=>[(13,.int .i64 (s.k:Nat)),(8,.slice s.a (((r.Am.filterMap (Pq (r.Ai+1))).take s.k).map (pkR r.Ab.next)).length s.c)]) (fun s=>[.ow Aj 159 (.slice s.a (((r.Am.filterMap (Pq (r.Ai+1))).take s.k).map (pkR r.Ab.next)).length s.c) (((r.Am.filterMap (Pq (r.Ai+1))).take s.k).map (pkR r.Ab.next)) s.F]) (fun s=>s.k≤(r.Am.filterMap (Pq (r.Ai+1))).length) (fun s=>(r.Am.filterMap (Pq (r.Ai+1))).length - s.k) ⟨0,_,_,_⟩ (Nat.zero_le _) fun s hs=>?_;obtain ⟨k,a4,c4,F4⟩:=s;dsimp only at hs ⊢;generalize hsn:r.Am.filterMap (Pq (r.Ai+1))=sn at *;refine go ?_;intros
 refine Be rfl (fun h4=>?_) (fun h4=>?_)
 ·have hk:k < sn.length:=by omega
  have hkl:((sn.take k).map (pkR r.Ab.next)).length≤k:=by simp;omega
  refine Io (xs:=sn) k ?_;rintro hi b o2 e;rw [e];refine go ?_;intros;have eo:(sn.take (k+1)).map (pkR r.Ab.next)=(sn.take k).map (pkR r.Ab.next)++[pkR r.Ab.next sn[k]]:=by rw [List.take_add_one,List.getElem?_eq_getElem hk,List.map_append];rfl
  refine At [0,10] [] ?_;refine Dk 0 1 2 3 ?_;refine Dk 4 5 6 7 ?_;refine Dk 8 9 10 11 ?_;refine dN 12 ?_;apply Km;rfl;rfl;rfl;rfl;exact Ke;exact Jy;intro _;refine dk ?_;refine dN 13 ?_;refine Oh (ys:=[pkR r.Ab.next sn[k]]) (C8 (pkR r.Ab.next sn[k]) (by show (0:Nat)≤maxLen;exact Nat.zero_le _)) Hf fun a7 c7 F7=>?_;refine dk ?_;refine dt 14 ?_;refine dd ?_;exact EK
 have hk:k=sn.length:=by omega
 subst hk;rw [List.take_length];have ep:Ew r=sn.map (pkR r.Ab.next):=by unfold Ew;rw [hsn]
 rw [ep];refine go ?_;intros;by_cases hL:C1 r=[]
 ·refine Be rfl (fun h=>absurd h (by rw [hL];decide)) (fun _=>?_);rw [Agh hL,Am3 hL];refine go ?_;intros;refine A4 (E:=Ax) fun F8=>?_;refine Ee (a1:=a5) ⟨r.Bd,r.Ai+1,r.Ab,M5 r d⟩ ?_;refine ret ⟨_,_,_,_,_,[],_,_,_,_,_,_⟩ trivial rfl
 ·have hl0:=List.length_pos_iff.2 hL;refine Be rfl (fun _=>?_) (fun h=>absurd h GJ);rw [Ab9 hL,Ai3 hL];obtain ⟨hs8,hsr⟩:=Ad1 hg hL;have hll8:=Agj r;obtain ⟨hs0,hs1⟩:=Bb.1 hsr;have hll:=Aid hL;obtain ⟨l0,l1⟩:=Bb.1 (Aca hg (List.getElem_mem (show (C1 r).length - 1 < (C1 r).length by omega))).1;have hi1:((C1 r).length:Int) - 1=(((C1 r).length - 1:Nat):Int):=by omega
  refine Ci (a1:=a5) r.Ab ?_;generalize G5=FW;refine Io (xs:=C1 r) ((C1 r).length - 1) ?_;rintro hi b o2 e;rw [e];refine go ?_;intros;refine Eg [4,5,6,7,8,9] [2,3,6,7,10,14] (fun s:GvS=>[(15,Hm s.g 0 0),(16,.slice s.y.ae s.y.es.length s.y.ce)]) (fun s=>[.row s.g 114 0 [] [.int .i64 s.y.y.next,.slice s.y.a s.y.y.Ap.length s.y.c] [],.isv Bv (.agg #[.int .i64 s.y.y.next,.slice s.y.a s.y.y.Ap.length s.y.c]) s.y.y s.y.F,.ow A8 9 (.slice s.y.ae s.y.es.length s.y.ce) s.y.es s.y.Fe]) (fun s=>s.y.y=Iu r.Ab (Db (C1 r))∧s.y.es=Is r.Ab (Db (C1 r))) ?_ fun s hy=>?_
  ·skip
   refine At [0,7] [] ?_;refine Dk 0 1 2 3 ?_;refine dt 4 ?_;rw [hi1];refine Dy 5 6 ?_;refine dM 7 12 ?_ ?_
   ·refine oC ?_;refine ce (fun w s=>Ks _ _ _ GJ GJ) ?_;rw [←hll];refine dk ?_;refine dM 8 12 ?_ ?_
    ·refine oC ?_;refine cf (S0 r.Ab (Db (C1 r)) _ FW w0_ w1_ hs0 hs1 hw8 hit) fun y hy=>?_;refine Ar ?_;refine dk ?_;refine Dy 9 10 ?_;refine dt 11 ?_;refine dN 12 ?_;apply Co;rfl;intro _;refine dk ?_;refine dN 13 ?_;refine oS ?_;refine dk ?_;refine dt 14 ?_;refine dd ?_;refine Bw (⟨_,y⟩:GvS) hy
    ·apply Co;rfl;intro _;exact BS
   ·apply Co;rfl;intro _;refine dk ?_;refine dN 7 ?_;refine oC ?_;refine ce (fun w s=>Ks _ _ _ GJ GJ) ?_;rw [←hll];exact BS
  obtain ⟨g15,y⟩:=s;dsimp only at hy ⊢;obtain ⟨hy1,hy2⟩:=hy;have hmv:=T8 (t:=Db (C1 r)) hg.w;have hm0:0≤y.y.next:=by rw [hy1,hmv.1];exact (Je _ _).1
  have hm1:y.y.next≤65535:=by rw [hy1,hmv.1];exact (Je _ _).2
  have hes:y.es.length≤100:=by rw [hy2];have:=hmv.2.2.1;have:=@Xr r.Ab.next (Db (C1 r));omega
  refine A4 (E:=A8) (xs:=y.es) fun G8=>?_;refine go ?_;intros;apply wO;refine N3 (ys:=y.es) Dp Hi fun a9 c9 F9=>?_;rw [List.nil_append];refine A4 (E:=Ax) (xs:=M5 r d) fun F8=>?_;refine go ?_;intros;refine cf (Acs (M5 r d) y.y z.a z.c F8 _ y.F (by have:=Acb r d;omega) (fun q hq=>(Aas hg hq).1) hm0 hm1) fun u2 _=>?_;refine Ar ?_;rw [hy1,Adc hg hL,←hy1];refine go ?_;intros;refine Cp (x:=y.y) ?_;rintro b1 d1 G1 e5 m1;simp only [Value.agg.injEq,Array.mk.injEq,List.cons.injEq,Value.slice.injEq,true_and,and_true] at e5;obtain ⟨rfl,rfl⟩:=e5;refine A4 (E:=Ax) (xs:=X8 (M5 r d) y.y.next) fun F10=>?_
  refine Ee ⟨r.Bd,r.Ai+1,y.y,X8 (M5 r d) y.y.next⟩ ?_;rw [←hy2];refine ret ⟨_,_,_,_,_,[],_,_,_,_,_,_⟩ trivial rfl
def Ats (md:Region.Mode) (ops:Array Oper) (X:Nat→Bool) (listed:Array Bool) (i:Nat):Bool:=(List.range ops.size).all fun j=>!X j || listed.getD j false || Rv md ops i ops.size j
section
variable {P:Program} {md:Region.Mode} {ops:Array Oper} {Q:Exit→Act→World→Prop} {S:World→Prop} {X:Nat→Bool}
theorem En.firstL {i:Nat} {oi:Oper} {v:Value} (hi:ops[i]?=some oi) (hsel:∀(j:Nat) (o:Oper) cs b,ops[j]?=some o→o.op≠.select cs b)
  (hQ:∀c a w,Q (.panic c) (a.put oi.dst v) w→Q (.panic c) a w) :
  ∀(f:Nat) (listed:Array Bool) (a:Act) (w:World),(∀j,j < ops.size→X j=true→listed.getD j false=false→Rv md ops i ops.size j=true) →
   (∀j oj,ops[j]?=some oj→j≠i→listed.getD j true=false→(∀e∈oj.after,Region.binds md e=true→e.on≠i)→oi.apart ops oj=true) →
   Yh md ops listed→i∈Region.ready md ops listed→YieldsIf P ops S oi v a→S w→En P md ops Q S X f (listed.setIfInBounds i true) (a.put oi.dst v) w→En P md ops Q S X (f+1) listed a w:=by
 intro f
 induction f with
 | zero =>
  intro listed a w _ _ _ hr hy hS H;refine ⟨fun h=>IP,fun j hj=>?_⟩;by_cases hji:j=i
  ·exact FL
  ·have:=ready_mono hj hji;rw [H.1] at this;cases this
 | succ f ih =>
  intro listed a w hX hfree hcl hr hy hS H;refine ⟨fun h=>IP,fun j hj=>?_⟩;by_cases hji:j=i
  ·exact FL
  ·obtain ⟨hju,oj,hoj,hall⟩:=mem_ready.1 hj;have hiu:=W5 (mem_ready.1 hr).1;have hnot:∀e∈oj.after,Region.binds md e=true→e.on≠i:=fun e he hb heq=>by
    have h1:=hall e he hb;rw [heq,hiu] at h1;cases h1
   have hXj:X j=false:=by
    cases hx:X j
    ·rfl
    ·have h2:=Vg hcl ops.size j (fun o ho=>by obtain rfl:=Option.some.inj (ho.symm.trans hoj);exact hall) (hX j (Array.getElem?_eq_some_iff.1 hoj).1 hx (W5 hju));rw [hiu] at h2;cases h2
   have h2:=wpOp_putIf hoj (hfree j oj hoj hji hju hnot) (fun cs b=>hsel i oi cs b hi) (fun cs b=>hsel j oj cs b hoj) hQ hy (H.2 j (ready_mono hj hji));refine wpOp_mono (fun a' w' h3=>⟨fun _=>h3.2.1 hXj,ih (listed.setIfInBounds j true) a' w' (fun k hk hx hun=>hX k hk hx ?_) (fun k ok hk hki hun hno=>hfree k ok hk hki ?_ hno) (hcl.set hj) (ready_mono hr (Ne.symm hji)) h3.1 (h3.2.1 hXj) ?_⟩) h2
   ·by_cases hjk:j=k
    ·subst hjk;exact W5 hju
    ·rw [getD_set_ne false hjk] at hun;exact hun
   ·by_cases hjk:j=k
    ·subst hjk;exact hju
    ·rw [getD_set_ne true hjk] at hun;exact hun
   ·rw [Array.setIfInBounds_comm _ _ hji];exact h3.2.2
end
section
variable {c:Cx} {fr:Fr} {H H0:List Pc} {k:List It} {X:List Nat} {ops:Array Oper} {f:Nat} {listed:Array Bool} {d:Nat} {o:Op} {ty:TypeId} {pos:String} {Ce:Array Edge} {v:Value}
theorem dtl (i:Nat) (h:T c ((d,v)::fr) H (.dx k H0 X ops f (listed.setIfInBounds i true))) (ho:ops[i]?=some ⟨some d,o,ty,pos,Ce,none⟩:=by rw [List.getElem?_toArray];rfl) (hy:Yd c.P c.n fr H0 o ty v:=by exact ydE) (hs:M6 H0 H:=by repeat (first|exact M6.nil|refine M6.cons GO ?_))
  (h1:Region.noSelect ops=true:=by kernel_rfl) (h2:Region.free .any ops listed i=true:=by kernel_rfl) (h3:(Region.ready .any ops listed).contains i=true:=by kernel_rfl) (h4:Ats .any ops (fun i=>X.contains i) listed i=true:=by kernel_rfl) (h5:Mh .any ops listed=true:=by kernel_rfl) (hR:Vz c:=by exact Ya) (hd:Nat.blt d c.n=true:=by rfl) :
  T c fr H (.dx k H0 X ops (f+1) listed):=.mk fun a w s g =>
 En.firstL ho (Region.noSelect_spec h1) (fun ch a w hp=>by rw [L8] at hp ⊢;exact hR _ _ _ _ _ hp) f listed a w (fun j hj hx hl=>by
   have:=List.all_eq_true.1 h4 j (List.mem_range.2 hj);dsimp only at this;rw [hx,hl] at this;simpa using this) (Region.free_spec ho h2) (Ahh h5) JO (.inl ⟨rfl,fun w' hw'=>hy.h a w' _ _ _ _ g hw'⟩) (fun p hp=>s.on p (hs.all p hp)) (h.h _ _ s (g.put hd))
end
theorem Ayh (fid:FuncId) (bd caps:List Value) (A:List Pc) (hA:A.all (fun p=>!p.mu)=true) (xs:List Av) (a:Option Addr) (c:Nat) (F:List Nat) (p:Av→Bool) (hb:Qi prog fid=true) (hl:xs.length≤1000000000)
  (hp:∀x∈xs,∀w,O2 A w→Calls prog fid (bd++[(.agg #[.int .i64 (x).Ct,.int .i64 (x).Af,.int .i64 (x).Ao,.int .i64 (x).Ff,.string (x).data]:Value)]++caps).toArray w fun e w'=>e=.returned (.bool (p x))∧Below w.heap.size w w') :
  Fn prog 336 [.slice a xs.length c,.func (.func fid) bd.toArray caps.toArray] (.sl Aj (.slice a xs.length c) xs F::A) [] (fun (_:Unit)=>True) (fun _=>.int .i64 (Qy p xs)) (fun _=>[]):=by
 refine enter func336 rfl ntmps336 (fun w0=>?_) rfl HD .nil;refine go ?_;intros;refine Ev [0,1,4,7] (fun k:Nat=>[(8,.int .i64 (k:Nat))]) (fun k=>k≤xs.length∧∀j (_:j < k) (hj:j < xs.length),p xs[j]=false) (fun k=>xs.length - k) 0 ⟨Nat.zero_le _,fun j h=>by omega⟩ fun k hk=>?_;obtain ⟨hk1,hk2⟩:=hk;refine go ?_;intros;refine Be rfl (fun h5=>?_) (fun h5=>?_)
 ·have hh:k < xs.length:=by omega
  refine go ?_;intros;refine Qh (xs:=xs) k ?_;rintro hi b o e sz;rw [e];refine go ?_;intros;apply wO;refine Aab rfl rfl hb Tw ?_;refine cb (fun w st=>hp xs[k] (List.getElem_mem hh) w (fun q hq=>st.on q HG)) ?_;cases hpk:p xs[k]
  ·refine go ?_;intros;refine Vb ?_;refine Cu (hH:=Kr _) (k+1) ⟨hh,fun j hj h=>?_⟩ GJ;rcases Nat.lt_or_eq_of_le (Nat.lt_succ_iff.1 hj) with h2|rfl
   ·exact hk2 j h2 h
   ·exact hpk
  ·exact FI
 ·obtain rfl:k=xs.length:=by omega
  exact BP
theorem Apn (fid:FuncId) (bd caps:List Value) (A:List Pc) (hA:A.all (fun p=>!p.mu)=true) (xs:List Av) (a:Option Addr) (c:Nat) (F:List Nat) (p:Av→Bool) (hb:Qi prog fid=true) (hl:xs.length≤1000000000)
  (hp:∀x∈xs,∀w,O2 A w→Calls prog fid (bd++[(.agg #[.int .i64 (x).Ct,.int .i64 (x).Af,.int .i64 (x).Ao,.int .i64 (x).Ff,.string (x).data]:Value)]++caps).toArray w fun e w'=>e=.returned (.bool (p x))∧Below w.heap.size w w') :
  Fn prog 294 [.slice a xs.length c,.func (.func fid) bd.toArray caps.toArray] (.sl Aj (.slice a xs.length c) xs F::A) [] (fun (_:Unit)=>True) (fun _=>.bool (xs.any p)) (fun _=>[]):=by
 refine enter func294 rfl ntmps294 (fun w0=>?_) rfl HD .nil;refine go ?_;intros;refine cb (fun w st=>(Ayh fid bd caps A hA xs a c F p hb hl hp).val w (fun q hq=>st.on q (by simpa using hq)) HD) ?_;refine go ?_;intros;refine ret () trivial ?_;rw [Rz];rfl
theorem Ayl (r:A9) (p:Av) (d:Int) (g t o:Nat) (A B:List Value) (a1:Option Addr) (c1:Nat) (F1:List Nat) (a2:Option Addr) (c2:Nat) (F2:List Nat) (hg:Lq r) (hp:By p=true) (d0:1≤d) (d1:d≤8) :
  Fn prog 229 [Hm g o 0,.agg #[.int .i64 p.Ct,.int .i64 p.Af,.int .i64 p.Ao,.int .i64 p.Ff,.string p.data],.int .i64 d] [] [.row g t o A [.bool r.Bd,.int .i64 r.Ai,.int .i64 (r.Ab).next,.slice a1 (r.Ab).Ap.length c1,.slice a2 (r.Am).length c2] B,.ow Cm 196 (.slice a1 (r.Ab).Ap.length c1) (r.Ab).Ap F1,.ow Ax 166 (.slice a2 (r.Am).length c2) (r.Am) F2] (fun (_:NwS)=>True)
   (fun s=>.slice s.ae (Hx r p).length s.ce) (fun s=>[.row g t o A [.bool (Dc r p d).Bd,.int .i64 (Dc r p d).Ai,.int .i64 ((Dc r p d).Ab).next,.slice s.a1 ((Dc r p d).Ab).Ap.length s.c1,.slice s.a2 ((Dc r p d).Am).length s.c2] B,.ow Cm 196 (.slice s.a1 ((Dc r p d).Ab).Ap.length s.c1) ((Dc r p d).Ab).Ap s.F1,.ow Ax 166 (.slice s.a2 ((Dc r p d).Am).length s.c2) ((Dc r p d).Am) s.F2,.ow A8 9 (.slice s.ae (Hx r p).length s.ce) (Hx r p) s.Fe]):=by
 have k0:=hg.k0;have k1:=hg.k1;obtain ⟨-,q1,q2, -⟩:=C9.1 hg.q;obtain ⟨n0,n1⟩:=Jz hp;refine enter func229 rfl ntmps229 fun w0=>?_;refine go ?_;intros;by_cases hk1:p.Ct=1
 ·rw [decide_eq_true hk1];rw [show Dc r p d=Kj r p d by unfold Dc Lm;simp [hk1],show Hx r p=Ma r p by unfold Hx Lm;simp [hk1]];exact BF
 rw [decide_eq_false hk1];refine go ?_;intros;by_cases hk2:p.Ct=2
 ·rw [decide_eq_true hk2];rw [show Dc r p d=Kj r p d by unfold Dc Lm;simp [hk2],show Hx r p=Ma r p by unfold Hx Lm;simp [hk2]];exact BF
 rw [decide_eq_false hk2];refine go ?_;intros;by_cases hk5:p.Ct=5
 ·rw [decide_eq_true hk5];rw [show Dc r p d=Kj r p d by unfold Dc Lm;simp [hk5],show Hx r p=Ma r p by unfold Hx Lm;simp [hk5]];exact BF
 rw [decide_eq_false hk5];refine go ?_;intros;refine Br A8 9 ?_;have eE:Hx r p=[]:=by unfold Hx Lm;simp [hk1,hk2,hk5]
 by_cases hk4:p.Ct=4
 ·rw [decide_eq_true hk4];cases hs:r.Bd
  ·rw [show Dc r p d=r by unfold Dc Lm;simp [hk1,hk2,hk5,hs],eE,hs];exact EX
  ·rw [show Dc r p d=Ak7 r p by unfold Dc Lm;simp [hk4,hs],eE,show (Ak7 r p).Bd=true from hs];refine go ?_;intros;refine At [0,1,2] [0,18,19,20,21,22] ?_;refine dtp 0 ?_;refine dtl 1 ?_;refine dtl 2 ?_;refine dtl 3 ?_;refine dtl 4 ?_;refine dtl 5 ?_;refine dtl 6 ?_;refine dtl 7 ?_;refine dtl 8 ?_;refine dtl 9 ?_;refine dtl 10 ?_;refine dtl 11 ?_;refine dtl 12 ?_;refine dtl 13 ?_;refine dtl 14 ?_;refine dtl 15 ?_;refine dN 16 ?_;refine oC ?_
   refine cfr (fun w st=>by obtain ⟨Fq, -,hq9⟩:=(st.get (p:=.ow Ax 166 (.slice a2 r.Am.length c2) r.Am F2) GL).2.read;exact ⟨[.sl Ax (.slice a2 r.Am.length c2) r.Am Fq],I9 ⟨GM,hq9⟩,rfl,Aaz r.Am r.Ab.next p.Af r.Ai a2 c2 Fq hg.q (Bb.2 ⟨n0,n1⟩) k0 k1⟩) (fun u _=>?_);refine dk ?_;refine dtl 17 ?_;refine dtp 18 ?_;refine dtp 19 ?_;refine dtp 20 ?_;refine dtp 21 ?_;refine dN 22 ?_;refine oS ?_;refine Rn ?_;refine dd ?_;exact EX
 rw [decide_eq_false hk4];rw [show Dc r p d=r by unfold Dc Lm;simp [hk1,hk2,hk5,hk4],eE];exact EX
structure HaS where
 k:Nat
 a1:Option Addr
 c1:Nat
 F1:List Nat
 a2:Option Addr
 c2:Nat
 F2:List Nat
 ae:Option Addr
 ce:Nat
 Fe:List Nat
section
variable {c:Cx} {fr:Fr} {H:List Pc} {Φ:Gl}
theorem Aih {v:Value} {x:Ja} {F:List Nat} (h:∀(a1:Option Addr) (c1:Nat) (F1:List Nat),v=.agg #[.int .i64 x.Af,.slice a1 x.Bm.length c1,.int .i64 x.Cg]→x.Bm.length≤maxLen→T c fr (.sl Bc (.slice a1 x.Bm.length c1) x.Bm F1::H) Φ) (hm:.isv Gb v x F∈H:=by exact Bp):T c fr H Φ:=.mk fun a w s g=>by
 obtain ⟨cs,rfl,v1,rfl,h1⟩:=s.get hm;obtain ⟨a1,c1,rfl⟩:=h1.slice;have l1:=h1.len;have t1:=s.ro (p:=.sl Bc (.slice a1 x.Bm.length c1) x.Bm F) hm rfl rfl ⟨GM,h1⟩ fun b hb=>hb;exact GI
theorem Y7 {v:Value} {x:Ja} {F:List Nat} {S:List Pc} (h:∀(a1:Option Addr) (c1:Nat) (F1:List Nat),v=.agg #[.int .i64 x.Af,.slice a1 x.Bm.length c1,.int .i64 x.Cg]→x.Bm.length≤maxLen→T c fr (.ow Bc 3 (.slice a1 x.Bm.length c1) x.Bm F1::S) Φ) (hp:Cz H (.own Ej v x F) S:=by exact Df):T c fr H Φ:=.mk fun a w s g=>by
 have z1:=s.pick hp;obtain ⟨hn,cs,rfl,v1,rfl,h1⟩:=z1.on (.own Ej v x F) GL;obtain ⟨a1,c1,rfl⟩:=h1.slice;have l1:=h1.len;refine (h a1 c1 F rfl  l1).h a w (St.turn (M:=[.own Ej (.agg #[.int .i64 x.Af,.slice a1 x.Bm.length c1,.int .i64 x.Cg]) x _]) (N:=[.ow Bc 3 (.slice a1 x.Bm.length c1) x.Bm F]) z1 (Dn.refl _ w) ?_ ?_ ?_) g
 ·intro q hq;simp at hq;subst hq;exact ⟨hn,h1⟩
 ·exact ⟨GL,trivial⟩
 ·intro q hq b hb;simp at hq;subst hq;exact CS
theorem Oi (x:Ja) {a1:Option Addr} {c1:Nat} {F1:List Nat} {S1:List Pc}  (h:T c fr (.own Ej (.agg #[.int .i64 x.Af,.slice a1 x.Bm.length c1,.int .i64 x.Cg]) x (F1)::S1) Φ) (m1:Cz H (.ow Bc 3 (.slice a1 x.Bm.length c1) x.Bm F1) S1:=by exact Df)  : T c fr H Φ:=.mk fun a w s g=>by
 have z1:St c.G c.D c.w0 ([.ow Bc 3 (.slice a1 x.Bm.length c1) x.Bm F1]++S1) w:=by simpa using (show Ex H [.ow Bc 3 (.slice a1 x.Bm.length c1) x.Bm F1] S1 from Ex.cons m1 (Ex.nil)).st (X:=[]) IB
 obtain ⟨n1,k1⟩:=z1.on (.ow Bc 3 (.slice a1 x.Bm.length c1) x.Bm F1) GL;have hN:=n1;refine h.h a w (St.turn (M:=[.ow Bc 3 (.slice a1 x.Bm.length c1) x.Bm F1]) (N:=[.own Ej (.agg #[.int .i64 x.Af,.slice a1 x.Bm.length c1,.int .i64 x.Cg]) x (F1)]) z1 (Dn.refl _ w) (by intro q hq;simp at hq;subst hq;exact ⟨hN,_,rfl,_,rfl,k1⟩) ⟨GL,trivial⟩ fun q hq b hb=>?_) g;simp at hq;subst hq;simp only [Pc.F,List.mem_append] at hb;exact CS
theorem Zq {a:Option Addr} {n cp:Nat} {xs:List Ja} {F:List Nat} (i:Nat) (h:∀(hi:i < xs.length) (b o:Nat) (a1:Option Addr) (c1:Nat) (F1:List Nat),a=some ⟨b,o,none⟩→xs[i].Bm.length≤maxLen→T c fr (.cel b (o+i * 3) [.int .i64 xs[i].Af,.slice a1 xs[i].Bm.length c1,.int .i64 xs[i].Cg]::.sl Bc (.slice a1 xs[i].Bm.length c1) xs[i].Bm F1::H) Φ) (hm:.sl Gb (.slice a n cp) xs F∈H:=by exact Bp) (hi:i < xs.length:=by omega):T c fr H Φ:=.mk fun ac w s g=>by
 obtain ⟨b,o,cs,G,ha,hrep,hG,hb,hne,hr⟩:=Wv (s.get hm) i hi;obtain ⟨v1,rfl,h1⟩:=hrep;obtain ⟨a1,c1,rfl⟩:=h1.slice;have l1:=h1.len;have t1:=s.ro (p:=.sl Bc (.slice a1 xs[i].Bm.length c1) xs[i].Bm G) hm rfl rfl ⟨GM,h1⟩ HJ;exact ED
end
structure EcS where
 k:Nat
 a:Option Addr
 c:Nat
 F:List Nat
theorem Az9 {α:Type} {O:Bx α} {P:Program} {f:FuncId} {args:List Value} {x:α} {A:List Pc} (h:Fn P f args A [] (fun (_:Value × List Nat)=>True) (fun z=>z.1) (fun z=>[.own O z.1 x z.2])) (hA:A.all (fun p=>!p.mu)=true) {w:World} (hH:O2 A w):Calls P f args.toArray w (Anm O x w):=by
 refine (h.made w hH (fun _=>rfl) hA).mono ?_;rintro e w' ⟨z, -,he,hh,hn,hF,hB⟩;obtain ⟨h1,h2⟩:=hh (.own O z.1 x z.2) GL;exact ⟨z.1,z.2,he,h2,h1,fun b hb=>hF b (by simpa [fp,Pc.F,Pc.mu] using hb),hB⟩
theorem Ase (v:Value) (e:Bl) (F:List Nat) (hm:e.Ah.length≤4294967296) (hm2:∀x∈e.Ah,x.Bm.length≤4294967296):Fn prog 78 [v] [.isv Bt v e F] [] (fun (_:Value × List Nat)=>True) (fun z=>z.1) (fun z=>[.own Bj z.1 e z.2]):=by
 refine enter func78 rfl ntmps78 fun w0=>?_;refine Ig ?_;rintro a1 c1 F1 rfl l1;refine Br Ej 162 ?_;refine go ?_;intros;rename_i g;refine Ck [1,2,3] (fun y:EcS=>[(4,.int .i64 (y.k:Nat))]) (fun y=>[.row g 110 0 [] [.int .i64 e.Ai,.slice y.a (e.Ah.take y.k).length y.c] [],.ow Ej 162 (.slice y.a (e.Ah.take y.k).length y.c) (e.Ah.take y.k) y.F]) (fun y=>y.k≤e.Ah.length) (fun y=>e.Ah.length - y.k) ⟨0,none,0,[]⟩ (Nat.zero_le _) fun y hy0=>?_;obtain ⟨k,ya,yc,yF⟩:=y;dsimp only at hy0 ⊢;have htk:(e.Ah.take k).length=k:=by rw [List.length_take];omega
 refine go ?_;intros;refine Be rfl (fun h1=>?_) (fun h1=>?_)
 ·have hk:k < e.Ah.length:=by omega
  have hfl:=hm2 _ (List.getElem_mem hk);refine Zq (xs:=e.Ah) k ?_;rintro hi b8 o8 a8 c8 F8 e8 l8;rw [e8];refine go ?_;intros;refine At [0,3] [13] ?_;refine Dk 0 1 2 3 ?_;refine Dk 4 5 7 8 ?_;refine dN 6 ?_;refine oC ?_;refine cn (fun w st=>Xi _ e.Ah[k].Bm F8 w (st.get (p:=.sl Bc (.slice a8 e.Ah[k].Bm.length c8) e.Ah[k].Bm F8) GO).2 GJ) fun a9 c9 F9=>?_;refine Oi e.Ah[k] ?_;refine dk ?_;refine dt 9 ?_;refine dN 10 ?_;apply Km;rfl;rfl;rfl;rfl;exact Ke;exact Jy;intro _;refine dk ?_;refine dN 11 ?_;refine Aa4 Sg e.Ah[k] rfl fun x4 d4 G4=>?_;refine dk ?_;refine dt 12 ?_
  refine dN 13 ?_;refine oS ?_;refine Rn ?_;refine dd ?_;rw [←List.take_succ_eq_append_getElem hk];refine go ?_;intros;refine Cu ⟨k+1,x4,d4,G4⟩ hk (by show e.Ah.length - (k+1) < e.Ah.length - k;omega)
 ·rw [show e.Ah.take k=e.Ah from List.take_of_length_le GJ];refine go ?_;intros;refine Gk e ?_;exact FD
theorem Wk (v:Value) (e:Bl) (F:List Nat) (w:World) (h:N0 Bt w v e F) (hm:e.Ah.length≤4294967296) (hm2:∀x∈e.Ah,x.Bm.length≤4294967296):Calls prog 78 #[v] w (Anm Bj e w):=Az9 (Ase v e F hm hm2) rfl (I9 h)
def E4 (e:Bl):Bl:=⟨e.Ai+1,e.Ah.filter fun x=>!decide (x.Cg≤e.Ai+1)⟩
theorem Sl.headIn {α:Type} {E:Bx α} {w:World} {b off n cap:Nat} {xs:List α} {F} (h:Sl E w (.slice (some ⟨b,off,none⟩) n cap) xs F) (k:Nat) (hk:k < xs.length):b∈F:=by
 obtain ⟨a',cap',hv,hl,h⟩:=h;cases hv;rcases h with ⟨rfl,_⟩|⟨b,off,F',he,_,rfl,hc⟩
 ·simp at hk
 ·cases he;simp
theorem Asf (v:Value) (e:Bl) (F:List Nat) (w:World) (h:N0 Bt w v e F) (hc:J3 e.Ai=true) (hm:e.Ah.length≤4294967296) (hm2:∀x∈e.Ah,x.Bm.length≤4294967296) :
  Calls prog 193 #[v] w (Bdu Bt (E4 e) w):=by
 have hcb:=Nr.1 hc;have hm2:=Lib.hid hm2;have h0:=h;obtain ⟨_,rfl,v1,rfl,h1⟩:=h;obtain ⟨a,cap,rfl⟩:=h1.slice;have hB0:∀A B:Obj,Below w.heap.size w ((w.alloc A).alloc B):=fun A B=>((Below.refl _ _).alloc (Nat.le_refl _) _).alloc GL _
 go_enter func193,ntmps193
 go_wp2_with fail;refine (Wk _ e F _ (h0.below (hB0 _ _)) hm hm2.out).mono ?_;rintro e' w1 ⟨_,Fo,rfl,⟨_,rfl,v2,rfl,ho⟩,hn,hFo,hb1⟩;obtain ⟨a2,cap2,rfl⟩:=ho.slice;have r0:=Ha.below (g:=w.heap.size) (t:=110) (cs:=[.int .i64 e.Ai,.slice a e.Ah.length cap]) HN hb1;have r1:=Ha.below (g:=w.heap.size+1) (t:=110) (cs:=[.int .i64 0,.slice none 0 0]) HN hb1;obtain ⟨Fr,hFr,hs⟩:=ho.sl P5;have hFl:=ho.lt;have hB:=tr (hB0 _ _) hb1 (Nat.le_refl _);have d0:=fun A=>(r0.alloc A).cells;have c0:=r0.cells;clear hb1;go_wp2_with fail
 go_loopw [5] (fun i wr=>∃k:Nat,k≤e.Ah.length∧i=.int .i64 k∧∃oa oc F,Hid (Ow Gb 162 wr (.slice oa ((e.Ah.take k).filter fun x=>!decide (x.Cg≤e.Ai+1)).length oc) ((e.Ah.take k).filter fun x=>!decide (x.Cg≤e.Ai+1)) F)∧Hd F∧(∀b,oa=some b→w1.heap.size+1+1≤b.block)∧(∀c∈F,w.heap.size+2≤c∧c≠w1.heap.size∧c≠w1.heap.size+1) ∧
  Ha wr (w.heap.size+1) 110 [.int .i64 0,.slice none 0 0]∧Ha wr w1.heap.size 110 [.int .i64 e.Ai,.slice a2 e.Ah.length cap2]∧Ha wr (w1.heap.size+1) 110 [.int .i64 (e.Ai+1),.slice oa ((e.Ah.take k).filter fun x=>!decide (x.Cg≤e.Ai+1)).length oc]∧Below w1.heap.size w1 wr) (fun i _=>e.Ah.length - (intOf i).toNat)
 case atStart=>exact ⟨0,Nat.zero_le _,rfl,none,0,[],Lib.hid (.inl ⟨rfl,GL,rfl⟩),Hd.nil,GL,GL,(r1.alloc _).alloc _,JP,JP,((Below.refl _ _).alloc (Nat.le_refl _) _).alloc GL _⟩
 case round =>
  obtain ⟨k,hk,rfl,oa,oc,F2,hO,hd2,hoa,hF2,hr1,hr2,hr3,hB2⟩:=hrel;have c1:=hr2.cells;have c2:=hr3.cells;have c4:=hr1.cells;have f4:=hr1.frozens;by_cases hlt:k < e.Ah.length
  ·obtain ⟨b,off,_,F1,rfl,hx,hFx,ja⟩:=(hs.below GM hB2).at k hlt;obtain ⟨u1,rfl,hf⟩:=id hx;obtain ⟨fa,fc,rfl⟩:=hf.slice;have a0:=ja 0 GM;have a1:=ja 1 GM;have a2:=ja 2 GM;simp only [show Gb.sz=3 from rfl,Nat.add_zero,List.getElem?_cons_zero,List.getElem?_cons_succ] at a0 a1 a2;clear ja;by_cases hq:e.Ah[k].Cg > e.Ai+1
   ·have hqf:=Lib.hid (Gm (q:=fun x:Ja=>!decide (x.Cg≤e.Ai+1)) hlt GU);generalize hys:((e.Ah.take k).filter fun x=>!decide (x.Cg≤e.Ai+1))=ys at *;have hys:=Lib.hid hys;go_wp2_with fail
    go_quiet (fail)
    go_wp2_with fail;have D1:=show Ha (wr.drewN nq) _ _ _ from hr1;have D2:=show Ha (wr.drewN nq) _ _ _ from hr2;have D3:=show Ha (wr.drewN nq) _ _ _ from hr3;have DO:=Lib.hid (show Ow Gb 162 (wr.drewN nq) _ _ _ from hO.out.frame fun _ _=>rfl);have DX:Gb.Lo (wr.drewN nq) _ _ _:=Gb.frame hx fun _ _=>rfl;have DB:=Dl hB2 nq;have b0:(wr.drewN nq).cell? ⟨b,off+k * 3,none⟩=_:=a0;have b1:(wr.drewN nq).cell? ⟨b,off+k * 3+1,none⟩=_:=a1;have b2:(wr.drewN nq).cell? ⟨b,off+k * 3+2,none⟩=_:=a2;clear hr1 hr2 hr3 hO hx hf hB2 a0 a1 a2 c1 c2 c4 f4;generalize wr.drewN nq=w2 at *
    have hbb:=World.block_lt_of_cell? w2 _ b0;simp only at hbb;have DBs:=DB.size;have t3:=fun A=>(D3.alloc A).cells 1;have t0:=D3.cells 1;have o0:=D2.cells 1;simp only [List.getElem?_cons_zero,List.getElem?_cons_succ] at t3 t0 o0;have hyl:ys.length≤4294967295:=by have:=congrArg List.length hys.out;have:=List.length_filter_le (fun x:Ja=>!decide (x.Cg≤e.Ai+1)) (e.Ah.take k);simp at this;omega
    have hA:=(Below.refl w2.heap.size w2).alloc (Nat.le_refl _) (.cells #[.int .i64 e.Ah[k].Af,.slice fa e.Ah[k].Bm.length fc,.int .i64 e.Ah[k].Cg] 162);have DOd:=Lib.hid ((DO.out.below hA).frame (w':=(w2.alloc (.cells #[.int .i64 e.Ah[k].Af,.slice fa e.Ah[k].Bm.length fc,.int .i64 e.Ah[k].Cg] 162)).drew) fun _ _=>rfl);have DXd:=Gb.frame (w':=(w2.alloc (.cells #[.int .i64 e.Ah[k].Af,.slice fa e.Ah[k].Bm.length fc,.int .i64 e.Ah[k].Cg] 162)).drew) (Gb.below DX hA) fun _ _=>rfl
    have E0':=kc hA o0;have E0:(w2.alloc (.cells #[.int .i64 e.Ah[k].Af,.slice fa e.Ah[k].Bm.length fc,.int .i64 e.Ah[k].Cg] 162)).drew.cell? _=_:=E0';have E1':=kc hA b0;have E1:(w2.alloc (.cells #[.int .i64 e.Ah[k].Af,.slice fa e.Ah[k].Bm.length fc,.int .i64 e.Ah[k].Cg] 162)).drew.cell? _=_:=E1';have E2':=kc hA b1;have E2:(w2.alloc (.cells #[.int .i64 e.Ah[k].Af,.slice fa e.Ah[k].Bm.length fc,.int .i64 e.Ah[k].Cg] 162)).drew.cell? _=_:=E2';have E3':=kc hA b2;have E3:(w2.alloc (.cells #[.int .i64 e.Ah[k].Af,.slice fa e.Ah[k].Bm.length fc,.int .i64 e.Ah[k].Cg] 162)).drew.cell? _=_:=E3'
    have nob:∀c∈(Value.slice oa ys.length oc).ownBlock.toList,w1.heap.size+1+1≤c:=fun c hc=>by
     cases oa with
     | none=>simp [Value.ownBlock] at hc
     | some b=>simp [Value.ownBlock] at hc;subst hc;exact hoa b rfl
    have D3a:=show Ha (w2.alloc (.cells #[.int .i64 e.Ah[k].Af,.slice fa e.Ah[k].Bm.length fc,.int .i64 e.Ah[k].Cg] 162)).drew _ _ _ from D3.alloc (.cells #[.int .i64 e.Ah[k].Af,.slice fa e.Ah[k].Bm.length fc,.int .i64 e.Ah[k].Cg] 162);have hFs:∀c∈F1,c < w1.heap.size:=fun c hc=>hs.lt GM c (hFx c hc);have hbw:b < w1.heap.size:=hs.lt GM b (hs.headIn k hlt);have hn1:¬b=w1.heap.size+1:=by omega
    have hn2:¬w1.heap.size+1=b:=by omega
    go_region_law (first|((refine Amy Afo GM GV _ _ _ GV 162 (.agg #[.int .i64 0,.slice none 0 0,.int .i64 0]) 40 underlying108 Yy rfl (.slice oa ys.length oc) ys F2 GV DOd.out hd2 (some ⟨w2.heap.size,0,none⟩) [e.Ah[k]] 1 GV [.int .i64 e.Ah[k].Af,.slice fa e.Ah[k].Bm.length fc,.int .i64 e.Ah[k].Cg] F1 (Cw.one DXd) (.inr ⟨_,rfl,World.news_of_block (w:=(w2.alloc (.cells #[.int .i64 e.Ah[k].Af,.slice fa e.Ah[k].Bm.length fc,.int .i64 e.Ah[k].Cg] 162)).drew) (heap_alloc_new w2 _)⟩) (fun c hc he=>by have h1:=nob c (by rw [he];simp);have h2:=hFs c hc;omega) (by unfold maxLen;simp;omega) GU ?_);intro v4 w4 F4 hA4;obtain ⟨oa2,oc2,rfl⟩:=hA4.val;have D4:=D3a.keepK hA4.Ap7 (fun hm=>by have:=nob _ hm;omega);have t4:=D4.cells 1;have f4:=D4.frozens 1;simp only [List.getElem?_cons_zero,List.getElem?_cons_succ] at t4))
    all_goals
     have hn4:w1.heap.size+1 ∉ F4:=fun hm=>by
      rcases hA4.mem _ hm with h|h|h
      ·exact (hF2 _ h).2.2 rfl
      ·have:=hFs _ h;omega
      ·have:=D3.lt;simp at h;omega
     have P1:=Lib.hid (hA4.ow.setFar (p:=⟨w1.heap.size+1,1,none⟩) hn4 (.slice oa2 (ys.length+1) oc2));have L1:=((show Ha (w2.alloc (.cells #[.int .i64 e.Ah[k].Af,.slice fa e.Ah[k].Bm.length fc,.int .i64 e.Ah[k].Cg] 162)).drew _ _ _ from D1.alloc (.cells #[.int .i64 e.Ah[k].Af,.slice fa e.Ah[k].Bm.length fc,.int .i64 e.Ah[k].Cg] 162)).keepK hA4.Ap7 (fun hm=>by have:=nob _ hm;have:=r1.lt;omega)).setOther (p:=⟨w1.heap.size+1,1,none⟩) (by have:=r1.lt;simp;omega) (.slice oa2 (ys.length+1) oc2)
     have L2:=((show Ha (w2.alloc (.cells #[.int .i64 e.Ah[k].Af,.slice fa e.Ah[k].Bm.length fc,.int .i64 e.Ah[k].Cg] 162)).drew _ _ _ from D2.alloc (.cells #[.int .i64 e.Ah[k].Af,.slice fa e.Ah[k].Bm.length fc,.int .i64 e.Ah[k].Cg] 162)).keepK hA4.Ap7 (fun hm=>by have:=nob _ hm;omega)).setOther (p:=⟨w1.heap.size+1,1,none⟩) GL (.slice oa2 (ys.length+1) oc2);have L3:=D4.set 1 (.slice oa2 (ys.length+1) oc2);have hoa2:∀b,oa2=some b→w1.heap.size+1+1≤b.block:=fun c hc=>by
      subst hc;rcases hA4.Ao1 with h|h
      ·simp only [Value.ownBlock] at h;exact nob _ (by cases oa <;> simp_all [Value.ownBlock])
      ·simp [Value.ownBlock] at h;have:=D3.lt;omega
     have hF4:∀c∈F4,w.heap.size+2≤c∧c≠w1.heap.size∧c≠w1.heap.size+1:=fun c hc=>by
      have hs3:=D3.lt;have hsw:=r1.lt;rcases hA4.mem _ hc with h|h|h
      ·exact hF2 _ h
      ·have h1:=hFs _ h;have h2:w.heap.size+2≤c:=(by simpa using hFo c (hFr c (hFx c h)));exact ⟨h2,GJ,GJ⟩
      ·simp at h;exact ⟨GJ,GJ,GJ⟩
     have hB5:Below w1.heap.size w1 (w4.setCell ⟨w1.heap.size+1,1,none⟩ (.slice oa2 (ys.length+1) oc2)) :=
      Below.setCell ((Dl (tr DB hA (Nat.le_refl _)) 1).trans (hA4.Ap7.below GU (fun b hb=>by have:=nob b hb;omega))) GL _
     have hd4:=hA4.hd;clear hA4 D1 D2 D3 D4;go_wp2_with fail;exact ⟨⟨k+1,GJ,HZ,oa2,oc2,F4,by rw [hqf.out,List.length_append];exact P1,hd4,hoa2,hF4,L1,L2,by rw [hqf.out,List.length_append];exact L3,hB5⟩,HA⟩
   ·have hqf:=Lib.hid (C2 (q:=fun x:Ja=>!decide (x.Cg≤e.Ai+1)) hlt GU);generalize hys:((e.Ah.take k).filter fun x=>!decide (x.Cg≤e.Ai+1))=ys at *;have hys:=Lib.hid hys;go_wp2_with fail
    go_quiet (fail)
    go_wp2_with fail;refine ⟨⟨k+1,GJ,HZ,oa,oc,F2,?_,hd2,hoa,hF2,hr1,hr2,?_,Dl hB2 _⟩,HA⟩
    ·rw [hqf.out];exact Lib.hid (hO.out.frame fun _ _=>rfl)
    ·rw [hqf.out];exact hr3
  ·have hk:k=e.Ah.length:=by omega
   subst hk;simp only [List.take_length] at hO hr3 c2;obtain ⟨F3,hF3,hs3⟩:=hO.out.read;have hB3:=tr hB hB2 (Nat.le_refl _);go_wp2_with fail;refine bodyPost_ret (v:=.agg #[.int .i64 (e.Ai+1),.slice oa (e.Ah.filter fun x=>!decide (x.Cg≤e.Ai+1)).length oc]) ?_ rfl ?_
   ·simp [results,results193,go_sem,c4,c2,f4]
   ·refine ⟨_,F3,rfl,⟨_,rfl,_,rfl,?_⟩,fun b hb=>by have:=(hF2 b (hF3 b hb)).1;omega,?_⟩
    ·refine hs3.frame fun b hb=>?_;have h2:=(hF2 b (hF3 b hb)).1;rw [Below.heap_setCell _ _ _ _ GU,Below.heap_setCell _ _ _ _ GU]
    ·repeat refine Below.setCell ?_ HI _
     exact hB3
theorem Aox {lo hi:Int} {zs:List Int} (h:P3 lo hi zs=true):(zs.length:Int)≤hi - lo+1∨zs=[]:=by
 by_cases h0:zs=[]
 ·exact .inr h0
 ·left;have key:∀i (hi':i < zs.length),lo+i≤zs[i]∧zs[i]≤hi:=by
   intro i
   induction i with
   | zero =>
    intro hi';have:=I4 h 0 hi';rw [U6 hi'] at this;simp [Eu] at this;exact GF
   | succ i ih =>
    intro hi';have:=I4 h (i+1) hi';rw [Sj hi'] at this;have:=ih GJ;simp [Eu] at *;omega
  have hp:=List.length_pos_iff.2 h0;have:=key (zs.length - 1) GJ;omega
theorem Ty {e:Bl} (h:Ba e=true):J3 e.Ai=true∧e.Ah.length≤5∧∀x∈e.Ah,x.Bm.length≤7:=by
 unfold Ba at h;simp only [Bool.and_eq_true,decide_eq_true_eq] at h;refine ⟨h.1.1,h.1.2,fun x hx=>?_⟩;obtain ⟨i,hi,rfl⟩:=List.getElem_of_mem hx;have:=I4 h.2 i hi;rw [Jw hi] at this;simp [Kc] at this;rcases Aox this.1.2.2.1 with h|h
 ·omega
 ·rw [h];simp
def Kn (l:List Int) (n:Int):Nat:=(l.takeWhile fun x=>decide (x < n)).length
def Sr (l:List Int) (n:Int):List Int:=if l[Kn l n]?=some n then l else l.take (Kn l n)++n::l.drop (Kn l n)
def Kg (e:Bl) (n:Int):Nat:=e.Ah.findIdx fun x=>x.Af == n
def N1 (e:Bl) (n f:Int):Bl:=match e.Ah[Kg e n]? with
 | some x=>⟨e.Ai,e.Ah.set (Kg e n) ⟨x.Af,Sr x.Bm f,x.Cg⟩⟩
 | none=>if e.Ah.length < 5 then ⟨e.Ai,e.Ah++[⟨n,[f],e.Ai+6⟩]⟩ else e
def Abb (e:Bl) (n:Int):Bool:=!e.Ah.any fun x=>x.Af == n
def Ph (e:Bl) (n:Int):Bl:=match e.Ah[Kg e n]? with
 | some _=>⟨e.Ai,e.Ah.take (Kg e n)++e.Ah.drop (Kg e n+1)⟩
 | none=>e
def Tx (e:Bl) (n:Int) (below:List Int):List Int:=match e.Ah[Kg e n]? with
 | some x=>x.Bm.filter fun f=>decide (f∈below)
 | none=>if e.Ah.length=5 then below else []
theorem Ql (e:Bl) (n:Int):(∃(h:Kg e n < e.Ah.length),Qy (fun x=>x.Af == n) e.Ah=(Kg e n:Nat)∧e.Ah[Kg e n].Af=n∧Abb e n=false)∨(Qy (fun x=>x.Af == n) e.Ah=-1∧e.Ah[Kg e n]?=none∧Abb e n=true∧∀x∈e.Ah,x.Af≠n):=by
 cases h:e.Ah.any fun x=>x.Af == n
 ·right;have h':=List.any_eq_false.1 h;refine ⟨by unfold Qy;rw [h];rfl,?_,by simp [Abb,h],fun x hx=>by have:=h' x hx;simpa using this⟩;have:Kg e n=e.Ah.length:=List.findIdx_eq_length.2 (fun x hx=>by have:=h' x hx;simpa using this);rw [this];simp
 ·left;have h2:Kg e n < e.Ah.length:=by
   obtain ⟨x,hx,hp⟩:=List.any_eq_true.1 h;exact List.findIdx_lt_length_of_exists ⟨x,hx,hp⟩
  refine ⟨h2,by unfold Qy;rw [h];rfl,?_,by simp [Abb,h]⟩;have:(e.Ah[Kg e n].Af == n)=true:=List.findIdx_getElem (p:=fun x:Ja=>x.Af == n) (xs:=e.Ah) (w:=h2);exact GF
theorem Xp {lo hi:Int} {zs:List Int} (h:P3 lo hi zs=true):zs.Pairwise (· < ·)∧∀z∈zs,lo≤z∧z≤hi:=by
 have hb:∀i (hi':i < zs.length),lo≤zs[i]∧zs[i]≤hi:=fun i hi'=>by
  have:=I4 h i hi';unfold Ac6 Eu at this;simp only [Bool.and_eq_true,decide_eq_true_eq] at this;rw [List.getD_eq_getElem?_getD,List.getElem?_eq_getElem hi'] at this;simpa using this.1
 refine ⟨?_,fun z hz=>by obtain ⟨i,hi',rfl⟩:=List.getElem_of_mem hz;exact hb i hi'⟩;have step:∀i (hi:i+1 < zs.length),zs[i] < zs[i+1]:=fun i hi'=>by
  have:=I4 h (i+1) hi';rw [Sj hi'] at this;simp only [Bool.and_eq_true,decide_eq_true_eq] at this;exact this.2
 refine List.pairwise_iff_getElem.2 fun i j hi' hj hij=>?_;obtain ⟨d,rfl⟩:∃d,j=i+1+d:=⟨j - i - 1,GJ⟩;clear hij
 induction d with
 | zero=>exact step i hj
 | succ d ih=>exact Int.lt_trans (ih GJ) (step (i+1+d) hj)
theorem Ain {lo hi:Int} {zs:List Int} (h1:zs.Pairwise (· < ·)) (h2:∀z∈zs,lo≤z∧z≤hi):P3 lo hi zs=true:=by
 unfold P3;refine Kw fun i hi'=>?_;have hb:=h2 zs[i] (List.getElem_mem hi');cases i with
 | zero=>rw [U6 hi'];simp [Eu,hb]
 | succ i =>
  rw [Sj hi'];have:=List.pairwise_iff_getElem.1 h1 i (i+1) GJ hi' GJ;simp [Eu,hb,this]
theorem Awm:∀{a b:List Int},a.Pairwise (· < ·)→b.Pairwise (· < ·)→(∀x,x∈a↔x∈b)→a=b
 | [],[],_,_,_=>rfl
 | [],y::b,_,_,h=>absurd ((h y).2 GL) GL
 | x::a,[],_,_,h=>absurd ((h x).1 GL) GL
 | x::a,y::b,h1,h2,h=>by
  have a1:=List.pairwise_cons.1 h1;have b1:=List.pairwise_cons.1 h2;have e:x=y:=by
   rcases List.mem_cons.1 ((h x).1 GL) with e|m
   ·exact e
   ·rcases List.mem_cons.1 ((h y).2 GL) with e|m2
    ·exact e.symm
    ·have:=b1.1 x m;have:=a1.1 y m2;omega
  subst e
  congr 1
  refine Awm a1.2 b1.2 fun z=>⟨fun hz=>?_,fun hz=>?_⟩
  ·rcases List.mem_cons.1 ((h z).1 JH) with e|m
   ·have:=a1.1 z hz;omega
   ·exact m
  ·rcases List.mem_cons.1 ((h z).2 JH) with e|m
   ·have:=b1.1 z hz;omega
   ·exact m
theorem Alf {a b:List Int} (h1:a.Pairwise (· < ·)) (h2:b.Pairwise (· < ·)):(a.filter fun f=>decide (f∈b))=b.filter fun f=>decide (f∈a) :=
 Awm (h1.filter _) (h2.filter _) fun x=>by simp [and_comm]
theorem Ay5 (x:Ja) (gb:Nat) (n:Int) (u:Value) (G:List Nat):Fn prog 245 [u,Hm gb 0 0] [.isv Gb u x G,.cel gb 0 [.int .i64 n]] [] (fun (_:Unit)=>True) (fun _=>.bool (x.Af == n)) (fun _=>[]):=by
 refine enter func245 rfl ntmps245 fun w0=>?_;refine Aih ?_;rintro a1 c1 F1 rfl l1;exact FF
theorem Ai9 (e:Bl) (n:Int) (v:Value) (F:List Nat):Fn prog 181 [v,.int .i64 n] [.isv Bt v e F] [] (fun (_:Unit)=>True) (fun _=>.int .i64 (Qy (fun x=>x.Af == n) e.Ah)) (fun _=>[]):=by
 refine enter func181 rfl ntmps181 fun w0=>?_;refine Ig ?_;rintro a1 c1 F1 rfl l1;refine go ?_;intros;rename_i gb;refine cb (fun w st=>Qw _ (Uo GK) #[Hm gb 0 0] _ e.Ah _ (fun x=>x.Af == n) w (st.get (p:=.sl Gb (.slice a1 e.Ah.length c1) e.Ah F1) GL).2 (fun k hk wr u G hB hu=>(Ay5 e.Ah[k] gb n u G).val wr (Uv hu ⟨GL,Hz ((st.below hB).get (p:=.row gb 3 0 [] [.int .i64 n] []) GL)⟩))) ?_;exact AB
theorem Abk (e:Bl) (n:Int) (v:Value) (F:List Nat):Fn prog 145 [v,.int .i64 n] [.isv Bt v e F] [] (fun (_:Unit)=>True) (fun _=>.int .i64 (Qy (fun x=>x.Af == n) e.Ah)) (fun _=>[]):=by
 refine enter func145 rfl ntmps145 fun w0=>?_;refine Ig ?_;rintro a1 c1 F1 rfl l1;unfold maxLen at l1;refine go ?_;intros;refine Ev [1,2,4] (fun k:Nat=>[(5,.int .i64 (k:Nat))]) (fun k=>k≤e.Ah.length∧∀j (_:j < k) (hj:j < e.Ah.length),(e.Ah[j].Af == n)=false) (fun k=>e.Ah.length - k) 0 ⟨Nat.zero_le _,fun j h=>by omega⟩ fun k hk=>?_;obtain ⟨hk1,hk2⟩:=hk;refine go ?_;intros;refine Be rfl (fun h1=>?_) (fun h1=>?_)
 ·have hh:k < e.Ah.length:=by omega
  refine go ?_;intros;refine Zq (xs:=e.Ah) k ?_;rintro hi b o a3 c3 F3 e1 l3;rw [e1];refine go ?_;intros;refine Be rfl (fun h2=>?_) (fun h2=>?_)
  ·refine go ?_;intros;refine ret () trivial ?_;rw [N6 hh hk2 JC];rfl
  ·refine go ?_;intros;refine Cu (k+1) ⟨hh,fun j hj hl=>?_⟩ GJ;rcases Nat.lt_or_eq_of_le (Nat.lt_succ_iff.1 hj) with h|rfl
   ·exact hk2 j h hl
   ·simpa using h2
 ·obtain rfl:k=e.Ah.length:=by omega
  exact BP
theorem Azj (l:List Int) (n:Int) (a:Option Addr) (c:Nat) (F:List Nat):Fn prog 259 [.slice a l.length c,.int .i64 n] [.sl Bc (.slice a l.length c) l F] [] (fun (_:Unit)=>True) (fun _=>.bool (decide (n∈l))) (fun _=>[]):=by
 refine enter func259 rfl ntmps259 fun w0=>?_;refine Akg (xs:=l) ?_;rintro _ _ _ l2 l3;refine go ?_;intros;refine Ev [0,1,4] (fun k:Nat=>[(5,.int .i64 (k:Nat))]) (fun k=>k≤l.length∧n ∉ l.take k) (fun k=>l.length - k) 0 ⟨Nat.zero_le _,GL⟩ fun k hk=>?_;obtain ⟨hk1,hk2⟩:=hk;refine go ?_;intros;refine Be rfl (fun h1=>?_) (fun h1=>?_)
 ·have hh:k < l.length:=by omega
  refine go ?_;intros;refine Io (xs:=l) k ?_;rintro hi b o e1;rw [e1];refine go ?_;intros;refine Be rfl (fun h2=>?_) (fun h2=>?_)
  ·refine go ?_;intros;refine ret () trivial ?_;rw [decide_eq_true (h2▸List.getElem_mem hh:n∈l)];rfl
  ·refine go ?_;intros;refine Cu (k+1) ⟨hh,fun hm=>?_⟩ GJ;rw [List.take_add_one,List.getElem?_eq_getElem hh] at hm;rcases List.mem_append.1 hm with h|h
   ·exact hk2 h
   ·simp at h;exact h2 h.symm
 ·obtain rfl:k=l.length:=by omega
  rw [List.take_length] at hk2;refine go ?_;intros;refine ret () trivial ?_;rw [decide_eq_false hk2];rfl
theorem Bbt (n:Int):Fn prog 348 [.int .i64 n] [] [] (fun (_:Unit)=>True) (fun _=>.bool false) (fun _=>[]):=by
 refine enter func348 rfl ntmps348 fun w0=>?_;refine go ?_;intros;refine ret () trivial ?_;simp [Ss]
theorem Bcr (n:Int):Fn prog 332 [.int .i64 n] [] [] (fun (_:Unit)=>True) (fun _=>.bool false) (fun _=>[]):=by
 refine enter func332 rfl ntmps332 fun w0=>?_;refine go ?_;intros;refine ret () trivial ?_;simp [Ss]
theorem Ayx (a b:Int):Fn prog 331 [.int .i64 a,.int .i64 b] [] [] (fun (_:Unit)=>True) (fun _=>.bool (decide (a < b))) (fun _=>[]):=by
 refine enter func331 rfl ntmps331 fun w0=>?_;refine go ?_;intros;refine cf (Bbt a) fun _ _=>?_;refine Ar ?_;exact AB
def Aup (l:List Int) (n:Int):Bool:=decide (l[Kn l n]?=some n)
theorem Abv {l:List Int} {n:Int} {k:Nat} (h1:k≤l.length) (h2:∀j (_:j < k) (h:j < l.length),l[j] < n) (h3:∀h:k < l.length,¬l[k] < n):Kn l n=k:=W4 h1 (fun j hj h=>by simpa using h2 j hj h) (fun h=>by simpa using h3 h)
theorem Ayw (xs:List Int) (n:Int) (a:Option Addr) (c:Nat) (F:List Nat) (hs:xs.Pairwise (· < ·)) (hl:xs.length≤1000000):Fn prog 289 [.slice a xs.length c,.int .i64 n] [.sl Bc (.slice a xs.length c) xs F] [] (fun (_:Unit)=>True) (fun _=>.tuple #[.int .i64 (Kn xs n:Nat),.bool (Aup xs n)]) (fun _=>[]):=by
 have hm:=List.pairwise_iff_getElem.1 hs;refine enter func289 rfl ntmps289 fun w0=>?_;refine go ?_;intros;refine Ev [0,1,4,5,6] (fun s:Nat × Nat=>[(7,.int .i64 (s.1:Nat)),(8,.int .i64 (s.2:Nat))]) (fun s=>s.1≤s.2∧s.2≤xs.length∧(∀j (_:j < s.1) (h:j < xs.length),xs[j] < n)∧(∀j (_:s.2≤j) (h:j < xs.length),¬xs[j] < n)) (fun s=>s.2 - s.1) (0,xs.length) ⟨Nat.zero_le _,Nat.le_refl _,fun j h=>by omega,fun j h1 h2=>by omega⟩ fun s hs=>?_;obtain ⟨i,j⟩:=s;obtain ⟨h1,h2,h3,h4⟩:=hs;dsimp only at h1 h2 h3 h4 ⊢;refine go ?_;intros;refine Be rfl (fun h5=>?_) (fun h5=>?_)
 ·have hh:(i+j) / 2 < xs.length:=by omega
  have e2:((i:Int)+(j:Int)) / 2=(((i+j) / 2:Nat):Int):=by omega
  refine go ?_;intros;apply wO;apply oc;rfl;exact Apm rfl GJ GJ;refine go ?_;intros;apply wO;apply oc;rfl;exact Akn rfl;rw [e2];apply wO;apply oc;rfl;exact Agq rfl GJ GJ;generalize hq:(i+j) / 2=q at hh;refine go ?_;intros;refine Io (xs:=xs) q ?_;rintro hi b o e;rw [e];refine go ?_;intros;refine cf (Ayx _ _) fun _ _=>?_;refine Ar ?_;refine go ?_;intros;refine Be rfl (fun h6=>?_) (fun h6=>?_)
  ·refine go ?_;intros;refine Vb ?_;refine Cu (hH:=Kr _) (q+1,j) ⟨by show q+1≤j;omega,h2,fun k hk h=>?_,h4⟩ (by show j - (q+1) < j - i;omega);rcases Nat.lt_or_eq_of_le (Nat.lt_succ_iff.1 (show k < q+1 from hk)) with hk|rfl
   ·have:=hm k q h hh hk;omega
   ·exact h6
  ·refine go ?_;intros;refine Vb ?_;refine Cu (hH:=Kr _) (i,q) ⟨by show i≤q;omega,by show q≤xs.length;omega,h3,fun k hk h hn=>h6 ?_⟩ (by show q - i < j - i;omega);rcases Nat.lt_or_eq_of_le (show q≤k from hk) with hk|rfl
   ·have:=hm q k hh h hk;omega
   ·exact hn
 ·have hij:i=j:=by omega
  subst hij;have hk:Kn xs n=i:=Abv h2 h3 (fun h=>h4 i (Nat.le_refl _) h);unfold Aup;rw [hk];refine go ?_;intros;refine Dj rfl rfl (fun h6=>?_) (fun h6=>?_)
  ·have hh:i < xs.length:=by omega
   rw [List.getElem?_eq_getElem hh];refine go ?_;intros;refine Io (xs:=xs) i ?_;rintro hi b o e;rw [e];refine go ?_;intros;refine Dj rfl rfl (fun h7=>?_) (fun h7=>?_)
   ·refine go ?_;intros;refine ret () trivial ?_;rw [decide_eq_true (by simpa using h7)];rfl
   ·refine go ?_;intros;refine cf (Bcr _) fun _ _=>?_;refine Ar ?_;refine go ?_;intros;refine ret () trivial ?_;rw [decide_eq_false (by simpa using h7)];rfl
  ·refine go ?_;intros;refine ret () trivial ?_;rw [List.getElem?_eq_none GJ];rfl
theorem Bb7 (xs:List Int) (n:Int) (a:Option Addr) (c:Nat) (F:List Nat):Fn prog 95 [.slice a xs.length c,.int .i64 n] [.sl Bc (.slice a xs.length c) xs F] [] (fun (_:Unit)=>True) (fun _=>.int .i64 (Qy (fun x=>x == n) xs)) (fun _=>[]):=by
 refine enter func95 rfl ntmps95 fun w0=>?_;refine Akg (xs:=xs) ?_;rintro _ _ - l2 l3;refine go ?_;intros;refine Ev [0,1,4,7] (fun k:Nat=>[(8,.int .i64 (k:Nat))]) (fun k=>k≤xs.length∧∀j (_:j < k) (hj:j < xs.length),(xs[j] == n)=false) (fun k=>xs.length - k) 0 ⟨Nat.zero_le _,fun j h=>by omega⟩ fun k hk=>?_;obtain ⟨hk1,hk2⟩:=hk;refine go ?_;intros;refine Be rfl (fun h1=>?_) (fun h1=>?_)
 ·have hh:k < xs.length:=by omega
  refine go ?_;intros;refine Io (xs:=xs) k ?_;rintro hi b o e1;rw [e1];refine go ?_;intros;refine Be rfl (fun h2=>?_) (fun h2=>?_)
  ·refine go ?_;intros;refine ret () trivial ?_;rw [N6 hh hk2 (by simpa using h2.symm)];rfl
  ·refine go ?_;intros;refine Cu (k+1) ⟨hh,fun j hj hl=>?_⟩ GJ;rcases Nat.lt_or_eq_of_le (Nat.lt_succ_iff.1 hj) with h|rfl
   ·exact hk2 j h hl
   ·simpa using fun e=>h2 e.symm
 ·obtain rfl:k=xs.length:=by omega
  exact BP
theorem Ays (l:List Int) (n:Int):(l.any fun x=>x == n)=decide (n∈l):=by
 rw [Bool.eq_iff_iff,List.any_eq_true,decide_eq_true_eq];exact ⟨fun ⟨x,hx,h⟩=>by simp at h;exact h▸hx,fun h=>⟨n,h,GL⟩⟩
theorem Auv (xs:List Int) (n:Int) (a:Option Addr) (c:Nat) (F:List Nat):Fn prog 53 [.slice a xs.length c,.int .i64 n] [.sl Bc (.slice a xs.length c) xs F] [] (fun (_:Unit)=>True) (fun _=>.bool (decide (n∈xs))) (fun _=>[]):=by
 refine enter func53 rfl ntmps53 fun w0=>?_;refine go ?_;intros;refine cf (Bb7 xs n _ _ F) fun _ _=>?_;refine Ar ?_;refine go ?_;intros;refine ret () trivial ?_;rw [Rz,Ays];rfl
theorem Awr (y:Int) (w:World):Cw Bc w [.int .i64 y] [y] []:=⟨_,[],[],[],GL,GL,⟨rfl,rfl⟩,rfl,rfl⟩
theorem At6 (xs:List Int) (y:Int) (i:Nat) (a:Option Addr) (c vb:Nat) (F:List Nat) (hi:i≤xs.length) (hl:xs.length≤1000000) :
  Fn prog 290 [.slice a xs.length c,.int .i64 i,.slice (some ⟨vb,0,none⟩) 1 1] [] [.ow Bc 3 (.slice a xs.length c) xs F,.row vb 3 0 [] [.int .i64 y] []] (fun (_:Option Addr × Nat × List Nat)=>True)
   (fun z=>.slice z.1 (xs.take i++y::xs.drop i).length z.2.1) (fun z=>[.ow Bc 3 (.slice z.1 (xs.take i++y::xs.drop i).length z.2.1) (xs.take i++y::xs.drop i) z.2.2]):=by
 have hone:∀w':World,∀cs:List Value,Cw Bc w' cs xs []→∀u∈cs,u.oneCell'=true:=fun w' cs h=>h.one' C5;have hy:=Awr y;have h1y:∀u∈([.int .i64 y]:List Value),u.oneCell'=true:=by intro u hu;simp at hu;rcases hu with rfl|rfl|rfl|rfl <;> rfl
 refine enter func290 rfl ntmps290 fun w0=>?_;refine Axj (E:=Bc) fun hc1 hc2=>?_;refine go ?_;intros;apply wO;refine Ajz rfl rfl rfl rfl hi (fun _=>?_) hc1;refine go ?_;intros;refine Be rfl (fun h1=>?_) (fun h1=>?_)
 ·have hin:i=xs.length:=by omega
  subst hin;have e:xs.take xs.length++y::xs.drop xs.length=xs++[y]:=by simp
  refine go ?_;intros;apply wO;refine Oh hy C5 fun a2 c2 F2=>?_;rw [e];exact DA
 ·have hlt:i < xs.length:=by omega
  refine Akf (xs:=xs) Ea (by rintro rfl;simp at hlt) ?_;rintro g cs rest rfl - - - hcl hcr hfl;rw [show Bc.sz=1 from rfl] at hcl hcr;have h1c:=hone w0 cs (hfl w0);obtain ⟨A,B,hcs,hA,hB⟩:∃A B,cs=A++B∧A=cs.take (i * 1)∧B=cs.drop (i * 1):=⟨_,_,(List.take_append_drop _ _).symm,rfl,rfl⟩;have hAl:A.length=i * 1:=by rw [hA,List.length_take];omega
  have hBl:B.length=(xs.length - i) * 1:=by rw [hB,List.length_drop];omega
  have hins:∀w,Cw Bc w (A++[.int .i64 y]++B) (xs.take i++y::xs.drop i) []:=fun w=>by rw [hA,hB];exact (hfl w).insL (hy w) i hi
  have h1A:∀u∈A,u.oneCell'=true:=fun u hu=>h1c u IU;have h1B:∀u∈B,u.oneCell'=true:=fun u hu=>h1c u IU;have hlen:(xs.take i++y::xs.drop i).length=xs.length+1:=by simp;omega
  clear hA hB hfl hone;subst hcs;have eA:A=((A++B++rest).drop 0).take (i * 1):=by rw [List.drop_zero,List.append_assoc,List.take_left' hAl]
  have eB:B=((A++B++rest).drop (0+i * 1)).take ((xs.length - i) * 1):=by rw [Nat.zero_add,List.append_assoc,List.drop_left' hAl,List.take_left' hBl]
  rw [hlen];refine go ?_;intros;apply wO;apply oc;rfl;exact Apl rfl;refine go ?_;intros;refine Be rfl (fun h2=>?_) (fun h2=>?_)
  ·refine go ?_;intros;apply wO;apply oc;rfl;exact Og (i:=i) rfl rfl rfl GJ GJ;refine go ?_;intros;apply wO;refine Aol (k:=xs.length+1 - i) (olds:=A) rfl rfl rfl GJ (Ml (m:=i * 1) (.head _) eA) GJ GM GJ GJ GJ GJ fun g' cp' Z rest' h3 h4 h5 h6=>?_;rw [show i+(xs.length+1 - i)=xs.length+1 by omega] at h3 ⊢;obtain ⟨Z1,Z2,rfl,hZ1,hZ2⟩:∃Z1 Z2,Z=Z1++Z2∧Z1.length=1∧Z2.length=B.length:=⟨Z.take 1,Z.drop 1,(List.take_append_drop _ _).symm,HW,HX⟩;refine go ?_;intros
   apply wO;apply oc;rfl;exact Kb (i:=i) rfl rfl rfl GJ GJ GJ;refine go ?_;intros;apply wO;refine Vr (cs:=[.int .i64 y]) (L':=A++[.int .i64 y]++(Z2++rest')) rfl rfl rfl (Ml (L:=[.int .i64 y]) (o:=0) (m:=1) GO rfl) .here (Adh (M:=Z1) HE GJ (by simpa using hZ1)) (by show 1=min 1 (xs.length+1 - i) * 1;omega) GS h1y ?_;refine go ?_;intros;refine At [] [] ?_;refine Dk 0 1 2 3 ?_
   refine dt 4 ?_ (hy:=Kb (i:=i+1) rfl rfl GJ GJ GJ GJ);refine Dy 5 6 ?_;refine dt 7 ?_ (hy:=Kb (i:=i) rfl rfl GJ GJ GJ GJ);refine dN 8 ?_;refine Vr (cs:=B) (L':=A++[.int .i64 y]++B++rest') rfl rfl rfl (Ml GO eB) .here (Adh (P:=A++[.int .i64 y]) (M:=Z2) HE GS hZ2) IG GS h1B ?_
   refine dk ?_;refine dd ?_;refine Ab5 (cs:=A++[.int .i64 y]++B) (rest:=rest') (xs:=xs.take i++y::xs.drop i) cp' rfl hins GJ h4 (by rw [show Bc.sz=1 from rfl];simp only [List.length_append,List.length_cons,List.length_nil] at h6 ⊢;omega) ?_;exact FZ
  ·have hcx:xs.length+1≤c:=by omega
   obtain ⟨X,Y,hXY,hX,hY⟩:=Ao4 (B:=B) (R:=rest) 1 GJ;refine go ?_;intros;apply wO;apply oc;rfl;exact Og (i:=xs.length+1) rfl rfl GJ GJ GJ;refine go ?_;intros;apply wO;apply oc;rfl;exact Kb (i:=i+1) rfl rfl GJ GJ GJ GJ;refine M7 ?_;intros;apply wO
   refine Awc rfl Tw (ovl (tS:=22) (tR:=4) (run_callFunc_extern func333 GK GK GK (e:=Extern.SlicesOverlaps.overlaps #[22,22] #[4]) GK) (.there .here) (.head _) HQ) ?_;refine go ?_;intros;refine At [] [] ?_;refine Dk 0 1 2 3 ?_;refine dt 4 ?_ (hy:=Kb (i:=i+1) rfl rfl GJ GJ GJ GJ);refine Dy 5 6 ?_;refine dt 7 ?_ (hy:=Kb (i:=i) rfl rfl GJ GJ GJ GJ);refine dN 8 ?_
   refine Vr (cs:=B) (L':=A++X++B++rest.drop 1) rfl rfl rfl (Ml GO eB) .here (Adh (P:=A++X) (M:=Y) IL HS hY) IE HS h1B ?_;refine dk ?_;refine dd ?_;refine go ?_;intros;apply wO;apply oc;rfl;exact Kb (i:=i) rfl rfl rfl GJ GJ GJ;refine go ?_;intros;apply wO
   refine Vr (cs:=[.int .i64 y]) (L':=A++[.int .i64 y]++(B++rest.drop 1)) rfl rfl rfl (Ml (L:=[.int .i64 y]) (o:=0) (m:=1) GO rfl) .here (Adh (M:=X) HE GJ (by simpa using hX)) (by show 1=min 1 (xs.length+1 - i) * 1;omega) GS h1y ?_;refine go ?_;intros
   refine Ab5 (L:=A++[.int .i64 y]++(B++rest.drop 1)) (cs:=A++[.int .i64 y]++B) (rest:=rest.drop 1) (xs:=xs.take i++y::xs.drop i) c HE hins GJ GJ (by rw [show Bc.sz=1 from rfl];simp only [List.length_append,List.length_cons,List.length_nil,List.length_drop];omega) ?_;rw [hlen];refine ret (_,c,[g]) trivial rfl
theorem Pp (n:Int) (w:World):Cw Bc w [.int .i64 n] [n] []:=⟨_,[],[],[],GL,GL,⟨rfl,rfl⟩,rfl,rfl⟩
theorem As2 (l:List Int) (n:Int):Kn l n≤l.length:=(Qc (p:=fun x=>decide (x < n)) (xs:=l)).1
structure Be1 where
 a:Option Addr
 c:Nat
 F:List Nat
theorem Azk (l:List Int) (n:Int) (a:Option Addr) (c:Nat) (F:List Nat) (hl:l.length≤1000000):Fn prog 262 [.slice a l.length c,.int .i64 n] [] [.ow Bc 3 (.slice a l.length c) l F] (fun (_:Be1)=>True) (fun s=>.slice s.a (Sr l n).length s.c) (fun s=>[.ow Bc 3 (.slice s.a (Sr l n).length s.c) (Sr l n) s.F]):=by
 refine enter func262 rfl ntmps262 fun w0=>?_;refine go ?_;intros;refine Ev [0,1,4] (fun k:Nat=>[(5,.int .i64 (k:Nat))]) (fun k=>k≤l.length∧∀j (_:j < k) (hj:j < l.length),l[j] < n) (fun k=>l.length - k) 0 ⟨Nat.zero_le _,fun j h=>by omega⟩ fun k hk=>?_;obtain ⟨hk1,hk2⟩:=hk;refine go ?_;intros;refine Dj rfl rfl (fun h1=>?_) (fun h1=>?_)
 ·have hh:k < l.length:=by omega
  refine go ?_;intros;refine R5 (m:=1) Ea k ?_ GP rfl hh;rintro _ g A cs B rfl rfl hr hH;obtain ⟨rfl, -⟩:=hr w0;refine go ?_;intros;refine Qv l[k] hH hr ?_;rw [List.set_getElem_self];refine Be rfl (fun h2=>?_) (fun h2=>?_)
  ·refine go ?_;intros;refine Cu (k+1) ⟨hh,fun j hj hl=>?_⟩ GJ;rcases Nat.lt_or_eq_of_le (Nat.lt_succ_iff.1 hj) with h|rfl
   ·exact hk2 j h hl
   ·exact h2
  ·have hp:Kn l n=k:=Abv hk1 hk2 (fun _=>h2);refine go ?_;intros;refine Dj rfl rfl (fun h4=>?_) (fun h4=>absurd h1 h4);refine go ?_;intros;refine R5 (m:=1) Ea k ?_ GP rfl hh;rintro _ g A cs B e1 - hr hH;cases e1;obtain ⟨rfl, -⟩:=hr w0;refine go ?_;intros;refine Qv l[k] hH hr ?_;rw [List.set_getElem_self];refine Be rfl (fun h3=>?_) (fun h3=>?_)
   ·have e:Sr l n=l:=by unfold Sr;rw [hp,List.getElem?_eq_getElem hh,if_pos (by rw [h3])]
    rw [e];exact BB
   ·have e:Sr l n=l.take k++[n]++l.drop k:=by unfold Sr;rw [hp,List.getElem?_eq_getElem hh,if_neg JO];simp
    refine go ?_;intros;refine A4 fun F5=>?_;refine Axo k GJ fun F6 hc1 hc2=>?_;refine At [] [] ?_;refine Dy 1 2 ?_;refine dt 3 ?_ (hy:=Og (i:=k) rfl rfl rfl GJ GJ);refine Dy 5 8 ?_;refine dt 9 ?_;refine Anx 10 k fun a6 c6 F6=>?_;refine dM 0 6 ?_ ?_
    ·apply Lr;rfl;intro _;refine C4 Bc ?_;refine dk ?_;refine dM 4 6 ?_ ?_
     ·exact CZ
     ·apply Km;rfl;rfl;rfl;rfl;exact Ke;exact Jy;intro _;exact BC
    ·exact FX
 ·have hp:Kn l n=k:=Abv hk1 hk2 (fun h=>by omega);have e:Sr l n=l.take k++[n]++l.drop k:=by unfold Sr;rw [hp,List.getElem?_eq_none GJ];simp
  refine go ?_;intros;refine Dj rfl rfl (fun h4=>absurd h4 h1) (fun h4=>?_);refine go ?_;intros;refine A4 fun F5=>?_;refine Axo k GJ fun F6 hc1 hc2=>?_;refine At [] [] ?_;refine Dy 1 2 ?_;refine dt 3 ?_ (hy:=Og (i:=k) rfl rfl rfl GJ GJ);refine Dy 5 8 ?_;refine dt 9 ?_;refine Anx 10 k fun a6 c6 F6=>?_;refine dM 0 6 ?_ ?_
  ·apply Lr;rfl;intro _;refine C4 Bc ?_;refine dk ?_;refine dM 4 6 ?_ ?_
   ·exact CZ
   ·apply Km;rfl;rfl;rfl;rfl;exact Ke;exact Jy;intro _;exact BC
  ·exact FX
theorem Ara {c:Cx} {fr:Fr} {H S:List Pc} {Φ:Gl} (x:Bl) {a:Option Addr} {n cp:Nat} {F:List Nat} (hn:n=x.Ah.length) (h:T c fr (.own Bj (.agg #[.int .i64 x.Ai,.slice a n cp]) x F::S) Φ) (hp:Cz H (.ow Ej 162 (.slice a n cp) x.Ah F) S:=by exact Df):T c fr H Φ:=by
 subst hn;exact Gk x h hp
theorem Af0 {e:Bl} {n f:Int} (h:Kg e n < e.Ah.length):N1 e n f=⟨e.Ai,e.Ah.set (Kg e n) ⟨e.Ah[Kg e n].Af,Sr e.Ah[Kg e n].Bm f,e.Ah[Kg e n].Cg⟩⟩:=by unfold N1;rw [List.getElem?_eq_getElem h]
theorem Afz {e:Bl} {n f:Int} (h:e.Ah[Kg e n]?=none) (hl:e.Ah.length < 5):N1 e n f=⟨e.Ai,e.Ah++[⟨n,[f],e.Ai+6⟩]⟩:=by unfold N1;rw [h];simp [hl]
theorem Abx {e:Bl} {n f:Int} (h:e.Ah[Kg e n]?=none) (hl:¬e.Ah.length < 5):N1 e n f=e:=by unfold N1;rw [h];simp [hl]
theorem Z7 (e:Bl) (n f:Int) (v:Value) (F:List Nat) (hl:e.Ah.length≤1000000) (hf:∀x∈e.Ah,x.Bm.length≤1000000) (hc0:-1000000≤e.Ai) (hc1:e.Ai≤1000000):Fn prog 200 [v,.int .i64 n,.int .i64 f] [.isv Bt v e F] [] (fun (_:Value × List Nat)=>True) (fun s=>.tuple #[s.1,.bool (Abb e n)]) (fun s=>[.own Bj s.1 (N1 e n f) s.2]):=by
 refine enter func200 rfl ntmps200 fun w0=>?_;refine Ig ?_;rintro a1 c1 F1 rfl l1;refine go ?_;intros;refine cv (fun w st=>Wk _ e _ w (st.get (p:=.isv Bt (.agg #[.int .i64 e.Ai,.slice a1 e.Ah.length c1]) e F) GL) GJ (fun x hx=>Nat.le_trans (hf x hx) GM)) fun u FU=>?_;refine Hl ?_;rintro a2 c2 F2 rfl l2;refine go ?_;intros;refine cf (Abk e n _ F) fun _ _=>?_;refine Ar ?_;rcases Ql e n with ⟨h,e1,e2,e3⟩|⟨e1,e2,e3,e4⟩
 ·rw [e1,e3,Af0 h];have hfx:=hf e.Ah[Kg e n] (List.getElem_mem h);refine go ?_;intros;refine Aba (m:=3) (Kg e n) ?_ rfl h;rintro _ g A cs B k1 k2 G1 Gi G2 rfl - hc hH;refine Y7 ?_;rintro a5 c5 F5 ev l5;obtain rfl:cs=[.int .i64 e.Ah[Kg e n].Af,.slice a5 e.Ah[Kg e n].Bm.length c5,.int .i64 e.Ah[Kg e n].Cg]:=by simpa using ev
  refine go ?_;intros;refine cf (Azk _ f a5 c5 F5 hfx) fun z _=>?_;refine Ar ?_;refine go ?_;intros;refine Oi ⟨e.Ah[Kg e n].Af,Sr e.Ah[Kg e n].Bm f,e.Ah[Kg e n].Cg⟩ ?_;refine Vd _ hH rfl fun F6=>?_;refine Ara ⟨e.Ai,_⟩ List.length_set.symm ?_;exact FD
 ·rw [e1,e3];refine go ?_;intros;refine Be rfl (fun h5=>?_) (fun h5=>?_)
  ·rw [Afz e2 GJ];refine go ?_;intros;refine Ic (E:=Bc) (xs:=[f]) (Pp f) ?_ GL;refine Oi ⟨n,[f],e.Ai+6⟩ ?_;apply wO;refine Aa4 Sg ⟨n,[f],e.Ai+6⟩ rfl fun a3 c3 F3=>?_;refine go ?_;intros;refine Ara ⟨e.Ai,_⟩ rfl ?_;exact FD
  ·rw [Abx e2 GJ];refine go ?_;intros;refine Ara e rfl ?_;exact FD
def Zx (e:Bl) (n:Int) (below:List Int):List Int:=match e.Ah[Kg e n]? with
 | some x=>below.filter fun f=>decide (f∈x.Bm)
 | none=>if e.Ah.length=5 then below else []
theorem Afw {e:Bl} {n:Int} (h:Kg e n < e.Ah.length):Ph e n=⟨e.Ai,e.Ah.take (Kg e n)++e.Ah.drop (Kg e n+1)⟩:=by unfold Ph;rw [List.getElem?_eq_getElem h]
theorem Aj3 {e:Bl} {n:Int} (h:e.Ah[Kg e n]?=none):Ph e n=e:=by unfold Ph;rw [h]
theorem Ava {e:Bl} {n:Int} {l:List Int} (h:Kg e n < e.Ah.length):Zx e n l=l.filter fun f=>decide (f∈e.Ah[Kg e n].Bm):=by unfold Zx;rw [List.getElem?_eq_getElem h]
theorem Ay4 {e:Bl} {n:Int} {l:List Int} (h:e.Ah[Kg e n]?=none):Zx e n l=if e.Ah.length=5 then l else []:=by unfold Zx;rw [h]
structure Bbk where
 k:Nat
 a:Option Addr
 c:Nat
 F:List Nat
structure Be2 where
 v:Value
 F:List Nat
 a:Option Addr
 c:Nat
 G:List Nat
theorem Acu (e:Bl) (n:Int) (below:List Int) (v:Value) (F:List Nat) (a0:Option Addr) (c0:Nat) (F0:List Nat) (hl:e.Ah.length≤1000000) (hf:∀x∈e.Ah,x.Bm.length≤1000000) (hb:below.length≤1000000):Fn prog 198 [v,.int .i64 n,.slice a0 below.length c0] [.isv Bt v e F,.sl Bc (.slice a0 below.length c0) below F0] [] (fun (_:Be2)=>True) (fun s=>.tuple #[s.v,.slice s.a (Zx e n below).length s.c]) (fun s=>[.own Bj s.v (Ph e n) s.F,.ow Bc 3 (.slice s.a (Zx e n below).length s.c) (Zx e n below) s.G]):=by
 refine enter func198 rfl ntmps198 fun w0=>?_;refine Ig ?_;rintro a1 c1 F1 rfl l1;refine go ?_;intros;refine cv (fun w st=>Wk _ e _ w (st.get (p:=.isv Bt (.agg #[.int .i64 e.Ai,.slice a1 e.Ah.length c1]) e F) GL) GJ (fun x hx=>Nat.le_trans (hf x hx) GM)) fun u FU=>?_;refine Hl ?_;rintro a2 c2 F2 rfl l2;refine go ?_;intros;refine cf (Abk e n _ F) fun _ _=>?_;refine Ar ?_;refine C4 Bc ?_;rcases Ql e n with ⟨h,e1,e2,e3⟩|⟨e1,e2,e3,e4⟩
 ·rw [e1,Afw h,Ava h];have hfx:=hf e.Ah[Kg e n] (List.getElem_mem h);refine go ?_;intros;refine Zq (xs:=e.Ah) (Kg e n) ?_;rintro hi b o a5 c5 F5 e6 l5;generalize Kg e n=i at *;generalize hx:e.Ah[i]=x at *;rw [e6];refine go ?_;intros
  refine Ck [2,3,6,7,8,10] (fun s:Bbk=>[(11,.int .i64 (s.k:Nat)),(9,.slice s.a ((below.take s.k).filter fun f=>decide (f∈x.Bm)).length s.c)]) (fun s=>[.ow Bc 3 (.slice s.a ((below.take s.k).filter fun f=>decide (f∈x.Bm)).length s.c) ((below.take s.k).filter fun f=>decide (f∈x.Bm)) s.F]) (fun s=>s.k≤below.length) (fun s=>below.length - s.k) ⟨0,_,_,_⟩ (Nat.zero_le _) fun s hs=>?_;obtain ⟨k,a3,c3,F3⟩:=s;dsimp only at hs ⊢;refine go ?_;intros;refine Be rfl (fun h6=>?_) (fun h6=>?_)
  ·have hk:k < below.length:=by omega
   refine Io (xs:=below) k ?_;rintro hi2 b2 o2 e7;rw [e7];have ht:below.take (k+1)=below.take k++[below[k]]:=by rw [List.take_add_one,List.getElem?_eq_getElem hk];rfl
   have hle:((below.take k).filter fun f=>decide (f∈x.Bm)).length≤k:=Nat.le_trans (List.length_filter_le _ _) GU;refine go ?_;intros;refine At [0,2,7] [] ?_;refine Dk 0 1 2 3 ?_;refine Dk 4 5 6 7 ?_;refine Dy 8 9 ?_;refine dN 10 ?_;refine oC ?_;refine cf (Azj x.Bm below[k] a5 c5 F5) fun _ _=>?_;refine Ar ?_;refine dk ?_;refine dd ?_;refine go ?_;intros;refine Be rfl (fun h7=>?_) (fun h7=>?_)
   ·have e8:(below.take (k+1)).filter (fun f=>decide (f∈x.Bm))=((below.take k).filter fun f=>decide (f∈x.Bm))++[below[k]]:=by rw [ht,List.filter_append];simp [h7]
    refine go ?_;intros;apply wO;refine Oh (Pp _) C5 fun a6 c6 F6=>?_;rw [←e8];refine go ?_;intros;refine Cu (⟨k+1,_,_,_⟩:Bbk) hk IZ
   ·have e8:(below.take (k+1)).filter (fun f=>decide (f∈x.Bm))=((below.take k).filter fun f=>decide (f∈x.Bm)):=by rw [ht,List.filter_append];simp [h7]
    refine go ?_;intros;rw [←e8];refine Cu (⟨k+1,_,_,_⟩:Bbk) hk IZ
  ·have hk:below.take k=below:=List.take_of_length_le GJ;rw [hk];refine go ?_;intros;refine Ab6 Sg rfl fun ys Fy Gy hyl hym=>?_;refine Axl i hi hyl hym fun G1 Gi G2=>?_;refine A4 (E:=EC 3) (xs:=ys) fun Fr=>?_;refine Axo (E:=EC 3) (xs:=ys) i GJ fun F6 hc1 hc2=>?_;refine At [8] [13] ?_;refine Dy 1 2 ?_;refine dt 3 ?_;refine dt 4 ?_ (hy:=Og (i:=i) rfl rfl rfl GJ GJ);refine Dk 6 7 8 9 ?_;refine Anx 10 (i+1) fun a7 c7 F7=>?_;refine dN 0 ?_;apply Lr;rfl;intro _;refine C4 (EC 3) ?_;refine dk ?_;refine dN 5 ?_
   refine N3 (Aop 3) (Lh 3) (fun a6 c6 F6=>?_) (hn:=HW) (h63:=JZ) (hby:=JZ);refine dk ?_;refine dN 11 ?_;refine N3 (Aop 3) (Lh 3) (fun a8 c8 F8=>?_) (h63:=JZ) (hby:=JZ);refine dk ?_;refine dt 12 ?_;refine dN 13 ?_;refine oS ?_;refine Rn ?_;refine dd ?_;refine Aqp (E:=Ej) ?_;refine Axk (E:=Ej) (m:=3) (ys:=([]++ys.take i)++ys.drop (i+1)) (cs:=(ys.take i).flatten++(ys.drop (i+1)).flatten) (xs:=e.Ah.take i++e.Ah.drop (i+1)) ?_ rfl GL (by simp [hyl]);refine go ?_;intros
   refine Ara (n:=(([]++ys.take i)++ys.drop (i+1)).length) ⟨e.Ai,e.Ah.take i++e.Ah.drop (i+1)⟩ (by simp [hyl]) ?_;exact FC
 ·rw [e1,Aj3 e2,Ay4 e2];refine go ?_;intros;refine Be rfl (fun h5=>?_) (fun h5=>?_)
  ·rw [if_pos GJ];refine go ?_;intros;apply wO;refine N3 C5 Ea fun a4 c4 F4=>?_;refine go ?_;intros;refine Ara e rfl ?_;exact FC
  ·rw [if_neg GJ];refine go ?_;intros;refine Ara e rfl ?_;exact FC
theorem Ank (e:Bl) (n f:Int) (g t o:Nat) (A B:List Value) (a:Option Addr) (c:Nat) (F:List Nat) (hl:e.Ah.length≤1000000) (hf:∀x∈e.Ah,x.Bm.length≤1000000∧x.Bm.Pairwise (· < ·)) (hc0:-1000000≤e.Ai) (hc1:e.Ai≤1000000) :
  Fn prog 232 [Hm g o 0,.int .i64 n,.int .i64 f] [] [.row g t o A [.int .i64 e.Ai,.slice a e.Ah.length c] B,.ow Ej 162 (.slice a e.Ah.length c) e.Ah F] (fun (_:Option Addr × Nat × List Nat)=>True) (fun _=>.bool (Abb e n)) (fun s=>[.row g t o A [.int .i64 (N1 e n f).Ai,.slice s.1 (N1 e n f).Ah.length s.2.1] B,.ow Ej 162 (.slice s.1 (N1 e n f).Ah.length s.2.1) (N1 e n f).Ah s.2.2]):=by
 refine enter func232 rfl ntmps232 fun w0=>?_;refine go ?_;intros;refine cb (fun w st=>by
  obtain ⟨F', -,hs⟩:=(st.get (p:=.ow Ej 162 (.slice a e.Ah.length c) e.Ah F) GL).2.sl P5;exact (Ai9 e n _ F').val w (I9 ⟨_,rfl,_,rfl,hs⟩)) ?_
 rcases Ql e n with ⟨h,e1,e2,e3⟩|⟨e1,e2,e3,e4⟩
 ·rw [e1,e3,Af0 h];obtain ⟨hfx,hpw⟩:=hf e.Ah[Kg e n] (List.getElem_mem h);have hsl:∀y,(e.Ah.set (Kg e n) y).length=e.Ah.length:=fun y=>List.length_set;refine go ?_;intros;refine Aba (m:=3) (Kg e n) ?_ rfl h;rintro _ g2 A2 cs B2 k1 k2 G1 Gi G2 rfl - hc hH;refine Y7 ?_;rintro a5 c5 F5 ev l5;obtain rfl:cs=[.int .i64 e.Ah[Kg e n].Af,.slice a5 e.Ah[Kg e n].Bm.length c5,.int .i64 e.Ah[Kg e n].Cg]:=by simpa using ev
  refine go ?_;intros;refine cb (fun w st=>by
   obtain ⟨F', -,hs⟩:=(st.get (p:=.ow Bc 3 (.slice a5 e.Ah[Kg e n].Bm.length c5) e.Ah[Kg e n].Bm F5) GL).2.read;exact (Ayw _ f a5 c5 F' hpw hfx).val w (I9 ⟨GM,hs⟩)) ?_
  cases hq:Aup e.Ah[Kg e n].Bm f
  ·have ep:Sr e.Ah[Kg e n].Bm f=e.Ah[Kg e n].Bm.take (Kn e.Ah[Kg e n].Bm f)++f::e.Ah[Kg e n].Bm.drop (Kn e.Ah[Kg e n].Bm f):=by unfold Sr;rw [if_neg (by simpa [Aup] using hq)]
   refine go ?_;intros;refine cf (At6 e.Ah[Kg e n].Bm f (Kn e.Ah[Kg e n].Bm f) a5 c5 _ F5 (As2 _ _) hfx) fun z _=>?_;refine Ar ?_;rw [←ep];refine go ?_;intros;refine Oi ⟨e.Ah[Kg e n].Af,Sr e.Ah[Kg e n].Bm f,e.Ah[Kg e n].Cg⟩ ?_;refine Vd _ hH rfl fun F6=>?_;dsimp only;rw [←hsl ⟨e.Ah[Kg e n].Af,Sr e.Ah[Kg e n].Bm f,e.Ah[Kg e n].Cg⟩];exact BL
  ·have ep:Sr e.Ah[Kg e n].Bm f=e.Ah[Kg e n].Bm:=by unfold Sr;rw [if_pos (by simpa [Aup] using hq)]
   rw [ep];refine go ?_;intros;refine Oi ⟨e.Ah[Kg e n].Af,e.Ah[Kg e n].Bm,e.Ah[Kg e n].Cg⟩ ?_;refine Vd _ hH rfl fun F6=>?_;dsimp only;rw [←hsl ⟨e.Ah[Kg e n].Af,e.Ah[Kg e n].Bm,e.Ah[Kg e n].Cg⟩];exact BL
 ·rw [e1,e3];refine go ?_;intros;refine Be rfl (fun h5=>?_) (fun h5=>?_)
  ·rw [Afz e2 GJ];refine go ?_;intros;refine At [0] [18] ?_;refine Dk 0 1 2 3 ?_;refine Dk 4 5 6 8 ?_;refine Dk 9 10 11 12 ?_;refine dN 7 ?_;apply Km;rfl;rfl;rfl;rfl;exact Ke;exact Jy;intro _;refine dk ?_;refine dt 13 ?_;refine dN 14 ?_;apply Km;rfl;rfl;rfl;rfl;exact Ke;exact Jy;intro _;refine Ic (E:=Bc) (xs:=[f]) (Pp f) ?_ GL;refine Oi ⟨n,[f],e.Ai+6⟩ ?_;refine dk ?_;refine dN 15 ?_;refine Aa4 Sg ⟨n,[f],e.Ai+6⟩ rfl fun a3 c3 F3=>?_;refine dk ?_;refine Dy 16 17 ?_;refine dN 18 ?_;refine oS ?_;refine Rn ?_;refine dd ?_;exact EF
  ·rw [Abx e2 GJ];exact EF
theorem Au9 {e:Bl} {n:Int} {l:List Int} (h:Kg e n < e.Ah.length):Tx e n l=e.Ah[Kg e n].Bm.filter fun f=>decide (f∈l):=by unfold Tx;rw [List.getElem?_eq_getElem h]
theorem Ay2 {e:Bl} {n:Int} {l:List Int} (h:e.Ah[Kg e n]?=none):Tx e n l=if e.Ah.length=5 then l else []:=by unfold Tx;rw [h]
theorem Atb (x:Int) (gb:Nat) (l:List Int) (a:Option Addr) (c:Nat) (F:List Nat):Fn prog 284 [.int .i64 x,Hm gb 0 0] [.cel gb 0 [.slice a l.length c],.sl Bc (.slice a l.length c) l F] [] (fun (_:Unit)=>True) (fun _=>.bool (!decide (x∈l))) (fun _=>[]):=by
 refine enter func284 rfl ntmps284 fun w0=>?_;refine go ?_;intros;refine cf (Auv l x _ _ F) fun _ _=>?_;refine Ar ?_;refine go ?_;intros;refine ret () trivial ?_;rw [decide_not];rfl
structure Be3 where
 a:Option Addr
 c:Nat
 F:List Nat
 a2:Option Addr
 c2:Nat
 F2:List Nat
theorem Aqy (e:Bl) (n:Int) (below:List Int) (g t o:Nat) (A B:List Value) (a:Option Addr) (c:Nat) (F:List Nat) (a0:Option Addr) (c0:Nat) (F0:List Nat) (hl:e.Ah.length≤1000000) (hf:∀x∈e.Ah,x.Bm.length≤1000000) (hb:below.length≤1000000) :
  Fn prog 230 [Hm g o 0,.int .i64 n,.slice a0 below.length c0] [.sl Bc (.slice a0 below.length c0) below F0] [.row g t o A [.int .i64 e.Ai,.slice a e.Ah.length c] B,.ow Ej 162 (.slice a e.Ah.length c) e.Ah F] (fun (_:Be3)=>True) (fun s=>.slice s.a2 (Tx e n below).length s.c2) (fun s=>[.row g t o A [.int .i64 (Ph e n).Ai,.slice s.a (Ph e n).Ah.length s.c] B,.ow Ej 162 (.slice s.a (Ph e n).Ah.length s.c) (Ph e n).Ah s.F,.ow Bc 3 (.slice s.a2 (Tx e n below).length s.c2) (Tx e n below) s.F2]):=by
 refine enter func230 rfl ntmps230 fun w0=>?_;refine go ?_;intros;rename_i gb;refine cb (fun w st=>by
  obtain ⟨F', -,hs⟩:=(st.get (p:=.ow Ej 162 (.slice a e.Ah.length c) e.Ah F) GL).2.sl P5;exact (Ai9 e n _ F').val w (I9 ⟨_,rfl,_,rfl,hs⟩)) ?_
 refine Ake (cs:=[.slice a0 below.length c0]) ?_ GL;rcases Ql e n with ⟨h,e1,e2,e3⟩|⟨e1,e2,e3,e4⟩
 ·rw [e1,Afw h,Au9 h];have hfx:=hf e.Ah[Kg e n] (List.getElem_mem h);refine go ?_;intros;refine Ab6 Sg rfl fun ys Fy Gy hyl hym=>?_;generalize Kg e n=i at *;generalize hx:e.Ah[i]=x at *;refine Axl i h hyl hym fun G1 Gi G2=>?_;rw [hx];refine Y7 ?_;rintro a5 c5 F5 ev l5;have hyi:ys[i]=[.int .i64 x.Af,.slice a5 x.Bm.length c5,.int .i64 x.Cg]:=by simpa using ev
  refine R5 (m:=3) (Lh 3) i ?_ GP rfl GJ;rintro _ g2 A2 cs B2 rfl rfl hr hH;obtain ⟨rfl, -⟩:=hr w0;rw [hyi];refine go ?_;intros;refine cf (Akp 284 [] [Hm gb 0 0] [.cel gb 0 [.slice a0 below.length c0],.sl Bc (.slice a0 below.length c0) below F0] rfl x.Bm a5 c5 F5 (fun z=>!decide (z∈below)) GK GJ (fun z _ w hA=>(Atb z gb below a0 c0 F0).val w hA)) fun z _=>?_;refine Ar ?_;have e9:(x.Bm.filter fun z=>!!decide (z∈below))=x.Bm.filter fun z=>decide (z∈below):=by simp only [Bool.not_not]
  rw [e9];rw [←hyi];refine Qv ys[i] hH hr ?_;rw [List.set_getElem_self];refine go ?_;intros;refine cf (Bbi ys e.Ah.length i _ _ _ _ hyl.symm GJ rfl GJ) fun q _=>?_;refine Ar ?_;refine go ?_;intros;refine Aqp (E:=Ej) ?_;refine Axk (E:=Ej) (m:=3) (ys:=ys.take i++ys.drop (i+1)) (cs:=(ys.take i).flatten++(ys.drop (i+1)).flatten) (xs:=e.Ah.take i++e.Ah.drop (i+1)) ?_ rfl GL (by simp [hyl]);rw [show (ys.take i++ys.drop (i+1)).length=(e.Ah.take i++e.Ah.drop (i+1)).length by simp [hyl]];refine ret ⟨_,_,_,_,_,_⟩ trivial rfl
 ·rw [e1,Aj3 e2,Ay2 e2];refine go ?_;intros;refine Be rfl (fun h5=>?_) (fun h5=>?_)
  ·rw [if_pos GJ];refine go ?_;intros;refine cn (fun w st=>Rj _ below F0 w (st.get (p:=.sl Bc (.slice a0 below.length c0) below F0) GL).2 GJ) fun a6 c6 F6=>?_;exact DQ
  ·rw [if_neg GJ];refine Br Bc 3 ?_;exact DQ
theorem Te (t:Me) (v:Value) (F:List Nat):Fn prog 51 [v] [.isv Kt v t F] [] (fun (_:Unit)=>True) (fun _=>.bool (Gg t)) (fun _=>[]):=by
 refine enter func51 rfl ntmps51 fun w0=>?_;refine Lx ?_;rintro a1 c1 F1 rfl l1;unfold maxLen at l1;refine go ?_;intros;refine Ev [1,2,6,7] (fun k:Nat=>[(8,.int .i64 (k:Nat))]) (fun k=>k≤t.Ad.length∧∀j,j < k→Ac2 t.Ad j=true) (fun k=>t.Ad.length - k) 0 ⟨Nat.zero_le _,fun j h=>by omega⟩ fun k hk=>?_;obtain ⟨hk1,hk2⟩:=hk;refine go ?_;intros;refine Be rfl (fun h1=>?_) (fun h1=>?_)
 ·have hh:k < t.Ad.length:=by omega
  refine Io (xs:=t.Ad) k ?_;rintro hi b o e1;rw [e1];refine go ?_;intros;refine Dj rfl rfl (fun h2=>?_) (fun h2=>?_)
  ·obtain rfl:k=0:=by omega
   refine go ?_;intros;refine Dj rfl rfl (fun h3=>?_) (fun h3=>?_)
   ·refine go ?_;intros;rw [Z0 hh (by rw [Sh hh];exact decide_eq_false h3)];exact BD
   ·refine go ?_;intros;refine Cu 1 ⟨hh,fun j hj=>by obtain rfl:j=0:=GJ;rw [Sh hh];exact decide_eq_true GJ⟩ (by show t.Ad.length - 1 < t.Ad.length - 0;omega)
  ·refine go ?_;intros;refine Dj rfl rfl (fun h3=>?_) (fun h3=>?_)
   ·refine go ?_;intros;refine ce (fun w s=>Hk _ _ _ w) ?_;cases g:Eu 0 t.Ad[k] ((k:Int) - 1)
    ·refine go ?_;intros;rw [Z0 hh (by rw [Ud hh GJ];exact g)];exact BD
    ·refine go ?_;intros;refine Cu (k+1) ⟨hh,fun j hj=>?_⟩ (by show t.Ad.length - (k+1) < t.Ad.length - k;omega);rcases Nat.lt_or_eq_of_le (Nat.lt_succ_iff.1 hj) with h|rfl
     ·exact hk2 j h
     ·rw [Ud hh GJ];exact g
   ·exact absurd h3 GJ
 ·obtain rfl:k=t.Ad.length:=by omega
  refine go ?_;intros;refine ce (fun w s=>Hk _ _ _ w) ?_;refine go ?_;intros;refine ret () trivial ?_;unfold Gg;rw [Kw hk2,Bool.and_true];rfl
theorem Afe (t:Me) (v:Value) (F:List Nat):Fn prog 36 [v] [.isv Kt v t F] [] (fun (_:Unit)=>True) (fun _=>.bool (Gg t)) (fun _=>[]):=by
 refine enter func36 rfl ntmps36 fun w0=>?_;refine Lx ?_;rintro a1 c1 F1 rfl l1;unfold maxLen at l1;refine go ?_;intros;refine ce (fun w s=>Iq _ _ _ w) ?_;cases g0:Eu 2 (t.Ad.length:Int) 8
 ·rw [Arp g0];exact AB
 have hb:2≤t.Ad.length∧t.Ad.length≤8:=by
  unfold Eu at g0;simp only [Bool.and_eq_true,decide_eq_true_eq] at g0;omega
 have h0:0 < t.Ad.length:=by omega
 refine Io (xs:=t.Ad) 0 ?_;rintro hi b o e1;rw [e1];refine go ?_;intros;refine Be rfl (fun h2=>?_) (fun h2=>?_)
 ·refine go ?_;intros;rw [Z0 h0 (by rw [Sh h0];exact decide_eq_false h2)];exact BD
 refine go ?_;intros;refine Ev [1,2,3] (fun k:Nat=>[(4,.int .i64 ((k+1:Nat):Int))]) (fun k=>k+1≤t.Ad.length∧∀j,j < k+1→Ac2 t.Ad j=true) (fun k=>t.Ad.length - k) 0 ⟨GJ,fun j h=>by obtain rfl:j=0:=GJ;rw [Sh h0];exact decide_eq_true GJ⟩ fun k hk=>?_;obtain ⟨hk1,hk2⟩:=hk;refine go ?_;intros;refine Be rfl (fun h1=>?_) (fun h1=>?_)
 ·have hh:k+1 < t.Ad.length:=by omega
  refine Io (a:=some ⟨b,o,none⟩) (xs:=t.Ad) (k+1) ?_;rintro hi2 _ _ e2;cases e2;refine go ?_;intros;refine ce (fun w s=>Iq _ _ _ w) ?_;cases g:Eu 0 t.Ad[k+1] (((k+1:Nat):Int) - 1)
  ·refine go ?_;intros;rw [Z0 hh (by rw [Ud hh GJ];exact g)];exact BD
  ·refine go ?_;intros;refine Cu (k+1) ⟨hh,fun j hj=>?_⟩ (by show t.Ad.length - (k+1) < t.Ad.length - k;omega);rcases Nat.lt_or_eq_of_le (Nat.lt_succ_iff.1 hj) with h|rfl
   ·exact hk2 j h
   ·rw [Ud hh GJ];exact g
 ·have hk:k+1=t.Ad.length:=by omega
  refine go ?_;intros;refine ret () trivial ?_;unfold Gg;rw [g0,Kw (fun j hj=>hk2 j GJ)];rfl
structure KiS where
 k:Nat
 a:Option Addr
 c:Nat
 F:List Nat
theorem Pe (t:Me) (node:Int) (v:Value) (F:List Nat) (hz:Jr t.Ad node 1=[]) (hl:1≤t.Ad.length∧t.Ad.length≤1000000):Fn prog 139 [v,.int .i64 node] [.isv Kt v t F] [] (fun (_:KiS)=>True) (fun z=>.slice z.a (H3 t.Ad node).length z.c) (fun z=>[.ow Bc 3 (.slice z.a (H3 t.Ad node).length z.c) (H3 t.Ad node) z.F]):=by
 refine enter func139 rfl ntmps139 fun w0=>?_;refine Lx ?_;rintro a1 c1 F1 rfl l1;unfold maxLen at l1;refine go ?_;intros;refine C4 Bc ?_;refine Ck [1,2,4] (fun z:KiS=>[(5,.slice z.a (Sz t.Ad node z.k).length z.c),(6,.int .i64 ((z.k+1:Nat):Int))]) (fun z=>[.ow Bc 3 (.slice z.a (Sz t.Ad node z.k).length z.c) (Sz t.Ad node z.k) z.F]) (fun z=>z.k+1≤t.Ad.length) (fun z=>t.Ad.length - z.k) ⟨0,_,_,_⟩ hl.1 fun z hz2=>?_;have hkl:=Ah4 t.Ad node z.k;have hl2:=hl.2;refine go ?_;intros;refine Be rfl (fun h1=>?_) (fun h1=>?_)
 ·have hh:z.k+1 < t.Ad.length:=by omega
  refine Io (xs:=t.Ad) (z.k+1) ?_;rintro hi b o e1;rw [e1];refine go ?_;intros;refine Be rfl (fun h2=>?_) (fun h2=>?_)
  ·refine M7 ?_;intros;apply wO;refine Oh (Pp _) C5 fun a9 c9 F9=>?_;refine go ?_;intros;rw [←Ar2 hh h2];refine Cu ⟨z.k+1,a9,c9,F9⟩ (by show z.k+1+1≤t.Ad.length;omega) (by show t.Ad.length - (z.k+1) < t.Ad.length - z.k;omega)
  ·rw [←Avr hh h2];refine go ?_;intros;refine Cu ⟨z.k+1,z.a,z.c,z.F⟩ (by show z.k+1+1≤t.Ad.length;omega) (by show t.Ad.length - (z.k+1) < t.Ad.length - z.k;omega)
 ·have hk:z.k+1=t.Ad.length:=by omega
  rw [Ah3 hz hk];exact BO
theorem Wg (t:Me) (node:Int) (v:Value) (F:List Nat):Fn prog 119 [v,.int .i64 node] [.isv Kt v t F] [] (fun (_:Unit)=>True) (fun _=>.bool (Ed t.Ad node)) (fun _=>[]):=by
 refine enter func119 rfl ntmps119 fun w0=>?_;refine Lx ?_;rintro a1 c1 F1 rfl l1;refine go ?_;intros;refine cf (Auv t.Ad node _ _ F1) fun _ _=>?_;refine Ar ?_;refine go ?_;intros;refine ret () trivial ?_;unfold Ed;rw [←decide_not];rfl
theorem Nt (t:Me) (node:Int) (v:Value) (F:List Nat) (hg:Tn t.Ad) (h0:0 < node):Fn prog 90 [v,.int .i64 node] [.isv Kt v t F] [] (fun (_:Unit)=>True) (fun _=>.bool (Ed t.Ad node)) (fun _=>[]):=by
 refine enter func90 rfl ntmps90 fun w0=>?_;refine Lx ?_;rintro a1 c1 F1 rfl l1;refine go ?_;intros;refine Dj rfl rfl (fun h1=>?_) (fun h1=>?_)
 ·refine go ?_;intros;refine cf (Pe t node _ F (Rq hg.z GJ) (by have:=hg.n0;have:=hg.n1;omega)) fun q _=>?_;refine Ar ?_;refine go ?_;intros;refine ret () trivial ?_;rw [Asp];by_cases hk:H3 t.Ad node=[]
  ·rw [hk];rfl
  ·rw [decide_eq_false hk,decide_eq_false fun e=>hk (List.length_eq_zero_iff.1 GJ)];rfl
 ·exact absurd h0 h1
theorem Ald {e:Bl} (h:Ba e=true) {x:Ja} (hx:x∈e.Ah):x.Bm.Pairwise (· < ·):=by
 unfold Ba at h;simp only [Bool.and_eq_true] at h;obtain ⟨i,hi,rfl⟩:=List.getElem_of_mem hx;have:=I4 h.2 i hi;rw [Jw hi] at this;simp only [Kc,Bool.and_eq_true] at this;exact (Xp this.1.2.2.1).1
theorem Ap1 {e:Bl} {n:Int} {l:List Int} (h:Ba e=true) (h2:P3 1 7 l=true):Zx e n l=Tx e n l:=by
 unfold Zx Tx;cases hx:e.Ah[Kg e n]? with
 | none=>rfl
 | some x=>exact (Alf (Ald h (List.mem_of_getElem? hx)) (Xp h2).1).symm
end Go.Proofs.YtkagnmekdkchiaaGreatDoor
namespace Go.Proofs.YtkagnmekdkchiaaGreatDoor

open Go.RowKit
end Go.Proofs.YtkagnmekdkchiaaGreatDoor
namespace Go.Proofs.YtkagnmekdkchiaaGreatDoor
open Go.RowKit
def Kl (e:Bl) (n:Int):List Int:=match e.Ah[Kg e n]? with
 | some x=>x.Bm
 | none=>[]
def E8 (e:Bl) (n:Int):List Int × Bool:=if Ba e && B9 n then (Kl e n,true) else ([],false)
theorem Ta {e:Bl} {n:Int} (h:(Ba e && B9 n)=false):E8 e n=([],false):=by unfold E8;rw [h];rfl
theorem Anl (e:Bl) (n:Int) (v:Value) (F:List Nat):Fn prog 123 [v,.int .i64 n] [.isv Bt v e F] [] (fun (_:Option Addr × Nat × List Nat)=>True) (fun s=>.tuple #[.slice s.1 (E8 e n).1.length s.2.1,.bool (E8 e n).2]) (fun s=>[.ow Bc 3 (.slice s.1 (E8 e n).1.length s.2.1) (E8 e n).1 s.2.2]):=by
 refine enter func123 rfl ntmps123 fun w0=>?_;refine Br Bc 3 ?_;refine Ig ?_;rintro a1 c1 F1 rfl l1;refine go ?_;intros;refine cb (fun w st=>To _ e _ w (st.get (p:=.isv Bt (.agg #[.int .i64 e.Ai,.slice a1 e.Ah.length c1]) e F) GL)) ?_;cases g1:Ba e
 ·skip
  rw [Ta (by simp [g1])];exact EF
 obtain ⟨hck,hl5,hf7⟩:=Ty g1;refine go ?_;intros;refine ce (fun w s=>Il n _) ?_;cases g2:B9 n
 ·skip
  rw [Ta (by simp [g1,g2])];exact EF
 refine go ?_;intros;refine cf (Ai9 e n _ F) fun _ _=>?_;refine Ar ?_;rw [show E8 e n=(Kl e n,true) by unfold E8;rw [g1,g2];rfl];rcases Ql e n with ⟨h,e1,e2,e3⟩|⟨e1,e2,e3,e4⟩
 ·have hfx:=hf7 e.Ah[Kg e n] (List.getElem_mem h);rw [e1,show Kl e n=e.Ah[Kg e n].Bm by unfold Kl;rw [List.getElem?_eq_getElem h]];refine Zq (xs:=e.Ah) (Kg e n) ?_;rintro hi b o a5 c5 F5 e6 l5;rw [e6];refine go ?_;intros;refine cn (fun w st=>Rj _ e.Ah[Kg e n].Bm F5 w (st.get (p:=.sl Bc (.slice a5 e.Ah[Kg e n].Bm.length c5) e.Ah[Kg e n].Bm F5) GL).2 GJ) fun a6 c6 F6=>?_;exact EF
 ·rw [e1,show Kl e n=[] by unfold Kl;rw [e2]];exact EF
theorem Af8 (e:Bl) (n:Int) (v:Value) (F:List Nat):Fn prog 91 [v,.int .i64 n] [.isv Bt v e F] [] (fun (_:Option Addr × Nat × List Nat)=>True) (fun s=>.tuple #[.slice s.1 (E8 e n).1.length s.2.1,.bool (E8 e n).2]) (fun s=>[.ow Bc 3 (.slice s.1 (E8 e n).1.length s.2.1) (E8 e n).1 s.2.2]):=by
 refine enter func91 rfl ntmps91 fun w0=>?_;refine Ig ?_;rintro a1 c1 F1 rfl l1;refine go ?_;intros;refine cb (fun w st=>Ah7 _ e _ w (st.get (p:=.isv Bt (.agg #[.int .i64 e.Ai,.slice a1 e.Ah.length c1]) e F) GL)) ?_;cases g1:Ba e
 ·skip
  rw [Ta (by simp [g1])];refine go ?_;intros;refine C4 Bc ?_;exact BL
 obtain ⟨hck,hl5,hf7⟩:=Ty g1;refine go ?_;intros;refine ce (fun w s=>Ng n _) ?_;cases g2:B9 n
 ·skip
  rw [Ta (by simp [g1,g2])];refine go ?_;intros;refine C4 Bc ?_;exact BL
 refine go ?_;intros;refine cf (Abk e n _ F) fun _ _=>?_;refine Ar ?_;rw [show E8 e n=(Kl e n,true) by unfold E8;rw [g1,g2];rfl];rcases Ql e n with ⟨h,e1,e2,e3⟩|⟨e1,e2,e3,e4⟩
 ·have hfx:=hf7 e.Ah[Kg e n] (List.getElem_mem h);rw [e1,show Kl e n=e.Ah[Kg e n].Bm by unfold Kl;rw [List.getElem?_eq_getElem h]];refine Zq (xs:=e.Ah) (Kg e n) ?_;rintro hi b o a5 c5 F5 e6 l5;rw [e6];refine go ?_;intros;refine cn (fun w st=>Xi _ e.Ah[Kg e n].Bm F5 w (st.get (p:=.sl Bc (.slice a5 e.Ah[Kg e n].Bm.length c5) e.Ah[Kg e n].Bm F5) GL).2 GJ) fun a6 c6 F6=>?_;exact EF
 ·rw [e1,show Kl e n=[] by unfold Kl;rw [e2]];refine go ?_;intros;refine C4 Bc ?_;exact BL
end Go.Proofs.YtkagnmekdkchiaaGreatDoor
namespace Go.Proofs.YtkagnmekdkchiaaGreatDoor

open Go.RowKit
end Go.Proofs.YtkagnmekdkchiaaGreatDoor
namespace Go.Proofs.YtkagnmekdkchiaaGreatDoor
open Go.RowKit
theorem Gp {e:Bl}:Ba e=true↔J3 e.Ai=true∧e.Ah.length≤5∧(∀x∈e.Ah,Kc e.Ai x=true)∧e.Ah.Pairwise fun a b=>a.Af≠b.Af:=by
 unfold Ba;simp only [Bool.and_eq_true,decide_eq_true_eq];constructor
 ·rintro ⟨⟨h1,h2⟩,h3⟩;refine ⟨h1,h2,fun x hx=>?_,List.pairwise_iff_getElem.2 fun i j hi hj hij=>?_⟩
  ·obtain ⟨i,hi,rfl⟩:=List.getElem_of_mem hx;have:=I4 h3 i hi;rw [Jw hi,Bool.and_eq_true] at this;exact this.1
  ·have:=I4 h3 j hj;rw [Jw hj,Bool.and_eq_true,Bool.not_eq_true',List.any_eq_false] at this;have:=this.2 e.Ah[i] (List.mem_take_iff_getElem.2 ⟨i,GJ,rfl⟩);exact GF
 ·rintro ⟨h1,h2,h3,h4⟩;refine ⟨⟨h1,h2⟩,Kw fun i hi=>?_⟩;rw [Jw hi,h3 _ (List.getElem_mem hi),Bool.true_and,Bool.not_eq_true',List.any_eq_false];intro x hx;obtain ⟨j,hj,rfl⟩:=List.mem_take_iff_getElem.1 hx;have:=List.pairwise_iff_getElem.1 h4 j i GJ hi GJ;exact GF
theorem Ot {c:Int} {x:Ja}:Kc c x=true↔B9 x.Af=true∧0 < x.Bm.length∧(x.Bm.Pairwise (· < ·)∧∀z∈x.Bm,1≤z∧z≤7)∧c+1≤x.Cg∧x.Cg≤c+6:=by
 unfold Kc Eu;simp only [Bool.and_eq_true,decide_eq_true_eq];exact ⟨fun ⟨a,b,c,d⟩=>⟨a,b,Xp c,d⟩,fun ⟨a,b,c,d⟩=>⟨a,b,Ain c.1 c.2,d⟩⟩
theorem Amf (l:List Int) (n:Int):(∀j (_:j < Kn l n) (h:j < l.length),l[j] < n)∧∀h:Kn l n < l.length,¬l[Kn l n] < n:=by
 have:=Qc (p:=fun x=>decide (x < n)) (xs:=l);exact ⟨fun j hj h=>of_decide_eq_true (this.2.1 j hj h),fun h=>of_decide_eq_false (this.2.2 h)⟩
theorem Amg {l:List Int} {n x:Int}:x∈Sr l n↔x=n∨x∈l:=by
 unfold Sr
 split
 ·rename_i h;have:=List.mem_of_getElem? h;exact ⟨fun h=>.inr h,fun h=>by rcases h with rfl|h;exact this;exact h⟩
 ·rw [List.mem_append,List.mem_cons];constructor
  ·rintro (h|h|h)
   ·exact .inr (List.mem_of_mem_take h)
   ·exact .inl h
   ·exact .inr (List.mem_of_mem_drop h)
  ·rintro (h|h)
   ·exact .inr (.inl h)
   ·rw [←List.take_append_drop (Kn l n) l,List.mem_append] at h;rcases h with h|h
    ·exact .inl h
    ·exact .inr (.inr h)
theorem Azz {l:List Int} {n:Int} (h:l.Pairwise (· < ·)):(Sr l n).Pairwise (· < ·):=by
 obtain ⟨s1,s2⟩:=Amf l n;have hp:=List.pairwise_iff_getElem.1 h;unfold Sr
 split
 ·exact h
 ·rename_i hne;refine List.pairwise_append.2 ⟨h.sublist (List.take_sublist _ _),List.pairwise_cons.2 ⟨fun z hz=>?_,h.sublist (List.drop_sublist _ _)⟩,fun a ha b hb=>?_⟩
  ·obtain ⟨j,hj,rfl⟩:=List.mem_drop_iff_getElem.1 hz;have hk:Kn l n < l.length:=by omega
   have h1:=s2 hk;have h2:l[Kn l n]≠n:=fun e=>hne (by rw [List.getElem?_eq_getElem hk,e]);rcases Nat.eq_zero_or_pos j with rfl|hj0
   ·simp only [Nat.add_zero];omega
   ·have:=hp (Kn l n) (Kn l n+j) hk GJ GJ;omega
  ·obtain ⟨i,hi,rfl⟩:=List.mem_take_iff_getElem.1 ha;have h1:=s1 i GJ GJ;rcases List.mem_cons.1 hb with rfl|hb
   ·exact h1
   ·obtain ⟨j,hj,rfl⟩:=List.mem_drop_iff_getElem.1 hb;exact hp i (Kn l n+j) GJ GJ GJ
theorem Ns {f:Int}:Pm f=true↔1≤f∧f≤7:=by unfold Pm Eu;simp
theorem Ars {e:Bl} {n f:Int} (hg:Ba e=true) (hn:B9 n=true) (hf:Pm f=true):Ba (N1 e n f)=true:=by
 obtain ⟨h1,h2,h3,h4⟩:=Gp.1 hg;obtain ⟨f1,f2⟩:=Ns.1 hf;rcases Ql e n with ⟨h, -,e2, -⟩|⟨-,e2, -,e4⟩
 ·rw [Af0 h];have hx:=Ot.1 (h3 _ (List.getElem_mem h));refine Gp.2 ⟨h1,JC,fun x hx'=>?_,?_⟩
  ·rcases List.mem_or_eq_of_mem_set hx' with h'|rfl
   ·exact h3 x h'
   ·refine Ot.2 ⟨hx.1,?_,⟨Azz hx.2.2.1.1,fun z hz=>?_⟩,hx.2.2.2⟩
    ·exact List.length_pos_of_mem (Amg.2 (.inl rfl))
    ·rcases Amg.1 hz with rfl|hz
     ·exact ⟨f1,f2⟩
     ·exact hx.2.2.1.2 z hz
  ·refine List.pairwise_iff_getElem.2 fun i j hi hj hij=>?_;have hp:=List.pairwise_iff_getElem.1 h4 i j IW JL hij;simp only [List.getElem_set]
   split <;> split <;> simp_all
 ·by_cases hl:e.Ah.length < 5
  ·rw [Afz e2 hl];refine Gp.2 ⟨h1,GU,fun x hx=>?_,?_⟩
   ·rcases List.mem_append.1 hx with h'|h'
    ·exact h3 x h'
    ·simp only [List.mem_cons,List.not_mem_nil,or_false] at h';subst h';exact Ot.2 ⟨hn,GL,⟨GL,by simp [f1,f2]⟩,by show e.Ai+1≤e.Ai+6;omega,by show e.Ai+6≤e.Ai+6;omega⟩
   ·refine List.pairwise_append.2 ⟨h4,GL,fun a ha b hb=>?_⟩;simp only [List.mem_cons,List.not_mem_nil,or_false] at hb;subst hb;exact e4 a ha
  ·rw [Abx e2 hl];exact hg
theorem Arr {e:Bl} {n:Int} (hg:Ba e=true):Ba (Ph e n)=true:=by
 obtain ⟨h1,h2,h3,h4⟩:=Gp.1 hg;rcases Ql e n with ⟨h, -,e2, -⟩|⟨-,e2, -,e4⟩
 ·rw [Afw h];have hs:(e.Ah.take (Kg e n)++e.Ah.drop (Kg e n+1)).Sublist e.Ah:=by
   have:=List.Sublist.append (List.Sublist.refl (e.Ah.take (Kg e n))) (List.drop_sublist_drop_left e.Ah (Nat.le_succ (Kg e n)))
   rwa [List.take_append_drop] at this
  exact Gp.2 ⟨h1,Nat.le_trans hs.length_le h2,fun x hx=>h3 x (hs.subset hx),h4.sublist hs⟩
 ·rw [Aj3 e2];exact hg
theorem Zw {e:Bl} {n:Int} {l:List Int}:∀z∈Tx e n l,z∈l:=fun z hz=>by
 unfold Tx at hz
 split at hz
 ·have:=(List.mem_filter.1 hz).2;exact GF
 ·split at hz
  ·exact hz
  ·simp at hz
theorem Apc {r:A9} {d:Int} (hg:Lq r) (hk:r.Ai < 9999) (d0:1≤d) (d1:d≤8):Lu (M5 r d) r.Ab.next=true∧∀q∈M5 r d,Ie r.Ab q.Af=false:=by
 have k0:=hg.k0;obtain ⟨h1,h2,h3,h4⟩:=C9.1 hg.q;refine ⟨C9.2 ⟨h1,Nat.le_trans (Acb r d) h2,fun q hq=>?_,?_⟩,fun q hq=>(Aas hg hq).2.2⟩
 ·obtain ⟨q',hq',h⟩:=List.mem_filterMap.1 hq;have ho:=Ei.1 (h3 q' hq');unfold Tb at h
  split at h
  ·cases h;exact h3 q hq'
  ·split at h
   ·cases h
   ·rename_i hn;have t0:=ho.t0;have t1:=ho.t1
    split at h
    ·cases h;exact Ei.2 ⟨ho.n,ho.g,by show (1:Int)≤2;decide,by show (2:Int)≤3;decide,by show 0≤r.Ai+1+3;omega,by show r.Ai+1+3≤10007;omega,by show 0≤q'.D6+1;omega,by show q'.D6+1≤3;omega⟩
    ·cases h;exact Ei.2 ⟨ho.n,ho.g,by show (1:Int)≤1;decide,by show (1:Int)≤3;decide,by show 0≤r.Ai+1+d;omega,by show r.Ai+1+d≤10007;omega,t0,t1⟩
 ·unfold M5;refine List.Pairwise.filterMap _ (fun a a' h b hb b' hb'=>?_) h4;rw [Aki hb,Aki hb'];exact h
theorem Atp {r:A9} {d:Int} (hg:Lq r) (hk:r.Ai < 9999) (d0:1≤d) (d1:d≤8):Lq (Cy r d):=by
 have k0:=hg.k0;obtain ⟨hq,hf⟩:=Apc hg hk d0 d1;by_cases hL:C1 r=[]
 ·rw [Agh hL];refine ⟨by show 0≤r.Ai+1;omega,by show r.Ai+1≤9999;omega,hg.w,hq,hf,fun hs=>?_⟩;obtain ⟨e1,e2⟩:=hg.z hs;refine ⟨e1,?_⟩;show M5 r d=[];unfold M5;rw [e2];rfl
 ·have hst:r.Bd=true:=by
   cases hs:r.Bd
   ·exfalso;apply hL;unfold C1;rw [(hg.z hs).2];rfl
   ·rfl
  rw [Ab9 hL];obtain ⟨e1, -,e3, -⟩:=T8 (t:=Db (C1 r)) hg.w;have hs8:=(Ad1 hg hL).1;have hgp:=@Xr r.Ab.next (Db (C1 r));have hw:Cs (Iu r.Ab (Db (C1 r)))=true:=Ack _ _ hg.w;rw [←Adc hg hL];refine ⟨by show 0≤r.Ai+1;omega,by show r.Ai+1≤9999;omega,hw,Acz (m:=(Is r.Ab (Db (C1 r))).length) GJ hq hw e1,Oq,fun hs=>?_⟩;have:r.Bd=false:=hs;rw [hst] at this;cases this
end Go.Proofs.YtkagnmekdkchiaaGreatDoor
namespace Go.Proofs.YtkagnmekdkchiaaGreatDoor

def Anh:Cr:=⟨⟨0,0,[]⟩,0,0,[]⟩
end Go.Proofs.YtkagnmekdkchiaaGreatDoor
namespace Go.Proofs.YtkagnmekdkchiaaGreatDoor
open Go.RowKit
structure Ajg where
 a:Option Addr
 c:Nat
 a2:Option Addr
 c2:Nat
 F:List Nat
def Anc (x:Cr) (W:Az):Cr:=⟨W,x.Ai,x.quiet,Nc W x.holds⟩
structure Bdt (x:Cr):Prop where
 w:Dv x.Ab=true
 l:x.Ab.Ak.length≤6
 t0:0≤x.Ab.Ao
 t1:x.Ab.Ao≤65535
 k0:0≤x.Ai
 k1:x.Ai≤9999
 m:x.holds.length≤6
 n:∀h∈x.holds,B9 h.Af=true
 u:∀h∈x.holds,x.Ai+1≤h.Cg
 b:∀h∈x.holds,h.Cg≤x.Ai+3
theorem Kx {x:Cr} (h:Ch x=true):Bdt x:=by
 unfold Ch at h;simp only [Bool.and_eq_true] at h;obtain ⟨⟨⟨h1,h2⟩,h3⟩,h4⟩:=h;obtain ⟨⟨t0,t1⟩,⟨s0,s1⟩,s2, -⟩:=Dz.1 h1;obtain ⟨k0,k1⟩:=Ajl h2;have hc:∀h∈x.holds,B9 h.Af=true∧x.Ai+1≤h.Cg∧h.Cg≤x.Ai+3:=fun h hh=>by
  obtain ⟨i,hi,rfl⟩:=List.getElem_of_mem hh;have:=List.all_eq_true.1 h4 i IW;rw [O8 hi] at this;simp only [Bool.and_eq_true,Eu,decide_eq_true_eq] at this;exact ⟨this.1.1.1,this.1.2.1,this.1.2.2⟩
 have hg:∀i,(hi:i < x.holds.length)→(i:Int)≤gp x.Ab.Ao x.holds[i].Af∧gp x.Ab.Ao x.holds[i].Af < 6:=by
  intro i
  induction i with
  | zero =>
   intro hi;have:=List.all_eq_true.1 h4 0 IW;rw [O8 hi] at this;simp only [Bool.and_eq_true,Ik,decide_eq_true_eq] at this;have b:=Ky x.Ab.Ao x.holds[0].Af;exact ⟨GJ,by have:=this.1.1.2;omega⟩
  | succ i ih =>
   intro hi;have p:=ih GJ;have:=List.all_eq_true.1 h4 (i+1) IW;rw [O8 hi] at this;simp only [Bool.and_eq_true,Ik,decide_eq_true_eq,Bool.or_eq_true,Bool.not_eq_true',decide_eq_false_iff_not] at this;have q:=this.2;have q2:=this.1.1.2;simp only [Nat.add_sub_cancel] at q;rcases q with q|q
   ·omega
   ·exact ⟨GJ,GJ⟩
 have hm:x.holds.length≤6:=by
  by_cases h0:x.holds.length≤6
  ·exact h0
  ·have:=hg 6 GJ;omega
 exact ⟨h1,GJ,t0,t1,k0,k1,hm,fun h hh=>(hc h hh).1,fun h hh=>(hc h hh).2.1,fun h hh=>(hc h hh).2.2⟩
def Ago (hs:List Iw):Prop:=∀h∈hs, -1≤h.Af∧h.Af≤65536
theorem Aeb {hs:List Iw} (hn:∀h∈hs,B9 h.Af=true):Ago hs:=fun h hh=>by have:=Bb.1 (hn h hh);omega
def I7 (W:Az) (cl:Int) (hs:List Iw):List Iw:=hs.filter fun h=>Ik W h.Af && decide (cl < h.Cg)
theorem Wj {W:Az} {cl:Int} {hs:List Iw} (h:∀z∈hs,cl+1≤z.Cg):I7 W cl hs=Nc W hs:=by
 unfold I7 Nc;refine List.filter_congr fun z hz=>?_;rw [decide_eq_true (show cl < z.Cg by have:=h z hz;omega),Bool.and_true]
theorem Aws (h:Iw) (w:World):Cw Bi w [.int .i64 h.Af,.int .i64 h.Cg] [h] []:=⟨_,[],[],[],GL,GL,⟨rfl,rfl⟩,rfl,rfl⟩
structure HoS where
 k:Nat
 a:Option Addr
 c:Nat
 F:List Nat
theorem Acr (W:Az) (hs:List Iw) (cl:Int) (v:Value) (a2:Option Addr) (c2:Nat) (F G:List Nat) (t0:0≤W.Ao) (t1:W.Ao≤65535) (hl:hs.length≤1000) (hn:Ago hs) :
  Fn prog 252 [.slice a2 hs.length c2,v,.int .i64 cl] [.isv Cd v W F,.sl Bi (.slice a2 hs.length c2) hs G] [] (fun (_:Option Addr × Nat × List Nat)=>True)
   (fun z=>.slice z.1 (I7 W cl hs).length z.2.1) (fun z=>[.ow Bi 156 (.slice z.1 (I7 W cl hs).length z.2.1) (I7 W cl hs) z.2.2]):=by
 refine enter func252 rfl ntmps252 fun w0=>?_;refine Ib ?_;rintro a1 c1 F1 rfl l1;refine go ?_;intros;refine C4 Bi ?_;refine Ck [0,2,4,6] (fun s:HoS=>[(7,.slice s.a (I7 W cl (hs.take s.k)).length s.c),(8,.int .i64 s.k)]) (fun s=>[.ow Bi 156 (.slice s.a (I7 W cl (hs.take s.k)).length s.c) (I7 W cl (hs.take s.k)) s.F]) (fun s=>s.k≤hs.length) (fun s=>hs.length - s.k) ⟨0,_,0,_⟩ (Nat.zero_le _) fun s hk=>?_;obtain ⟨k,a5,c5,F5⟩:=s;dsimp only at hk ⊢;refine go ?_;intros;refine Be rfl (fun h3=>?_) (fun h3=>?_)
 ·have hk3:k < hs.length:=by omega
  obtain ⟨n0,n1⟩:=hn hs[k] (List.getElem_mem hk3);have hkl:(I7 W cl (hs.take k)).length≤1000:=by have:=List.length_filter_le (fun h:Iw=>Ik W h.Af && decide (cl < h.Cg)) (hs.take k);unfold I7;simp only [List.length_take] at this;omega
  refine V1 (xs:=hs) k ?_;rintro hi b o e;rw [e];cases g5:Ik W hs[k].Af
  ·refine M7 ?_;intros;refine At [0,2] [] ?_;refine Dk 0 1 2 3 ?_;refine Dy 4 5 ?_;refine dN 6 ?_;refine oC ?_;refine cb (fun w st=>(Xk W hs[k].Af _ _ t0 t1 n0 n1).val w (I9 (st.get (p:=.isv Cd (.agg #[.int .i64 W.Ao,.int .i64 W.size,.slice a1 W.Ak.length c1]) W F) GL))) ?_;rw [g5];refine dk ?_;refine dt 7 ?_;refine ds 8 ?_;refine ds 9 ?_;refine ds 10 ?_;refine ds 11 ?_;refine ds 12 ?_;refine ds 13 ?_;refine ds 14 ?_;refine dt 15 ?_;refine dd ?_;refine go ?_;intros;have hf:I7 W cl (hs.take (k+1))=I7 W cl (hs.take k):=C2 hk3 (by rw [g5];rfl);rw [←hf]
   refine Cu ⟨k+1,a5,c5,F5⟩ hk3 JY
  ·refine M7 ?_;intros;refine At [0,2] [] ?_;refine Dk 0 1 2 3 ?_;refine Dy 4 5 ?_;refine dN 6 ?_;refine oC ?_;refine cb (fun w st=>(Xk W hs[k].Af _ _ t0 t1 n0 n1).val w (I9 (st.get (p:=.isv Cd (.agg #[.int .i64 W.Ao,.int .i64 W.size,.slice a1 W.Ak.length c1]) W F) GL))) ?_;rw [g5];refine dk ?_;refine dt 7 ?_;refine Di 8 ?_;refine Di 9 ?_;refine Di 10 ?_;refine Di 11 ?_;refine Di 12 ?_;refine Di 13 ?_;refine Di 14 ?_;refine dt 15 ?_;refine dd ?_;refine go ?_;intros;refine Be rfl (fun h5=>?_) (fun h5=>?_)
   ·refine go ?_;intros;apply wO;refine Oh (Aws hs[k]) Jc fun a6 c6 F6=>?_;have hf:I7 W cl (hs.take (k+1))=I7 W cl (hs.take k)++[hs[k]]:=Gm hk3 (by rw [g5,decide_eq_true h5];rfl);rw [←hf];refine go ?_;intros;refine Cu ⟨k+1,a6,c6,F6⟩ hk3 JY
   ·refine go ?_;intros;have hf:I7 W cl (hs.take (k+1))=I7 W cl (hs.take k):=C2 hk3 (by rw [g5,decide_eq_false h5];rfl);rw [←hf];refine Cu ⟨k+1,a5,c5,F5⟩ hk3 JY
 ·have hkl:k=hs.length:=by omega
  subst hkl;rw [List.take_length];refine go ?_;intros;refine ret (a5,c5,F5) trivial rfl
def W8 (x:Cr) (W:Az):Cr:=⟨W,x.Ai,x.quiet,I7 W x.Ai x.holds⟩
theorem Ax9 {x:Cr} {W:Az} (h:∀z∈x.holds,x.Ai+1≤z.Cg):W8 x W=Anc x W:=by unfold W8 Anc;rw [Wj h]
theorem Sb (x:Cr) (W:Az) (v vw:Value) (F Fw:List Nat) (y0:0≤W.Ao) (y1:W.Ao≤65535) (hl:x.holds.length≤1000) (hn:Ago x.holds) :
  Fn prog 188 [v,vw] [.isv D7 v x F,.isv Cd vw W Fw] [] (fun (_:Ajg)=>True) (fun s=>.agg #[.int .i64 W.Ao,.int .i64 W.size,.slice s.a W.Ak.length s.c,.int .i64 x.Ai,.int .i64 x.quiet,.slice s.a2 (I7 W x.Ai x.holds).length s.c2])
   (fun s=>[.isv D7 (.agg #[.int .i64 W.Ao,.int .i64 W.size,.slice s.a W.Ak.length s.c,.int .i64 x.Ai,.int .i64 x.quiet,.slice s.a2 (I7 W x.Ai x.holds).length s.c2]) (W8 x W) s.F]):=by
 refine enter func188 rfl ntmps188 fun w0=>?_;refine Jh ?_;rintro a1 c1 F1 a2 c2 F2 rfl l1 l2;refine Ib (x:=W) (F:=Fw) ?_;rintro a3 c3 F3 rfl l3;refine go ?_;intros;refine At [1,2] [] ?_;refine Dk 0 1 2 3 ?_;refine Dk 4 5 6 7 ?_;refine Dy 8 9 ?_;refine dN 10 ?_;refine oC ?_;refine cf (Acr W x.holds x.Ai _ a2 c2 Fw F2 y0 y1 GJ hn) fun z _=>?_;refine Ar ?_;refine dk ?_;refine dt 11 ?_;refine dN 12 ?_;refine oS ?_;refine dk ?_;refine dd ?_;refine go ?_;intros;refine A4 (E:=Bi) fun F9=>?_;refine Gf (W8 x W) ?_;exact FC
theorem Asa (x:Cr) (W:Az) (v vw:Value) (F Fw:List Nat) (y0:0≤W.Ao) (y1:W.Ao≤65535) (hl:x.holds.length≤1000) (hn:∀h∈x.holds,B9 h.Af=true) (hu:∀h∈x.holds,x.Ai+1≤h.Cg) :
  Fn prog 188 [v,vw] [.isv D7 v x F,.isv Cd vw W Fw] [] (fun (_:Ajg)=>True) (fun s=>.agg #[.int .i64 W.Ao,.int .i64 W.size,.slice s.a W.Ak.length s.c,.int .i64 x.Ai,.int .i64 x.quiet,.slice s.a2 (Nc W x.holds).length s.c2])
   (fun s=>[.isv D7 (.agg #[.int .i64 W.Ao,.int .i64 W.size,.slice s.a W.Ak.length s.c,.int .i64 x.Ai,.int .i64 x.quiet,.slice s.a2 (Nc W x.holds).length s.c2]) (Anc x W) s.F]):=by
 have h:=Sb x W v vw F Fw y0 y1 hl (Aeb hn);rw [Ax9 hu,Wj hu] at h;exact h
end Go.Proofs.YtkagnmekdkchiaaGreatDoor
namespace Go.Proofs.YtkagnmekdkchiaaGreatDoor

open Go.RowKit Go.Shelf
end Go.Proofs.YtkagnmekdkchiaaGreatDoor
namespace Go.Proofs.YtkagnmekdkchiaaGreatDoor
open Go.RowKit
theorem N0.frame {α:Type} {E:Bx α} {w w':World} {v x F} (h:N0 E w v x F) (hF:∀b∈F,w'.heap[b]?=w.heap[b]?):N0 E w' v x F:=by
 obtain ⟨cs,hv,h⟩:=h;exact ⟨cs,hv,E.frame h hF⟩
theorem Aps (t n:Int):Ce (Ce t 1) (n - 1)=Ce t n:=by unfold Ce;omega
def Dd (x:Az):Az:=if (x.Ak.length:Int)=x.size then ⟨Ce x.Ao 1,x.size,x.Ak.drop 1⟩ else x
def Da (x:Az) (s:ByteArray):Az:=⟨(Dd x).Ao,x.size,(Dd x).Ak++[s]⟩
def Dm (x:Az) (s:ByteArray):Av:=⟨1,Ce x.Ao x.Ak.length,(Dd x).Ao,Ce (Dd x).Ao ((Dd x).Ak.length+1),s⟩
theorem H5 (t z:Int) (a:Option Addr) (n c:Nat) (w:World) (h0:0≤t) (h1:t≤65535) (hn:n≤4294967296) :
  Calls prog 117 #[.agg #[.int .i64 t,.int .i64 z,.slice a n c]] w fun e w'=>e=.returned (.int .i64 (Ce t n))∧Below w.heap.size w w':=by
 go_enter func117,ntmps117
 go_wp2_with fail;refine (Q5 _ _ _ GJ GJ).mono ?_;rintro e w' ⟨rfl,rfl⟩;go_wp2_with fail
 go_ret
 exact ⟨rfl,(Below.refl _ _).alloc (Nat.le_refl _) _⟩
theorem Sd (t z:Int) (a:Option Addr) (n c:Nat) (w:World) (h0:0≤t) (h1:t≤65535) (hn:n≤4294967296) :
  Calls prog 83 #[.agg #[.int .i64 t,.int .i64 z,.slice a n c]] w fun e w'=>e=.returned (.int .i64 (Ce t n))∧Below w.heap.size w w':=by
 go_enter func83,ntmps83
 go_wp2_with fail;refine (Ks _ _ _ GJ GJ).mono ?_;rintro e w' ⟨rfl,rfl⟩;go_wp2_with fail
 go_ret
 exact ⟨rfl,(Below.refl _ _).alloc (Nat.le_refl _) _⟩
structure Bez where
 Bbc:List ByteArray
 Ba5:ByteArray
 Bei:Int
end Go.Proofs.YtkagnmekdkchiaaGreatDoor
namespace Go.Proofs.YtkagnmekdkchiaaGreatDoor

open Go.RowKit Go.Shelf
end Go.Proofs.YtkagnmekdkchiaaGreatDoor
namespace Go.Proofs.YtkagnmekdkchiaaGreatDoor
open Go.RowKit
structure Bfd (x:Bez):Prop where
 l:x.Bbc.length≤8
 q:∀s∈x.Bbc,s.size≤60
 f:x.Ba5.size≤40
 u0:0≤x.Bei
 u1:x.Bei≤x.Ba5.size
end Go.Proofs.YtkagnmekdkchiaaGreatDoor
namespace Go.Proofs.YtkagnmekdkchiaaGreatDoor

open Go.RowKit Go.Shelf
end Go.Proofs.YtkagnmekdkchiaaGreatDoor
namespace Go.Proofs.YtkagnmekdkchiaaGreatDoor
open Go.RowKit
section
variable {c:Cx} {fr:Fr} {H:List Pc} {Φ:Gl}
end
end Go.Proofs.YtkagnmekdkchiaaGreatDoor
namespace Go.Proofs.YtkagnmekdkchiaaGreatDoor

open Go.RowKit
end Go.Proofs.YtkagnmekdkchiaaGreatDoor
namespace Go.Proofs.YtkagnmekdkchiaaGreatDoor
open Go.RowKit
structure PuS where
 a:Option Addr
 c:Nat
 F:List Nat
theorem Rs {x:Az} (t0:0≤x.Ao) (t1:x.Ao≤65535):0≤(Dd x).Ao∧(Dd x).Ao≤65535:=by
 unfold Dd
 split
 ·exact Je _ _
 ·exact ⟨t0,t1⟩
theorem Ayq (x:Az) (k:Nat) (g t o:Nat) (A B:List Value) (r1 r2 r3:Value) (a:Option Addr) (c:Nat) (F:List Nat) (hl:x.Ak.length≤6) (hk:k≤x.Ak.length) (t0:0≤x.Ao) (t1:x.Ao≤65535) :
  Fn prog 218 [Hm g o 0,.int .i64 (k:Nat)] [] [.row g t o A [.int .i64 x.Ao,.int .i64 x.size,.slice a x.Ak.length c,r1,r2,r3] B,.ow A8 9 (.slice a x.Ak.length c) x.Ak F] (fun (_:PuS)=>True) (fun _=>.tuple #[]) (fun z=>[.row g t o A [.int .i64 (Ce x.Ao k),.int .i64 x.size,.slice z.a (x.Ak.drop k).length z.c,r1,r2,r3] B,.ow A8 9 (.slice z.a (x.Ak.drop k).length z.c) (x.Ak.drop k) z.F]):=by
 refine enter func218 rfl ntmps218 fun w0=>?_;refine A4 (E:=A8) (xs:=x.Ak) fun Fr=>?_;refine go ?_;intros;apply wO;refine sld k fun a2 c2 F2=>?_;refine go ?_;intros;refine cn (fun w st=>Zi _ _ _ _ (st.get (p:=.sl A8 (.slice a2 (x.Ak.drop k).length c2) (x.Ak.drop k) F2) GO).2 HX) fun a6 c6 F6=>?_;refine go ?_;intros;refine ce (fun w st=>Q5 x.Ao k w GJ GJ) ?_;refine go ?_;intros;refine Vc ?_;refine ret ⟨a6,c6,F6⟩ trivial rfl
theorem Bcf (x:Az) (s:ByteArray) (g t o:Nat) (A B:List Value) (r1 r2 r3:Value) (a:Option Addr) (c:Nat) (F:List Nat) (hl:x.Ak.length≤6) (ht:B9 x.Ao=true) (hs:s.size≤maxLen) (hz:1≤x.size) :
  Fn prog 161 [Hm g o 0,.string s] [] [.row g t o A [.int .i64 x.Ao,.int .i64 x.size,.slice a x.Ak.length c,r1,r2,r3] B,.ow A8 9 (.slice a x.Ak.length c) x.Ak F] (fun (_:PuS)=>True) (fun _=>.agg #[.int .i64 1,.int .i64 (Dm x s).Af,.int .i64 (Dm x s).Ao,.int .i64 (Dm x s).Ff,.string s])
   (fun z=>[.row g t o A [.int .i64 (Da x s).Ao,.int .i64 (Da x s).size,.slice z.a (Da x s).Ak.length z.c,r1,r2,r3] B,.ow A8 9 (.slice z.a (Da x s).Ak.length z.c) (Da x s).Ak z.F]):=by
 obtain ⟨t0,t1⟩:=Bb.1 ht;obtain ⟨R,hR⟩:∃R,Dd x=R:=⟨_,rfl⟩;have hb:=Rs t0 t1;have hRl:R.Ak.length≤6:=by
  rw [←hR];unfold Dd
  split
  ·show (x.Ak.drop 1).length≤6;rw [List.length_drop];omega
  ·exact hl
 have hnum:Ce R.Ao R.Ak.length=Ce x.Ao x.Ak.length:=by
  rw [←hR];unfold Dd
  split
  ·rename_i h;show Ce (Ce x.Ao 1) ((x.Ak.drop 1).length:Nat)=_;rw [List.length_drop,show ((x.Ak.length - 1:Nat):Int)=(x.Ak.length:Int) - 1 by omega,Aps]
  ·rfl
 rw [show Da x s=⟨R.Ao,x.size,R.Ak++[s]⟩ by unfold Da;rw [hR],show Dm x s=⟨1,Ce x.Ao x.Ak.length,R.Ao,Ce R.Ao (R.Ak.length+1),s⟩ by unfold Dm;rw [hR]];dsimp only;rw [hR] at hb;refine enter func161 rfl ntmps161 fun w0=>?_;refine go ?_;intros;refine cb (fun w st=>H5 _ _ _ _ _ w t0 t1 GJ) ?_;refine go ?_;intros;refine At [1] [] ?_;refine Dk 0 1 2 3 ?_;refine Dk 4 5 6 7 ?_;refine Dy 8 9 ?_;refine dd ?_;refine go ?_;intros
 refine Eg [0,1,4,5] [0] (fun _:PuS=>[]) (fun z=>[.row g t o A [.int .i64 R.Ao,.int .i64 x.size,.slice z.a R.Ak.length z.c,r1,r2,r3] B,.ow A8 9 (.slice z.a R.Ak.length z.c) R.Ak z.F]) (fun _=>True) ?_ fun z _=>?_
 ·refine Be rfl (fun h1=>?_) (fun h1=>?_)
  ·have e:R=⟨Ce x.Ao 1,x.size,x.Ak.drop 1⟩:=by rw [←hR];unfold Dd;rw [if_pos h1]
   rw [e];refine go ?_;intros;refine cf (Ayq x 1 g t o A B _ _ _ a c F hl GJ t0 t1) fun z _=>?_;refine Ar ?_;refine go ?_;intros;refine Bw z trivial
  ·have e:R=x:=by rw [←hR];unfold Dd;rw [if_neg h1]
   rw [e];refine go ?_;intros;refine Bw ⟨a,c,F⟩ trivial
 refine go ?_;intros;apply wO;refine Oh (E:=A8) (ys:=[s]) (fun w=>⟨[.string s],[],[],[],rfl,rfl,⟨rfl,hs,rfl⟩,rfl,rfl⟩) Dp fun a7 c7 F7=>?_;have hla:((R.Ak++[s]).length:Int)=R.Ak.length+1:=by simp
 refine go ?_;intros;dsimp only [List.append];refine At [1] [] ?_;refine Dk 0 1 2 3 ?_;refine Dk 4 5 6 7 ?_;refine dt 9 ?_;refine dN 8 ?_;refine oC ?_;refine cb (fun w st=>H5 _ _ _ _ _ w hb.1 hb.2 GJ) ?_;refine dk ?_;refine dt 10 ?_;refine dN 11 ?_;refine oS ?_;refine dk ?_;refine dd ?_;refine go ?_;intros;refine ret ⟨a7,c7,F7⟩ trivial ?_;rw [hla];rfl
theorem Abp (x:Az) (k:Nat) (v:Value) (F:List Nat) (hl:x.Ak.length≤4294967296) (hk:k≤x.Ak.length) (t0:0≤x.Ao) (t1:x.Ao≤65535) :
  Fn prog 189 [v,.int .i64 (k:Nat)] [.isv Cd v x F] [] (fun (_:PuS)=>True) (fun z=>.agg #[.int .i64 (Ce x.Ao k),.int .i64 x.size,.slice z.a (x.Ak.drop k).length z.c]) (fun z=>[.ow A8 9 (.slice z.a (x.Ak.drop k).length z.c) (x.Ak.drop k) z.F]):=by
 refine enter func189 rfl ntmps189 fun w0=>?_;refine Ib ?_;rintro a1 c1 F1 rfl l1;have hdk:(x.Ak.drop k).length=x.Ak.length - k:=List.length_drop;refine go ?_;intros;refine At [1,2] [] ?_;refine Dk 0 1 2 4 ?_;refine Dk 5 7 8 9 ?_;refine Anx 10 k fun a5 c5 F5=>?_;refine dM 3 6 ?_ ?_
 ·refine oC ?_;refine ce (fun w st=>Ks x.Ao k w GJ GJ) ?_;refine dk ?_;refine dN 6 ?_;apply Lr;rfl;intro _;refine C4 A8 ?_;exact BX
 ·apply Lr;rfl;intro _;refine C4 A8 ?_;refine dk ?_;refine dN 3 ?_;refine oC ?_;refine ce (fun w st=>Ks x.Ao k w GJ GJ) ?_;exact BX
theorem Avy (x:Az) (s:ByteArray) (v:Value) (F:List Nat) (hl:x.Ak.length≤6) (t0:0≤x.Ao) (t1:x.Ao≤65535) (hs:s.size≤maxLen) (hz:1≤x.size) :
  Fn prog 190 [v,.string s] [.isv Cd v x F] [] (fun (_:Value × List Nat)=>True) (fun z=>.tuple #[z.1,.agg #[.int .i64 1,.int .i64 (Dm x s).Af,.int .i64 (Dm x s).Ao,.int .i64 (Dm x s).Ff,.string s]]) (fun z=>[.isv Cd z.1 (Da x s) z.2]):=by
 have e0:Ce x.Ao ((0:Nat):Int)=x.Ao:=by unfold Ce;omega
 obtain ⟨R,hR⟩:∃R,Dd x=R:=⟨_,rfl⟩;have hb:=Rs t0 t1;have hRl:R.Ak.length≤6:=by
  rw [←hR];unfold Dd
  split
  ·show (x.Ak.drop 1).length≤6;rw [List.length_drop];omega
  ·exact hl
 have hnum:Ce R.Ao R.Ak.length=Ce x.Ao x.Ak.length:=by
  rw [←hR];unfold Dd
  split
  ·rename_i h;show Ce (Ce x.Ao 1) ((x.Ak.drop 1).length:Nat)=_;rw [List.length_drop,show ((x.Ak.length - 1:Nat):Int)=(x.Ak.length:Int) - 1 by omega,Aps]
  ·rfl
 rw [show Da x s=⟨R.Ao,x.size,R.Ak++[s]⟩ by unfold Da;rw [hR],show Dm x s=⟨1,Ce x.Ao x.Ak.length,R.Ao,Ce R.Ao (R.Ak.length+1),s⟩ by unfold Dm;rw [hR]];dsimp only;rw [hR] at hb;refine enter func190 rfl ntmps190 fun w0=>?_;refine Ib ?_;rintro a1 c1 F1 rfl l1;refine go ?_;intros;refine cf (Abp x 0 _ F GJ (Nat.zero_le _) t0 t1) fun y _=>?_;refine Ar ?_;rw [e0,List.drop_zero];refine go ?_;intros;rename_i g
 refine Eg [1,2,4,5,6] [2,3,4,5,6] (fun _:PuS=>[]) (fun z=>[.row g 40 0 [] [.int .i64 R.Ao,.int .i64 x.size,.slice z.a R.Ak.length z.c] [],.ow A8 9 (.slice z.a R.Ak.length z.c) R.Ak z.F]) (fun _=>True) ?_ fun z _=>?_
 ·refine Be rfl (fun h1=>?_) (fun h1=>?_)
  ·have e:R=⟨Ce x.Ao 1,x.size,x.Ak.drop 1⟩:=by rw [←hR];unfold Dd;rw [if_pos h1]
   rw [e];refine go ?_;intros;refine cf (Abp x 1 _ F GJ GJ t0 t1) fun z _=>?_;refine Ar ?_;refine go ?_;intros;refine Bw z trivial
  ·have e:R=x:=by rw [←hR];unfold Dd;rw [if_neg h1]
   rw [e];refine go ?_;intros;refine Bw ⟨y.a,y.c,y.F⟩ trivial
 refine go ?_;intros;refine cb (fun w st=>Sd _ _ _ _ _ w hb.1 hb.2 GJ) ?_;rw [hnum];refine go ?_;intros;apply wO;refine Oh (E:=A8) (ys:=[s]) (fun w=>⟨[.string s],[],[],[],rfl,rfl,⟨rfl,hs,rfl⟩,rfl,rfl⟩) Dp fun a7 c7 F7=>?_;have hla:((R.Ak++[s]).length:Int)=R.Ak.length+1:=by simp
 refine go ?_;intros;dsimp only [List.append];refine At [1] [] ?_;refine Dk 0 1 2 3 ?_;refine Dy 4 6 ?_;refine dN 5 ?_;refine oC ?_;refine cb (fun w st=>Sd _ _ _ _ _ w hb.1 hb.2 GJ) ?_;refine dk ?_;refine dt 7 ?_;refine dN 8 ?_;refine oS ?_;refine dk ?_;refine dN 9 ?_;refine oS ?_;refine dk ?_;refine dd ?_;refine A4 (E:=A8) (xs:=R.Ak++[s]) fun F8=>?_;refine Ds ⟨R.Ao,x.size,R.Ak++[s]⟩ ?_;refine go ?_;intros;refine ret (_,_) trivial ?_;rw [hla];rfl
structure SeS where
 a:Option Addr
 c:Nat
 F:List Nat
 a2:Option Addr
 c2:Nat
 F2:List Nat
theorem Ayo (x:Az) (s:ByteArray) (hs:List Iw) (g t o:Nat) (A B:List Value) (a a2:Option Addr) (c c2:Nat) (cl q:Int) (F F2:List Nat) (hl:x.Ak.length≤6) (t0:0≤x.Ao) (t1:x.Ao≤65535) (hss:s.size≤maxLen) (hz:1≤x.size) (hn:∀h∈hs,B9 h.Af=true) :
  Fn prog 112 [Hm g o 0,.string s] [] [.row g t o A [.int .i64 x.Ao,.int .i64 x.size,.slice a x.Ak.length c,.int .i64 cl,.int .i64 q,.slice a2 hs.length c2] B,.ow Bi 156 (.slice a2 hs.length c2) hs F2,.ow A8 9 (.slice a x.Ak.length c) x.Ak F] (fun (_:SeS)=>True) (fun _=>.agg #[.int .i64 1,.int .i64 (Dm x s).Af,.int .i64 (Dm x s).Ao,.int .i64 (Dm x s).Ff,.string s])
   (fun z=>[.row g t o A [.int .i64 (Da x s).Ao,.int .i64 (Da x s).size,.slice z.a (Da x s).Ak.length z.c,.int .i64 cl,.int .i64 0,.slice z.a2 (Nc (Da x s) hs).length z.c2] B,.ow Bi 156 (.slice z.a2 (Nc (Da x s) hs).length z.c2) (Nc (Da x s) hs) z.F2,.ow A8 9 (.slice z.a (Da x s).Ak.length z.c) (Da x s).Ak z.F]):=by
 have hb:=Rs t0 t1;refine enter func112 rfl ntmps112 fun w0=>?_;refine go ?_;intros;refine cf (Bcf x s g t o A B _ _ _ a c F hl (Bb.2 ⟨t0,t1⟩) hss hz) fun z _=>?_;refine Ar ?_;refine go ?_;intros;refine cf (Alq (Da x s) hs g t o A B z.a a2 z.c c2 cl 0 z.F F2 hb.1 hb.2 hn) fun y _=>?_;refine Ar ?_;refine go ?_;intros;refine ret ⟨z.a,z.c,z.F,y.1,y.2.1,y.2.2⟩ trivial rfl
def Qt (x:Cr) (s:ByteArray):Cr:=⟨Da x.Ab s,x.Ai,0,Nc (Da x.Ab s) x.holds⟩
def zPk:Av:=⟨0,0,0,0,⟨#[]⟩⟩
def Y6 (x:Az) (s:ByteArray):Bool:=Dv x && P9 s
end Go.Proofs.YtkagnmekdkchiaaGreatDoor
namespace Go.Proofs.YtkagnmekdkchiaaGreatDoor

open Go.RowKit
end Go.Proofs.YtkagnmekdkchiaaGreatDoor
namespace Go.Proofs.YtkagnmekdkchiaaGreatDoor
open Go.RowKit
def Lb (x:Az):Int:=Ce x.Ao x.Ak.length
def Abg (x:Az) (n:Int):ByteArray:=x.Ak.getD (gp x.Ao n).toNat ⟨#[]⟩
def Awe (x:Az) (n:Int):Bool:=Dv x && B9 n && Ik x n
def Q4 (x:Az):Av:=⟨5,x.Ao,x.Ao,Lb x,⟨#[]⟩⟩
def J8 (x:Az) (p:Av):Bool:=Dv x && By p && decide (p.Ct=3) && Ik x p.Af
def Ak1 (x:Az) (n:Int):Av:=⟨2,n,x.Ao,Lb x,Abg x n⟩
def Dr (x:Az) (p:Av):Av × Bool:=if J8 x p then (Ak1 x p.Af,true) else (zPk,false)
theorem Z9 (x:Az):0≤Lb x∧Lb x≤65535:=Je _ _
theorem Amt {x:Az} (h1:1≤x.size):Lb (Dd x)=Lb x:=by
 unfold Dd
 split
 ·rename_i h;unfold Lb;simp only [List.length_drop];unfold Ce;omega
 ·rfl
theorem Aor {x:Az} {s:ByteArray} (h:Y6 x s=true):Dv x=true∧Dv (Da x s)=true∧Awe (Da x s) (Dm x s).Af=true∧Abg (Da x s) (Dm x s).Af=s∧(Dm x s).Af=Lb x∧gp (Lb x) (Lb (Da x s))=1∧(Dm x s).Ff=Lb (Da x s)∧(Dm x s).Ao=(Da x s).Ao:=by
 unfold Y6 at h;simp only [Bool.and_eq_true] at h;obtain ⟨hg,hs⟩:=h;obtain ⟨⟨t0,t1⟩,⟨z0,z1⟩,hl,hi⟩:=Dz.1 hg;have hr:0≤(Dd x).Ao∧(Dd x).Ao≤65535:=Rs t0 t1;have hn:((Dd x).Ak.length:Int)+1≤x.size∧(Dd x).Ak.all P9=true:=by
  unfold Dd
  split
  ·rename_i h;refine ⟨by simp only [List.length_drop];omega,?_⟩;rw [List.all_eq_true] at hi ⊢;exact fun z hz=>hi z (List.mem_of_mem_drop hz)
  ·exact ⟨GJ,hi⟩
 have hlead:=Amt (x:=x) z0;have hgo:Dv (Da x s)=true:=by
  refine Dz.2 ⟨hr,⟨z0,z1⟩,?_,?_⟩
  ·show (((Dd x).Ak++[s]).length:Int)≤x.size;simp only [List.length_append,List.length_cons,List.length_nil];omega
  ·show ((Dd x).Ak++[s]).all P9=true;simp [hn.2,hs]
 have hnum:(Dm x s).Af=Lb x:=rfl;have hgap:gp (Da x s).Ao (Lb x)=((Dd x).Ak.length:Nat):=by
  rw [←hlead];show gp (Dd x).Ao (Lb (Dd x))=_;unfold Lb gp Ce;omega
 have b:=Z9 x;refine ⟨hg,hgo,?_,?_,rfl,?_,?_,rfl⟩
 ·unfold Awe;rw [hgo,hnum,Bb.2 b,Ik,hgap];show decide (((Dd x).Ak.length:Int) < (((Dd x).Ak++[s]).length:Nat))=true;simp only [List.length_append,List.length_cons,List.length_nil,decide_eq_true_eq];omega
 ·unfold Abg;rw [hnum,hgap];show ((Dd x).Ak++[s]).getD _ _=s;simp
 ·rw [←hlead];show gp (Lb (Dd x)) (Ce (Dd x).Ao (((Dd x).Ak++[s]).length:Nat))=1;unfold Lb gp Ce;simp only [List.length_append,List.length_cons,List.length_nil];omega
 ·show Ce (Dd x).Ao (((Dd x).Ak.length:Nat)+1)=Ce (Dd x).Ao ((((Dd x).Ak++[s]).length:Nat));simp
theorem Amw (t z:Int) (a:Option Addr) (n c:Nat) (h0:0≤t) (h1:t≤65535) (hn:n≤4294967296):Fn prog 222 [.agg #[.int .i64 t,.int .i64 z,.slice a n c]] [] [] (fun (_:Unit)=>True) (fun _=>.agg #[.int .i64 5,.int .i64 t,.int .i64 t,.int .i64 (Ce t n),.string ⟨#[]⟩]) (fun _=>[]):=by
 refine enter func222 rfl ntmps222 fun w0=>?_;refine go ?_;intros;refine At [1] [7] ?_;refine Dk 0 1 2 3 ?_;refine dt 4 ?_;refine dN 5 ?_;refine oC ?_;refine cb (fun w _=>H5 t z a n c w h0 h1 hn) ?_;refine dk ?_;refine dt 6 ?_;refine dN 7 ?_;refine oS ?_;refine Rn ?_;exact CT
theorem Y2 (t z:Int) (a:Option Addr) (n c:Nat) (h0:0≤t) (h1:t≤65535) (hn:n≤4294967296):Fn prog 253 [.agg #[.int .i64 t,.int .i64 z,.slice a n c]] [] [] (fun (_:Unit)=>True) (fun _=>.agg #[.int .i64 5,.int .i64 t,.int .i64 t,.int .i64 (Ce t n),.string ⟨#[]⟩]) (fun _=>[]):=by
 refine enter func253 rfl ntmps253 fun w0=>?_;refine go ?_;intros;refine At [1] [7] ?_;refine Dk 0 1 2 3 ?_;refine dt 4 ?_;refine dN 5 ?_;refine oC ?_;refine cb (fun w _=>Sd t z a n c w h0 h1 hn) ?_;refine dk ?_;refine dt 6 ?_;refine dN 7 ?_;refine oS ?_;refine Rn ?_;exact CT
def T5 (cl:Int) (hs:List Iw):List Iw:=hs.filter fun h=>!decide (h.Cg≤cl)
def Vs (q:Int):Int:=if q+1 < 4 then q+1 else 0
def M4 (x:Az) (q:Int):List Av:=if q+1 < 4 then [] else [Q4 x]
def Mr (x:Cr):Cr:=⟨x.Ab,x.Ai+1,Vs x.quiet,T5 (x.Ai+1) x.holds⟩
theorem Amk {x:Cr} (h:Ch x=true):0≤x.quiet∧x.quiet≤3:=by
 unfold Ch Eu at h;simp only [Bool.and_eq_true,decide_eq_true_eq] at h;exact h.1.2
theorem Arq {x:Cr} (h:Ch x=true):∀z∈x.holds,Ik x.Ab z.Af=true:=fun z hz=>by
 unfold Ch at h;simp only [Bool.and_eq_true] at h;obtain ⟨i,hi,rfl⟩:=List.getElem_of_mem hz;have:=List.all_eq_true.1 h.2 i IW;rw [O8 hi] at this;simp only [Bool.and_eq_true] at this;exact this.1.1.2
structure TiS where
 a:Option Addr
 c:Nat
 a2:Option Addr
 c2:Nat
 F:List Nat
 ae:Option Addr
 ce:Nat
 Fe:List Nat
theorem Bak (h:Iw) (gb g o:Nat) (u v0 v1 v2 q Hs:Value) (cl:Int) (G:List Nat) :
  Fn prog 221 [u,Hm gb 0 0] [.isv Bi u h G,.cel gb 0 [Hm g o 0],.cel g o [v0,v1,v2,.int .i64 cl,q,Hs]] [] (fun (_:Unit)=>True) (fun _=>.bool (decide (h.Cg≤cl))) (fun _=>[]):=by
 refine enter func221 rfl ntmps221 fun w0=>?_;refine Ama ?_;rintro _ rfl;refine go ?_;intros;refine At [0,2,3] [] ?_;refine Dk 0 1 2 3 ?_;refine Dk 4 5 6 7 ?_;exact CT
theorem Bal (hs:List Iw) (gb tb g t o:Nat) (A B:List Value) (v0 v1 v2:Value) (v3:Value) (a2:Option Addr) (c2:Nat) (cl q:Int) (F2:List Nat) :
  Fn prog 219 [.slice a2 hs.length c2,.func (.func 221) #[] #[Hm gb 0 0]] [] [.ow Bi 156 (.slice a2 hs.length c2) hs F2,.row gb tb 0 [] [Hm g o 0] [],.row g t o A [v0,v1,v2,.int .i64 cl,.int .i64 q,v3] B] (fun (_:Option Addr × Nat × List Nat)=>True)
   (fun z=>.slice z.1 (T5 cl hs).length z.2.1) (fun z=>[.ow Bi 156 (.slice z.1 (T5 cl hs).length z.2.1) (T5 cl hs) z.2.2,.row gb tb 0 [] [Hm g o 0] [],.row g t o A [v0,v1,v2,.int .i64 cl,.int .i64 q,v3] B]):=by
 refine An4 rfl fun w ⟨hnd,ho⟩ _ hk=>?_;refine (Vj _ (Uo GK) #[Hm gb 0 0] _ hs F2 (fun h=>decide (h.Cg≤cl)) w ho hnd fun k hk2 wr u G hK hu=>?_).mono ?_
 ·have hr:=hk wr hK;have r1:=hr (.row gb tb 0 [] [Hm g o 0] []) GL;have r2:=hr (.row g t o A [v0,v1,v2,.int .i64 cl,.int .i64 q,v3] B) GL;refine (Bak hs[k] gb g o u v0 v1 v2 (.int .i64 q) v3 cl G).val wr ?_;intro p hp;simp only [List.mem_cons,List.not_mem_nil,or_false] at hp;rcases hp with rfl|rfl|rfl
  ·exact hu
  ·exact ⟨GL,Hz r1⟩
  ·exact ⟨GL,Hz r2⟩
 ·rintro e w' ⟨v',F',rfl,h1,h2,h3,h4⟩;have e:(hs.filter fun x=>!(fun h:Iw=>decide (h.Cg≤cl)) x)=T5 cl hs:=rfl;rw [e] at h1;exact CQ
theorem Ayp (W:Az) (hs:List Iw) (g t o:Nat) (A B:List Value) (a a2:Option Addr) (c c2:Nat) (cl q:Int) (F2:List Nat) (t0:0≤W.Ao) (t1:W.Ao≤65535) (hl:W.Ak.length≤6) (k0:0≤cl) (k1:cl≤9999) (q0:0≤q) (q3:q≤3) :
  Fn prog 163 [Hm g o 0] [] [.row g t o A [.int .i64 W.Ao,.int .i64 W.size,.slice a W.Ak.length c,.int .i64 cl,.int .i64 q,.slice a2 hs.length c2] B,.ow Bi 156 (.slice a2 hs.length c2) hs F2] (fun (_:TiS)=>True)
   (fun z=>.slice z.ae (M4 W q).length z.ce) (fun z=>[.row g t o A [.int .i64 W.Ao,.int .i64 W.size,.slice a W.Ak.length c,.int .i64 (cl+1),.int .i64 (Vs q),.slice z.a2 (T5 (cl+1) hs).length z.c2] B,.ow Bi 156 (.slice z.a2 (T5 (cl+1) hs).length z.c2) (T5 (cl+1) hs) z.F,.ow Aj 159 (.slice z.ae (M4 W q).length z.ce) (M4 W q) z.Fe]):=by
 refine enter func163 rfl ntmps163 fun w0=>?_;refine go ?_;intros;refine At [0,1] [9] ?_;refine Dk 0 1 2 3 ?_;refine Dy 4 5 ?_;refine dN 6 ?_;refine oC ?_;refine cf (Bal hs _ _ g t o A B _ _ _ _ a2 c2 (cl+1) q F2) fun z _=>?_;refine Ar ?_;refine dk ?_;refine Dy 7 8 ?_;refine dN 9 ?_;refine oS ?_;refine Rn ?_;refine dd ?_;refine go ?_;intros;refine Be rfl (fun h1=>?_) (fun h1=>?_)
 ·refine Br Aj 159 ?_;refine go ?_;intros;rw [show Vs q=q+1 from if_pos h1,show M4 W q=[] from if_pos h1];refine ret ⟨none,0,z.1,z.2.1,z.2.2,none,0,[]⟩ trivial rfl
 ·refine go ?_;intros;refine cf (Amw W.Ao W.size a W.Ak.length c t0 t1 GJ) fun _ _=>?_;refine Ar ?_;refine go ?_;intros;refine Ic (xs:=[Q4 W]) (C8 _ IK) ?_ GL;rw [show Vs q=0 from if_neg h1,show M4 W q=[Q4 W] from if_neg h1];refine ret ⟨none,0,z.1,z.2.1,z.2.2,_,_,_⟩ trivial rfl
end Go.Proofs.YtkagnmekdkchiaaGreatDoor
