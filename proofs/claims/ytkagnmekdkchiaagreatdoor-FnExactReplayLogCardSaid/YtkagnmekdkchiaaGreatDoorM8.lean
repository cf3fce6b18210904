/- Part 8 of the proof: 3 texts, one behind the other. -/
import Derived.Test.YtkagnmekdkchiaaGreatDoorM7
open _root_.Go.Proofs.Tryz
set_option maxRecDepth 100000
set_option maxHeartbeats 8000000
set_option linter.all false
set_option linter.unusedVariables false
set_option linter.unusedSimpArgs false
namespace Go.Proofs.YtkagnmekdkchiaaGreatDoor
theorem BU{p:Prop}(h:p:=by refine In (xs:=x.Am) i ?_;rintro hi2 b o e;rw [e];refine go ?_;intros;apply wO;refine Oh (Rd _) C5 fun a7 c7 F7=>?_;refine go ?_;intros;rw [←eo];refine Cu (⟨i+1,_,_,_⟩:AwS) (by show i+1≤x.Am.length;omega) (by show x.Am.length - (i+1) < x.Am.length - i;omega)):p:=h
end Go.Proofs.YtkagnmekdkchiaaGreatDoor
namespace Go.Proofs.YtkagnmekdkchiaaGreatDoor
open Go.RowKit
def Qq (ts:List ByteArray):Bool:=ts.all fun t=>(Cc t).2
def Jl (ts:List ByteArray):List Int:=ts.map fun t=>(Cc t).1
def Q1 (ts:List ByteArray):List Int × Bool:=if Qq ts then (Jl ts,true) else ([],false)
theorem Awf {ts:List ByteArray} {k:Nat} (h:k < ts.length) (hp:(Cc ts[k]).2=false):Qq ts=false:=by
 unfold Qq;rw [List.all_eq_false];exact ⟨ts[k],List.getElem_mem h,IR⟩
theorem Aon {ts:List ByteArray} {k:Nat} (h:k < ts.length) (hp:(Cc ts[k]).2=true) (ha:Qq (ts.take k)=true):Qq (ts.take (k+1))=true:=by
 unfold Qq at *;rw [List.take_succ_eq_append_getElem h,List.all_append,ha];simp [hp]
theorem Am8 {ts:List ByteArray} {k:Nat} (h:k < ts.length):Jl (ts.take (k+1))=Jl (ts.take k)++[(Cc ts[k]).1]:=by
 unfold Jl;rw [List.take_succ_eq_append_getElem h,List.map_append];rfl
structure PeZ where
 k:Nat
 a:Option Addr
 c:Nat
 F:List Nat
theorem Ame (ts:List ByteArray) (a:Option Addr) (c:Nat) (F FT:List Nat) (hs:∀t∈ts,t.size≤1000000000) (hl:ts.length≤1000):Fn prog 71 [.slice a ts.length c] [.sl A8 (.slice a ts.length c) ts F,Gc FT] [] (fun (_:PeZ)=>True) (fun z=>.tuple #[.slice z.a (Q1 ts).1.length z.c,.bool (Q1 ts).2]) (fun z=>[.ow Bc 3 (.slice z.a (Q1 ts).1.length z.c) (Q1 ts).1 z.F]):=by
 refine enter func71 rfl ntmps71 fun w0=>?_;refine go ?_;intros;refine Br Bc 3 ?_;refine Ck [2,3,9,10] (fun z:PeZ=>[(4,.slice z.a (Jl (ts.take z.k)).length z.c),(11,.int .i64 (z.k:Nat))]) (fun z=>[.ow Bc 3 (.slice z.a (Jl (ts.take z.k)).length z.c) (Jl (ts.take z.k)) z.F]) (fun z=>z.k≤ts.length∧Qq (ts.take z.k)=true) (fun z=>ts.length - z.k) ⟨0,none,0,[]⟩ ⟨Nat.zero_le _,rfl⟩ fun z hz=>?_;obtain ⟨z2,z3⟩:=hz;have hvl:(Jl (ts.take z.k)).length=z.k:=by unfold Jl;rw [List.length_map,List.length_take];omega
 refine go ?_;intros;refine Be rfl (fun h1=>?_) (fun h1=>?_)
 ·have hk:z.k < ts.length:=by omega
  have hx:=hs _ (List.getElem_mem hk);refine M9 (a:=a) (xs:=ts) z.k ?_;rintro hi b o e s1;rw [e];refine go ?_;intros;refine cb (fun w st=>(Aeg ts[z.k] FT hx).val w (I9 (st.get (p:=Gc FT) GL))) ?_;cases g:(Cc ts[z.k]).2
  ·rw [show Q1 ts=([],false) by unfold Q1;rw [Awf hk g];rfl];refine Br Bc 3 ?_;refine go ?_;intros;refine ret ⟨0,none,0,[]⟩ trivial rfl
  refine M7 ?_;intros;apply wO;refine Oh (Pp (Cc ts[z.k]).1) C5 fun a9 c9 F9=>?_;refine go ?_;intros;rw [←Am8 hk];refine Cu ⟨z.k+1,a9,c9,F9⟩ ⟨by show z.k+1≤ts.length;omega,Aon hk g z3⟩ (by show ts.length - (z.k+1) < ts.length - z.k;omega)
 ·have hk:ts.take z.k=ts:=List.take_of_length_le GJ;rw [hk] at z3 hvl ⊢;rw [show Q1 ts=(Jl ts,true) by unfold Q1;rw [z3];rfl];exact BO
theorem Att (t:Bs):(Cv 32 t).length≤t.length+1∧∀u∈Cv 32 t,u.length≤t.length:=by
 have hcb:=Lib.countB_le ⟨#[32]⟩ GM (bz t).size (bz t) (Nat.le_refl _);have hlen:=Lib.splitB_all ⟨#[32]⟩ GM 0 _ (bz t) rfl;rw [Aga,Jq,List.length_map] at hlen;rw [Jb] at hcb;refine ⟨GJ,fun u hu=>?_⟩;have h:bz u∈(Cv 32 t).map bz:=List.mem_map.2 ⟨u,hu,rfl⟩;have e:=Aga 32 (bz t);rw [Jq] at e;rw [←e] at h;have:=U9 ⟨#[32]⟩ (bz t).size _ (bz t) (Nat.le_refl _) (bz u) h;rw [Jb,Jb] at this;exact this
def Ep (x:A9):List Int × Bool:=if Bz x then (x.Am.map (·.Af),true) else ([],false)
theorem Aay (x:A9) (v:Value) (F:List Nat):Fn prog 120 [v] [.isv B4 v x F] [] (fun (_:OwR)=>True) (fun s=>.tuple #[.slice s.a (Ep x).1.length s.c,.bool (Ep x).2]) (fun s=>[.ow Bc 3 (.slice s.a (Ep x).1.length s.c) (Ep x).1 s.F]):=by
 refine enter func120 rfl ntmps120 fun w0=>?_;refine Gt (v:=v) (x:=x) (F:=F) ?_;rintro a1 c1 F1 a2 c2 F2 rfl l1 l2;unfold maxLen at l1 l2;refine Br Bc 3 ?_;refine go ?_;intros;refine cf (Sv x _ F) fun _ _=>?_;refine Ar ?_;cases g1:Bz x
 ·rw [show Ep x=([],false) by unfold Ep;rw [g1];rfl];exact BB
 have g5:=D9.1 g1;have hq8:=(C9.1 g5.q).2.1;rw [show Ep x=(x.Am.map (·.Af),true) by unfold Ep;rw [g1];rfl];refine go ?_;intros;refine Ck [2,3,11,12] (fun s:AwS=>[(13,.int .i64 (s.i:Nat)),(4,.slice s.a ((x.Am.take s.i).map (·.Af)).length s.c)]) (fun s=>[.ow Bc 3 (.slice s.a ((x.Am.take s.i).map (·.Af)).length s.c) ((x.Am.take s.i).map (·.Af)) s.F]) (fun s=>s.i≤x.Am.length) (fun s=>x.Am.length - s.i) ⟨0,none,0,[]⟩ (Nat.zero_le _) fun s hs=>?_;obtain ⟨i,a3,c3,F3⟩:=s;dsimp only at hs ⊢;have hl3:((x.Am.take i).map (·.Af)).length≤i:=by simp;omega
 refine go ?_;intros;refine Be rfl (fun h4=>?_) (fun h4=>?_)
 ·have hi:i < x.Am.length:=by omega
  have eo:(x.Am.take (i+1)).map (·.Af)=(x.Am.take i).map (·.Af)++[x.Am[i].Af]:=by rw [List.take_add_one,List.getElem?_eq_getElem hi,List.map_append];rfl
  exact BU
 have hi:i=x.Am.length:=by omega
 subst hi;rw [List.take_length];exact BB
def Bd9:Bs:=[110,111,110,101]
def jnW (sep:Bs) (l:List ByteArray):ByteArray:=if l=[] then bz Bd9 else bz (Lib.join (l.map fun e=>e.data.toList) sep)
def Wd (E:List ByteArray):ByteArray:=jnW [44,32] E
def T9 (l:List Int):ByteArray:=if l=[] then bz Bd9 else bz (jn l)
def Agm:Bs:=[115,101,110,100]
def Ai4:Bs:=[116,105,99,107]
def Ana:Bs:=[100,111,119,110]
def wUp:Bs:=[117,112]
def Anb:Bs:=[108,111,115,101]
def Ax5:Bs:=[99,117,116]
def Ve:Bs:=[100,114,97,105,110]
def Aau:Bs:=[108,101,97,100]
def Vf:Bs:=[113,117,101,117,101,100]
def W7:Bs:=[115,101,116,116,108,101,100]
def Bar:Bs:=[121,101,115]
def wNo:Bs:=[110,111]
def wOk:Bs:=[111,107]
def Agl:Bs:=[97,119,97,105,116]
def Agn:Bs:=[115,108,111,116,115]
def M0:Bs:=[102,97,99,101,115]
def Bc2:Bs:=[98,97,100]
def Ax6:Bs:=[102,117,108,108]
def Ax7:Bs:=[108,111,110,103]
def Pn (w:Bs):Int:=if w=Ana then 2 else if w=wUp then 5 else if w=Anb then 3 else if w=Ax5 then 6 else 0
def Ii (W:List Bs):Option Jp :=
 if atW W 0=Agm∧W.length=1 then some ⟨1,0,⟨#[]⟩⟩
 else if atW W 0=Agm∧W.length=2∧atW W 1≠[] then some ⟨1,0,bz (atW W 1)⟩
 else if atW W 0=Ai4∧W.length=1 then some ⟨4,0,⟨#[]⟩⟩
 else if W.length≠2 then none
 else if Pn (atW W 0)≠0∧(Cc (bz (atW W 1))).2=true then some ⟨Pn (atW W 0),(Cc (bz (atW W 1))).1,⟨#[]⟩⟩ else none
abbrev NR:=Dt × ByteArray
def Jo (n:Dt) (s:Jp):Option NR:=if Ek s then (Bo n s).map fun y=>(y.1,if s.Ct=2∨s.Ct=4 then Wd y.2 else bz wOk) else none
def J9 (n:Dt) (l:Bs):Option ByteArray :=
 if l=Aau then some (bz (Lib.itoa (Lb n.Aa.Ab)))
 else if l=Vf then some (bz (Lib.itoa ((qd n.down:Nat):Int))++⟨#[32]⟩++bz (Lib.itoa ((qd n.up:Nat):Int)))
 else if l=W7 then some (if X4 n then bz Bar else bz wNo)
 else none
def Se (n:Dt) (i:Int):Bool:=Ed n.Al.Ad i
def Jf (n:Dt) (w:Bs) (l:List Int):Option ByteArray :=
 if Eu 1 (l.getD 0 0) ((n.Al.Ad.length:Int) - 1) then
  if w=Agl∧l.length=1∧Se n (l.getD 0 0)=true then some (T9 ((Pl n (l.getD 0 0).toNat).Am.map (·.Af)))
  else if w=Agn∧l.length=1∧Se n (l.getD 0 0)=true∧(Pl n (l.getD 0 0).toNat).Bd=true then some (Ye (Pl n (l.getD 0 0).toNat).Ab)
  else if w=M0∧l.length=2∧Se n (l.getD 0 0)=false then (if B9 (l.getD 1 0) then some (T9 (Kl (O9 n (l.getD 0 0).toNat) (l.getD 1 0))) else none)
  else none
 else none
def Pk (n:Dt) (r:Option ByteArray):Option NR:=r.map fun t=>(n,t)
def Fc (line:ByteArray):List Bs:=Cv 32 line.data.toList
def Oa (n:Dt) (line:ByteArray):Option NR :=
 match Ii (Fc line) with
 | some s=>Jo n s
 | none =>
  if line.data.toList=Ve then some ((Pv n).1,Wd (Pv n).2)
  else if (Fc line).length=1 then Pk n (J9 n line.data.toList)
  else if Qq (((Fc line).drop 1).map bz) then Pk n (Jf n (atW (Fc line) 0) (Jl (((Fc line).drop 1).map bz)))
  else none
def Of (n:Dt) (line:ByteArray):ByteArray:=match Oa n line with|some r=>r.2|none=>⟨#[63]⟩
def E7 (n:Dt) (line:ByteArray):Dt:=match Oa n line with|some r=>r.1|none=>n
def Pt (t:ByteArray):ByteArray:=if 200 < t.size then bz Ax7 else t
def Tf (line:ByteArray):Bool:=Lg.Bz line ⟨#[]⟩
def Pg (l:Log) (line E6:ByteArray):Log:=⟨l.Bh,l.pending++bz (J4 l.count.toNat line.data.toList E6.data.toList),l.count+1⟩
def Q7 (c:C7) (line:ByteArray):C7 × ByteArray :=
 if Tf line then
  if c.Eb.count=60 then (c,bz Ax6) else (⟨E7 c.As line,Pg c.Eb line (Pt (Of c.As line))⟩,Pt (Of c.As line))
 else (c,bz Bc2)
def Lf (c:C7) (line:ByteArray):C7 × ByteArray:=if I0 c then Q7 c line else (c,bz wNo)
/-! what a command replies can stand in a log; the console stays valid -/
theorem Wl {l:Bs} (h:Xy l):Xy (bz l).data.toList:=by rw [Jq];exact h
theorem Xl {l:Bs} (h:∀b∈l,97≤b.toNat∧b.toNat≤122):Xy l:=fun b hb=>by
 have:=h b hb;exact CJ
theorem Avo {sep:Bs} (hs:Xy sep):∀{l:List Bs},(∀x∈l,Xy x)→Xy (Lib.join l sep)
 | [],_=>fun b hb=>by simp [Lib.join] at hb
 | x::r,h=>by
  rw [Lib.join_cons];refine (h x GL).app ?_;unfold Lib.joinTail;intro b hb;obtain ⟨y,hy,hb⟩:=List.mem_flatten.1 hb;obtain ⟨z,hz,rfl⟩:=List.mem_map.1 hy;exact hs.app (h z JH) b hb
theorem Bd4 {sep:Bs} (hs:Xy sep) {l:List ByteArray} (h:∀x∈l,Xy x.data.toList):Xy (jnW sep l).data.toList:=by
 unfold jnW
 split
 ·exact Wl (Xl GM)
 ·exact Wl (Avo hs fun x hx=>by obtain ⟨y,hy,rfl⟩:=List.mem_map.1 hx;exact h y hy)
theorem Apz {E:List ByteArray} (h:∀e∈E,evN e):Xy (Wd E).data.toList:=Bd4 (fun b hb=>by
 rcases List.mem_cons.1 hb with rfl|hb
 ·decide
 ·rw [List.mem_singleton.1 hb];decide) fun x hx=>(Xc (h x hx)).1
theorem Ajq {n:Int} (h:0≤n):Xy (Lib.itoa n):=fun b hb=>by
 rw [Pd h] at hb;have:=Oj n.natAbs b hb;exact CJ
theorem Be6 {l:List Int} (h:∀x∈l,0≤x):Xy (jn l):=Avo (fun b hb=>by rw [List.mem_singleton.1 hb];decide) fun x hx=>by
 obtain ⟨y,hy,rfl⟩:=List.mem_map.1 hx;exact Ajq (h y hy)
theorem Aqb {l:List Int} (h:∀x∈l,0≤x):Xy (T9 l).data.toList:=by
 unfold T9
 split
 ·exact Wl (Xl GM)
 ·exact Wl (Be6 h)
theorem Aoo {s:Hv} (h:Gs s=true):∀c∈s.De.data.toList,97≤c.toNat∧c.toNat≤122:=by
 unfold Gs P9 Y4 at h;simp only [Bool.and_eq_true,Bool.or_eq_true,decide_eq_true_eq,List.all_eq_true] at h;intro c hc;have h2:=h.1.2 c hc;unfold low Eu at h2;simp only [Bool.and_eq_true,decide_eq_true_eq] at h2;omega
theorem Bae {w:An} (h:Cs w=true):Xy (Ye w).data.toList:=by
 have hok:∀s∈w.Ap,Gs s=true:=by
  unfold Cs at h;simp only [Bool.and_eq_true] at h;exact List.all_eq_true.1 h.1.2
 have hw:=Hy h;have key:∀k,Xy (slT w k).data.toList:=by
  intro k;unfold slT;have h0:Xy (bz (Lib.decDigits w.next.toNat)++⟨#[58]⟩:ByteArray).data.toList:=by
   rw [Hb,Jq];refine Xy.app (fun b hb=>?_) fun b hb=>by rw [List.mem_singleton.1 (show b∈[58] from hb)];decide
   have:=Oj w.next.toNat b hb;exact CJ
  have hm:∀s∈w.Ap.take k,Gs s=true:=fun s hs=>hok s (List.mem_of_mem_take hs);clear hok h;revert hm;generalize w.Ap.take k=L;intro hm;generalize (bz (Lib.decDigits w.next.toNat)++⟨#[58]⟩:ByteArray)=a at h0
  induction L generalizing a with
  | nil=>exact h0
  | cons s r ih =>
   refine ih (fun x hx=>hm x (List.mem_cons_of_mem _ hx)) (a++(⟨#[32]⟩++Aar s)) ?_;rw [Hb,Hb];refine h0.app (Xy.app (fun b hb=>by rw [List.mem_singleton.1 (show b∈[32] from hb)];decide) ?_);unfold Aar
   split
   ·split
    ·exact fun b hb=>by rw [List.mem_singleton.1 (show b∈[46] from hb)];decide
    ·exact Xl (Aoo (hm s GL))
   ·exact fun b hb=>by rw [List.mem_singleton.1 (show b∈[63] from hb)];decide
 exact key _
theorem Azo {n:Dt} {s:Jp} {r:NR} (hg:Aw n=true) (h:Jo n s=some r):Aw r.1=true∧Xy r.2.data.toList:=by
 unfold Jo at h
 split at h
 ·rename_i hs;cases e:Bo n s with
  | none=>rw [e] at h;cases h
  | some y =>
   rw [e] at h;cases h;refine ⟨Mw hg hs e,?_⟩;dsimp only
   split
   ·exact Apz (Ao6 hg hs e)
   ·exact Wl (Xl GM)
 ·cases h
theorem Azw {n:Dt} {l:Bs} {t:ByteArray} (h:J9 n l=some t):Xy t.data.toList:=by
 unfold J9 at h
 split at h
 ·cases h;exact Wl (Ajq (Z9 _).1)
 ·split at h
  ·cases h;rw [Hb,Hb,Jq,Jq];exact ((Ajq (Int.natCast_nonneg _)).app fun b hb=>by rw [List.mem_singleton.1 (show b∈[32] from hb)];decide).app (Ajq (Int.natCast_nonneg _))
  ·split at h
   ·cases h
    split <;> exact Wl (Xl GM)
   ·cases h
theorem Bci {n:Dt} (hg:Aw n=true) (i:Nat):Lq (Pl n i):=by
 by_cases hi:i < n.Ac.length
 ·rw [Gh hi];exact D9.1 ((Hw hg).2.1 _ (List.getElem_mem hi))
 ·unfold Pl;rw [List.getD_eq_getElem?_getD,List.getElem?_eq_none GJ];exact D9.1 GM
theorem Bdz {n:Dt} (hg:Aw n=true) (i:Nat):Ba (O9 n i)=true:=by
 by_cases hi:i < n.Ae.length
 ·rw [I5 hi];exact (Hw hg).1 _ (List.getElem_mem hi)
 ·unfold O9;rw [List.getD_eq_getElem?_getD,List.getElem?_eq_none GJ];decide
theorem Ayt {n:Dt} {w:Bs} {l:List Int} {t:ByteArray} (hg:Aw n=true) (hf:∀i k,∀x∈Kl (O9 n i) k,0≤x) (h:Jf n w l=some t):Xy t.data.toList:=by
 unfold Jf at h;have hr:=Bci hg (l.getD 0 0).toNat
 split at h
 ·split at h
  ·cases h;refine Aqb fun x hx=>?_;obtain ⟨q,hq,rfl⟩:=List.mem_map.1 hx;exact (Bb.1 (Wu hr hq).1).1
  ·split at h
   ·cases h;exact Bae hr.w
   ·split at h
    ·split at h
     ·cases h;exact Aqb (hf _ _)
     ·cases h
    ·cases h
 ·cases h
theorem Ahq {e:Bl} {k:Int} (hg:Ba e=true):∀x∈Kl e k,1≤x∧x≤7:=by
 intro x hx;unfold Kl at hx
 split at hx
 ·rename_i y hy;have h2:=(Gp.1 hg).2.2.1 y (List.mem_of_getElem? hy);unfold Kc at h2;simp only [Bool.and_eq_true] at h2;exact (Xp h2.2.2.1).2 x hx
 ·cases hx
theorem Ark {n:Dt} (hg:Aw n=true) (i:Nat) (k:Int):∀x∈Kl (O9 n i) k,1≤x∧x≤7:=fun x hx=>Ahq (Bdz hg i) x hx
theorem Aw2 {n:Dt} {line:ByteArray} {r:NR} (hg:Aw n=true) (h:Oa n line=some r):Aw r.1=true∧Xy r.2.data.toList:=by
 unfold Oa at h
 split at h
 ·exact Azo hg h
 ·split at h
  ·cases h;exact ⟨(Auz hg).1,Apz (Bbx hg)⟩
  ·split at h
   ·unfold Pk at h;cases e:J9 n line.data.toList with
    | none=>rw [e] at h;cases h
    | some t=>rw [e] at h;cases h;exact ⟨hg,Azw e⟩
   ·split at h
    ·unfold Pk at h;cases e:Jf n (atW (Fc line) 0) (Jl (((Fc line).drop 1).map bz)) with
     | none=>rw [e] at h;cases h
     | some t=>rw [e] at h;cases h;exact ⟨hg,Ayt hg (fun i k x hx=>by have:=Ark hg i k x hx;omega) e⟩
    ·cases h
theorem Ais {n:Dt} {line:ByteArray} (hg:Aw n=true):Aw (E7 n line)=true:=by
 unfold E7;cases e:Oa n line with
 | none=>exact hg
 | some r=>exact (Aw2 hg e).1
theorem Ao0 {n:Dt} {line:ByteArray} (hg:Aw n=true):Xy (Of n line).data.toList:=by
 unfold Of;cases e:Oa n line with
 | none=>exact fun b hb=>by rw [List.mem_singleton.1 (show b∈[63] from hb)];decide
 | some r=>exact (Aw2 hg e).2
theorem Ant {t:ByteArray} (h:Xy t.data.toList):Xy (Pt t).data.toList∧(Pt t).size≤200:=by
 unfold Pt
 split
 ·exact ⟨Wl (Xl GM),GM⟩
 ·exact ⟨h,GJ⟩
theorem Yx {line E6:ByteArray} (h:Tf line=true) (h2:Xy E6.data.toList) (h3:E6.size≤200):Lg.Bz line E6=true:=by
 unfold Tf at h;unfold Lg.Bz at h ⊢;simp only [Bool.and_eq_true] at h ⊢;refine ⟨⟨⟨⟨h.1.1.1.1,decide_eq_true GJ⟩,h.1.1.2⟩,?_⟩,h.2⟩;unfold H9;rw [List.all_eq_true];exact fun b hb=>Acw.2 (h2 b hb)
theorem Av4 {l:Log} {line E6:ByteArray} (hv:H2 l.Bh.data.toList l.pending.data.toList l.count=true) (hc:¬l.count=60) (hr:Lg.Bz line E6=true) :
  H2 (Pg l line E6).Bh.data.toList (Pg l line E6).pending.data.toList (Pg l line E6).count=true ∧
  Bn ((Pg l line E6).Bh.data.toList++(Pg l line E6).pending.data.toList)=Bn (l.Bh.data.toList++l.pending.data.toList)++[J4 l.count.toNat line.data.toList E6.data.toList]:=by
 have hV:=Lg.Am9 hv;have hk:=(Js (l.Bh.data.toList++l.pending.data.toList)).2;have hcn:=hV.cnt;have hx:Xz (Bn (l.Bh.data.toList++l.pending.data.toList)).length (J4 l.count.toNat line.data.toList E6.data.toList)=true:=S8.2 ⟨line.data.toList,E6.data.toList,GJ,by rw [←Lg.Nq];exact hr,by rw [hcn];rfl⟩;obtain ⟨h1,h2⟩:=hV.append hx;have e:(Pg l line E6).pending.data.toList=l.pending.data.toList++J4 l.count.toNat line.data.toList E6.data.toList:=by unfold Pg;rw [Hb,Jq]
 rw [e];exact ⟨h1.bool,h2⟩
theorem Ae0 {c:C7} {line:ByteArray} (h:I0 c=true):I0 (Q7 c line).1=true:=by
 unfold Q7
 split
 ·rename_i hl
  split
  ·exact h
  ·rename_i hc;unfold I0 at h ⊢;rw [Bool.and_eq_true] at h ⊢;have ht:=Ant (Ao0 (line:=line) h.1);exact ⟨Ais h.1,(Av4 h.2 hc (Yx hl ht.1 ht.2)).1⟩
 ·exact h
end Go.Proofs.YtkagnmekdkchiaaGreatDoor
