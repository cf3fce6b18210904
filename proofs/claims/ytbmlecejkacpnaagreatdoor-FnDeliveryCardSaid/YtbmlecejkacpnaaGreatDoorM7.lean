/- Part 7 of the proof: 10 texts, one behind the other. -/
import Derived.Laws.IdiomStrings
import Derived.Laws.Bits64b
import Derived.Test.YtbmlecejkacpnaaGreatDoorM6
open _root_.Go.Proofs.Tryz
set_option maxRecDepth 100000
set_option maxHeartbeats 8000000
set_option linter.all false
set_option linter.unusedVariables false
set_option linter.unusedSimpArgs false
namespace Go.Proofs.YtbmlecejkacpnaaGreatDoor
open Go.RowKit
theorem Aha:Mw [-1,0]:=⟨by decide,by decide,fun _=>rfl,fun i h h0=>by
 have:i=1:=by simp at h;omega
 subst this;simp⟩
theorem Aex {l:List Int} (h:Mw l) (h7:l.length≤7) {x:Nat} (hx:x < l.length):Mw (l++[(x:Int)]):=by
 have h0:=h.n0
 refine ⟨by simp;omega,by simp;omega,fun _=>?_,fun i hi hi0=>?_⟩
 ·rw [List.getElem_append_left (by omega)];exact h.z (by omega)
 ·by_cases e:i < l.length
  ·rw [List.getElem_append_left e];exact h.p i e hi0
  ·have:i=l.length:=by simp at hi;omega
   subst this
   rw [List.getElem_append_right (Nat.le_refl _)]
   simp
   omega
theorem Ac5 {t:Mu} (h:Mw t.Ac):El t=true:=by
 have h0:=h.n0
 have h1:=h.n1
 unfold El
 rw [Bool.and_eq_true]
 refine ⟨by unfold Hq;rw [decide_eq_true (by omega),decide_eq_true (by omega)];rfl,Jt fun i hi=>?_⟩
 by_cases e:i=0
 ·subst e;rw [M6 hi,decide_eq_true (h.z hi)]
 ·rw [Og hi (by omega)]
  obtain ⟨a,b⟩:=h.p i hi (by omega)
  unfold Hq;rw [decide_eq_true (by omega),decide_eq_true (by omega)];rfl
theorem Wk {t:Mu} {f y:Int} (ht:El t=true) (hs:Cd ⟨⟨f,y,[]⟩,0,0,[]⟩=true):A8 (Mk t f y)=true:=by
 refine A1.2 ⟨ht,hs,Bz.2 ⟨by simp [Mk],by simp [Mk],by simp [Mk],by simp [Mk]⟩,fun i h1 h2 h3 h4=>?_⟩
 refine Lf.2 ?_
 simp only [Mk,List.getElem_replicate]
 exact ⟨rfl,rfl,rfl,fun _=>⟨rfl,rfl,rfl,rfl⟩,fun _ _=>⟨rfl,rfl,rfl⟩,fun _ _=>⟨rfl,rfl,rfl⟩⟩
theorem Ae5 {t:Mu} {f y:Int} (ht:Mw t.Ac) (h0:0≤f) (h1:f≤65535) (z0:1≤y) (z6:y≤6):De t f y=(Mk t f y,true)∧A8 (Mk t f y)=true:=by
 have hg:Cd ⟨⟨f,y,[]⟩,0,0,[]⟩=true:=Ej.2 ⟨Dw.2 ⟨⟨h0,h1⟩,⟨z0,z6⟩,by simp;omega,rfl⟩,rfl,rfl,by simp,List.Pairwise.nil⟩
 have hT:=Ac5 ht
 refine ⟨?_,Wk hT hg⟩
 unfold De
 rw [hT,hg];rfl
theorem Ah5 {t:Mu} {f y:Int} (h:(De t f y).2=true):A8 (De t f y).1=true:=by
 cases a:El t
 ·unfold De at h;rw [a] at h;cases h
 cases b:Cd ⟨⟨f,y,[]⟩,0,0,[]⟩
 ·unfold De at h;rw [a,b] at h;cases h
 rw [show De t f y=(Mk t f y,true) by unfold De;rw [a,b];rfl]
 exact Wk a b
def Aet (e:ByteArray):Int:=((e.data.toList.getD 0 0).toNat:Int) - 48
def Kr (i:Nat) (E:List ByteArray):List ByteArray:=(E.filter fun e=>decide (Aet e=((i:Nat):Int))).map fun e=>e.extract 2 e.size
def EvW (E:List ByteArray):Prop:=∀e∈E,∃i x,1≤i∧i≤7∧e=Ja i x
theorem Aea {i:Nat} (h:i≤7) (x:ByteArray):Ja i x=bz (UInt8.ofNat (48+i)::32::x.data.toList):=by
 have e:bz (Lib.itoa ((i:Nat):Int))=bz [UInt8.ofNat (48+i)]:=by
  rw [Xc (Int.natCast_nonneg i),Int.natAbs_natCast,Lib.decDigits,dif_pos (by omega)]
 unfold Ja
 rw [e,←Aoa (_++_),Aco,Aco]
 rfl
theorem Aln {i:Nat} (h:i≤7) (x:ByteArray):Aet (Ja i x)=((i:Nat):Int):=by
 rw [Aea h]
 unfold Aet
 rw [Afx]
 show ((UInt8.ofNat (48+i)).toNat:Int) - 48=_
 rw [UInt8.toNat_ofNat']
 omega
theorem Zb {i:Nat} (h:i≤7) (x:ByteArray):(Ja i x).extract 2 (Ja i x).size=x∧2≤(Ja i x).size:=by
 rw [Aea h,W8]
 refine ⟨?_,by simp only [List.length_cons];omega⟩
 rw [Lib.extract_eq,Afx]
 show bz ((x.data.toList).take _)=x
 rw [List.take_of_length_le (by simp only [List.length_cons];omega),Aoa]
theorem Adq (i:Nat) (a b:List ByteArray):Kr i (a++b)=Kr i a++Kr i b:=by unfold Kr;rw [List.filter_append,List.map_append]
theorem Ah6 {i j:Nat} (hj:j≤7) (es:List ByteArray):Kr i (Ny j es)=if i=j then es else []:=by
 unfold Kr Ny
 induction es with
 | nil=>simp
 | cons x r ih =>
  rw [List.map_cons,List.filter_cons,Aln hj]
  by_cases e:i=j
  ·subst e
   rw [if_pos rfl] at ih ⊢
   rw [if_pos (by simp),List.map_cons,ih,(Zb hj x).1]
  ·rw [if_neg e] at ih ⊢
   rw [if_neg (by simp;omega)];exact ih
theorem EvW.app {a b:List ByteArray} (h:EvW a) (h2:EvW b):EvW (a++b):=fun e he=>by
 rcases List.mem_append.1 he with he|he
 ·exact h e he
 ·exact h2 e he
theorem EvW.Ny {i:Nat} (h1:1≤i) (h7:i≤7) (es:List ByteArray):EvW (Ny i es):=fun e he=>by
 obtain ⟨x, -,rfl⟩:=List.mem_map.1 he
 exact ⟨i,x,h1,h7,rfl⟩
theorem EvW.nil:EvW []:=fun e he=>by cases he
structure SrI (S:List ByteArray) (f:Int) (w:Ax):Prop where
 h:∃i,i+w.Aj.length=S.length∧w.Ak=Bn f ((i:Nat):Int)∧w.Aj=S.drop i
structure Xv (S:List ByteArray) (f:Int) (n:Eg) (E:List ByteArray):Prop where
 s:SrI S f n.Ab.Aa
 d:∀q∈n.down,∀p∈q,PkI S f p
 r:∀i (h:i < n.Ae.length),RcI S f n.Ae[i] (Kr i E)
 e:EvW E
section
variable {S:List ByteArray} {f:Int} {n:Eg} {E:List ByteArray}
theorem SrI.D0 {w:Ax} (h:SrI S f w):J4 w=Bn f ((S.length:Nat):Int):=by
 obtain ⟨i,h1,h2, -⟩:=h.h
 unfold J4
 rw [h2,Nd,h1]
theorem SrI.Ak {w:Ax} (h:SrI S f w):∃i,i≤S.length∧w.Ak=Bn f ((i:Nat):Int):=by
 obtain ⟨i,h1,h2, -⟩:=h.h
 exact ⟨i,by omega,h2⟩
theorem SrI.Cr {w:Ax} (h:SrI S f w) (hs:1≤w.size):SrI S f (Cr w):=by
 obtain ⟨i,h1,h2,h3⟩:=h.h
 unfold Go.Proofs.YtbmlecejkacpnaaGreatDoor.Cr
 split
 ·rename_i e
  refine ⟨i+1,?_,?_,?_⟩
  ·show i+1+(w.Aj.drop 1).length=_
   rw [List.length_drop];omega
  ·show Bn w.Ak 1=_
   rw [h2,show Bn (Bn f (i:Nat)) 1=Bn (Bn f (i:Nat)) ((1:Nat):Int) from rfl,Nd]
  ·show w.Aj.drop 1=_
   rw [h3,List.drop_drop]
 ·exact h
theorem SrI.push {w:Ax} (h:SrI S f w) (hs:1≤w.size) (t:ByteArray):SrI (S++[t]) f (C8 w t):=by
 obtain ⟨i,h1,h2,h3⟩:=(h.Cr hs).h
 refine ⟨i,?_,h2,?_⟩
 ·show i+((Go.Proofs.YtbmlecejkacpnaaGreatDoor.Cr w).Aj++[t]).length=_
  rw [List.length_append,List.length_append,List.length_singleton];omega
 ·show (Go.Proofs.YtbmlecejkacpnaaGreatDoor.Cr w).Aj++[t]=_
  rw [h3,List.drop_append_of_le_length (by omega)]
theorem Ale {w:Ax} (h:SrI S f w):PkI S f (Nr w) :=
 ⟨fun _=>h.Ak,fun _=>⟨S.length,Nat.le_refl _,h.D0⟩,fun _ h5=>absurd rfl h5⟩
theorem Apt {w:Ax} (h:SrI S f w) (hs:1≤w.size) (t:ByteArray):PkI (S++[t]) f (Dg w t):=by
 have hr:=h.Cr hs
 refine ⟨fun _=>?_,fun _=>⟨S.length+1,by simp,?_⟩,fun _ _=>⟨S.length,?_,?_⟩⟩
 ·obtain ⟨i,hi,e⟩:=hr.Ak
  exact ⟨i,by rw [List.length_append];omega,e⟩
 ·obtain ⟨i,h1,h2, -⟩:=hr.h
  show Bn (Go.Proofs.YtbmlecejkacpnaaGreatDoor.Cr w).Ak ((Go.Proofs.YtbmlecejkacpnaaGreatDoor.Cr w).Aj.length+1)=_
  rw [h2,show (((Go.Proofs.YtbmlecejkacpnaaGreatDoor.Cr w).Aj.length:Int)+1)=(((Go.Proofs.YtbmlecejkacpnaaGreatDoor.Cr w).Aj.length+1:Nat):Int) by omega,Nd,show i+((Go.Proofs.YtbmlecejkacpnaaGreatDoor.Cr w).Aj.length+1)=S.length+1 by omega]
 ·show (S++[t])[S.length]?=some t
  rw [List.getElem?_append_right (Nat.le_refl _),Nat.sub_self];rfl
 ·exact h.D0
theorem Ari {x:Ch} {p:As} (h:SrI S f x.Aa):∀q∈J8 x p,PkI S f q:=fun q hq=>by
 have hc:PkI S f (Su x.Aa p.Ad):=⟨fun hn=>(by cases hn),fun hn=>(by cases hn),fun hn=>(by cases hn)⟩
 unfold J8 at hq
 split at hq
 ·split at hq
  ·rw [List.mem_singleton] at hq;subst hq;exact hc
  ·rcases List.mem_cons.1 hq with rfl|hq
   ·exact hc
   ·rw [List.mem_singleton] at hq
    unfold Da at hq
    split at hq
    ·rename_i hk
     subst hq
     unfold Hx Gw at hk
     simp only [Bool.and_eq_true,decide_eq_true_eq] at hk
     obtain ⟨⟨⟨-,hg⟩, -⟩,hh⟩:=hk
     have hn:=H5 hg
     refine ⟨fun _=>h.Ak,fun _=>⟨S.length,Nat.le_refl _,h.D0⟩,fun _ _=>?_⟩
     obtain ⟨i,h1,h2,h3⟩:=h.h
     have hb:=In x.Aa.Ak p.Ad
     refine ⟨i+(gp x.Aa.Ak p.Ad).toNat,?_,?_⟩
     ·show _=some (Qn x.Aa p.Ad)
      unfold Qn
      rw [Nu (show (gp x.Aa.Ak p.Ad).toNat < x.Aa.Aj.length by omega),←List.getElem?_eq_getElem,←List.getElem?_drop,←h3]
     ·show p.Ad=_
      rw [←Nd,←h2]
      unfold Bn gp;omega
    ·subst hq
     exact ⟨fun hn=>(by cases hn),fun hn=>(by cases hn),fun hn=>(by cases hn)⟩
 ·rw [List.mem_singleton] at hq;subst hq;exact Ale h
theorem Ak4 (x:Ch) (k:Int):(I0 x k).Aa=x.Aa:=by unfold I0;split <;> rfl
theorem Akf {q ps:List As} {p:As} (h:p∈Eq q ps):p∈q∨p∈ps:=by
 unfold Eq at h
 rcases List.mem_append.1 h with h|h
 ·exact .inl h
 ·exact .inr (List.mem_of_mem_take h)
theorem M5 {ps:List As} {P:As→Prop} (hp:∀p∈ps,P p):∀(nodes:List Int) (d:List (List As)),(∀q∈d,∀p∈q,P p)→∀q∈Dd d nodes ps,∀p∈q,P p
 | [],_,h=>h
 | x::r,d,h=>by
  refine M5 hp r (d.modify x.toNat fun q=>Eq q ps) fun q hq p hpq=>?_
  obtain ⟨j,hj,rfl⟩:=List.getElem_of_mem hq
  rw [List.getElem_modify] at hpq
  have hj2:j < d.length:=by simpa using hj
  split at hpq
  ·rcases Akf hpq with h1|h1
   ·exact h _ (List.getElem_mem hj2) p h1
   ·exact hp p h1
  ·exact h _ (List.getElem_mem hj2) p hpq
theorem Am3 {d:List (List As)} {P:As→Prop} {i:Nat} (h:∀q∈d,∀p∈q,P p):∀q∈d.modify i (·.drop 1),∀p∈q,P p:=fun q hq p hpq=>by
 obtain ⟨j,hj,rfl⟩:=List.getElem_of_mem hq
 rw [List.getElem_modify] at hpq
 have hj2:j < d.length:=by simpa using hj
 split at hpq
 ·exact h _ (List.getElem_mem hj2) p (List.mem_of_mem_drop hpq)
 ·exact h _ (List.getElem_mem hj2) p hpq
theorem Xv.mono {S2:List ByteArray} (h:Xv S f n E) (hs:SrI (S++S2) f n.Ab.Aa):Xv (S++S2) f n E:=⟨hs,fun q hq p hp=>(h.d q hq p hp).mono,fun i hi=>(h.r i hi).mono,h.e⟩
theorem Aoq {i:Nat} {r:Bc} {es:List ByteArray} (h:∀j (hj:j < n.Ae.length),RcI S f n.Ae[j] (Kr j E)) (h1:1≤i) (h7:i≤7) (hi:i < n.Ae.length) (hr:RcI S f r (Kr i E++es)) :
  ∀j (hj:j < (n.Ae.set i r).length),RcI S f (n.Ae.set i r)[j] (Kr j (E++Ny i es)):=fun j hj=>by
 rw [Adq,Ah6 h7,List.getElem_set]
 split
 ·rename_i e
  subst e
  rw [if_pos rfl];exact hr
 ·rename_i e
  rw [if_neg (fun h=>e h.symm),List.append_nil]
  exact h j _
theorem Amk {i:Nat} {p:As} (h:Xv S f n E) (hg:A8 n=true) (h1:1≤i) (hi:i < n.An.Ac.length) (hp:PkI S f p) (hpk:Bk p=true) (hS:S.length≤2000):Xv S f (Ci n i p).1 (E++(Ci n i p).2):=by
 have hG:=A1.1 hg
 have hn8:=(Ex hG.t).n1
 obtain ⟨g1,g2,g3,g4,r⟩:=hG.rn hi
 unfold Ci
 cases hl:Hw n.An.Ac ((i:Nat):Int)
 ·rw [if_neg (by decide)]
  refine ⟨h.s,M5 (fun q hq=>by rw [List.mem_singleton] at hq;rw [hq];exact hp) _ _ h.d,fun j hj=>?_,h.e.app EvW.nil⟩
  rw [List.append_nil]
  exact h.r j hj
 ·rw [if_pos rfl,Jo g2]
  have hr:=Gm.1 (r.hf (by omega) hl).2.1
  exact ⟨h.s,h.d,Aoq h.r h1 (by omega) g2 (Api hr hpk (h.r i g2) hp hS),h.e.app (.Ny h1 (by omega) _)⟩
theorem Asi {i:Nat} {p:As} (h:Xv S f n E):Xv S f (Lx n i p) E:=by
 unfold Lx
 split
 ·exact ⟨by show SrI S f (I0 n.Ab p.Ad).Aa;rw [Ak4];exact h.s,M5 (Ari h.s) _ _ h.d,h.r,h.e⟩
 ·exact ⟨h.s,M5 (fun q hq=>by rw [List.mem_singleton] at hq;rw [hq];exact ⟨fun hn=>(by cases hn),fun hn=>(by cases hn),fun hn=>(by cases hn)⟩) _ _ h.d,h.r,h.e⟩
theorem Aps {s:I4} (h:Xv S f n E):Xv S f (Ei n s) E:=by
 unfold Ei
 split
 ·exact ⟨h.s,h.d,h.r,h.e⟩
 ·exact ⟨h.s,Am3 h.d,h.r,h.e⟩
theorem Ze (h:Xv S f n E) (hg:A8 n=true) (hc:n.Ab.Ai < 9999) (hS:S.length≤2000):∀k,k+1≤n.An.Ac.length→Xv S f (Bb n k).1 (E++(Bb n k).2)
 | 0,_=>by
  show Xv S f (Aor n) (E++[])
  rw [List.append_nil]
  refine ⟨h.s,M5 (fun q hq=>?_) _ _ h.d,h.r,h.e⟩
  unfold Ka at hq
  split at hq
  ·cases hq
  ·rw [List.mem_singleton] at hq;rw [hq];exact Ale h.s
 | k+1,hk=>by
  have ih:=Ze h hg hc hS k (by omega)
  obtain ⟨hG,ht, -⟩:=Mb hg hc k (by omega)
  have hn8:=(Ex hG.t).n1
  have hi:k+1 < (Bb n k).1.An.Ac.length:=by rw [ht];omega
  obtain ⟨g1,g2,g3,g4,r⟩:=hG.rn hi
  show Xv S f (J9 (Bb n k).1 (k+1)).1 (E++((Bb n k).2++(J9 (Bb n k).1 (k+1)).2))
  rw [←List.append_assoc]
  unfold J9
  cases hl:Hw (Bb n k).1.An.Ac ((k+1:Nat):Int)
  ·rw [if_neg (by decide),List.append_nil]
   exact ⟨ih.s,ih.d,ih.r,ih.e⟩
  ·rw [if_pos rfl,Jo g2]
   have hr:=Gm.1 (r.hf (by omega) hl).2.1
   exact ⟨ih.s,ih.d,Aoq ih.r (by omega) (by omega) g2 (Ap8 hr (ih.r _ g2) hS),ih.e.app (.Ny (by omega) (by omega) _)⟩
theorem Afh {s:I4} {y:NE} (h:Xv S f n E) (hg:A8 n=true) (hs:Eo s=true) (e:Bo n s=some y) (hS:S.length≤1999):Xv (S++if s.C2=1 then [s.data] else []) f y.1 (E++y.2):=by
 have hG:=A1.1 hg
 unfold Bo at e
 split at e
 ·rename_i h1
  cases e
  rw [if_pos h1,List.append_nil]
  have hsz:=(Dw.1 (Ej.1 hG.s).1).2.1.1
  exact ⟨h.s.push hsz s.data,M5 (fun q hq=>by rw [List.mem_singleton] at hq;rw [hq];exact Apt h.s hsz _) _ _ fun q hq p hp=>(h.d q hq p hp).mono,fun i hi=>(h.r i hi).mono,h.e⟩
 ·rename_i h1
  rw [if_neg h1,List.append_nil]
  split at e
  ·split at e
   ·cases e
   ·rename_i hc
    cases e
    have:=Qc hG.s
    exact Ze h hg (by omega) (by omega) _ (by have:=(Ex hG.t).n0;omega)
  ·rename_i h4
   unfold Eo at hs
   rw [if_neg h1,if_neg h4] at hs
   simp only [Bool.and_eq_true] at hs
   have hf:=Kh.1 hs.1.2
   have hpg:=Iz (s:=s) hg
   have hpI:=Aps (s:=s) h
   have hq:=Jm (s:=s) hg
   have htl:(Ei n s).An=n.An:=by unfold Ei;split <;> rfl
   unfold Cs at e
   split at e
   ·cases e
   ·rename_i hb
    split at e
    ·cases e
    ·rename_i h2
     have hm:=Lu (q:=Ov n s) (by omega)
     have hpk:=Kg hq.1 hm
     split at e
     ·rename_i h22
      cases e
      have hu:Py s=false:=by unfold Py;rw [h22];rfl
      have hq2:Ov n s∈n.down:=by
       unfold Ov at h2 ⊢
       rw [hu,if_neg (by decide)] at h2 ⊢
       by_cases hi:s.node.toNat < n.down.length
       ·rw [Nu hi];exact List.getElem_mem hi
       ·rw [List.getD_eq_getElem?_getD,List.getElem?_eq_none (by omega)] at h2;exact absurd rfl h2
      exact Amk hpI hpg (by omega) (by rw [htl];omega) (h.d _ hq2 _ hm) hpk (by omega)
     ·split at e
      ·cases e;rw [List.append_nil];exact Asi hpI
      ·cases e;rw [List.append_nil];exact hpI
theorem Ajl {P:NE→Prop} (hP:∀(x y:NE) (s:I4),P x→A8 x.1=true→Eo s=true→s.C2≠1→Bo x.1 s=some y→P (y.1,x.2++y.2)) {x:NE} (hg:A8 x.1=true) (h:P x):P (drE x):=by
 have ht:∀(x:NE) (s:I4),P x→A8 x.1=true→Eo s=true→s.C2≠1→P (Kt x s):=fun x s hx hg hs hk=>by
  cases e:Bo x.1 s with
  | none=>rw [If e];exact hx
  | some y=>rw [V3 e];exact hP x y s hx hg hs hk e
 have hr:∀(x:NE),P x→A8 x.1=true→∀k,k+1≤x.1.An.Ac.length→P (I2 x k):=fun x hx hg k=>by
  have hn8:=(Ex (A1.1 hg).t).n1
  induction k with
  | zero=>intro _;exact hx
  | succ k ih =>
   intro hk
   have f1:=(Ox hg k (by omega)).1
   have hk1:k+1 < (I2 x k).1.An.Ac.length:=by rw [f1.t];omega
   have f2:=(Als f1.g (by omega) hk1).1
   have p2:=ht _ (Hg (k+1)) (ih (by omega)) f1.g (Apq (by omega) (by omega)) (by show (2:Int)≠1;decide)
   exact ht _ (Jb (k+1)) p2 f2.g (Anc (by omega) (by omega)) (by show (5:Int)≠1;decide)
 unfold drE
 generalize wN x.1=m
 induction m generalizing x with
 | zero=>exact h
 | succ m ih =>
  unfold Om
  split
  ·exact h
  ·have h2:=(Ex (A1.1 hg).t).n0
   exact ih (Lg hg).1.g (hr x h hg _ (by omega))
theorem Aq3 (h:Xv S f n E) (hg:A8 n=true) (hS:S.length≤1999):Xv S f (O2 n).1 (E++(O2 n).2):=by
 refine Ajl (P:=fun x=>Xv S f x.1 (E++x.2)) (fun x y s hx hgx hs hk e=>?_) (x:=(n,[])) hg (by rw [List.append_nil];exact h)
 have:=Afh hx hgx hs e hS
 rw [if_neg hk,List.append_nil,List.append_assoc] at this
 exact this
theorem Aoj (h:Xv S f n E) (hg:A8 n=true) (hS:S.length≤1999):∀k:Nat,n.Ab.Ai+(k:Int)≤9999→Xv S f (Cc n k).1 (E++(Cc n k).2)
 | 0,_=>Aq3 h hg hS
 | k+1,hk=>by
  obtain ⟨h1,h2,h3, -⟩:=Ug hg k (by omega)
  have hc:(Cc n k).1.Ab.Ai < 9999:=by omega
  have ih:=Aoj h hg hS k (by omega)
  have t1:=O0 h1 hc
  have hn2:=(Ex (A1.1 h1).t).n0
  have i2:=Ze ih h1 hc (by omega) ((Cc n k).1.An.Ac.length - 1) (by omega)
  have i3:=Aq3 i2 t1 hS
  rw [List.append_assoc,List.append_assoc] at i3
  show Xv S f (O2 (Bp (Cc n k).1).1).1 (E++((Cc n k).2++(Bp (Cc n k).1).2++(O2 (Bp (Cc n k).1).1).2))
  rw [List.append_assoc]
  exact i3
theorem Arc {t:Mu} {f y:Int} (hf:0≤f∧f≤65535):Xv [] f (Mk t f y) []:=by
 refine ⟨⟨0,rfl,(M0 hf.1 hf.2).symm,rfl⟩,fun q hq p hp=>?_,fun i hi=>?_,EvW.nil⟩
 ·rw [(List.mem_replicate.1 hq).2] at hp;cases hp
 ·have e:(Mk t f y).Ae[i]=Afs:=List.getElem_replicate _
  rw [e]
  exact ⟨fun _=>rfl,fun h=>(by cases h)⟩
end
def Gs:Br Int where
 sz:=1
 Jr _ cs z F:=cs=[.int .u8 z]∧0≤z∧z≤255∧F=[]
 len h:=by simp [h.1]
 lt h:=by simp [h.2.2.2]
 frame h _:=h
def Sd (w:World) (g:Nat) (l:List UInt8):Prop :=
 g < w.heap.size∧∀j (hj:j < l.length),w.cell? ⟨g,j,none⟩=some (.int .u8 (l[j].toNat:Int))∧w.frozen? ⟨g,j,none⟩=false
theorem Sd.below {w w' g l} (h:Sd w g l) (hb:Below w.heap.size w w'):Sd w' g l :=
 ⟨Nat.lt_of_lt_of_le h.1 hb.size,fun j hj=>⟨(hb.cell (p:=⟨g,j,none⟩) h.1).trans (h.2 j hj).1,(hb.frozen (p:=⟨g,j,none⟩) h.1).trans (h.2 j hj).2⟩⟩
theorem Sd.set {w g l} (h:Sd w g l) (k:Nat) (b:UInt8) (hk:k < l.length):Sd (w.setCell ⟨g,k,none⟩ (.int .u8 (b.toNat:Int))) g (l.set k b):=by
 refine ⟨by simp [h.1],fun j hj=>?_⟩
 rw [List.length_set] at hj
 refine ⟨?_,?_⟩
 ·by_cases e:k=j
  ·subst e
   rw [World.cell?_setCell_same _ _ _ (h.2 k hk).1]
   simp
  ·rw [World.cell?_setCell_other _ _ _ _ (by intro q;cases q;exact e rfl),(h.2 j hj).1]
   simp [List.getElem_set,e]
 ·rw [World.frozen?_setCell];exact (h.2 j hj).2
theorem Sl.byte {w v} {xs:List Int} {F} (h:Sl Gs w v xs F):xs.length≤maxLen∧∀k (hk:k < xs.length),(0≤xs[k]∧xs[k]≤255)∧∃b off,v=.slice (some ⟨b,off,none⟩) xs.length (match v with|.slice _ _ c=>c|_=>0)∧b∈F∧w.cell? ⟨b,off+k,none⟩=some (.int .u8 xs[k]):=by
 obtain ⟨a,cap,rfl,hl,⟨rfl,rfl,_⟩|⟨b,off,F',rfl,hne,rfl,hc⟩⟩:=h
 ·exact ⟨by simp,fun k hk=>by simp at hk⟩
 ·refine ⟨by omega,fun k hk=>?_⟩
  obtain ⟨cs,F1,⟨rfl,h0,h1,rfl⟩,hcell,_⟩:=hc.get k hk
  refine ⟨⟨h0,h1⟩,b,off,rfl,by simp,?_⟩
  simpa [Gs] using hcell 0 (by decide)
structure Ss where
 Bl:List Int
 a:Option Addr
 c:Nat
 bs:List Nat
def Xr (B:Nat) (w:World) (g:Nat) (F:Ss):Prop :=
 ∃(k:Nat) (Dq:Int),Hm w g 70 [.slice F.a F.Bl.length F.c,.int .i64 k,.int .u64 Dq]∧Sl Gs w (.slice F.a F.Bl.length F.c) F.Bl F.bs∧g ∉ F.bs∧k≤B∧0≤Dq∧Dq < 18446744073709551616
theorem Xr.Kj {B w w' g F K} (h:Xr B w g F) (hk:Dt K w w') (h1:g ∉ K) (h2:∀b∈F.bs,b ∉ K):Xr B w' g F:=by
 obtain ⟨k,Dq,R,S,hF,h3⟩:=h
 exact ⟨k,Dq,R.keepK hk h1,S.Kj hk h2 (by decide),hF,h3⟩
theorem Xr.below {B w w' g F} (h:Xr B w g F) (hb:Below w.heap.size w w'):Xr B w' g F:=by
 obtain ⟨k,Dq,R,S,hF,h3⟩:=h
 exact ⟨k,Dq,R.below hb,S.below (by decide) hb,hF,h3⟩
theorem Xr.mono {B B' w g F} (h:Xr B w g F) (hb:B≤B'):Xr B' w g F:=by
 obtain ⟨k,Dq,R,S,hF,h3,h4⟩:=h
 exact ⟨k,Dq,R,S,hF,by omega,h4⟩
theorem Xr.lt {B w g F} (h:Xr B w g F):g < w.heap.size:=by
 obtain ⟨k,Dq,R,_⟩:=h;exact R.lt
def Aq0 (B g:Nat) (F:Ss) (w:World) (e:Ending) (w':World):Prop:=∃r:Nat,e=.returned (.int .i64 r)∧r≤255∧Xr (B+1) w' g F∧Dt [g] w w'
theorem Akh (B g:Nat) (F:Ss) (w:World) (h:Xr B w g F) (hB0:B≤1099511627776) :
  Calls prog 65 #[.pointer (some ⟨g,0,none⟩)] w (Aq0 B g F w):=by
 obtain ⟨Bl,a,c,F⟩:=F
 obtain ⟨k,Dq,R,S,hF,h2,h3,h4⟩:=h
 dsimp only at R S hF
 have hl:=S.byte.1
 unfold maxLen at hl
 have hlt:=S.lt (by decide)
 by_cases hk:k < Bl.length
 ·obtain ⟨⟨hz0,hz1⟩,b,off,hv,hbF,hcell⟩:=S.byte.2 k hk
  simp only [Value.slice.injEq] at hv
  obtain ⟨rfl, -, -⟩:=hv
  generalize Bl[k]=z at *
  have hbg:b≠g:=fun e=>hF (e▸hbF)
  have hcl:=fun w' (hb:Below w.heap.size w w')=>kc hb hcell
  replace hcl:=Lib.hid hcl
  clear hcell
  have hB:=Below.refl w.heap.size w
  go_enter func65,ntmps65
  go_wp2_with fail
  refine C3.start (S:=(fun w'=>w'.cell? ⟨g,0,none⟩=some (.slice (some ⟨b,off,none⟩) Bl.length c)∧w'.cell? ⟨g,1,none⟩=some (.int .i64 k)∧w'.cell? ⟨g,2,none⟩=some (.int .u64 Dq)∧w'.cell? ⟨b,off+k,none⟩=some (.int .u8 z))) (X:=(fun _=>false)) (by kernel_rfl) ?_
  have al:Below w.heap.size w w.drew:=Hk (Below.refl _ _) 1
  have hs_w1:=al.size
  replace R:=R.below al
  replace S:=S.below (by decide) al
  replace hB:=tr hB al (Nat.le_refl _)
  generalize w.drew=w1 at *
  clear al
  have hS:(fun w'=>w'.cell? ⟨g,0,none⟩=some (.slice (some ⟨b,off,none⟩) Bl.length c)∧w'.cell? ⟨g,1,none⟩=some (.int .i64 k)∧w'.cell? ⟨g,2,none⟩=some (.int .u64 Dq)∧w'.cell? ⟨b,off+k,none⟩=some (.int .u8 z)) w1:=⟨R.cells 0,R.cells 1,R.cells 2,hcl.out _ hB⟩
  refine C3.take (i:=0) (oi:=_) (v:=?_) (by rw [List.getElem?_toArray];rfl) (by kernel_rfl) (by kernel_rfl) (by kernel_rfl) (by kernel_rfl) (by kernel_rfl) (by exact fun _ _ _ h=>h) (Or.inl ⟨by rfl,?_⟩) hS ?_
  rotate_left
  ·(intro wS hSw;(try dsimp only at hSw);go_simp;try with_reducible rfl)
  try simp only [Act.put,List.setIfInBounds_toArray,List.set_cons_zero,List.set_cons_succ]
  refine C3.take (i:=1) (oi:=_) (v:=?_) (by rw [List.getElem?_toArray];rfl) (by kernel_rfl) (by kernel_rfl) (by kernel_rfl) (by kernel_rfl) (by kernel_rfl) (by exact fun _ _ _ h=>h) (Or.inl ⟨by rfl,?_⟩) hS ?_
  rotate_left
  ·(intro wS hSw;(try dsimp only at hSw);go_simp;try with_reducible rfl)
  try simp only [Act.put,List.setIfInBounds_toArray,List.set_cons_zero,List.set_cons_succ]
  refine C3.take (i:=2) (oi:=_) (v:=?_) (by rw [List.getElem?_toArray];rfl) (by kernel_rfl) (by kernel_rfl) (by kernel_rfl) (by kernel_rfl) (by kernel_rfl) (by exact fun _ _ _ h=>h) (Or.inl ⟨by rfl,?_⟩) hS ?_
  rotate_left
  ·(intro wS hSw;(try dsimp only at hSw);go_simp;try with_reducible rfl)
  try simp only [Act.put,List.setIfInBounds_toArray,List.set_cons_zero,List.set_cons_succ]
  refine C3.take (i:=3) (oi:=_) (v:=?_) (by rw [List.getElem?_toArray];rfl) (by kernel_rfl) (by kernel_rfl) (by kernel_rfl) (by kernel_rfl) (by kernel_rfl) (by exact fun _ _ _ h=>h) (Or.inl ⟨by rfl,?_⟩) hS ?_
  rotate_left
  ·(intro wS hSw;(try dsimp only at hSw);go_simp;try with_reducible rfl)
  try simp only [Act.put,List.setIfInBounds_toArray,List.set_cons_zero,List.set_cons_succ]
  refine C3.take (i:=4) (oi:=_) (v:=?_) (by rw [List.getElem?_toArray];rfl) (by kernel_rfl) (by kernel_rfl) (by kernel_rfl) (by kernel_rfl) (by kernel_rfl) (by exact fun _ _ _ h=>h) (Or.inl ⟨by rfl,?_⟩) hS ?_
  rotate_left
  ·(intro wS hSw;(try dsimp only at hSw);go_simp;try with_reducible rfl)
  try simp only [Act.put,List.setIfInBounds_toArray,List.set_cons_zero,List.set_cons_succ]
  refine C3.take (i:=5) (oi:=_) (v:=?_) (by rw [List.getElem?_toArray];rfl) (by kernel_rfl) (by kernel_rfl) (by kernel_rfl) (by kernel_rfl) (by kernel_rfl) (by exact fun _ _ _ h=>h) (Or.inl ⟨by rfl,?_⟩) hS ?_
  rotate_left
  ·(intro wS hSw;(try dsimp only at hSw);go_simp;try with_reducible rfl)
  try simp only [Act.put,List.setIfInBounds_toArray,List.set_cons_zero,List.set_cons_succ]
  refine C3.take (i:=6) (oi:=_) (v:=?_) (by rw [List.getElem?_toArray];rfl) (by kernel_rfl) (by kernel_rfl) (by kernel_rfl) (by kernel_rfl) (by kernel_rfl) (by exact fun _ _ _ h=>h) (Or.inl ⟨by rfl,?_⟩) hS ?_
  rotate_left
  ·(intro wS hSw;(try dsimp only at hSw);go_simp;try with_reducible rfl)
  try simp only [Act.put,List.setIfInBounds_toArray,List.set_cons_zero,List.set_cons_succ]
  refine C3.take (i:=7) (oi:=_) (v:=?_) (by rw [List.getElem?_toArray];rfl) (by kernel_rfl) (by kernel_rfl) (by kernel_rfl) (by kernel_rfl) (by kernel_rfl) (by exact fun _ _ _ h=>h) (Or.inl ⟨by rfl,?_⟩) hS ?_
  rotate_left
  ·(intro wS hSw;(try dsimp only at hSw);go_simp;try with_reducible rfl)
  try simp only [Act.put,List.setIfInBounds_toArray,List.set_cons_zero,List.set_cons_succ]
  refine C3.take (i:=8) (oi:=_) (v:=?_) (by rw [List.getElem?_toArray];rfl) (by kernel_rfl) (by kernel_rfl) (by kernel_rfl) (by kernel_rfl) (by kernel_rfl) (by exact fun _ _ _ h=>h) (Or.inl ⟨by rfl,?_⟩) hS ?_
  rotate_left
  ·(intro wS hSw;(try dsimp only at hSw);go_simp;try with_reducible rfl)
  try simp only [Act.put,List.setIfInBounds_toArray,List.set_cons_zero,List.set_cons_succ]
  refine C3.take (i:=9) (oi:=_) (v:=?_) (by rw [List.getElem?_toArray];rfl) (by kernel_rfl) (by kernel_rfl) (by kernel_rfl) (by kernel_rfl) (by kernel_rfl) (by exact fun _ _ _ h=>h) (Or.inl ⟨by rfl,?_⟩) hS ?_
  rotate_left
  ·(intro wS hSw;(try dsimp only at hSw);go_simp;try with_reducible rfl)
  try simp only [Act.put,List.setIfInBounds_toArray,List.set_cons_zero,List.set_cons_succ]
  refine C3.done (by kernel_rfl) ?_ _
  (try clear hS)
  have c_R:=R.cells;have f_R:=R.frozens
  go_wp2_with fail
  clear c_R f_R
  rename_i K0 hK0
  refine C3.start (S:=(fun w'=>w'.cell? ⟨g,0,none⟩=some (.slice (some ⟨b,off,none⟩) Bl.length c)∧w'.cell? ⟨g,1,none⟩=some (.int .i64 k)∧w'.cell? ⟨g,2,none⟩=some (.int .u64 Dq)∧w'.cell? ⟨b,off+k,none⟩=some (.int .u8 z))) (X:=(fun _=>false)) (by kernel_rfl) ?_
  have al:Below w1.heap.size w1 w1.drew:=Hk (Below.refl _ _) 1
  have hs_w2:=al.size
  replace R:=R.below al
  replace S:=S.below (by decide) al
  replace hB:=tr hB al (Nat.le_refl _)
  generalize w1.drew=w2 at *
  clear al
  have hS:(fun w'=>w'.cell? ⟨g,0,none⟩=some (.slice (some ⟨b,off,none⟩) Bl.length c)∧w'.cell? ⟨g,1,none⟩=some (.int .i64 k)∧w'.cell? ⟨g,2,none⟩=some (.int .u64 Dq)∧w'.cell? ⟨b,off+k,none⟩=some (.int .u8 z)) w2:=⟨R.cells 0,R.cells 1,R.cells 2,hcl.out _ hB⟩
  refine C3.take (i:=0) (oi:=_) (v:=?_) (by rw [List.getElem?_toArray];rfl) (by kernel_rfl) (by kernel_rfl) (by kernel_rfl) (by kernel_rfl) (by kernel_rfl) (by exact fun _ _ _ h=>h) (Or.inl ⟨by rfl,?_⟩) hS ?_
  rotate_left
  ·(intro wS hSw;(try dsimp only at hSw);go_simp;try with_reducible rfl)
  try simp only [Act.put,List.setIfInBounds_toArray,List.set_cons_zero,List.set_cons_succ]
  refine C3.take (i:=1) (oi:=_) (v:=?_) (by rw [List.getElem?_toArray];rfl) (by kernel_rfl) (by kernel_rfl) (by kernel_rfl) (by kernel_rfl) (by kernel_rfl) (by exact fun _ _ _ h=>h) (Or.inl ⟨by rfl,?_⟩) hS ?_
  rotate_left
  ·(intro wS hSw;(try dsimp only at hSw);go_simp;try with_reducible rfl)
  try simp only [Act.put,List.setIfInBounds_toArray,List.set_cons_zero,List.set_cons_succ]
  refine C3.take (i:=2) (oi:=_) (v:=?_) (by rw [List.getElem?_toArray];rfl) (by kernel_rfl) (by kernel_rfl) (by kernel_rfl) (by kernel_rfl) (by kernel_rfl) (by exact fun _ _ _ h=>h) (Or.inl ⟨by rfl,?_⟩) hS ?_
  rotate_left
  ·(intro wS hSw;(try dsimp only at hSw);go_simp;try with_reducible rfl)
  try simp only [Act.put,List.setIfInBounds_toArray,List.set_cons_zero,List.set_cons_succ]
  refine C3.take (i:=3) (oi:=_) (v:=?_) (by rw [List.getElem?_toArray];rfl) (by kernel_rfl) (by kernel_rfl) (by kernel_rfl) (by kernel_rfl) (by kernel_rfl) (by exact fun _ _ _ h=>h) (Or.inl ⟨by rfl,?_⟩) hS ?_
  rotate_left
  ·(intro wS hSw;(try dsimp only at hSw);go_simp;try with_reducible rfl)
  try simp only [Act.put,List.setIfInBounds_toArray,List.set_cons_zero,List.set_cons_succ]
  refine C3.take (i:=4) (oi:=_) (v:=?_) (by rw [List.getElem?_toArray];rfl) (by kernel_rfl) (by kernel_rfl) (by kernel_rfl) (by kernel_rfl) (by kernel_rfl) (by exact fun _ _ _ h=>h) (Or.inl ⟨by rfl,?_⟩) hS ?_
  rotate_left
  ·(intro wS hSw;(try dsimp only at hSw);go_simp;try with_reducible rfl)
  try simp only [Act.put,List.setIfInBounds_toArray,List.set_cons_zero,List.set_cons_succ]
  refine C3.take (i:=5) (oi:=_) (v:=?_) (by rw [List.getElem?_toArray];rfl) (by kernel_rfl) (by kernel_rfl) (by kernel_rfl) (by kernel_rfl) (by kernel_rfl) (by exact fun _ _ _ h=>h) (Or.inl ⟨by rfl,?_⟩) hS ?_
  rotate_left
  ·(intro wS hSw;(try dsimp only at hSw);go_simp;try with_reducible rfl)
  try simp only [Act.put,List.setIfInBounds_toArray,List.set_cons_zero,List.set_cons_succ]
  refine C3.take (i:=6) (oi:=_) (v:=?_) (by rw [List.getElem?_toArray];rfl) (by kernel_rfl) (by kernel_rfl) (by kernel_rfl) (by kernel_rfl) (by kernel_rfl) (by exact fun _ _ _ h=>h) (Or.inl ⟨by rfl,?_⟩) hS ?_
  rotate_left
  ·(intro wS hSw;(try dsimp only at hSw);go_simp;try with_reducible rfl)
  try simp only [Act.put,List.setIfInBounds_toArray,List.set_cons_zero,List.set_cons_succ]
  refine C3.take (i:=7) (oi:=_) (v:=?_) (by rw [List.getElem?_toArray];rfl) (by kernel_rfl) (by kernel_rfl) (by kernel_rfl) (by kernel_rfl) (by kernel_rfl) (by exact fun _ _ _ h=>h) (Or.inl ⟨by rfl,?_⟩) hS ?_
  rotate_left
  ·(intro wS hSw;(try dsimp only at hSw);go_simp;try with_reducible rfl)
  try simp only [Act.put,List.setIfInBounds_toArray,List.set_cons_zero,List.set_cons_succ]
  refine C3.take (i:=8) (oi:=_) (v:=?_) (by rw [List.getElem?_toArray];rfl) (by kernel_rfl) (by kernel_rfl) (by kernel_rfl) (by kernel_rfl) (by kernel_rfl) (by exact fun _ _ _ h=>h) (Or.inl ⟨by rfl,?_⟩) hS ?_
  rotate_left
  ·(intro wS hSw;(try dsimp only at hSw);go_simp;try with_reducible rfl)
  try simp only [Act.put,List.setIfInBounds_toArray,List.set_cons_zero,List.set_cons_succ]
  refine C3.take (i:=9) (oi:=_) (v:=?_) (by rw [List.getElem?_toArray];rfl) (by kernel_rfl) (by kernel_rfl) (by kernel_rfl) (by kernel_rfl) (by kernel_rfl) (by exact fun _ _ _ h=>h) (Or.inl ⟨by rfl,?_⟩) hS ?_
  rotate_left
  ·(intro wS hSw;(try dsimp only at hSw);go_simp;try with_reducible rfl)
  try simp only [Act.put,List.setIfInBounds_toArray,List.set_cons_zero,List.set_cons_succ]
  refine C3.take (i:=10) (oi:=_) (v:=?_) (by rw [List.getElem?_toArray];rfl) (by kernel_rfl) (by kernel_rfl) (by kernel_rfl) (by kernel_rfl) (by kernel_rfl) (by exact fun _ _ _ h=>h) (Or.inl ⟨by rfl,?_⟩) hS ?_
  rotate_left
  ·(intro wS hSw;(try dsimp only at hSw);go_simp;try with_reducible rfl)
  try simp only [Act.put,List.setIfInBounds_toArray,List.set_cons_zero,List.set_cons_succ]
  refine C3.only (i:=11) (o:=_) (by kernel_rfl) (by rw [List.getElem?_toArray];rfl) (fun K hK=>?_)
  try go_simp
  clear hS
  have hS:(fun w'=>w'.cell? ⟨g,0,none⟩=some (.slice (some ⟨b,off,none⟩) Bl.length c)∧w'.cell? ⟨g,1,none⟩=some (.int .i64 k)∧w'.cell? ⟨g,2,none⟩=some (.int .u64 Dq)∧w'.cell? ⟨b,off+k,none⟩=some (.int .u8 z)) w2:=⟨R.cells 0,R.cells 1,R.cells 2,hcl.out _ hB⟩
  refine hK.out _ _ (fun _=>hS) ?_
  clear hK K
  try simp only [Act.put,List.setIfInBounds_toArray,List.set_cons_zero,List.set_cons_succ]
  refine C3.done (by kernel_rfl) ?_ _
  (try clear hS)
  refine hK0 _ _ ?_
  clear hK0 K0
  have c_R:=R.cells;have f_R:=R.frozens
  go_wp2_with fail
  clear c_R f_R
  have n_K:Dt [g] w ((w2.setCell ⟨g,1,none⟩ (.int .i64 ((k:Int)+1))).setCell ⟨g,2,none⟩ (.int .u64 (IntKind.u64.wrap (IntKind.u64.wrap (IntKind.u64.wrap (Dq * 6364136223846793005)+z)+840840)))):=((Dt.ofBelow hB).setCell (p:=⟨g,1,none⟩) (by simp) _).setCell (p:=⟨g,2,none⟩) (by simp) _
  have n_R:Hm ((w2.setCell ⟨g,1,none⟩ (.int .i64 ((k:Int)+1))).setCell ⟨g,2,none⟩ (.int .u64 (IntKind.u64.wrap (IntKind.u64.wrap (IntKind.u64.wrap (Dq * 6364136223846793005)+z)+840840)))) g 70 [.slice (some ⟨b,off,none⟩) Bl.length c,.int .i64 ((k+1:Nat):Int),.int .u64 (IntKind.u64.wrap (IntKind.u64.wrap (IntKind.u64.wrap (Dq * 6364136223846793005)+z)+840840))]:=by simpa using ((R.set 1 (.int .i64 ((k:Int)+1))).set 2 (.int .u64 (IntKind.u64.wrap (IntKind.u64.wrap (IntKind.u64.wrap (Dq * 6364136223846793005)+z)+840840))))
  have n_S:Sl Gs ((w2.setCell ⟨g,1,none⟩ (.int .i64 ((k:Int)+1))).setCell ⟨g,2,none⟩ (.int .u64 (IntKind.u64.wrap (IntKind.u64.wrap (IntKind.u64.wrap (Dq * 6364136223846793005)+z)+840840)))) (Value.slice (some ⟨b,off,none⟩) Bl.length c) Bl F:=S.frame (fun b hb=>by have:b≠g:=fun e=>hF (e▸hb);repeat rw [Below.heap_setCell _ _ _ _ (by simp <;> omega)])
  have hs0:0≤(IntKind.u64.wrap (IntKind.u64.wrap (IntKind.u64.wrap (Dq * 6364136223846793005)+z)+840840))∧(IntKind.u64.wrap (IntKind.u64.wrap (IntKind.u64.wrap (Dq * 6364136223846793005)+z)+840840)) < 18446744073709551616:=by rw [IntKind.wrap_u64];omega
  clear R S hB
  generalize (IntKind.u64.wrap (IntKind.u64.wrap (IntKind.u64.wrap (Dq * 6364136223846793005)+z)+840840))=sd at *
  obtain ⟨hs0,hs1⟩:=hs0
  generalize ((w2.setCell ⟨g,1,none⟩ (.int .i64 ((k:Int)+1))).setCell ⟨g,2,none⟩ (.int .u64 sd))=w3 at *
  have R:=n_R;clear n_R
  have S:=n_S;clear n_S
  rename_i K0 hK0
  refine C3.start (S:=(fun w'=>w'.cell? ⟨g,0,none⟩=some (.slice (some ⟨b,off,none⟩) Bl.length c)∧w'.cell? ⟨g,1,none⟩=some (.int .i64 ((k+1:Nat):Int))∧w'.cell? ⟨g,2,none⟩=some (.int .u64 sd))) (X:=(fun _=>false)) (by kernel_rfl) ?_
  have al:Below w3.heap.size w3 w3.drew:=Hk (Below.refl _ _) 1
  have hs_w4:=al.size
  replace R:=R.below al
  replace S:=S.below (by decide) al
  have hB:=al
  generalize w3.drew=w4 at *
  clear al
  have hS:(fun w'=>w'.cell? ⟨g,0,none⟩=some (.slice (some ⟨b,off,none⟩) Bl.length c)∧w'.cell? ⟨g,1,none⟩=some (.int .i64 ((k+1:Nat):Int))∧w'.cell? ⟨g,2,none⟩=some (.int .u64 sd)) w4:=⟨R.cells 0,R.cells 1,R.cells 2⟩
  refine C3.take (i:=0) (oi:=_) (v:=?_) (by rw [List.getElem?_toArray];rfl) (by kernel_rfl) (by kernel_rfl) (by kernel_rfl) (by kernel_rfl) (by kernel_rfl) (by exact fun _ _ _ h=>h) (Or.inl ⟨by rfl,?_⟩) hS ?_
  rotate_left
  ·(intro wS hSw;(try dsimp only at hSw);go_simp;try with_reducible rfl)
  try simp only [Act.put,List.setIfInBounds_toArray,List.set_cons_zero,List.set_cons_succ]
  refine C3.take (i:=1) (oi:=_) (v:=?_) (by rw [List.getElem?_toArray];rfl) (by kernel_rfl) (by kernel_rfl) (by kernel_rfl) (by kernel_rfl) (by kernel_rfl) (by exact fun _ _ _ h=>h) (Or.inl ⟨by rfl,?_⟩) hS ?_
  rotate_left
  ·(intro wS hSw;(try dsimp only at hSw);go_simp;try with_reducible rfl)
  try simp only [Act.put,List.setIfInBounds_toArray,List.set_cons_zero,List.set_cons_succ]
  refine C3.take (i:=2) (oi:=_) (v:=?_) (by rw [List.getElem?_toArray];rfl) (by kernel_rfl) (by kernel_rfl) (by kernel_rfl) (by kernel_rfl) (by kernel_rfl) (by exact fun _ _ _ h=>h) (Or.inl ⟨by rfl,?_⟩) hS ?_
  rotate_left
  ·(intro wS hSw;(try dsimp only at hSw);go_simp;try with_reducible rfl)
  try simp only [Act.put,List.setIfInBounds_toArray,List.set_cons_zero,List.set_cons_succ]
  refine C3.take (i:=3) (oi:=_) (v:=?_) (by rw [List.getElem?_toArray];rfl) (by kernel_rfl) (by kernel_rfl) (by kernel_rfl) (by kernel_rfl) (by kernel_rfl) (by exact fun _ _ _ h=>h) (Or.inl ⟨by rfl,?_⟩) hS ?_
  rotate_left
  ·(intro wS hSw;(try dsimp only at hSw);go_simp;try with_reducible rfl)
  try simp only [Act.put,List.setIfInBounds_toArray,List.set_cons_zero,List.set_cons_succ]
  refine C3.take (i:=4) (oi:=_) (v:=?_) (by rw [List.getElem?_toArray];rfl) (by kernel_rfl) (by kernel_rfl) (by kernel_rfl) (by kernel_rfl) (by kernel_rfl) (by exact fun _ _ _ h=>h) (Or.inl ⟨by rfl,?_⟩) hS ?_
  rotate_left
  ·(intro wS hSw;(try dsimp only at hSw);go_simp;try with_reducible rfl)
  try simp only [Act.put,List.setIfInBounds_toArray,List.set_cons_zero,List.set_cons_succ]
  refine C3.take (i:=5) (oi:=_) (v:=?_) (by rw [List.getElem?_toArray];rfl) (by kernel_rfl) (by kernel_rfl) (by kernel_rfl) (by kernel_rfl) (by kernel_rfl) (by exact fun _ _ _ h=>h) (Or.inl ⟨by rfl,?_⟩) hS ?_
  rotate_left
  ·(intro wS hSw;(try dsimp only at hSw);go_simp;try with_reducible rfl)
  try simp only [Act.put,List.setIfInBounds_toArray,List.set_cons_zero,List.set_cons_succ]
  refine C3.take (i:=6) (oi:=_) (v:=?_) (by rw [List.getElem?_toArray];rfl) (by kernel_rfl) (by kernel_rfl) (by kernel_rfl) (by kernel_rfl) (by kernel_rfl) (by exact fun _ _ _ h=>h) (Or.inl ⟨by rfl,?_⟩) hS ?_
  rotate_left
  ·(intro wS hSw;(try dsimp only at hSw);go_simp;try with_reducible rfl)
  try simp only [Act.put,List.setIfInBounds_toArray,List.set_cons_zero,List.set_cons_succ]
  refine C3.take (i:=7) (oi:=_) (v:=?_) (by rw [List.getElem?_toArray];rfl) (by kernel_rfl) (by kernel_rfl) (by kernel_rfl) (by kernel_rfl) (by kernel_rfl) (by exact fun _ _ _ h=>h) (Or.inl ⟨by rfl,?_⟩) hS ?_
  rotate_left
  ·(intro wS hSw;(try dsimp only at hSw);go_simp;try with_reducible rfl)
  try simp only [Act.put,List.setIfInBounds_toArray,List.set_cons_zero,List.set_cons_succ]
  refine C3.take (i:=8) (oi:=_) (v:=?_) (by rw [List.getElem?_toArray];rfl) (by kernel_rfl) (by kernel_rfl) (by kernel_rfl) (by kernel_rfl) (by kernel_rfl) (by exact fun _ _ _ h=>h) (Or.inl ⟨by rfl,?_⟩) hS ?_
  rotate_left
  ·(intro wS hSw;(try dsimp only at hSw);go_simp;try with_reducible rfl)
  try simp only [Act.put,List.setIfInBounds_toArray,List.set_cons_zero,List.set_cons_succ]
  refine C3.take (i:=9) (oi:=_) (v:=?_) (by rw [List.getElem?_toArray];rfl) (by kernel_rfl) (by kernel_rfl) (by kernel_rfl) (by kernel_rfl) (by kernel_rfl) (by exact fun _ _ _ h=>h) (Or.inl ⟨by rfl,?_⟩) hS ?_
  rotate_left
  ·(intro wS hSw;(try dsimp only at hSw);go_simp;try with_reducible rfl)
  try simp only [Act.put,List.setIfInBounds_toArray,List.set_cons_zero,List.set_cons_succ]
  refine C3.done (by kernel_rfl) ?_ _
  (try clear hS)
  refine hK0 _ _ ?_
  clear hK0 K0
  have n_K2:=n_K.trans (Dt.ofBelow hB)
  have c_R:=R.cells;have f_R:=R.frozens
  go_wp2_with fail
  refine bodyPost_ret (v:=.int .i64 (IntKind.i64.wrap z)) ?_ rfl ?_
  ·simp [results,results65,go_sem]
  ·refine ⟨z.toNat,?_,by omega,⟨k+1,sd,R,S,hF,by omega,hs0,hs1⟩,n_K2⟩
   rw [show IntKind.i64.wrap z=((z.toNat:Nat):Int) from by rw [IntKind.wrap_i64];omega]
 ·have hB:=Below.refl w.heap.size w
  go_enter func65,ntmps65
  go_wp2_with fail
  refine C3.start (S:=(fun w'=>w'.cell? ⟨g,0,none⟩=some (.slice a Bl.length c)∧w'.cell? ⟨g,1,none⟩=some (.int .i64 k)∧w'.cell? ⟨g,2,none⟩=some (.int .u64 Dq))) (X:=(fun _=>false)) (by kernel_rfl) ?_
  have al:Below w.heap.size w w.drew:=Hk (Below.refl _ _) 1
  have hs_w5:=al.size
  replace R:=R.below al
  replace S:=S.below (by decide) al
  replace hB:=tr hB al (Nat.le_refl _)
  generalize w.drew=w5 at *
  clear al
  have hS:(fun w'=>w'.cell? ⟨g,0,none⟩=some (.slice a Bl.length c)∧w'.cell? ⟨g,1,none⟩=some (.int .i64 k)∧w'.cell? ⟨g,2,none⟩=some (.int .u64 Dq)) w5:=⟨R.cells 0,R.cells 1,R.cells 2⟩
  refine C3.take (i:=0) (oi:=_) (v:=?_) (by rw [List.getElem?_toArray];rfl) (by kernel_rfl) (by kernel_rfl) (by kernel_rfl) (by kernel_rfl) (by kernel_rfl) (by exact fun _ _ _ h=>h) (Or.inl ⟨by rfl,?_⟩) hS ?_
  rotate_left
  ·(intro wS hSw;(try dsimp only at hSw);go_simp;try with_reducible rfl)
  try simp only [Act.put,List.setIfInBounds_toArray,List.set_cons_zero,List.set_cons_succ]
  refine C3.take (i:=1) (oi:=_) (v:=?_) (by rw [List.getElem?_toArray];rfl) (by kernel_rfl) (by kernel_rfl) (by kernel_rfl) (by kernel_rfl) (by kernel_rfl) (by exact fun _ _ _ h=>h) (Or.inl ⟨by rfl,?_⟩) hS ?_
  rotate_left
  ·(intro wS hSw;(try dsimp only at hSw);go_simp;try with_reducible rfl)
  try simp only [Act.put,List.setIfInBounds_toArray,List.set_cons_zero,List.set_cons_succ]
  refine C3.take (i:=2) (oi:=_) (v:=?_) (by rw [List.getElem?_toArray];rfl) (by kernel_rfl) (by kernel_rfl) (by kernel_rfl) (by kernel_rfl) (by kernel_rfl) (by exact fun _ _ _ h=>h) (Or.inl ⟨by rfl,?_⟩) hS ?_
  rotate_left
  ·(intro wS hSw;(try dsimp only at hSw);go_simp;try with_reducible rfl)
  try simp only [Act.put,List.setIfInBounds_toArray,List.set_cons_zero,List.set_cons_succ]
  refine C3.take (i:=3) (oi:=_) (v:=?_) (by rw [List.getElem?_toArray];rfl) (by kernel_rfl) (by kernel_rfl) (by kernel_rfl) (by kernel_rfl) (by kernel_rfl) (by exact fun _ _ _ h=>h) (Or.inl ⟨by rfl,?_⟩) hS ?_
  rotate_left
  ·(intro wS hSw;(try dsimp only at hSw);go_simp;try with_reducible rfl)
  try simp only [Act.put,List.setIfInBounds_toArray,List.set_cons_zero,List.set_cons_succ]
  refine C3.take (i:=4) (oi:=_) (v:=?_) (by rw [List.getElem?_toArray];rfl) (by kernel_rfl) (by kernel_rfl) (by kernel_rfl) (by kernel_rfl) (by kernel_rfl) (by exact fun _ _ _ h=>h) (Or.inl ⟨by rfl,?_⟩) hS ?_
  rotate_left
  ·(intro wS hSw;(try dsimp only at hSw);go_simp;try with_reducible rfl)
  try simp only [Act.put,List.setIfInBounds_toArray,List.set_cons_zero,List.set_cons_succ]
  refine C3.take (i:=5) (oi:=_) (v:=?_) (by rw [List.getElem?_toArray];rfl) (by kernel_rfl) (by kernel_rfl) (by kernel_rfl) (by kernel_rfl) (by kernel_rfl) (by exact fun _ _ _ h=>h) (Or.inl ⟨by rfl,?_⟩) hS ?_
  rotate_left
  ·(intro wS hSw;(try dsimp only at hSw);go_simp;try with_reducible rfl)
  try simp only [Act.put,List.setIfInBounds_toArray,List.set_cons_zero,List.set_cons_succ]
  refine C3.take (i:=6) (oi:=_) (v:=?_) (by rw [List.getElem?_toArray];rfl) (by kernel_rfl) (by kernel_rfl) (by kernel_rfl) (by kernel_rfl) (by kernel_rfl) (by exact fun _ _ _ h=>h) (Or.inl ⟨by rfl,?_⟩) hS ?_
  rotate_left
  ·(intro wS hSw;(try dsimp only at hSw);go_simp;try with_reducible rfl)
  try simp only [Act.put,List.setIfInBounds_toArray,List.set_cons_zero,List.set_cons_succ]
  refine C3.take (i:=7) (oi:=_) (v:=?_) (by rw [List.getElem?_toArray];rfl) (by kernel_rfl) (by kernel_rfl) (by kernel_rfl) (by kernel_rfl) (by kernel_rfl) (by exact fun _ _ _ h=>h) (Or.inl ⟨by rfl,?_⟩) hS ?_
  rotate_left
  ·(intro wS hSw;(try dsimp only at hSw);go_simp;try with_reducible rfl)
  try simp only [Act.put,List.setIfInBounds_toArray,List.set_cons_zero,List.set_cons_succ]
  refine C3.take (i:=8) (oi:=_) (v:=?_) (by rw [List.getElem?_toArray];rfl) (by kernel_rfl) (by kernel_rfl) (by kernel_rfl) (by kernel_rfl) (by kernel_rfl) (by exact fun _ _ _ h=>h) (Or.inl ⟨by rfl,?_⟩) hS ?_
  rotate_left
  ·(intro wS hSw;(try dsimp only at hSw);go_simp;try with_reducible rfl)
  try simp only [Act.put,List.setIfInBounds_toArray,List.set_cons_zero,List.set_cons_succ]
  refine C3.take (i:=9) (oi:=_) (v:=?_) (by rw [List.getElem?_toArray];rfl) (by kernel_rfl) (by kernel_rfl) (by kernel_rfl) (by kernel_rfl) (by kernel_rfl) (by exact fun _ _ _ h=>h) (Or.inl ⟨by rfl,?_⟩) hS ?_
  rotate_left
  ·(intro wS hSw;(try dsimp only at hSw);go_simp;try with_reducible rfl)
  try simp only [Act.put,List.setIfInBounds_toArray,List.set_cons_zero,List.set_cons_succ]
  refine C3.done (by kernel_rfl) ?_ _
  (try clear hS)
  have c_R:=R.cells;have f_R:=R.frozens
  go_wp2_with fail
  clear c_R f_R
  have n_K:Dt [g] w ((w5.setCell ⟨g,1,none⟩ (.int .i64 ((k:Int)+1))).setCell ⟨g,2,none⟩ (.int .u64 (IntKind.u64.wrap (IntKind.u64.wrap (IntKind.u64.wrap (Dq * 6364136223846793005))+840840)))):=((Dt.ofBelow hB).setCell (p:=⟨g,1,none⟩) (by simp) _).setCell (p:=⟨g,2,none⟩) (by simp) _
  have n_R:Hm ((w5.setCell ⟨g,1,none⟩ (.int .i64 ((k:Int)+1))).setCell ⟨g,2,none⟩ (.int .u64 (IntKind.u64.wrap (IntKind.u64.wrap (IntKind.u64.wrap (Dq * 6364136223846793005))+840840)))) g 70 [.slice a Bl.length c,.int .i64 ((k+1:Nat):Int),.int .u64 (IntKind.u64.wrap (IntKind.u64.wrap (IntKind.u64.wrap (Dq * 6364136223846793005))+840840))]:=by simpa using ((R.set 1 (.int .i64 ((k:Int)+1))).set 2 (.int .u64 (IntKind.u64.wrap (IntKind.u64.wrap (IntKind.u64.wrap (Dq * 6364136223846793005))+840840))))
  have n_S:Sl Gs ((w5.setCell ⟨g,1,none⟩ (.int .i64 ((k:Int)+1))).setCell ⟨g,2,none⟩ (.int .u64 (IntKind.u64.wrap (IntKind.u64.wrap (IntKind.u64.wrap (Dq * 6364136223846793005))+840840)))) (Value.slice a Bl.length c) Bl F:=S.frame (fun b hb=>by have:b≠g:=fun e=>hF (e▸hb);repeat rw [Below.heap_setCell _ _ _ _ (by simp <;> omega)])
  have hs0:0≤(IntKind.u64.wrap (IntKind.u64.wrap (IntKind.u64.wrap (Dq * 6364136223846793005))+840840))∧(IntKind.u64.wrap (IntKind.u64.wrap (IntKind.u64.wrap (Dq * 6364136223846793005))+840840)) < 18446744073709551616:=by rw [IntKind.wrap_u64];omega
  clear R S hB
  generalize (IntKind.u64.wrap (IntKind.u64.wrap (IntKind.u64.wrap (Dq * 6364136223846793005))+840840))=sd at *
  obtain ⟨hs0,hs1⟩:=hs0
  generalize ((w5.setCell ⟨g,1,none⟩ (.int .i64 ((k:Int)+1))).setCell ⟨g,2,none⟩ (.int .u64 sd))=w6 at *
  have R:=n_R;clear n_R
  have S:=n_S;clear n_S
  rename_i K0 hK0
  refine C3.start (S:=(fun w'=>w'.cell? ⟨g,0,none⟩=some (.slice a Bl.length c)∧w'.cell? ⟨g,1,none⟩=some (.int .i64 ((k+1:Nat):Int))∧w'.cell? ⟨g,2,none⟩=some (.int .u64 sd))) (X:=(fun _=>false)) (by kernel_rfl) ?_
  have al:Below w6.heap.size w6 w6.drew:=Hk (Below.refl _ _) 1
  have hs_w7:=al.size
  replace R:=R.below al
  replace S:=S.below (by decide) al
  have hB:=al
  generalize w6.drew=w7 at *
  clear al
  have hS:(fun w'=>w'.cell? ⟨g,0,none⟩=some (.slice a Bl.length c)∧w'.cell? ⟨g,1,none⟩=some (.int .i64 ((k+1:Nat):Int))∧w'.cell? ⟨g,2,none⟩=some (.int .u64 sd)) w7:=⟨R.cells 0,R.cells 1,R.cells 2⟩
  refine C3.take (i:=0) (oi:=_) (v:=?_) (by rw [List.getElem?_toArray];rfl) (by kernel_rfl) (by kernel_rfl) (by kernel_rfl) (by kernel_rfl) (by kernel_rfl) (by exact fun _ _ _ h=>h) (Or.inl ⟨by rfl,?_⟩) hS ?_
  rotate_left
  ·(intro wS hSw;(try dsimp only at hSw);go_simp;try with_reducible rfl)
  try simp only [Act.put,List.setIfInBounds_toArray,List.set_cons_zero,List.set_cons_succ]
  refine C3.take (i:=1) (oi:=_) (v:=?_) (by rw [List.getElem?_toArray];rfl) (by kernel_rfl) (by kernel_rfl) (by kernel_rfl) (by kernel_rfl) (by kernel_rfl) (by exact fun _ _ _ h=>h) (Or.inl ⟨by rfl,?_⟩) hS ?_
  rotate_left
  ·(intro wS hSw;(try dsimp only at hSw);go_simp;try with_reducible rfl)
  try simp only [Act.put,List.setIfInBounds_toArray,List.set_cons_zero,List.set_cons_succ]
  refine C3.take (i:=2) (oi:=_) (v:=?_) (by rw [List.getElem?_toArray];rfl) (by kernel_rfl) (by kernel_rfl) (by kernel_rfl) (by kernel_rfl) (by kernel_rfl) (by exact fun _ _ _ h=>h) (Or.inl ⟨by rfl,?_⟩) hS ?_
  rotate_left
  ·(intro wS hSw;(try dsimp only at hSw);go_simp;try with_reducible rfl)
  try simp only [Act.put,List.setIfInBounds_toArray,List.set_cons_zero,List.set_cons_succ]
  refine C3.take (i:=3) (oi:=_) (v:=?_) (by rw [List.getElem?_toArray];rfl) (by kernel_rfl) (by kernel_rfl) (by kernel_rfl) (by kernel_rfl) (by kernel_rfl) (by exact fun _ _ _ h=>h) (Or.inl ⟨by rfl,?_⟩) hS ?_
  rotate_left
  ·(intro wS hSw;(try dsimp only at hSw);go_simp;try with_reducible rfl)
  try simp only [Act.put,List.setIfInBounds_toArray,List.set_cons_zero,List.set_cons_succ]
  refine C3.take (i:=4) (oi:=_) (v:=?_) (by rw [List.getElem?_toArray];rfl) (by kernel_rfl) (by kernel_rfl) (by kernel_rfl) (by kernel_rfl) (by kernel_rfl) (by exact fun _ _ _ h=>h) (Or.inl ⟨by rfl,?_⟩) hS ?_
  rotate_left
  ·(intro wS hSw;(try dsimp only at hSw);go_simp;try with_reducible rfl)
  try simp only [Act.put,List.setIfInBounds_toArray,List.set_cons_zero,List.set_cons_succ]
  refine C3.take (i:=5) (oi:=_) (v:=?_) (by rw [List.getElem?_toArray];rfl) (by kernel_rfl) (by kernel_rfl) (by kernel_rfl) (by kernel_rfl) (by kernel_rfl) (by exact fun _ _ _ h=>h) (Or.inl ⟨by rfl,?_⟩) hS ?_
  rotate_left
  ·(intro wS hSw;(try dsimp only at hSw);go_simp;try with_reducible rfl)
  try simp only [Act.put,List.setIfInBounds_toArray,List.set_cons_zero,List.set_cons_succ]
  refine C3.take (i:=6) (oi:=_) (v:=?_) (by rw [List.getElem?_toArray];rfl) (by kernel_rfl) (by kernel_rfl) (by kernel_rfl) (by kernel_rfl) (by kernel_rfl) (by exact fun _ _ _ h=>h) (Or.inl ⟨by rfl,?_⟩) hS ?_
  rotate_left
  ·(intro wS hSw;(try dsimp only at hSw);go_simp;try with_reducible rfl)
  try simp only [Act.put,List.setIfInBounds_toArray,List.set_cons_zero,List.set_cons_succ]
  refine C3.take (i:=7) (oi:=_) (v:=?_) (by rw [List.getElem?_toArray];rfl) (by kernel_rfl) (by kernel_rfl) (by kernel_rfl) (by kernel_rfl) (by kernel_rfl) (by exact fun _ _ _ h=>h) (Or.inl ⟨by rfl,?_⟩) hS ?_
  rotate_left
  ·(intro wS hSw;(try dsimp only at hSw);go_simp;try with_reducible rfl)
  try simp only [Act.put,List.setIfInBounds_toArray,List.set_cons_zero,List.set_cons_succ]
  refine C3.take (i:=8) (oi:=_) (v:=?_) (by rw [List.getElem?_toArray];rfl) (by kernel_rfl) (by kernel_rfl) (by kernel_rfl) (by kernel_rfl) (by kernel_rfl) (by exact fun _ _ _ h=>h) (Or.inl ⟨by rfl,?_⟩) hS ?_
  rotate_left
  ·(intro wS hSw;(try dsimp only at hSw);go_simp;try with_reducible rfl)
  try simp only [Act.put,List.setIfInBounds_toArray,List.set_cons_zero,List.set_cons_succ]
  refine C3.take (i:=9) (oi:=_) (v:=?_) (by rw [List.getElem?_toArray];rfl) (by kernel_rfl) (by kernel_rfl) (by kernel_rfl) (by kernel_rfl) (by kernel_rfl) (by exact fun _ _ _ h=>h) (Or.inl ⟨by rfl,?_⟩) hS ?_
  rotate_left
  ·(intro wS hSw;(try dsimp only at hSw);go_simp;try with_reducible rfl)
  try simp only [Act.put,List.setIfInBounds_toArray,List.set_cons_zero,List.set_cons_succ]
  refine C3.done (by kernel_rfl) ?_ _
  (try clear hS)
  refine hK0 _ _ ?_
  clear hK0 K0
  have n_K2:=n_K.trans (Dt.ofBelow hB)
  obtain ⟨q,hq,hq2⟩:∃q:Nat,bits BinOp.and IntKind.u64 (sd / 1099511627776) 255=(q:Int)∧q≤255:=by
   refine ⟨(sd / 1099511627776).toNat &&& 255,?_,Nat.and_le_right⟩
   rw [←bits_and_u64_nat _ _ (by omega) (by omega)]
   congr 1;omega
  have c_R:=R.cells;have f_R:=R.frozens
  go_wp2_with fail
  refine bodyPost_ret (v:=.int .i64 (q:Int)) ?_ rfl ?_
  ·simp [results,results65,go_sem,hq]
  ·exact ⟨q,rfl,hq2,⟨k+1,sd,R,S,hF,by omega,hs0,hs1⟩,n_K2⟩
def Aq1 (B g:Nat) (F:Ss) (n:Int) (w:World) (e:Ending) (w':World):Prop:=∃r:Nat,e=.returned (.int .i64 r)∧(r=0∨(r:Int) < n)∧Xr (B+2) w' g F∧Dt [g] w w'
theorem Abv (B g:Nat) (F:Ss) (n:Int) (w:World) (h:Xr B w g F) (hB0:B≤1099511627774) (hn:n≤1048576) :
  Calls prog 30 #[.pointer (some ⟨g,0,none⟩),.int .i64 n] w (Aq1 B g F n w):=by
 have hN1:=Akh B g F w h (by omega)
 have hN2:=fun w h=>Akh (B+1) g F w h (by omega)
 replace hN1:=Lib.hid hN1;replace hN2:=Lib.hid hN2
 by_cases h1:n≤1
 ·go_enter func30,ntmps30
  go_wp2_with fail
  refine bodyPost_ret (v:=.int .i64 0) ?_ rfl ⟨0,rfl,.inl rfl,h.mono (by omega),Dt.refl _ _⟩
  simp [results,results30,go_sem]
 ·by_cases h2:n≤200
  ·go_enter func30,ntmps30
   go_wp2_with fail
   refine hN1.out.mono ?_
   rintro e w1 ⟨r,rfl,hr,hc,hk⟩
   have hm0:0≤(r:Int) % n:=Int.emod_nonneg _ (by omega)
   have hm1:(r:Int) % n < n:=Int.emod_lt_of_pos _ (by omega)
   go_wp2_with fail
   refine bodyPost_ret (v:=.int .i64 ((r:Int) % n)) ?_ rfl ⟨((r:Int) % n).toNat,by rw [Int.toNat_of_nonneg hm0],.inr (by omega),hc.mono (by omega),hk⟩
   simp [results,results30,go_sem]
  ·go_enter func30,ntmps30
   go_wp2_with fail
   refine hN1.out.mono ?_
   rintro e w1 ⟨r,rfl,hr,hc,hk⟩
   go_wp2_with fail
   refine (hN2.out _ hc).mono ?_
   rintro e w2 ⟨r2,rfl,hr2,hc2,hk2⟩
   have hm0:0≤((r:Int) * 256+r2) % n:=Int.emod_nonneg _ (by omega)
   have hm1:((r:Int) * 256+r2) % n < n:=Int.emod_lt_of_pos _ (by omega)
   go_wp2_with fail
   refine bodyPost_ret (v:=.int .i64 (((r:Int) * 256+r2) % n)) ?_ rfl ⟨(((r:Int) * 256+r2) % n).toNat,by rw [Int.toNat_of_nonneg hm0],.inr (by omega),hc2,hk.trans hk2⟩
   simp [results,results30,go_sem]
def Ar5 (B g:Nat) (F:Ss) (w:World) (e:Ending) (w':World):Prop:=∃b:Bool,e=.returned (.bool b)∧Xr (B+2) w' g F∧Dt [g] w w'
theorem Arg (B g:Nat) (F:Ss) (n:Int) (w:World) (h:Xr B w g F) (hB0:B≤1099511627774) (hn:n≤1048576) :
  Calls prog 58 #[.pointer (some ⟨g,0,none⟩),.int .i64 n] w (Ar5 B g F w):=by
 have hN1:=Lib.hid (Abv B g F n w h hB0 hn)
 go_enter func58,ntmps58
 go_wp2_with fail
 refine hN1.out.mono ?_
 rintro e w1 ⟨r,rfl,hr,hc,hk⟩
 go_wp2_with fail
 refine bodyPost_ret (v:=.bool ((r:Int) == 0)) ?_ rfl ⟨_,rfl,hc,hk⟩
 simp [results,results58,go_sem]
def POf (B g:Nat) (F:Ss) (xs:List ByteArray) (w:World) (e:Ending) (w':World):Prop:=∃s∈xs,e=.returned (.string s)∧Xr (B+2) w' g F∧Dt [g] w w'
theorem Asg (B g:Nat) (F:Ss) (v:Value) (xs:List ByteArray) (K:List Nat) (w:World) (h:Xr B w g F) (hB0:B≤1099511627774) (hx:Sl A9 w v xs K) (h0:0 < xs.length) (h1:xs.length≤1048576) (hg:g ∉ K) :
  Calls prog 68 #[.pointer (some ⟨g,0,none⟩),v] w (POf B g F xs w):=by
 obtain ⟨a,c,rfl⟩:=hx.slice
 have hN1:=Lib.hid (Abv B g F xs.length w h hB0 (by omega))
 go_enter func68,ntmps68
 go_wp2_with fail
 refine hN1.out.mono ?_
 rintro e w1 ⟨r,rfl,hr,hc,hk⟩
 have hr2:r < xs.length:=by omega
 obtain ⟨hsz,b,off,rfl,hcell⟩:=(hx.Kj hk (fun b hb e=>hg (by simp at e;rw [←e];exact hb)) (by decide)).str.2.2 r hr2
 clear hr
 have hm:=List.getElem_mem hr2
 generalize xs[r]=s at *
 go_wp2_with fail
 refine bodyPost_ret (v:=.string s) ?_ rfl ⟨s,hm,rfl,hc,hk⟩
 simp [results,results68,go_sem]
def Ao2 (B g:Nat) (F:Ss) (xs:List Int) (w:World) (e:Ending) (w':World):Prop:=∃s∈xs,e=.returned (.int .i64 s)∧Xr (B+2) w' g F∧Dt [g] w w'
theorem Amd (B g:Nat) (F:Ss) (v:Value) (xs:List Int) (K:List Nat) (w:World) (h:Xr B w g F) (hB0:B≤1099511627774) (hx:Sl Bd w v xs K) (h0:0 < xs.length) (h1:xs.length≤1048576) (hg:g ∉ K) :
  Calls prog 22 #[.pointer (some ⟨g,0,none⟩),v] w (Ao2 B g F xs w):=by
 obtain ⟨a,c,rfl⟩:=hx.slice
 have hN1:=Lib.hid (Abv B g F xs.length w h hB0 (by omega))
 go_enter func22,ntmps22
 go_wp2_with fail
 refine hN1.out.mono ?_
 rintro e w1 ⟨r,rfl,hr,hc,hk⟩
 have hr2:r < xs.length:=by omega
 obtain ⟨b,off,rfl,hcell⟩:=(hx.Kj hk (fun b hb e=>hg (by simp at e;rw [←e];exact hb)) (by decide)).int.2.2 r hr2
 clear hr
 have hm:=List.getElem_mem hr2
 generalize xs[r]=s at *
 go_wp2_with fail
 refine bodyPost_ret (v:=.int .i64 s) ?_ rfl ⟨s,hm,rfl,hc,hk⟩
 simp [results,results22,go_sem]
structure Oi where
 k:Nat
 Dq:Int
structure Hi (B:Nat) (s:Oi):Prop where
 k:s.k≤B
 s0:0≤s.Dq
 s1:s.Dq < 18446744073709551616
theorem Hi.mono {B B':Nat} {s:Oi} (h:Hi B s) (hb:B≤B'):Hi B' s:=⟨Nat.le_trans h.k hb,h.s0,h.s1⟩
theorem Af0 {f:FuncId} {args:List Value} {σ:Type} {C:σ→Prop} {v:σ→Value} {B B' g:Nat} {F:Ss} {s:Oi} {X:List Pc} (hX:X.all (fun p=>!p.mu)=true) (ok:Hi B s)
  (h:∀w,Xr B w g F→Ms X w→(∀p∈X,g ∉ p.F)→Calls prog f args.toArray w fun e w'=>∃r,C r∧e=.returned (v r)∧Xr B' w' g F∧Dt [g] w w') :
  Fn prog f args (.sl Gs (.slice F.a F.Bl.length F.c) F.Bl F.bs::X) [.row g 70 0 [] [.slice F.a F.Bl.length F.c,.int .i64 (s.k:Nat),.int .u64 s.Dq] []] (fun (z:σ × Oi)=>C z.1∧Hi B' z.2) (fun z=>v z.1) (fun z=>[.row g 70 0 [] [.slice F.a F.Bl.length F.c,.int .i64 (z.2.k:Nat),.int .u64 z.2.Dq] []]):=fun w hH hS=>by
 have h1:=hH (.row g 70 0 [] [.slice F.a F.Bl.length F.c,.int .i64 (s.k:Nat),.int .u64 s.Dq] []) (by simp)
 have h2:=hH (.sl Gs (.slice F.a F.Bl.length F.c) F.Bl F.bs) (by simp)
 have ap:=hS.1
 have hg:g ∉ F.bs:=fun hm=>ap (.sl Gs (.slice F.a F.Bl.length F.c) F.Bl F.bs) (by simp) (by simp [Pc.mu]) g (by simp [Pc.F]) hm
 refine (h w ⟨s.k,s.Dq,by simpa using h1.2,h2.2,hg,ok.k,ok.s0,ok.s1⟩ (fun p hp=>hH p (by simp [hp])) (fun p hp hm=>ap p (by simp [hp]) (by simp [Pc.mu]) g (by simp [Pc.F]) hm)).mono ?_
 rintro e w' ⟨r,hC,he,⟨k,Dq,R,S, -,hk,h0,h3⟩,hK⟩
 refine ⟨(r,⟨k,Dq⟩),⟨hC,hk,h0,h3⟩,he,H9 ⟨rfl,by simpa using R⟩,⟨by simp,trivial⟩,hK.mono (fun b hb _=>by simpa [fp,Pc.F] using hb),fun p hp b hb=>?_⟩
 simp at hp
 subst hp
 exact .inr (.inl ⟨_,List.mem_cons_self ..,by simpa [Pc.F] using hb⟩)
theorem Eb (B g:Nat) (F:Ss) (n:Int) (s:Oi) (ok:Hi B s) (hB:B≤1000000000000) (hn:n≤1048576) :
  Fn prog 30 [Eu g 0 0,.int .i64 n] [.sl Gs (.slice F.a F.Bl.length F.c) F.Bl F.bs] [.row g 70 0 [] [.slice F.a F.Bl.length F.c,.int .i64 (s.k:Nat),.int .u64 s.Dq] []] (fun (z:Nat × Oi)=>(z.1=0∨(z.1:Int) < n)∧Hi (B+2) z.2) (fun z=>.int .i64 (z.1:Nat)) (fun z=>[.row g 70 0 [] [.slice F.a F.Bl.length F.c,.int .i64 (z.2.k:Nat),.int .u64 z.2.Dq] []]) :=
 Af0 (C:=fun r:Nat=>r=0∨(r:Int) < n) (v:=fun r=>.int .i64 (r:Nat)) (X:=[]) rfl ok fun w h _ _=>(Abv B g F n w h (by omega) hn).mono fun _ _ ⟨r,he,h1,h2,h3⟩=>⟨r,h1,he,h2,h3⟩
theorem Ako (B g:Nat) (F:Ss) (n:Int) (s:Oi) (ok:Hi B s) (hB:B≤1000000000000) (hn:n≤1048576) :
  Fn prog 58 [Eu g 0 0,.int .i64 n] [.sl Gs (.slice F.a F.Bl.length F.c) F.Bl F.bs] [.row g 70 0 [] [.slice F.a F.Bl.length F.c,.int .i64 (s.k:Nat),.int .u64 s.Dq] []] (fun (z:Bool × Oi)=>True∧Hi (B+2) z.2) (fun z=>.bool z.1) (fun z=>[.row g 70 0 [] [.slice F.a F.Bl.length F.c,.int .i64 (z.2.k:Nat),.int .u64 z.2.Dq] []]) :=
 Af0 (C:=fun _:Bool=>True) (v:=fun r=>.bool r) (X:=[]) rfl ok fun w h _ _=>(Arg B g F n w h (by omega) hn).mono fun _ _ ⟨r,he,h2,h3⟩=>⟨r,trivial,he,h2,h3⟩
theorem Am9 (B g:Nat) (F:Ss) (v:Value) (xs:List ByteArray) (G:List Nat) (s:Oi) (ok:Hi B s) (hB:B≤1000000000000) (h0:0 < xs.length) (h1:xs.length≤1048576) :
  Fn prog 68 [Eu g 0 0,v] [.sl Gs (.slice F.a F.Bl.length F.c) F.Bl F.bs,.sl A9 v xs G] [.row g 70 0 [] [.slice F.a F.Bl.length F.c,.int .i64 (s.k:Nat),.int .u64 s.Dq] []] (fun (z:ByteArray × Oi)=>z.1∈xs∧Hi (B+2) z.2) (fun z=>.string z.1) (fun z=>[.row g 70 0 [] [.slice F.a F.Bl.length F.c,.int .i64 (z.2.k:Nat),.int .u64 z.2.Dq] []]) :=
 Af0 (C:=fun r:ByteArray=>r∈xs) (v:=fun r=>.string r) (X:=[.sl A9 v xs G]) rfl ok fun w h hX hg=>(Asg B g F v xs G w h (by omega) (hX (.sl A9 v xs G) (by simp)).2 h0 h1 (hg (.sl A9 v xs G) (by simp))).mono fun _ _ ⟨r,h1,he,h2,h3⟩=>⟨r,h1,he,h2,h3⟩
theorem Li (B g:Nat) (F:Ss) (v:Value) (xs:List Int) (G:List Nat) (s:Oi) (ok:Hi B s) (hB:B≤1000000000000) (h0:0 < xs.length) (h1:xs.length≤1048576) :
  Fn prog 22 [Eu g 0 0,v] [.sl Gs (.slice F.a F.Bl.length F.c) F.Bl F.bs,.sl Bd v xs G] [.row g 70 0 [] [.slice F.a F.Bl.length F.c,.int .i64 (s.k:Nat),.int .u64 s.Dq] []] (fun (z:Int × Oi)=>z.1∈xs∧Hi (B+2) z.2) (fun z=>.int .i64 z.1) (fun z=>[.row g 70 0 [] [.slice F.a F.Bl.length F.c,.int .i64 (z.2.k:Nat),.int .u64 z.2.Dq] []]) :=
 Af0 (C:=fun r:Int=>r∈xs) (v:=fun r=>.int .i64 r) (X:=[.sl Bd v xs G]) rfl ok fun w h hX hg=>(Amd B g F v xs G w h (by omega) (hX (.sl Bd v xs G) (by simp)).2 h0 h1 (hg (.sl Bd v xs G) (by simp))).mono fun _ _ ⟨r,h1,he,h2,h3⟩=>⟨r,h1,he,h2,h3⟩
theorem Fn.weak {P:Program} {f:FuncId} {args:List Value} {A M:List Pc} {σ:Type} {C C':σ→Prop} {v:σ→Value} {N:σ→List Pc} (h:Fn P f args A M C v N) (hC:∀s,C s→C' s):Fn P f args A M C' v N:=fun w h1 h2=>(h w h1 h2).mono fun _ _ ⟨s,hc,r⟩=>⟨s,hC s hc,r⟩
theorem Ih (w:World):∀xs:List Int,Cq Bd w (xs.map (Value.int .i64)) xs []
 | []=>⟨rfl,rfl⟩
 | x::r=>⟨[.int .i64 x],r.map (Value.int .i64),[],[],rfl,rfl,⟨rfl,rfl⟩,Ih w r⟩
theorem X7 (w:World):∀xs:List ByteArray,(∀x∈xs,x.size≤maxLen)→Cq A9 w (xs.map Value.string) xs []
 | [],_=>⟨rfl,rfl⟩
 | x::r,h=>⟨[.string x],r.map Value.string,[],[],rfl,rfl,⟨rfl,h x (by simp),rfl⟩,X7 w r fun y hy=>h y (by simp [hy])⟩
theorem Qb (B g:Nat) (F:Ss) (s:Oi) (ok:Hi B s) (hB:B≤900000000000) :
  Fn prog 59 [Eu g 0 0] [.sl Gs (.slice F.a F.Bl.length F.c) F.Bl F.bs] [.row g 70 0 [] [.slice F.a F.Bl.length F.c,.int .i64 (s.k:Nat),.int .u64 s.Dq] []] (fun (z:Int × Oi)=>(0≤z.1∧z.1≤65535)∧Hi (B+4) z.2) (fun z=>.int .i64 z.1) (fun z=>[.row g 70 0 [] [.slice F.a F.Bl.length F.c,.int .i64 (z.2.k:Nat),.int .u64 z.2.Dq] []]):=by
 refine enter func59 rfl ntmps59 fun w0=>?_
 refine Kx ?_;intros
 refine Dz (xs:=[0,1,100,32767,32768,65535,65530,4660]) (fun w=>Ih w _) ?_ (by decide)
 refine Ay (E:=Bd) fun G=>?_
 refine go ?_;intros
 refine cf (Li B g F _ [0,1,100,32767,32768,65535,65530,4660] G s ok (by omega) (by decide) (by decide)) fun z hz=>?_
 refine Ar ?_
 obtain ⟨hz1,hz2⟩:=hz
 have hz3:0≤z.1∧z.1≤65535:=by simp only [List.mem_cons,List.not_mem_nil,or_false] at hz1;omega
 refine go ?_;intros
 refine cf (Eb (B+2) g F 12 z.2 hz2 (by omega) (by omega)) fun y hy=>?_
 refine Ar ?_
 obtain ⟨hy1,hy2⟩:=hy
 refine go ?_;intros
 refine ce (fun w s=>Ez _ _ _ (by omega) (by omega)) ?_
 refine go ?_;intros
 refine ret (_,y.2) ⟨Hj _ _,hy2⟩ rfl
theorem Qg (B g:Nat) (F:Ss) (s:Oi) (ok:Hi B s) (hB:B≤890000000000) :
  Fn prog 21 [Eu g 0 0] [.sl Gs (.slice F.a F.Bl.length F.c) F.Bl F.bs] [.row g 70 0 [] [.slice F.a F.Bl.length F.c,.int .i64 (s.k:Nat),.int .u64 s.Dq] []] (fun (z:Int × Oi)=>(-1≤z.1∧z.1≤65536)∧Hi (B+6) z.2) (fun z=>.int .i64 z.1) (fun z=>[.row g 70 0 [] [.slice F.a F.Bl.length F.c,.int .i64 (z.2.k:Nat),.int .u64 z.2.Dq] []]):=by
 refine enter func21 rfl ntmps21 fun w0=>?_
 refine go ?_;intros
 refine cf (Ako B g F 20 s ok (by omega) (by omega)) fun q hq=>?_
 refine Ar ?_
 obtain ⟨b,s1⟩:=q
 obtain ⟨-,hq⟩:=hq
 cases b
 ·refine go ?_;intros
  refine cf (Qb (B+2) g F s1 hq (by omega)) fun z hz=>?_
  refine Ar ?_
  refine go ?_;intros
  refine ret z ⟨by have:=hz.1;omega,hz.2⟩ rfl
 ·refine Kx ?_;intros
  refine Dz (xs:=[-1,65536,65535]) (fun w=>Ih w _) ?_ (by decide)
  refine Ay (E:=Bd) fun G=>?_
  refine go ?_;intros
  refine cf (Li (B+2) g F _ [-1,65536,65535] G s1 hq (by omega) (by decide) (by decide)) fun z hz=>?_
  refine Ar ?_
  refine go ?_;intros
  refine ret z ⟨by have:=hz.1;simp only [List.mem_cons,List.not_mem_nil,or_false] at this;omega,hz.2.mono (by omega)⟩ rfl
theorem O7 (B g:Nat) (F:Ss) (s:Oi) (ok:Hi B s) (hB:B≤890000000000) :
  Fn prog 21 [Eu g 0 0] [.sl Gs (.slice F.a F.Bl.length F.c) F.Bl F.bs] [.row g 70 0 [] [.slice F.a F.Bl.length F.c,.int .i64 (s.k:Nat),.int .u64 s.Dq] []] (fun (z:Int × Oi)=>Hi (B+6) z.2) (fun z=>.int .i64 z.1) (fun z=>[.row g 70 0 [] [.slice F.a F.Bl.length F.c,.int .i64 (z.2.k:Nat),.int .u64 z.2.Dq] []]):=(Qg B g F s ok hB).weak fun _ h=>h.2
structure LeS where
 r:Nat
 t:ByteArray
 s:Oi
structure Ar2 (B r0:Nat) (z:LeS):Prop where
 r:z.r≤r0
 s:Hi (B+2+2 * (r0 - z.r)) z.s
 t:z.t.size≤r0 - z.r
 l:Rh z.t.data.toList=true
theorem Of (B g:Nat) (F:Ss) (s:Oi) (n:Int) (ok:Hi B s) (hB:B≤900000000000) (h0:0≤n) (h8:n≤20) :
  Fn prog 67 [Eu g 0 0,.int .i64 n] [.sl Gs (.slice F.a F.Bl.length F.c) F.Bl F.bs] [.row g 70 0 [] [.slice F.a F.Bl.length F.c,.int .i64 (s.k:Nat),.int .u64 s.Dq] []] (fun (z:ByteArray × Oi)=>(z.1.size≤20∧(z.1.size:Int)≤n∧Rh z.1.data.toList=true)∧Hi (B+42) z.2) (fun z=>.string z.1) (fun z=>[.row g 70 0 [] [.slice F.a F.Bl.length F.c,.int .i64 (z.2.k:Nat),.int .u64 z.2.Dq] []]):=by
 refine enter func67 rfl ntmps67 fun w0=>?_
 refine go ?_;intros
 refine cf (Eb B g F (n+1) s ok (by omega) (by omega)) fun y hy=>?_
 refine Ar ?_
 obtain ⟨r0,s1⟩:=y
 obtain ⟨hy1,hy2⟩:=hy
 dsimp only at hy1 hy2 ⊢
 have hr0:r0≤20:=by omega
 refine go ?_;intros
 refine Ck [0,4] (fun z:LeS=>[(5,.string z.t),(6,.int .i64 (z.r:Nat))]) (fun z=>[.row g 70 0 [] [.slice F.a F.Bl.length F.c,.int .i64 (z.s.k:Nat),.int .u64 z.s.Dq] []]) (Ar2 B r0) (fun z=>z.r) ⟨r0,⟨#[]⟩,s1⟩ ⟨Nat.le_refl _,by simpa using hy2,Nat.zero_le _,rfl⟩ fun z hz=>?_
 obtain ⟨z1,z2,z3,z4⟩:=hz
 refine go ?_;intros
 refine Bf rfl (fun h3=>?_) (fun h3=>?_)
 ·refine Kx ?_;intros
  refine Dz (xs:=[⟨#[97]⟩,⟨#[98]⟩,⟨#[99]⟩,⟨#[120]⟩,⟨#[122]⟩]) (fun w=>X7 w _ (by decide)) ?_ (by decide)
  refine Ay (E:=A9) fun G=>?_
  refine go ?_;intros
  refine cf (Am9 _ g F _ [⟨#[97]⟩,⟨#[98]⟩,⟨#[99]⟩,⟨#[120]⟩,⟨#[122]⟩] G z.s z2 (by omega) (by decide) (by decide)) fun q hq=>?_
  refine Ar ?_
  have hq1:q.1.size=1∧Rh q.1.data.toList=true:=by
   have:=hq.1
   simp only [List.mem_cons,List.not_mem_nil,or_false] at this
   rcases this with e|e|e|e|e <;> rw [e] <;> exact ⟨rfl,rfl⟩
  refine go ?_;intros
  rw [show ((z.r:Nat):Int) - 1=((z.r - 1:Nat):Int) by omega]
  refine Ct ⟨z.r - 1,z.t++q.1,q.2⟩ ⟨by show z.r - 1≤r0;omega,hq.2.mono (by show _≤B+2+2 * (r0 - (z.r - 1));omega),by show (z.t++q.1).size≤r0 - (z.r - 1);rw [ByteArray.size_append];omega,by show Rh (z.t++q.1).data.toList=true;rw [ByteArray.data_append,Array.toList_append];unfold Rh at *;rw [List.all_append,z4,hq1.2];rfl⟩ (by show z.r - 1 < _;omega)
 ·refine go ?_;intros
  refine ret (z.t,z.s) ⟨⟨by show z.t.size≤20;omega,by show (z.t.size:Int)≤n;omega,z4⟩,z2.mono (by omega)⟩ rfl
structure TrD where
 l:List Int
 a:Option Addr
 c:Nat
 F:List Nat
 i:Nat
 s:Oi
structure Asc (B:Nat) (z:TrD):Prop where
 g:Mw z.l
 l:z.l.length+z.i≤8
 i:z.i≤6
 s:Hi (B+10+10 * (6 - z.i)) z.s
theorem Afn (B g:Nat) (F:Ss) (s:Oi) (ok:Hi B s) (hB:B≤800000000000) :
  Fn prog 57 [Eu g 0 0] [.sl Gs (.slice F.a F.Bl.length F.c) F.Bl F.bs] [.row g 70 0 [] [.slice F.a F.Bl.length F.c,.int .i64 (s.k:Nat),.int .u64 s.Dq] []] (fun (z:TrD)=>Mw z.l∧Hi (B+100) z.s) (fun z=>.agg #[.slice z.a z.l.length z.c])
   (fun z=>[.ow Bd 3 (.slice z.a z.l.length z.c) z.l z.F,.row g 70 0 [] [.slice F.a F.Bl.length F.c,.int .i64 (z.s.k:Nat),.int .u64 z.s.Dq] []]):=by
 refine enter func57 rfl ntmps57 fun w0=>?_
 refine Kx ?_;intros
 refine Dz (xs:=[-1,0]) (fun w=>Ih w _) ?_ (by decide)
 refine go ?_;intros
 rename_i g2 g5 g3
 refine cf (Eb _ g F 7 s ok (by omega) (by omega)) fun y hy=>?_
 refine Ar ?_
 obtain ⟨r0,s2⟩:=y
 obtain ⟨hr0,h2⟩:=hy
 dsimp only at hr0 h2 ⊢
 have hr0:r0≤6:=by omega
 refine go ?_;intros
 refine Ck [0,2,3] (fun z:TrD=>[(4,.int .i64 (z.i:Nat))]) (fun z=>[.row g3 26 0 [] [.slice z.a z.l.length z.c] [],.ow Bd 3 (.slice z.a z.l.length z.c) z.l z.F,.row g 70 0 [] [.slice F.a F.Bl.length F.c,.int .i64 (z.s.k:Nat),.int .u64 z.s.Dq] []]) (Asc B) (fun z=>z.i) ⟨[-1,0],some ⟨g5,0,none⟩,2,_,r0,s2⟩ ⟨Aha,by show 2+r0≤8;omega,hr0,h2.mono (by show _≤B+10+10 * (6 - r0);omega)⟩ fun z hz=>?_
 obtain ⟨z1,z2,z3,z4⟩:=hz
 have hn0:=z1.n0
 refine go ?_;intros
 refine Bf rfl (fun h3=>?_) (fun h3=>?_)
 ·have hi0:0 < z.i:=by omega
  refine Kx ?_;intros
  refine Aw [0] [10] ?_
  refine dt 0 ?_
  refine dt 1 ?_
  refine dt 2 ?_
  refine dt 3 ?_
  refine dt 4 ?_
  refine dt 5 ?_
  refine dO 6 (by kernel_rfl) (by rw [List.getElem?_toArray];rfl) ?_
  apply At;rfl;kernel_rfl;exact Be
  refine cf (Eb _ g F z.l.length z.s z4 (by omega) (by omega)) fun y hy=>?_
  refine Ar ?_
  obtain ⟨k5,s5⟩:=y
  obtain ⟨r5,h5⟩:=hy
  dsimp only at r5 h5 ⊢
  have r5:k5 < z.l.length:=by omega
  refine dk ?_
  refine dO 7 (by kernel_rfl) (by rw [List.getElem?_toArray];rfl) ?_
  apply Hh;rfl;rfl;rfl;rfl;exact Hb;exact Gp;intro _
  refine dk ?_
  refine dO 8 (by kernel_rfl) (by rw [List.getElem?_toArray];rfl) ?_
  refine Lh (Ma _) Db fun a9 c9 F9=>?_
  refine dk ?_
  refine dt 9 ?_
  refine dO 10 (by kernel_rfl) (by rw [List.getElem?_toArray];rfl) ?_
  apply Cu;rfl;rfl;rfl;(first|exact AggC.s|exact OneC.s);rfl;exact Cw;exact Cv;rfl
  refine Mg ?_
  refine dd ?_
  refine go ?_;intros
  rw [show ((z.i:Nat):Int) - 1=((z.i - 1:Nat):Int) by omega]
  refine Ct ⟨z.l++[(k5:Int)],a9,c9,F9,z.i - 1,s5⟩ ⟨Aex z1 (by omega) r5,by show (z.l++[_]).length+(z.i - 1)≤8;simp;omega,by show z.i - 1≤6;omega,h5.mono (by show _≤B+10+10 * (6 - (z.i - 1));omega)⟩ (by show z.i - 1 < z.i;omega)
 ·refine go ?_;intros
  refine ret z ⟨z1,z4.mono (by omega)⟩ rfl
theorem Aaa {k n t l:Int} {s:ByteArray} (hk:1≤k∧k≤5) (hn:Ca n=true) (ht:Ca t=true) (hl:Ca l=true) (hg:gp t l≤32767) (hs:N1 s=true) (he:s=⟨#[]⟩∨k≤2):Bk ⟨k,n,t,l,s⟩=true:=by
 unfold Bk Hq
 simp only [Bool.and_eq_true,Bool.or_eq_true,decide_eq_true_eq]
 refine ⟨⟨⟨⟨⟨⟨hk,hn⟩,ht⟩,hl⟩,hs⟩,hg⟩,?_⟩
 rcases he with h|h
 ·exact .inl (.inl h)
 ·by_cases h1:k=1
  ·exact .inl (.inr h1)
  ·exact .inr (by omega)
theorem Ae1 {s:ByteArray} (h:(s.size:Int)≤8) (h2:Rh s.data.toList=true):N1 s=true:=by unfold N1;rw [decide_eq_true h,h2];rfl
theorem Ag8 {p:As} (h:Bk p=true):0≤p.Ak∧p.Ak≤65535∧p.data.size≤maxLen:=by
 unfold Bk N1 at h
 simp only [Bool.and_eq_true,decide_eq_true_eq] at h
 obtain ⟨t0,t1⟩:=Ba.1 h.1.1.1.1.2
 exact ⟨t0,t1,by unfold maxLen;omega⟩
theorem Ah7 (B g:Nat) (F:Ss) (s:Oi) (ok:Hi B s) (hB:B≤800000000000) :
  Fn prog 114 [Eu g 0 0] [.sl Gs (.slice F.a F.Bl.length F.c) F.Bl F.bs] [.row g 70 0 [] [.slice F.a F.Bl.length F.c,.int .i64 (s.k:Nat),.int .u64 s.Dq] []] (fun (z:As × Oi)=>Bk z.1=true∧Hi (B+60) z.2) (fun s=>.agg #[.int .i64 s.1.C2,.int .i64 s.1.Ad,.int .i64 s.1.Ak,.int .i64 s.1.D0,.string s.1.data]) (fun s=>[.row g 70 0 [] [.slice F.a F.Bl.length F.c,.int .i64 (s.2.k:Nat),.int .u64 s.2.Dq] []]):=by
 refine enter func114 rfl ntmps114 fun w0=>?_
 refine go ?_;intros
 refine cf (Qb B g F s ok (by omega)) fun n hn=>?_
 refine Ar ?_
 obtain ⟨hn1,hn2⟩:=hn
 refine go ?_;intros
 refine cf (Eb (B+4) g F 5 n.2 hn2 (by omega) (by omega)) fun y1 hy1=>?_
 refine Ar ?_
 obtain ⟨hy1,hy2⟩:=hy1
 have hr1:y1.1≤4:=by omega
 refine go ?_;intros
 refine cf (Eb _ g F 9 y1.2 hy2 (by omega) (by omega)) fun y3 hy3=>?_
 refine Ar ?_
 obtain ⟨hy3,hy4⟩:=hy3
 refine go ?_;intros
 refine ce (fun w s=>Ez _ _ _ (by omega) (by omega)) ?_
 refine go ?_;intros
 refine cf (Eb _ g F 10 y3.2 hy4 (by omega) (by omega)) fun y5 hy5=>?_
 refine Ar ?_
 obtain ⟨hy5,hy6⟩:=hy5
 refine go ?_;intros
 refine ce (fun w s=>Ez _ _ _ (by omega) (by omega)) ?_
 refine go ?_;intros
 refine Bf rfl (fun h1=>?_) (fun h1=>?_)
 ·refine go ?_;intros
  refine cf (Of _ g F y5.2 8 hy6 (by omega) (by omega) (by omega)) fun l hl=>?_
  refine Ar ?_
  obtain ⟨hl1,hl2⟩:=hl
  refine go ?_;intros
  refine ret (⟨1+(y1.1:Nat),Bn n.1 ((y5.1:Nat) - 1),n.1,Bn n.1 (y3.1:Nat),l.1⟩,l.2) ⟨Aaa ⟨by omega,by omega⟩ (Lv _ _) (Ba.2 hn1) (Lv _ _) (by unfold gp Bn;omega) (Ae1 hl1.2.1 hl1.2.2) (.inr (by omega)),hl2.mono (by omega)⟩ rfl
 ·refine go ?_;intros
  refine ret (⟨1+(y1.1:Nat),Bn n.1 ((y5.1:Nat) - 1),n.1,Bn n.1 (y3.1:Nat),⟨#[]⟩⟩,y5.2) ⟨Aaa ⟨by omega,by omega⟩ (Lv _ _) (Ba.2 hn1) (Lv _ _) (by unfold gp Bn;omega) (by decide) (.inl rfl),hy6.mono (by omega)⟩ rfl
theorem Akq (B g:Nat) (F:Ss) (s:Oi) (ok:Hi B s) (hB:B≤800000000000) :
  Fn prog 114 [Eu g 0 0] [.sl Gs (.slice F.a F.Bl.length F.c) F.Bl F.bs] [.row g 70 0 [] [.slice F.a F.Bl.length F.c,.int .i64 (s.k:Nat),.int .u64 s.Dq] []] (fun (z:As × Oi)=>(0≤z.1.Ak∧z.1.Ak≤65535∧z.1.data.size≤maxLen)∧Hi (B+60) z.2) (fun s=>.agg #[.int .i64 s.1.C2,.int .i64 s.1.Ad,.int .i64 s.1.Ak,.int .i64 s.1.D0,.string s.1.data]) (fun s=>[.row g 70 0 [] [.slice F.a F.Bl.length F.c,.int .i64 (s.2.k:Nat),.int .u64 s.2.Dq] []]):=(Ah7 B g F s ok hB).weak fun _ h=>⟨Ag8 h.1,h.2⟩
theorem Acn (B g:Nat) (F:Ss) (s:Oi) (ok:Hi B s) (hB:B≤700000000000) :
  Fn prog 63 [Eu g 0 0] [.sl Gs (.slice F.a F.Bl.length F.c) F.Bl F.bs] [.row g 70 0 [] [.slice F.a F.Bl.length F.c,.int .i64 (s.k:Nat),.int .u64 s.Dq] []] (fun (z:As × Oi)=>z.1.data.size≤maxLen∧Hi (B+100) z.2) (fun s=>.agg #[.int .i64 s.1.C2,.int .i64 s.1.Ad,.int .i64 s.1.Ak,.int .i64 s.1.D0,.string s.1.data]) (fun s=>[.row g 70 0 [] [.slice F.a F.Bl.length F.c,.int .i64 (s.2.k:Nat),.int .u64 s.2.Dq] []]):=by
 refine enter func63 rfl ntmps63 fun w0=>?_
 refine go ?_;intros
 refine cf (Akq B g F s ok (by omega)) fun z hz=>?_
 refine Ar ?_
 obtain ⟨⟨t0,t1,hz1⟩,hz2⟩:=hz
 refine go ?_;intros
 refine cf (Eb _ g F 24 z.2 hz2 (by omega) (by omega)) fun p hp=>?_
 refine Ar ?_
 obtain ⟨r,s3⟩:=p
 obtain ⟨-,hp⟩:=hp
 dsimp only at hp ⊢
 refine go ?_;intros
 refine Bf rfl (fun e0=>?_) (fun e0=>?_)
 ·refine Kx ?_;intros
  refine Dz (xs:=[0,6,5]) (fun w=>Ih w _) ?_ (by decide)
  refine Ay (E:=Bd) fun G=>?_
  refine go ?_;intros
  refine cf (Li _ g F _ [0,6,5] G s3 hp (by omega) (by decide) (by decide)) fun q hq=>?_
  refine Ar ?_
  refine go ?_;intros
  refine ret (⟨q.1,z.1.Ad,z.1.Ak,z.1.D0,z.1.data⟩,q.2) ⟨hz1,hq.2.mono (by omega)⟩ rfl
 ·refine go ?_;intros
  refine Bf rfl (fun e1=>?_) (fun e1=>?_)
  ·refine Kx ?_;intros
   refine Dz (xs:=[-1,65536,65535]) (fun w=>Ih w _) ?_ (by decide)
   refine Ay (E:=Bd) fun G=>?_
   refine go ?_;intros
   refine cf (Li _ g F _ [-1,65536,65535] G s3 hp (by omega) (by decide) (by decide)) fun q hq=>?_
   refine Ar ?_
   refine go ?_;intros
   refine ret (⟨z.1.C2,q.1,z.1.Ak,z.1.D0,z.1.data⟩,q.2) ⟨hz1,hq.2.mono (by omega)⟩ rfl
  ·refine go ?_;intros
   refine Bf rfl (fun e2=>?_) (fun e2=>?_)
   ·refine Kx ?_;intros
    refine Aw [1] [7] ?_
    refine dt 0 ?_
    refine dt 1 ?_
    refine dt 2 ?_
    refine dO 3 (by kernel_rfl) (by rw [List.getElem?_toArray];rfl) ?_
    apply Hh;rfl;rfl;rfl;rfl;exact Hb;exact Gp;intro _
    refine Dz (xs:=[32767,32768]) (fun w=>Ih w _) ?_ (by decide)
    refine Ay (E:=Bd) fun G=>?_
    refine dk ?_
    refine dO 4 (by kernel_rfl) (by rw [List.getElem?_toArray];rfl) ?_
    apply At;rfl;kernel_rfl;exact Be
    refine cf (Li _ g F _ [32767,32768] G s3 hp (by omega) (by decide) (by decide)) fun q hq=>?_
    refine Ar ?_
    have hq3:0≤q.1∧q.1≤32768:=by have:=hq.1;simp only [List.mem_cons,List.not_mem_nil,or_false] at this;omega
    refine dk ?_
    refine dO 5 (by kernel_rfl) (by rw [List.getElem?_toArray];rfl) ?_
    apply At;rfl;kernel_rfl;exact Be
    refine ce (fun w s=>Ez _ _ _ (by omega) (by omega)) ?_
    refine dk ?_
    refine dt 6 ?_
    refine dO 7 (by kernel_rfl) (by rw [List.getElem?_toArray];rfl) ?_
    apply Cu;rfl;rfl;rfl;(first|exact AggC.s|exact OneC.s);rfl;exact Cw;exact Cv;rfl
    refine Mg ?_
    refine dd ?_
    refine go ?_;intros
    refine ret (⟨z.1.C2,z.1.Ad,z.1.Ak,Bn z.1.Ak q.1,z.1.data⟩,q.2) ⟨hz1,hq.2.mono (by omega)⟩ rfl
   ·refine go ?_;intros
    refine Bf rfl (fun e3=>?_) (fun e3=>?_)
    ·refine Kx ?_;intros
     refine Dz (xs:=[⟨#[97,98,99,100,101,102,103,104]⟩,⟨#[97,98,99,100,101,102,103,104,105]⟩,⟨#[65]⟩,⟨#[97,32,98]⟩,⟨#[97]⟩]) (fun w=>X7 w _ (by decide)) ?_ (by decide)
     refine Ay (E:=A9) fun G=>?_
     refine go ?_;intros
     refine cf (Am9 _ g F _ [⟨#[97,98,99,100,101,102,103,104]⟩,⟨#[97,98,99,100,101,102,103,104,105]⟩,⟨#[65]⟩,⟨#[97,32,98]⟩,⟨#[97]⟩] G s3 hp (by omega) (by decide) (by decide)) fun q hq=>?_
     refine Ar ?_
     have hq3:q.1.size≤maxLen:=by have:=hq.1;simp only [List.mem_cons,List.not_mem_nil,or_false] at this;rcases this with e|e|e|e|e <;> rw [e] <;> decide
     refine go ?_;intros
     refine ret (⟨z.1.C2,z.1.Ad,z.1.Ak,z.1.D0,q.1⟩,q.2) ⟨hq3,hq.2.mono (by omega)⟩ rfl
    ·refine go ?_;intros
     refine ret (z.1,s3) ⟨hz1,hp.mono (by omega)⟩ rfl
theorem Am5 (a b:Int):Fn prog 66 [.int .i64 a,.int .i64 b] [] [] (fun (_:Unit)=>True) (fun _=>.int .i64 (max a b)) (fun _=>[]):=by
 refine enter func66 rfl ntmps66 fun w0=>?_
 refine go ?_;intros
 refine Bf rfl (fun h=>?_) (fun h=>?_)
 ·refine go ?_;intros
  rw [show max a b=a by omega]
  refine ret () trivial rfl
 ·refine go ?_;intros
  rw [show max a b=b by omega]
  refine ret () trivial rfl
theorem okq {k:Int} {i:Nat} (hk:k=2∨k=3∨k=5∨k=6) (h0:1≤i) (h7:i≤7):Eo ⟨k,(i:Int),⟨#[]⟩⟩=true:=by
 have hf:L6 ((i:Nat):Int)=true:=Kh.2 (by omega)
 unfold Eo
 rcases hk with rfl|rfl|rfl|rfl
 all_goals
  show (Hq 1 _ 6 && L6 ((i:Nat):Int) && decide _)=true
  rw [hf];rfl
structure StD where
 t:I4
 s:Oi
structure StW where
 n:Nat
 i:Nat
 s:Oi
structure Ar9 (B:Nat) (z:StW):Prop where
 a:1≤z.n
 b:z.n≤7
 i:z.i≤3
 s:Hi (B+10+10 * z.i) z.s
theorem Xk (B g:Nat) (F:Ss) (s:Oi) (n:Eg) (v:Value) (Fx:List Nat) (h2:2≤n.An.Ac.length) (h8:n.An.Ac.length≤8) (hd:n.down.length≤8) (hu:n.up.length=n.down.length) (hq:∀q∈n.down++n.up,q.length≤6) (ok:Hi B s) (hB:B≤800000000000) :
  Fn prog 31 [Eu g 0 0,v] [.sl Gs (.slice F.a F.Bl.length F.c) F.Bl F.bs,.isv Pp v n Fx] [.row g 70 0 [] [.slice F.a F.Bl.length F.c,.int .i64 (s.k:Nat),.int .u64 s.Dq] []] (fun (z:StD)=>Eo z.t=true∧z.t.data.size≤maxLen∧Hi (B+200) z.s) (fun z=>.agg #[.int .i64 z.t.C2,.int .i64 z.t.node,.string z.t.data])
   (fun z=>[.row g 70 0 [] [.slice F.a F.Bl.length F.c,.int .i64 (z.s.k:Nat),.int .u64 z.s.Dq] []]):=by
 refine enter func31 rfl ntmps31 fun w0=>?_
 refine Hf ?_
 rintro a1 c1 F1 a2 c2 F2 a3 c3 F3 a4 c4 F4 a5 c5 F5 a6 c6 F6 a7 c7 F7 rfl l1 l2 l3 l4 l5 l6 l7
 refine go ?_;intros
 rename_i gb gs
 refine cf (Am5 1 (n.An.Ac.length - 1)) fun _ _=>?_
 refine Ar ?_
 refine go ?_;intros
 refine cf (Eb _ g F (max 1 (n.An.Ac.length - 1)) s ok (by omega) (by omega)) fun y hy=>?_
 refine Ar ?_
 obtain ⟨r0,s2⟩:=y
 obtain ⟨hr0,h2⟩:=hy
 dsimp only at hr0 h2 ⊢
 have hr0:r0≤6:=by omega
 refine go ?_;intros
 rw [show (1:Int)+(r0:Nat)=((1+r0:Nat):Int) by omega]
 refine Ck [0,3,4] (fun z:StW=>[(5,.int .i64 (z.n:Nat)),(6,.int .i64 (z.i:Nat))]) (fun z=>[.row g 70 0 [] [.slice F.a F.Bl.length F.c,.int .i64 (z.s.k:Nat),.int .u64 z.s.Dq] []]) (Ar9 B) (fun z=>3 - z.i) ⟨1+r0,0,s2⟩ ⟨by show 1≤1+r0;omega,by show 1+r0≤7;omega,Nat.zero_le _,h2.mono (by show _≤B+10+10 * 0;omega)⟩ fun z hz=>?_
 obtain ⟨z1,z2,z3,z4⟩:=hz
 repeat apply Afz
 refine Gc [0,3,4,5,6] [0,1,2,3,4,5,6,7,8,9,10,11] (fun b:Bool=>[(40,.bool b)]) (fun _=>[]) (fun b=>b=true→z.i < 3) ?_ fun b hb=>?_
 ·by_cases k0:z.i < 3
  ·by_cases k1:z.n < n.down.length
   ·refine Rm (E:=Al) (hz:=by decide) (xs:=n.down) z.n ?_
    rintro hi1 b1 o1 a8 c8 F8 e1 l8
    refine Rm (E:=Al) (hz:=by decide) (xs:=n.up) z.n ?_
    rintro hi2 b2 o2 a9 c9 F9 e2 l9
    rw [e1,e2]
    have m8:=hq _ (List.mem_append_left _ (List.getElem_mem hi1))
    have m9:=hq _ (List.mem_append_right _ (List.getElem_mem hi2))
    refine Kx ?_;intros
    refine Aw [0,2,6] [] ?_
    refine dt 0 ?_
    refine dt 1 ?_
    rw [show decide (((z.i:Nat):Int) < 3)=true by exact decide_eq_true (by omega)]
    refine dt 2 ?_
    refine En 3 ?_
    refine En 4 ?_
    refine En 5 ?_
    refine En 6 ?_
    refine En 7 ?_
    rw [show decide (((z.n:Nat):Int) < (n.down.length:Int))=true by exact decide_eq_true (by omega)]
    refine dt 8 ?_
    refine dt 9 ?_
    refine En 10 ?_
    refine En 11 ?_
    refine En 12 ?_
    refine En 13 ?_
    refine En 14 ?_
    refine En 15 ?_
    refine En 16 ?_
    refine En 17 ?_
    refine En 18 ?_
    refine En 19 ?_
    refine En 20 ?_
    refine En 21 ?_
    refine En 22 ?_
    refine En 23 ?_
    refine dt 24 ?_
    refine dd ?_
    refine Cm _ fun _=>k0
   ·refine Kx ?_;intros
    refine Aw [2] [] ?_
    refine dt 0 ?_
    refine dt 1 ?_
    rw [show decide (((z.i:Nat):Int) < 3)=true by exact decide_eq_true (by omega)]
    refine dt 2 ?_
    refine En 3 ?_
    refine En 4 ?_
    refine En 5 ?_
    refine En 6 ?_
    refine En 7 ?_
    rw [show decide (((z.n:Nat):Int) < (n.down.length:Int))=false by exact decide_eq_false (by omega)]
    refine dt 8 ?_
    refine dt 9 ?_
    refine ds 10 ?_
    refine ds 11 ?_
    refine ds 12 ?_
    refine ds 13 ?_
    refine ds 14 ?_
    refine ds 15 ?_
    refine ds 16 ?_
    refine ds 17 ?_
    refine ds 18 ?_
    refine ds 19 ?_
    refine ds 20 ?_
    refine ds 21 ?_
    refine ds 22 ?_
    refine ds 23 ?_
    refine dt 24 ?_
    refine dd ?_
    refine Cm false fun h=>(by cases h)
  ·refine Kx ?_;intros
   refine Aw [2] [] ?_
   refine dt 0 ?_
   refine dt 1 ?_
   rw [show decide (((z.i:Nat):Int) < 3)=false by exact decide_eq_false (by omega)]
   refine dt 2 ?_
   refine ds 3 ?_
   refine ds 4 ?_
   refine ds 5 ?_
   refine ds 6 ?_
   refine ds 7 ?_
   refine dt 8 ?_
   refine dt 9 ?_
   refine ds 10 ?_
   refine ds 11 ?_
   refine ds 12 ?_
   refine ds 13 ?_
   refine ds 14 ?_
   refine ds 15 ?_
   refine ds 16 ?_
   refine ds 17 ?_
   refine ds 18 ?_
   refine ds 19 ?_
   refine ds 20 ?_
   refine ds 21 ?_
   refine ds 22 ?_
   refine ds 23 ?_
   refine dt 24 ?_
   refine dd ?_
   refine Cm false fun h=>(by cases h)
 cases b
 rotate_left
 ·have hb3:=hb rfl
  refine go ?_;intros
  refine cf (Eb _ g F (n.An.Ac.length - 1) z.s z4 (by omega) (by omega)) fun y hy=>?_
  refine Ar ?_
  obtain ⟨k5,s5⟩:=y
  obtain ⟨r5,h5⟩:=hy
  dsimp only at r5 h5 ⊢
  have r5:k5≤6:=by omega
  refine go ?_;intros
  rw [show (1:Int)+(k5:Nat)=((1+k5:Nat):Int) by omega]
  refine Ct ⟨1+k5,z.i+1,s5⟩ ⟨by show 1≤1+k5;omega,by show 1+k5≤7;omega,by show z.i+1≤3;omega,h5.mono (by show _≤B+10+10 * (z.i+1);omega)⟩ (by show 3 - (z.i+1) < 3 - z.i;omega)
 refine go ?_;intros
 refine cf (Eb _ g F 10 z.s z4 (by omega) (by omega)) fun y hy=>?_
 refine Ar ?_
 obtain ⟨r6,s6⟩:=y
 obtain ⟨hr6,h6⟩:=hy
 dsimp only at hr6 h6 ⊢
 have hr6:r6≤9:=by omega
 rcases (show r6=0∨r6=1∨r6=2∨r6=3∨r6=4∨r6=5∨r6=6∨r6=7∨r6=8∨r6=9 by omega) with rfl|rfl|rfl|rfl|rfl|rfl|rfl|rfl|rfl|rfl
 ·refine go ?_;intros
  refine cf (Of _ g F s6 3 h6 (by omega) (by omega) (by omega)) fun l hl=>?_
  refine Ar ?_
  obtain ⟨hl1,hl2⟩:=hl
  refine go ?_;intros
  refine ret ⟨⟨1,0,l.1⟩,l.2⟩ ⟨by show (decide ((0:Int)=0) && N1 l.1)=true;rw [Ae1 (by omega) hl1.2.2];rfl,by show l.1.size≤maxLen;unfold maxLen;omega,hl2.mono (by omega)⟩ rfl
 ·refine go ?_;intros
  refine cf (Of _ g F s6 3 h6 (by omega) (by omega) (by omega)) fun l hl=>?_
  refine Ar ?_
  obtain ⟨hl1,hl2⟩:=hl
  refine go ?_;intros
  refine ret ⟨⟨1,0,l.1⟩,l.2⟩ ⟨by show (decide ((0:Int)=0) && N1 l.1)=true;rw [Ae1 (by omega) hl1.2.2];rfl,by show l.1.size≤maxLen;unfold maxLen;omega,hl2.mono (by omega)⟩ rfl
 ·refine go ?_;intros
  refine ret ⟨⟨2,((z.n:Nat):Int),⟨#[]⟩⟩,s6⟩ ⟨okq (by decide) z1 z2,by show (0:Nat)≤maxLen;exact Nat.zero_le _,h6.mono (by omega)⟩ rfl
 ·refine go ?_;intros
  refine ret ⟨⟨2,((z.n:Nat):Int),⟨#[]⟩⟩,s6⟩ ⟨okq (by decide) z1 z2,by show (0:Nat)≤maxLen;exact Nat.zero_le _,h6.mono (by omega)⟩ rfl
 ·refine go ?_;intros
  refine ret ⟨⟨2,((z.n:Nat):Int),⟨#[]⟩⟩,s6⟩ ⟨okq (by decide) z1 z2,by show (0:Nat)≤maxLen;exact Nat.zero_le _,h6.mono (by omega)⟩ rfl
 ·refine go ?_;intros
  refine ret ⟨⟨3,((z.n:Nat):Int),⟨#[]⟩⟩,s6⟩ ⟨okq (by decide) z1 z2,by show (0:Nat)≤maxLen;exact Nat.zero_le _,h6.mono (by omega)⟩ rfl
 ·refine go ?_;intros
  refine ret ⟨⟨5,((z.n:Nat):Int),⟨#[]⟩⟩,s6⟩ ⟨okq (by decide) z1 z2,by show (0:Nat)≤maxLen;exact Nat.zero_le _,h6.mono (by omega)⟩ rfl
 ·refine go ?_;intros
  refine ret ⟨⟨6,((z.n:Nat):Int),⟨#[]⟩⟩,s6⟩ ⟨okq (by decide) z1 z2,by show (0:Nat)≤maxLen;exact Nat.zero_le _,h6.mono (by omega)⟩ rfl
 ·refine go ?_;intros
  refine ret ⟨⟨4,0,⟨#[]⟩⟩,s6⟩ ⟨rfl,by show (0:Nat)≤maxLen;exact Nat.zero_le _,h6.mono (by omega)⟩ rfl
 ·refine go ?_;intros
  refine ret ⟨⟨4,0,⟨#[]⟩⟩,s6⟩ ⟨rfl,by show (0:Nat)≤maxLen;exact Nat.zero_le _,h6.mono (by omega)⟩ rfl
theorem Agw (B g:Nat) (F:Ss) (s:Oi) (n:Eg) (v:Value) (Fx:List Nat) (h2:2≤n.An.Ac.length) (h8:n.An.Ac.length≤8) (hd:n.down.length≤8) (hu:n.up.length=n.down.length) (hq:∀q∈n.down++n.up,q.length≤6) (ok:Hi B s) (hB:B≤800000000000) :
  Fn prog 32 [Eu g 0 0,v] [.sl Gs (.slice F.a F.Bl.length F.c) F.Bl F.bs,.isv Pp v n Fx] [.row g 70 0 [] [.slice F.a F.Bl.length F.c,.int .i64 (s.k:Nat),.int .u64 s.Dq] []] (fun (z:StD)=>z.t.data.size≤maxLen∧Hi (B+300) z.s) (fun z=>.agg #[.int .i64 z.t.C2,.int .i64 z.t.node,.string z.t.data])
   (fun z=>[.row g 70 0 [] [.slice F.a F.Bl.length F.c,.int .i64 (z.s.k:Nat),.int .u64 z.s.Dq] []]):=by
 refine enter func32 rfl ntmps32 fun w0=>?_
 refine Hf ?_
 rintro a1 c1 F1 a2 c2 F2 a3 c3 F3 a4 c4 F4 a5 c5 F5 a6 c6 F6 a7 c7 F7 rfl l1 l2 l3 l4 l5 l6 l7
 refine go ?_;intros
 refine cf (Xk B g F s n _ Fx h2 h8 hd hu hq ok (by omega)) fun z hz=>?_
 refine Ar ?_
 obtain ⟨-,z2,z3⟩:=hz
 refine go ?_;intros
 refine cf (Eb _ g F 20 z.s z3 (by omega) (by omega)) fun y hy=>?_
 refine Ar ?_
 obtain ⟨r6,s6⟩:=y
 obtain ⟨hr6,h6⟩:=hy
 dsimp only at hr6 h6 ⊢
 have hr6:r6≤19:=by omega
 refine go ?_;intros
 refine Bf rfl (fun e0=>?_) (fun e0=>?_)
 ·refine Kx ?_;intros
  refine Dz (xs:=[0,7,4]) (fun w=>Ih w _) ?_ (by decide)
  refine Ay (E:=Bd) fun G=>?_
  refine go ?_;intros
  refine cf (Li _ g F _ [0,7,4] G s6 h6 (by omega) (by decide) (by decide)) fun q hq=>?_
  refine Ar ?_
  refine go ?_;intros
  refine ret ⟨⟨q.1,z.t.node,z.t.data⟩,q.2⟩ ⟨z2,hq.2.mono (by omega)⟩ rfl
 refine go ?_;intros
 refine Bf rfl (fun e1=>?_) (fun e1=>?_)
 ·refine Kx ?_;intros
  refine Dz (xs:=[-1,0,7,8]) (fun w=>Ih w _) ?_ (by decide)
  refine Ay (E:=Bd) fun G=>?_
  refine go ?_;intros
  refine cf (Li _ g F _ [-1,0,7,8] G s6 h6 (by omega) (by decide) (by decide)) fun q hq=>?_
  refine Ar ?_
  refine go ?_;intros
  refine ret ⟨⟨z.t.C2,q.1,z.t.data⟩,q.2⟩ ⟨z2,hq.2.mono (by omega)⟩ rfl
 refine go ?_;intros
 refine Bf rfl (fun e2=>?_) (fun e2=>?_)
 ·refine Kx ?_;intros
  refine Dz (E:=A9) (xs:=[⟨#[97,98,99,100,101,102,103,104]⟩,⟨#[97,98,99,100,101,102,103,104,105]⟩,⟨#[65]⟩,⟨#[98]⟩]) (fun w=>X7 w _ (by decide)) ?_ (by decide)
  refine Ay (E:=A9) fun G=>?_
  refine go ?_;intros
  refine cf (Am9 _ g F _ [⟨#[97,98,99,100,101,102,103,104]⟩,⟨#[97,98,99,100,101,102,103,104,105]⟩,⟨#[65]⟩,⟨#[98]⟩] G s6 h6 (by omega) (by decide) (by decide)) fun q hq=>?_
  refine Ar ?_
  have hq3:q.1.size≤maxLen:=by have:=hq.1;simp only [List.mem_cons,List.not_mem_nil,or_false] at this;rcases this with e|e|e|e <;> rw [e] <;> decide
  refine go ?_;intros
  refine ret ⟨⟨z.t.C2,z.t.node,q.1⟩,q.2⟩ ⟨hq3,hq.2.mono (by omega)⟩ rfl
 ·refine go ?_;intros
  refine ret ⟨z.t,s6⟩ ⟨z2,h6.mono (by omega)⟩ rfl
end Go.Proofs.YtbmlecejkacpnaaGreatDoor
