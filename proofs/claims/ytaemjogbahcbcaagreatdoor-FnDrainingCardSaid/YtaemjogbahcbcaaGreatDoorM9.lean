/- Part 9 of the proof: 26 texts, one behind the other. -/
import Derived.Laws.StructEq
import Derived.Test.YtaemjogbahcbcaaGreatDoorM8
open _root_.Go.Proofs.Tryz
set_option maxRecDepth 100000
set_option maxHeartbeats 8000000
set_option linter.all false
set_option linter.unusedVariables false
set_option linter.unusedSimpArgs false
namespace Go.Proofs.YtaemjogbahcbcaaGreatDoor
open Go.RowKit
abbrev NE:=D9 × List ByteArray
def Hy (i:Nat):Li:=⟨2,(i:Int),⟨#[]⟩⟩
def J0 (i:Nat):Li:=⟨5,(i:Int),⟨#[]⟩⟩
def Kr (x:NE) (s:Li):NE:=(Fs x.1 (By x.1 s),x.2++Vi (By x.1 s))
def Ag5 (x:NE) (i:Nat):NE:=Kr (Kr x (Hy i)) (J0 i)
def Gn (x:NE):Nat→NE
 | 0=>x
 | k+1=>Ag5 (Gn x k) (k+1)
def Ro (x:NE):NE:=Gn x (x.1.Am.Ac.length - 1)
def Np (x:NE):Nat→Bool
 | 0=>false
 | k+1=>Np x k || (By (Gn x k).1 (Hy (k+1))).isSome || (By (Kr (Gn x k) (Hy (k+1))).1 (J0 (k+1))).isSome
def qd (l:List (List Av)):Nat:=(l.map List.length).sum
def Rk (n:D9):Nat:=qd n.down+qd n.up
def vd (i:Nat):Nat:=8 ^ (7 - i)
def vu (i:Nat):Nat:=524289 * i
def wN (n:D9):Nat:=Jr vd 0 n.down+Jr vu 0 n.up
def P9:Nat→NE→NE
 | 0,x=>x
 | f+1,x=>if Rk x.1=0 then x else P9 f (Ro x)
def drE (x:NE):NE:=P9 (wN x.1) x
def Nh (n:D9):NE:=drE (n,[])
theorem Am9 (i:Nat):0 < vd i:=Nat.pow_pos (by decide)
theorem Ap0 {i:Nat} (h:1≤i):vd i≤262144:=Nat.le_trans (Nat.pow_le_pow_right (n:=8) (by decide) (show 7 - i≤6 by omega)) (by decide)
theorem Am8 {nodes:List Int} {i:Nat} (hl:nodes.length≤7) (h:∀x∈nodes,i < x.toNat∧x.toNat≤7):Us vd nodes+1≤vd i:=by
 cases nodes with
 | nil=>exact Am9 i
 | cons x r =>
  obtain ⟨a,b⟩:=h x (by simp)
  have h1:=Abw vd (8 ^ (6 - i)) (x::r) fun y hy=>by
   have:=h y hy
   exact Nat.pow_le_pow_right (by decide) (by omega)
  have h2:=Nat.mul_le_mul_right (8 ^ (6 - i)) hl
  have h3:0 < 8 ^ (6 - i):=Nat.pow_pos (by decide)
  have h4:vd i=8 ^ (6 - i) * 8:=by unfold vd;rw [←Nat.pow_succ];congr 1;omega
  omega
theorem Ap1 {i p:Nat} (h0:1≤i) (h:p < i):2 * vd i+vu p+1≤vu i:=by
 have h1:=Ap0 h0
 unfold vu
 omega
theorem Alc {l:List Int} (hg:Ml l) (i:Nat):(Gs l (i:Int)).length≤7:=by
 have h0:=hg.n0
 have h1:=hg.n1
 rw [←Aa7 (O5 hg.z (Int.natCast_nonneg i)) (k:=l.length - 1) (by omega)]
 have:=Aa8 l (i:Int) (l.length - 1)
 omega
theorem Ads {e:Bl} (he:Be e=true) {n:Int} {l:List Int} (hl:l.length≤7):(Qj e n l).length≤7:=by
 unfold Qj
 split
 ·rename_i x hx
  exact Nat.le_trans (List.length_filter_le _ _) ((Aa2 he).2.2 x (List.mem_of_getElem? hx))
 ·split
  ·exact hl
  ·exact Nat.zero_le _
theorem An0 {n:D9} (hg:Ax n=true) (i:Nat) (p:Av):(Xy n i p).length≤7∧∀x∈Xy n i p,i < x.toNat∧x.toNat≤7:=by
 have hG:=A8.1 hg
 have h8:=Ff hG.t
 have hn8:=h8.n1
 have hk:=Alc h8 i
 have hb:∀x∈Ts n i,i < x.toNat∧x.toNat≤7:=fun x hx=>by
  have:=Jd h8 hx
  omega
 unfold Xy
 split
 ·refine ⟨?_,fun x hx=>hb x (U5 x hx)⟩
  by_cases hi:i < n.Af.length
  ·have ee:Qa n i=n.Af[i]:=by unfold Qa;rw [List.getD_eq_getElem?_getD,List.getElem?_eq_getElem hi];rfl
   rw [ee]
   exact Ads ((Iw hg).1 _ (List.getElem_mem hi)) hk
  ·have ee:Qa n i=⟨0,[]⟩:=by unfold Qa;rw [List.getD_eq_getElem?_getD,List.getElem?_eq_none (by omega)];rfl
   rw [ee]
   exact Ads (by decide) hk
 ·exact ⟨hk,hb⟩
theorem Anw {n:D9} (hg:Ax n=true) (i:Nat) (p:Av):wN (Cq n i p).1+1≤wN n+vd i:=by
 have h0:=Am9 i
 unfold Cq
 split
 ·show wN n+1≤_
  omega
 ·obtain ⟨h1,h2⟩:=An0 hg i p
  have h3:=Am8 h1 h2
  have h4:=P6 vd [p] (Xy n i p) n.down
  show Jr vd 0 (Dl n.down (Xy n i p) [p])+Jr vu 0 n.up+1≤Jr vd 0 n.down+Jr vu 0 n.up+vd i
  simp only [List.length_singleton,Nat.one_mul] at h4
  omega
theorem Amd (x:Cj) (p:Av):(Lg x p).length≤2:=by
 unfold Lg
 split
 ·split
  ·exact (by decide:1≤2)
  ·exact (by decide:2≤2)
 ·exact (by decide:1≤2)
theorem Atg {n:D9} (hg:Ax n=true) {i:Nat} (h0:1≤i) (hi:i < n.Am.Ac.length) (p:Av):wN (Mt n i p)+1≤wN n+vu i:=by
 have hG:=A8.1 hg
 have h8:=Ff hG.t
 have hn8:=h8.n1
 have hv:=Ap0 h0
 have hone:Us vd [((i:Nat):Int)]=vd i:=by show vd ((i:Nat):Int).toNat+0=_;rfl
 unfold Mt
 split
 ·have h4:=P6 vd (Lg n.Ab p) [((i:Nat):Int)] n.down
  have h5:=Nat.mul_le_mul_right (vd i) (Amd n.Ab p)
  rw [hone] at h4
  have h6:=Ap1 (p:=0) h0 (by omega)
  show Jr vd 0 (Dl n.down [((i:Nat):Int)] (Lg n.Ab p))+Jr vu 0 n.up+1≤Jr vd 0 n.down+Jr vu 0 n.up+vu i
  omega
 ·rename_i hp
  have hlt:To n i < i:=by
   have:=h8.p i hi (by omega)
   unfold To
   rw [List.getD_eq_getElem?_getD,List.getElem?_eq_getElem hi]
   show (n.Am.Ac[i]).toNat < i
   omega
  have h4:=P6 vd [T8 p] [((i:Nat):Int)] n.down
  rw [hone] at h4
  simp only [List.length_singleton,Nat.one_mul] at h4
  have h6:=Ap1 h0 hlt
  have h7:=Ae6 vu n.up (To n i) [p]
  simp only [List.length_singleton,Nat.one_mul] at h7
  show Jr vd 0 (Dl n.down [((i:Nat):Int)] [T8 p])+Jr vu 0 (if V6 (Qa n (To n i)) p.Ae then n.up.modify (To n i) fun q=>E9 q [p] else n.up)+1≤Jr vd 0 n.down+Jr vu 0 n.up+vu i
  split <;> omega
theorem Apy (f:Nat→Nat) {l:List (List Av)} {i:Nat} (hi:i < l.length) (h0:¬(l.getD i []).length=0):Jr f 0 (l.modify i (·.drop 1))+f i=Jr f 0 l:=by
 rw [N7 hi] at h0
 rw [Gb hi]
 exact Anc f l i hi (by omega)
theorem Tk {n:D9} {i:Nat} (hi:i < n.Am.Ac.length):By n (Hy i)=if (n.down.getD i []).length=0 then none else some (Cq (Kh n i) i (Kz (n.down.getD i []))):=by
 unfold By
 rw [if_neg (by show ¬(2:Int)=1;decide),if_neg (by show ¬(2:Int)=4;decide)]
 unfold Cy
 rw [if_neg (by show ¬((n.Am.Ac.length:Int)≤(i:Int));omega)]
 rfl
theorem Rq {n:D9} {i:Nat} (hi:i < n.Am.Ac.length):By n (J0 i)=if (n.up.getD i []).length=0 then none else some (Mt (I4 n i) i (Kz (n.up.getD i [])),[]):=by
 unfold By
 rw [if_neg (by show ¬(5:Int)=1;decide),if_neg (by show ¬(5:Int)=4;decide)]
 unfold Cy
 rw [if_neg (by show ¬((n.Am.Ac.length:Int)≤(i:Int));omega)]
 rfl
theorem Aqs {i:Nat} (h0:1≤i) (h:i≤7):Ij (Hy i)=true:=by
 unfold Ij
 rw [if_neg (by show ¬(2:Int)=1;decide),if_neg (by show ¬(2:Int)=4;decide)]
 have:Pi (Hy i).node=true:=L0.2 (by show 1≤((i:Nat):Int)∧((i:Nat):Int)≤7;omega)
 rw [this];rfl
theorem Aoo {i:Nat} (h0:1≤i) (h:i≤7):Ij (J0 i)=true:=by
 unfold Ij
 rw [if_neg (by show ¬(5:Int)=1;decide),if_neg (by show ¬(5:Int)=4;decide)]
 have:Pi (J0 i).node=true:=L0.2 (by show 1≤((i:Nat):Int)∧((i:Nat):Int)≤7;omega)
 rw [this];rfl
theorem Ahx {n:D9} (hg:Ax n=true) {i:Nat} {p:Av} (hp:Bp p=true) (h0:1≤i) (hi:i < n.Am.Ac.length):(Cq n i p).2.length≤24:=by
 obtain ⟨i1,i2,i3,i4,hrn⟩:=(A8.1 hg).rn hi
 unfold Cq
 split
 ·rename_i hl
  have hgr:=Gg.1 (hrn.hf (by omega) hl).2.1
  obtain ⟨d0,d1⟩:=V3 (i:=i)
  have:=(Qn hgr hp d0 d1).2
  rw [Hp i2]
  show ((Gw _ _).map _).length≤_
  rw [List.length_map];exact this
 ·exact Nat.zero_le _
theorem Ar2 (n:D9) (i:Nat) (p:Av):(Cq n i p).1.Ab=n.Ab:=by unfold Cq;split <;> rfl
theorem Ar3 (n:D9) (i:Nat) (p:Av):(Mt n i p).Ab.Ai=n.Ab.Ai:=by
 unfold Mt
 split
 ·show (Jy n.Ab p.Ae).Ai=_
  unfold Jy
  split <;> rfl
 ·rfl
structure Q4 (x y:NE):Prop where
 g:Ax y.1=true
 t:y.1.Am=x.1.Am
 c:y.1.Ab.Ai=x.1.Ab.Ai
 e:y.2.length+24 * wN y.1≤x.2.length+24 * wN x.1
 w:wN y.1≤wN x.1
theorem Q4.refl {x:NE} (h:Ax x.1=true):Q4 x x:=⟨h,rfl,rfl,Nat.le_refl _,Nat.le_refl _⟩
theorem Q4.trans {x y z:NE} (h:Q4 x y) (k:Q4 y z):Q4 x z:=⟨k.g,k.t.trans h.t,k.c.trans h.c,Nat.le_trans k.e h.e,Nat.le_trans k.w h.w⟩
theorem Ir {x:NE} {s:Li} (h:By x.1 s=none):Kr x s=x:=by
 unfold Kr
 rw [h]
 show (x.1,x.2++[])=x
 rw [List.append_nil]
theorem Wy {x:NE} {s:Li} {r:NE} (h:By x.1 s=some r):Kr x s=(r.1,x.2++r.2):=by
 unfold Kr
 rw [h];rfl
theorem Ahl {x:NE} (hg:Ax x.1=true) {i:Nat} (h0:1≤i) (hi:i < x.1.Am.Ac.length):Q4 x (Kr x (Hy i))∧((By x.1 (Hy i)).isSome=true→wN (Kr x (Hy i)).1 < wN x.1):=by
 have hG:=A8.1 hg
 have hn8:=(Ff hG.t).n1
 obtain ⟨q1,q2,q3,q4⟩:=Bm.1 hG.l
 cases e:By x.1 (Hy i) with
 | none =>
  rw [Ir e]
  exact ⟨.refl hg,fun h=>by cases h⟩
 | some r =>
  have hr:=Ku hg (Aqs h0 (by omega)) e
  have ht:=O9 e
  rw [Wy e]
  rw [Tk hi] at e
  split at e
  ·cases e
  ·rename_i hq
   cases e
   have hp:=GN.pd (A8.1 hg) i
   have hpg:Ax (Kh x.1 i)=true:=A8.2 hp
   have h1:=Anw hpg i (Kz (x.1.down.getD i []))
   have h2:wN (Kh x.1 i)+vd i=wN x.1:=by
    have:=Apy vd (l:=x.1.down) (i:=i) (by omega) hq
    show Jr vd 0 (x.1.down.modify i (·.drop 1))+Jr vu 0 x.1.up+vd i=Jr vd 0 x.1.down+Jr vu 0 x.1.up
    omega
   have hpk:Bp (Kz (x.1.down.getD i []))=true:=Lz (Ko (s:=Hy i) hg).1 (M8 (by show 0 < (x.1.down.getD i []).length;omega))
   have h3:=Ahx hpg hpk h0 hi
   have hlt:wN (Cq (Kh x.1 i) i (Kz (x.1.down.getD i []))).1 < wN x.1:=by omega
   refine ⟨⟨hr,ht,by rw [Ar2];rfl,?_,Nat.le_of_lt hlt⟩,fun _=>hlt⟩
   show (x.2++_).length+24 * wN (Cq (Kh x.1 i) i (Kz (x.1.down.getD i []))).1≤_
   rw [List.length_append]
   omega
theorem Am4 {x:NE} (hg:Ax x.1=true) {i:Nat} (h0:1≤i) (hi:i < x.1.Am.Ac.length):Q4 x (Kr x (J0 i))∧((By x.1 (J0 i)).isSome=true→wN (Kr x (J0 i)).1 < wN x.1)∧(Kr x (J0 i)).2=x.2:=by
 have hG:=A8.1 hg
 have hn8:=(Ff hG.t).n1
 obtain ⟨q1,q2,q3,q4⟩:=Bm.1 hG.l
 cases e:By x.1 (J0 i) with
 | none =>
  rw [Ir e]
  exact ⟨.refl hg,fun h=>(by cases h),rfl⟩
 | some r =>
  have hr:=Ku hg (Aoo h0 (by omega)) e
  have ht:=O9 e
  rw [Wy e]
  rw [Rq hi] at e
  split at e
  ·cases e
  ·rename_i hq
   cases e
   have hp:=GN.pu (A8.1 hg) i
   have hpg:Ax (I4 x.1 i)=true:=A8.2 hp
   have h1:=Atg hpg h0 hi (Kz (x.1.up.getD i []))
   have h2:wN (I4 x.1 i)+vu i=wN x.1:=by
    have:=Apy vu (l:=x.1.up) (i:=i) (by omega) hq
    show Jr vd 0 x.1.down+Jr vu 0 (x.1.up.modify i (·.drop 1))+vu i=Jr vd 0 x.1.down+Jr vu 0 x.1.up
    omega
   have hlt:wN (Mt (I4 x.1 i) i (Kz (x.1.up.getD i []))) < wN x.1:=by omega
   refine ⟨⟨hr,ht,by rw [Ar3];rfl,?_,Nat.le_of_lt hlt⟩,fun _=>hlt,List.append_nil _⟩
   show (x.2++[]).length+24 * wN (Mt (I4 x.1 i) i (Kz (x.1.up.getD i [])))≤_
   rw [List.append_nil]
   omega
theorem Nu {x:NE} (hg:Ax x.1=true):∀k,k+1≤x.1.Am.Ac.length→Q4 x (Gn x k)∧(Np x k=true→wN (Gn x k).1 < wN x.1)∧(Np x k=false→Gn x k=x∧∀i,1≤i→i≤k→By x.1 (Hy i)=none∧By x.1 (J0 i)=none)
 | 0,_=>⟨.refl hg,fun h=>(by cases h),fun _=>⟨rfl,fun i a b=>by omega⟩⟩
 | k+1,hk=>by
  obtain ⟨f1,m1,z1⟩:=Nu hg k (by omega)
  have hk1:k+1 < (Gn x k).1.Am.Ac.length:=by rw [f1.t];omega
  obtain ⟨f2,m2⟩:=Ahl f1.g (by omega) hk1
  have hk2:k+1 < (Kr (Gn x k) (Hy (k+1))).1.Am.Ac.length:=by rw [f2.t];exact hk1
  obtain ⟨f3,m3,e3⟩:=Am4 f2.g (by omega) hk2
  have w2:=f2.w
  have w3:=f3.w
  have w1:=f1.w
  refine ⟨(f1.trans f2).trans f3,fun h=>?_,fun h=>?_⟩
  ·show wN (Kr (Kr (Gn x k) (Hy (k+1))) (J0 (k+1))).1 < _
   unfold Np at h
   rw [Bool.or_eq_true,Bool.or_eq_true] at h
   rcases h with (h|h)|h
   ·have:=m1 h;omega
   ·have:=m2 h;omega
   ·have:=m3 h;omega
  ·unfold Np at h
   rw [Bool.or_eq_false_iff,Bool.or_eq_false_iff] at h
   obtain ⟨⟨h1,h2⟩,h3⟩:=h
   obtain ⟨e1,z⟩:=z1 h1
   have n2:By (Gn x k).1 (Hy (k+1))=none:=by simpa using h2
   have n3:By (Kr (Gn x k) (Hy (k+1))).1 (J0 (k+1))=none:=by simpa using h3
   have e2:=Ir n2
   rw [e2] at n3
   refine ⟨?_,fun i a b=>?_⟩
   ·show Kr (Kr (Gn x k) (Hy (k+1))) (J0 (k+1))=x
    rw [e2,Ir n3,e1]
   ·by_cases hi:i=k+1
    ·subst hi
     rw [e1] at n2 n3
     exact ⟨n2,n3⟩
    ·exact z i a (by omega)
theorem Vk:∀{l:List (List Av)},qd l=0↔∀q∈l,q=[]
 | []=>by simp [qd]
 | x::r=>by
  have ih:=Vk (l:=r)
  show x.length+qd r=0↔_
  rw [Nat.add_eq_zero_iff,List.length_eq_zero_iff,ih]
  simp
theorem U8 {l:List (List Av)} {i:Nat} (h:qd l=0):(l.getD i []).length=0:=by
 rw [List.getD_eq_getElem?_getD]
 cases e:l[i]? with
 | none=>rfl
 | some q=>rw [Vk.1 h q (List.mem_of_getElem? e)];rfl
theorem Ve {n:D9} (hg:Ax n=true):(n.down.getD 0 []).length=0∧(n.up.getD 0 []).length=0:=by
 have hG:=A8.1 hg
 have h2:=(Ff hG.t).n0
 obtain ⟨h1,h2,h3,h4,r⟩:=hG.rn (i:=0) (by omega)
 obtain ⟨-, -,a,b⟩:=r.hz rfl
 rw [N7 h3,N7 h4]
 exact ⟨a,b⟩
theorem Aot {n:D9} (hg:Ax n=true) (h:∀i,1≤i→i < n.Am.Ac.length→By n (Hy i)=none∧By n (J0 i)=none):Rk n=0:=by
 have hG:=A8.1 hg
 obtain ⟨q1,q2,q3,q4⟩:=Bm.1 hG.l
 obtain ⟨z1,z2⟩:=Ve hg
 have hd:qd n.down=0:=Vk.2 fun q hq=>by
  obtain ⟨i,hi,rfl⟩:=List.getElem_of_mem hq
  rw [←List.length_eq_zero_iff,←N7 hi []]
  by_cases e:i=0
  ·rw [e];exact z1
  ·have:=(h i (by omega) (by omega)).1
   rw [Tk (by omega)] at this
   split at this
   ·assumption
   ·cases this
 have hu:qd n.up=0:=Vk.2 fun q hq=>by
  obtain ⟨i,hi,rfl⟩:=List.getElem_of_mem hq
  rw [←List.length_eq_zero_iff,←N7 hi []]
  by_cases e:i=0
  ·rw [e];exact z2
  ·have:=(h i (by omega) (by omega)).2
   rw [Rq (by omega)] at this
   split at this
   ·assumption
   ·cases this
 unfold Rk
 omega
theorem Zg {x:NE} (hg:Ax x.1=true):Np x (x.1.Am.Ac.length - 1)=false↔Rk x.1=0:=by
 have h2:=(Ff (A8.1 hg).t).n0
 constructor
 ·intro h
  obtain ⟨-,hz⟩:=(Nu hg (x.1.Am.Ac.length - 1) (by omega)).2.2 h
  exact Aot hg fun i a b=>hz i a (by omega)
 ·intro h
  have hd:qd x.1.down=0:=by unfold Rk at h;omega
  have hu:qd x.1.up=0:=by unfold Rk at h;omega
  have:∀k,k+1≤x.1.Am.Ac.length→Np x k=false:=by
   intro k
   induction k with
   | zero=>intro _;rfl
   | succ k ih =>
    intro hk
    have h1:=ih (by omega)
    have e1:=((Nu hg k (by omega)).2.2 h1).1
    unfold Np
    have n1:By x.1 (Hy (k+1))=none:=by rw [Tk (by omega),if_pos (U8 hd)]
    have n2:By x.1 (J0 (k+1))=none:=by rw [Rq (by omega),if_pos (U8 hu)]
    rw [h1,e1,Ir n1,n1,n2];rfl
  exact this _ (by omega)
theorem Af7 {x:NE} (hg:Ax x.1=true) (h:Rk x.1=0):Ro x=x:=by
 have h2:=(Ff (A8.1 hg).t).n0
 exact ((Nu hg (x.1.Am.Ac.length - 1) (by omega)).2.2 ((Zg hg).2 h)).1
theorem Lv {x:NE} (hg:Ax x.1=true):Q4 x (Ro x)∧(¬Rk x.1=0→wN (Ro x).1 < wN x.1):=by
 have h2:=(Ff (A8.1 hg).t).n0
 obtain ⟨a,b, -⟩:=Nu hg (x.1.Am.Ac.length - 1) (by omega)
 refine ⟨a,fun h=>b ?_⟩
 cases e:Np x (x.1.Am.Ac.length - 1)
 ·exact absurd ((Zg hg).1 e) h
 ·rfl
theorem N5 {f:Nat} {x:NE} (h:Rk x.1=0):P9 f x=x:=by
 cases f
 ·rfl
 ·unfold P9;rw [if_pos h]
theorem Xb:∀(f g:Nat) {x:NE},Ax x.1=true→wN x.1≤f→wN x.1≤g→P9 f x=P9 g x
 | 0,g,x,hg,h,_=>by
  have hz:Rk x.1=0:=by
   by_cases h0:Rk x.1=0
   ·exact h0
   ·have:=(Lv hg).2 h0;omega
  rw [N5 hz,N5 hz]
 | f+1,g,x,hg,h,h2=>by
  by_cases hz:Rk x.1=0
  ·rw [N5 hz,N5 hz]
  ·obtain ⟨hf,hw⟩:=Lv hg
   have hw:=hw hz
   obtain ⟨m,rfl⟩:∃m,g=m+1:=⟨g - 1,by omega⟩
   unfold P9
   rw [if_neg hz,if_neg hz]
   exact Xb f m hf.g (by omega) (by omega)
theorem Aag {f:Nat} {x:NE} (hg:Ax x.1=true) (h:wN x.1≤f):P9 f x=P9 (wN x.1) x:=Xb _ _ hg h (Nat.le_refl _)
theorem Sm {x:NE} (h:Rk x.1=0):drE x=x:=N5 h
theorem Yw {x:NE} (hg:Ax x.1=true) (h:¬Rk x.1=0):drE x=drE (Ro x):=by
 obtain ⟨hf,hw⟩:=Lv hg
 have hw:=hw h
 obtain ⟨m,hm⟩:∃m,wN x.1=m+1:=⟨wN x.1 - 1,by omega⟩
 unfold drE
 rw [hm]
 show (if Rk x.1=0 then x else P9 m (Ro x))=_
 rw [if_neg h,Aag hf.g (by omega)]
theorem Sk {x:NE} (hg:Ax x.1=true):Q4 x (drE x)∧Rk (drE x).1=0:=by
 obtain ⟨k,hk⟩:∃k,wN x.1≤k:=⟨_,Nat.le_refl _⟩
 induction k generalizing x with
 | zero =>
  have hz:Rk x.1=0:=by
   by_cases h:Rk x.1=0
   ·exact h
   ·have:=(Lv hg).2 h;omega
  rw [Sm hz];exact ⟨.refl hg,hz⟩
 | succ k ih =>
  by_cases h:Rk x.1=0
  ·rw [Sm h];exact ⟨.refl hg,h⟩
  ·obtain ⟨hf,hw⟩:=Lv hg
   have hw:=hw h
   rw [Yw hg h]
   obtain ⟨a,b⟩:=ih hf.g (by omega)
   exact ⟨hf.trans a,b⟩
theorem Ac4 (f:Nat→Nat) (B:Nat):∀(l:List (List Av)) (k:Nat),(∀q∈l,q.length≤6)→(∀i,k≤i→i < k+l.length→f i≤B)→Jr f k l≤l.length * (6 * B)
 | [],_,_,_=>Nat.zero_le _
 | x::r,k,h,hB=>by
  have ih:=Ac4 f B r (k+1) (fun q hq=>h q (by simp [hq])) fun i a b=>hB i (by omega) (by simp only [List.length_cons];omega)
  have h1:=Nat.mul_le_mul (h x (by simp)) (hB k (Nat.le_refl _) (by simp only [List.length_cons];omega))
  show x.length * f k+Jr f (k+1) r≤(r.length+1) * (6 * B)
  rw [Nat.succ_mul]
  omega
theorem Ana {n:D9} (hg:Ax n=true):wN n≤280000000:=by
 have hG:=A8.1 hg
 have h8:=(Ff hG.t).n1
 obtain ⟨q1,q2,q3,q4⟩:=Bm.1 hG.l
 obtain ⟨-, -,e3,e4⟩:=Iw hg
 have h1:=Ac4 vd 2097152 n.down 0 (fun q hq=>(Do (e3 q hq)).1) fun i _ _=>Nat.le_trans (Nat.pow_le_pow_right (n:=8) (by decide) (show 7 - i≤7 by omega)) (by decide)
 have h2:=Ac4 vu 3670023 n.up 0 (fun q hq=>(Do (e4 q hq)).1) fun i _ _=>by unfold vu;omega
 have h3:=Nat.mul_le_mul_right (6 * 2097152) (show n.down.length≤8 by omega)
 have h4:=Nat.mul_le_mul_right (6 * 3670023) (show n.up.length≤8 by omega)
 unfold wN
 omega
theorem Ab9 {n:D9} (hg:Ax n=true):(Nh n).2.length≤6720000000:=by
 have h:=(Sk (x:=(n,[])) hg).1.e
 have:=Ana hg
 show (drE (n,[])).2.length≤_
 simp only [List.length_nil] at h
 omega
def Cr (n:D9):Nat→NE
 | 0=>Nh n
 | k+1=>((Nh (Bz (Cr n k).1).1).1,(Cr n k).2++(Bz (Cr n k).1).2++(Nh (Bz (Cr n k).1).1).2)
theorem Abv (n:D9):∀k,(Bc n k).1.Ab=Kb n.Ab
 | 0=>rfl
 | k+1=>(Uq _ _).2.trans (Abv n k)
theorem Adv {n:D9} (hg:Ax n=true):∀k:Nat,n.Ab.Ai+(k:Int)≤9999→Ax (Cr n k).1=true∧(Cr n k).1.Am=n.Am∧(Cr n k).1.Ab.Ai=n.Ab.Ai+(k:Int)∧(Cr n k).2.length≤6720000000+6721000000 * k
 | 0,_=>by
  obtain ⟨h, -⟩:=Sk (x:=(n,[])) hg
  exact ⟨h.g,h.t,by rw [show ((0:Nat):Int)=0 from rfl,Int.add_zero];exact h.c,Ab9 hg⟩
 | k+1,hk=>by
  obtain ⟨h1,h2,h3,h4⟩:=Adv hg k (by omega)
  have hc:(Cr n k).1.Ab.Ai < 9999:=by omega
  have t1:=Rv h1 hc
  have t2:(Bz (Cr n k).1).1.Am=(Cr n k).1.Am:=P4 _ _
  have t3:(Bz (Cr n k).1).1.Ab.Ai=(Cr n k).1.Ab.Ai+1:=by
   show (Bc _ _).1.Ab.Ai=_
   rw [Abv];rfl
  have hn8:=(Ff (A8.1 h1).t).n1
  have hn2:=(Ff (A8.1 h1).t).n0
  have t4:(Bz (Cr n k).1).2.length≤40000 * ((Cr n k).1.Am.Ac.length - 1):=Vr h1 hc _ (by omega)
  obtain ⟨d, -⟩:=Sk (x:=((Bz (Cr n k).1).1,[])) t1
  have d4:=Ab9 t1
  refine ⟨d.g,(d.t.trans t2).trans h2,?_,?_⟩
  ·show (Nh (Bz (Cr n k).1).1).1.Ab.Ai=_
   rw [show (Nh (Bz (Cr n k).1).1).1.Ab.Ai=(Bz (Cr n k).1).1.Ab.Ai from d.c,t3,h3]
   omega
  ·show ((Cr n k).2++(Bz (Cr n k).1).2++(Nh (Bz (Cr n k).1).1).2).length≤_
   rw [List.length_append,List.length_append]
   omega
def kst (m i:Nat):Li:=⟨if m=0 then 2 else 5,(i:Int),⟨#[]⟩⟩
def Ph (y:NE) (i:Nat):Nat→NE
 | 0=>y
 | m+1=>Kr (Ph y i m) (kst m i)
def Xf (b:Bool) (y:NE) (i:Nat):Nat→Bool
 | 0=>b
 | m+1=>Xf b y i m || (By (Ph y i m).1 (kst m i)).isSome
theorem Vo (x:NE) (k:Nat):Gn x (k+1)=Ph (Gn x k) (k+1) 2:=rfl
theorem Aee (x:NE) (k:Nat):Np x (k+1)=Xf (Np x k) (Gn x k) (k+1) 2:=rfl
theorem Ate {m i:Nat} (h0:1≤i) (h:i≤7) (hm:m < 2):Ij (kst m i)=true:=by
 rcases (show m=0∨m=1 by omega) with rfl|rfl
 ·exact Aqs h0 h
 ·exact Aoo h0 h
theorem Aif {y:NE} (hg:Ax y.1=true) {i:Nat} (h0:1≤i) (hi:i < y.1.Am.Ac.length):∀m,m≤2→Q4 y (Ph y i m)
 | 0,_=>.refl hg
 | 1,_=>(Ahl hg h0 hi).1
 | 2,_=>by
  have f1:=(Ahl hg h0 hi).1
  exact f1.trans (Am4 f1.g h0 (by rw [f1.t];exact hi)).1
 | m+3,h=>by omega
def Eg (x:NE):Nat→NE
 | 0=>x
 | k+1=>Ag5 (Eg x k) k
theorem Aq8 {x:NE} (hg:Ax x.1=true) {i:Nat} (hi:i < x.1.Am.Ac.length):Q4 x (Kr x (Hy i)):=by
 by_cases h0:i=0
 ·subst h0
  rw [Ir (by rw [Tk hi,if_pos (Ve hg).1])]
  exact .refl hg
 ·exact (Ahl hg (by omega) hi).1
theorem Aq9 {x:NE} (hg:Ax x.1=true) {i:Nat} (hi:i < x.1.Am.Ac.length):Q4 x (Kr x (J0 i))∧(Kr x (J0 i)).2=x.2:=by
 by_cases h0:i=0
 ·subst h0
  rw [Ir (by rw [Rq hi,if_pos (Ve hg).2])]
  exact ⟨.refl hg,rfl⟩
 ·have:=Am4 hg (by omega) hi
  exact ⟨this.1,this.2.2⟩
theorem Xs {x:NE} (hg:Ax x.1=true):∀k,k≤x.1.Am.Ac.length→Q4 x (Eg x k)
 | 0,_=>.refl hg
 | k+1,hk=>by
  have f1:=Xs hg k (by omega)
  have f2:=Aq8 f1.g (i:=k) (by rw [f1.t];omega)
  have f3:=(Aq9 f2.g (i:=k) (by rw [f2.t,f1.t];omega)).1
  exact (f1.trans f2).trans f3
theorem Abo {x:NE} (hg:Ax x.1=true):∀k,Eg x (k+1)=Gn x k
 | 0=>by
  have h2:=(Ff (A8.1 hg).t).n0
  show Kr (Kr x (Hy 0)) (J0 0)=x
  rw [Ir (x:=x) (s:=Hy 0) (by rw [Tk (by omega),if_pos (Ve hg).1]),Ir (by rw [Rq (by omega),if_pos (Ve hg).2])]
 | k+1=>by
  show Ag5 (Eg x (k+1)) (k+1)=Ag5 (Gn x k) (k+1)
  rw [Abo hg k]
theorem Af6 {x:NE} (hg:Ax x.1=true):Eg x x.1.Am.Ac.length=Ro x:=by
 have h2:=(Ff (A8.1 hg).t).n0
 obtain ⟨m,hm⟩:∃m,x.1.Am.Ac.length=m+1:=⟨x.1.Am.Ac.length - 1,by omega⟩
 unfold Ro
 rw [hm,Abo hg,Nat.add_sub_cancel]
theorem Rl {l:List (List Av)} (h:∀q∈l,q.length≤6):∀k,qd (l.take k)≤6 * k:=by
 induction l with
 | nil=>intro k;rw [List.take_nil];exact Nat.zero_le _
 | cons q r ih =>
  intro k
  cases k with
  | zero=>exact Nat.le_refl _
  | succ k =>
   have:=ih (fun q hq=>h q (by simp [hq])) k
   have:=h q (by simp)
   show q.length+qd (r.take k)≤_
   omega
theorem Acp {l:List (List Av)} {k:Nat} (hk:k < l.length):qd (l.take (k+1))=qd (l.take k)+l[k].length:=by
 unfold qd
 rw [List.take_succ_eq_append_getElem hk,List.map_append,List.sum_append]
 simp
def Vg (n:D9) (r:Int):Bool:=Ax n && Ig 0 r 60 && decide (n.Ab.Ai+r≤9999)
def Ej (n:D9) (r:Int):D9 × List ByteArray × Bool:=if Vg n r then ((Cr n r.toNat).1,(Cr n r.toNat).2,true) else (Lh,[],false)
def C3 (n:D9):D9 × List ByteArray × Bool:=if Ax n then ((Nh n).1,(Nh n).2,true) else (Lh,[],false)
theorem Ah3 (n:D9):Ej n 0=C3 n:=by
 unfold Ej C3 Vg
 cases h:Ax n
 ·rfl
 ·have:=Q1 (A8.1 h).s
  rw [show Ig 0 0 60=true from rfl,decide_eq_true (show n.Ab.Ai+0≤9999 by omega)]
  rfl
def Asi:NE→List Li→Nat→NE × Nat
 | x,[],i=>(x,i)
 | x,s::r,i=>match By x.1 s with
  | none=>(x,i)
  | some y=>Asi (y.1,x.2++y.2) r (i+1)
theorem Ali (a b:Int):Fn prog 257 [.int .i64 a,.int .i64 b] [] [] (fun (_:Unit)=>True) (fun _=>.int .i64 (min a b)) (fun _=>[]):=by
 refine enter func257 rfl ntmps257 fun w0=>?_
 refine go ?_;intros
 refine Bg rfl (fun h=>?_) (fun h=>?_)
 ·refine go ?_;intros
  rw [show min a b=a by omega]
  refine ret () trivial rfl
 ·refine go ?_;intros
  rw [show min a b=b by omega]
  refine ret () trivial rfl
theorem Aiw (r:Bb) (p:Av) (d:Int) (v:Value) (F:List Nat) (hg:Kk r) (hp:Bp p=true) (d0:1≤d) (d1:d≤8) :
  Fn prog 219 [v,.agg #[.int .i64 p.Df,.int .i64 p.Ae,.int .i64 p.Al,.int .i64 p.Ec,.string p.data],.int .i64 d] [.isv B4 v r F] [] (fun (_:NwS)=>True) (fun s=>.tuple #[.agg #[.bool ((I1 r p d)).Bh,.int .i64 ((I1 r p d)).Ai,.int .i64 ((I1 r p d)).Aa.next,.slice s.a1 ((I1 r p d)).Aa.Ao.length s.c1,.slice s.a2 ((I1 r p d)).Ar.length s.c2],.slice s.ae (Km r p).length s.ce])
   (fun s=>[.isv B4 (.agg #[.bool ((I1 r p d)).Bh,.int .i64 ((I1 r p d)).Ai,.int .i64 ((I1 r p d)).Aa.next,.slice s.a1 ((I1 r p d)).Aa.Ao.length s.c1,.slice s.a2 ((I1 r p d)).Ar.length s.c2]) (I1 r p d) s.F1,.ow Ba 9 (.slice s.ae (Km r p).length s.ce) (Km r p) s.Fe]):=by
 have k0:=hg.k0
 have k1:=hg.k1
 obtain ⟨-,q1,q2, -⟩:=Dq.1 hg.q
 have hser:∀q∈r.Ar,B9 q.Ae=true:=fun q hq=>(Zp hg hq).1
 obtain ⟨hsg, -⟩:=Pp hg hp
 obtain ⟨htg, -,htl⟩:=Ru hg hp
 obtain ⟨hng,hnq, -,hnl⟩:=Ti hg hp d0 d1 (by omega)
 obtain ⟨s0_,s1_⟩:=Gz hsg
 obtain ⟨w0_,w1_⟩:=Gz htg
 obtain ⟨v0_,v1_⟩:=Gz hng
 obtain ⟨hw8,hit⟩:=Ix hsg
 obtain ⟨hu8,hiu⟩:=Ix htg
 obtain ⟨n0,n1⟩:=Iv hp
 have hrw:=(Ix hg.w).1
 have hp2:=hp
 unfold Bp at hp2
 simp only [Bool.and_eq_true] at hp2
 obtain ⟨t0_,t1_⟩:=A9.1 hp2.1.1.1.1.2
 obtain ⟨l0_,l1_⟩:=A9.1 hp2.1.1.1.2
 have hps:p.data.size≤8:=Sr hp2.1.1.2
 refine enter func219 rfl ntmps219 fun w0=>?_
 refine E8 (v:=v) (x:=r) (F:=F) ?_
 rintro a1 c1 F1 a2 c2 F2 rfl - -
 refine go ?_;intros
 refine cf (Qs r _ F (by omega) (by omega)) fun u _=>?_
 refine Ap ?_
 refine H9 ?_
 rintro a5 c5 F5 a6 c6 F6 e6 - -
 rw [e6]
 refine A1 (E:=Ci) fun G5=>?_
 refine A1 (E:=Ay) fun G6=>?_
 refine go ?_;intros
 rename_i g3 g4 g6 g8 g9
 refine C9 Ba ?_
 refine E6 [2,4,6,8,9] [0,2,4,5] (fun _:List Nat=>[]) (fun s=>[.row g8 84 0 [] [.bool true,.int .i64 r.Ai,.int .i64 (Dx r p).next,.slice a5 (Dx r p).Ao.length c5,.slice a6 r.Ar.length c6] [],.isv Bo (.agg #[.int .i64 (Dx r p).next,.slice a5 (Dx r p).Ao.length c5]) (Dx r p) s]) (fun _=>True) ?_ fun G7 _=>?_
 ·cases hs:r.Bh
  ·by_cases hk:p.Df=5
   ·have e:Dx r p=⟨p.Ec,r.Aa.Ao⟩:=by unfold Dx;rw [hs,if_pos hk];rfl
    rw [e]
    refine go ?_;intros
    refine Bg rfl (fun _=>?_) (fun h=>absurd hk h)
    refine Cf (a1:=a5) ⟨p.Ec,r.Aa.Ao⟩ ?_
    refine go ?_;intros
    refine Cd G5 trivial
   ·have e:Dx r p=⟨p.Ae,r.Aa.Ao⟩:=by unfold Dx;rw [hs,if_neg hk];rfl
    rw [e]
    refine go ?_;intros
    refine Bg rfl (fun h=>absurd h hk) (fun _=>?_)
    refine Cf (a1:=a5) ⟨p.Ae,r.Aa.Ao⟩ ?_
    refine go ?_;intros
    refine Cd G5 trivial
  ·have e:Dx r p=r.Aa:=by unfold Dx;rw [hs];rfl
   rw [e]
   refine Cf (a1:=a5) r.Aa ?_
   refine go ?_;intros
   refine Cd G5 trivial
 repeat (first|apply Yv|apply Alp|apply Aar)
 refine Anv [2,4,6,8] [3,4,5] (fun s:SkS=>[(9,.slice s.ae (I5 r p).length s.ce)]) (fun s=>[.row g8 84 0 [] [.bool true,.int .i64 r.Ai,.int .i64 (Et r p).next,.slice s.a (Et r p).Ao.length s.c,.slice a6 r.Ar.length c6] [],.isv Bo (.agg #[.int .i64 (Et r p).next,.slice s.a (Et r p).Ao.length s.c]) (Et r p) s.F,.ow Ba 9 (.slice s.ae (I5 r p).length s.ce) (I5 r p) s.Fe]) (fun _=>True) ?_ fun s _=>?_
 ·by_cases hk:p.Df=5
  ·have e1:Et r p=Dx r p:=by unfold Et;rw [if_pos hk]
   have e2:I5 r p=[]:=by unfold I5;rw [if_pos hk]
   rw [e1,e2]
   refine go ?_;intros
   rw [decide_eq_false (show ¬ ¬p.Df=5 from fun h=>h hk)]
   refine go ?_;intros
   refine Cd (⟨a5,c5,G7,_,_,_⟩:SkS) trivial
  ·have e1:Et r p=Jp (Dx r p) p.Ae p.data:=by unfold Et;rw [if_neg hk]
   have e2:I5 r p=Jo (Dx r p) p.Ae p.data:=by unfold I5;rw [if_neg hk]
   rw [e1,e2]
   refine go ?_;intros
   rw [decide_eq_true (show ¬p.Df=5 from hk)]
   refine go ?_;intros
   refine cf (Aft (Dx r p) p.Ae _ G7 s0_ s1_ n0 n1 hw8) fun _ _=>?_
   refine Ap ?_
   cases hok:K8 (Dx r p) p.Ae
   ·have e:(E4 (Dx r p) p.Ae || !decide (gp (Dx r p).next p.Ae < 8))=true:=by unfold K8 at hok;simp only [Bool.or_eq_false_iff] at hok;rw [hok.1,hok.2];rfl
    have e3:Jp (Dx r p) p.Ae p.data=Dx r p:=by unfold Jp;rw [if_pos e]
    have e4:Jo (Dx r p) p.Ae p.data=[]:=by unfold Jo;rw [if_pos e]
    rw [e3,e4]
    refine go ?_;intros
    refine Cd (⟨a5,c5,G7,_,_,_⟩:SkS) trivial
   ·refine go ?_;intros
    refine cf (Aio (Dx r p) p.Ae p.data _ G7 s0_ s1_ n0 n1 hw8 hit hps hok) fun y hy=>?_
    refine Ap ?_
    obtain ⟨hy1,hy2⟩:=hy
    have hyl:y.es.length≤8:=by rw [hy2,←e2];exact htl
    refine A1 (E:=Ba) (xs:=y.es) fun G8=>?_
    refine go ?_;intros
    apply wO
    refine Lx (ys:=y.es) Ed Hf fun a9 c9 F9=>?_
    rw [List.nil_append]
    rw [←hy1,←hy2]
    refine go ?_;intros
    refine Cd (⟨y.a,y.c,y.F,_,_,_⟩:SkS) trivial
 obtain ⟨a3,c3,F3,ae,cE,Fe⟩:=s
 dsimp only
 refine go ?_;intros
 refine ce (fun w s=>No _ _ _ (by omega) (by omega)) ?_
 refine go ?_;intros
 refine E6 [2,4,6,8] [3,4,5] (fun s:SkS=>[(9,.slice s.ae (Km r p).length s.ce)]) (fun s=>[.row g8 84 0 [] [.bool true,.int .i64 r.Ai,.int .i64 (Cm r p).next,.slice s.a (Cm r p).Ao.length s.c,.slice a6 r.Ar.length c6] [],.isv Bo (.agg #[.int .i64 (Cm r p).next,.slice s.a (Cm r p).Ao.length s.c]) (Cm r p) s.F,.ow Ba 9 (.slice s.ae (Km r p).length s.ce) (Km r p) s.Fe]) (fun _=>True) ?_ fun s _=>?_
 ·cases hb:Pu (Et r p).next p.Al
  ·have e1:Cm r p=Et r p:=by show L7 _ _=_;unfold L7;rw [hb];rfl
   have e2:Km r p=I5 r p:=by unfold Km Ms;rw [hb];simp
   rw [e1,e2]
   refine go ?_;intros
   refine Cd (⟨a3,c3,F3,_,_,_⟩:SkS) trivial
  refine go ?_;intros
  refine ce (fun w s=>H8 _ _ _ (by omega) (by omega)) ?_
  refine go ?_;intros
  refine Bg rfl (fun h4=>?_) (fun h4=>?_)
  ·have e1:Cm r p=Hw (Et r p) p.Al:=by show L7 _ _=_;unfold L7;rw [hb,if_pos rfl,if_pos h4]
   have e2:Km r p=I5 r p++Ii (Et r p) p.Al:=by unfold Km Ms;rw [hb,if_pos rfl,if_pos h4]
   have hl2:=hnl
   rw [e2,List.length_append] at hl2
   refine go ?_;intros
   refine cf (P0 (Et r p) p.Al _ F3 w0_ w1_ t0_ t1_ hu8 hiu) fun y hy=>?_
   refine Ap ?_
   obtain ⟨hy1,hy2⟩:=hy
   have hyl:y.es.length≤24:=by rw [hy2];show (Ii (Et r p) p.Al).length≤24;omega
   refine A1 (E:=Ba) (xs:=y.es) fun G8=>?_
   refine go ?_;intros
   apply wO
   refine Lx (ys:=y.es) Ed Hf fun a9 c9 F9=>?_
   rw [e1,e2,show Hw (Et r p) p.Al=y.y from hy1.symm,show Ii (Et r p) p.Al=y.es from hy2.symm]
   refine go ?_;intros
   refine Cd (⟨y.a,y.c,y.F,_,_,_⟩:SkS) trivial
  ·have e1:Cm r p=⟨p.Al,[]⟩:=by show L7 _ _=_;unfold L7;rw [hb,if_pos rfl,if_neg h4]
   have e2:Km r p=I5 r p++[⟨#[33]⟩]:=by unfold Km Ms;rw [hb,if_pos rfl,if_neg h4]
   rw [e1,e2]
   refine go ?_;intros
   apply wO
   refine Mf (P3 ⟨#[33]⟩ (by decide)) Ed fun a9 c9 F9=>?_
   refine Bw Ci (by decide) ?_
   refine Cf (a1:=none) ⟨p.Al,[]⟩ ?_
   refine go ?_;intros
   refine Cd (⟨none,0,_,_,_,_⟩:SkS) trivial
 obtain ⟨a7,c7,F7,ae,cE,Fe⟩:=s
 dsimp only
 refine go ?_;intros
 refine cf (Xj r.Ar (Cm r p) a6 c6 G6 _ F7 (by omega) hser v0_ v1_) fun z _=>?_
 refine Ap ?_
 refine go ?_;intros
 refine ce (fun w s=>No _ _ _ (by omega) (by omega)) ?_
 have hNq8:=(Dq.1 hnq).2.1
 cases hb:Pu (Cm r p).next p.Ec
 ·have e1:I1 r p d=⟨true,r.Ai,Cm r p,Dz r.Ar (Cm r p)⟩:=by unfold I1 M2;rw [hb];rfl
  rw [e1]
  refine go ?_;intros
  refine A1 (E:=Ay) (xs:=Dz r.Ar (Cm r p)) fun F8=>?_
  refine Co (x:=Cm r p) ?_
  rintro b1 dd1 G1 e5 m1
  simp only [Value.agg.injEq,Array.mk.injEq,List.cons.injEq,Value.slice.injEq,true_and,and_true] at e5
  obtain ⟨rfl,rfl⟩:=e5
  refine Em ⟨true,r.Ai,Cm r p,Dz r.Ar (Cm r p)⟩ ?_
  refine ret ⟨_,_,_,_,_,[],_,_,_⟩ trivial rfl
 obtain ⟨k,hk⟩:∃k,k=T6 (Cm r p) p.Ec:=⟨_,rfl⟩
 have hk8:k≤8:=by rw [hk];exact O2 _ _
 have hgb:=Jb (Cm r p).next p.Ec
 have hkm:((k:Nat):Int)=min (gp (Cm r p).next p.Ec) 8:=by rw [hk];unfold T6;omega
 obtain ⟨N,hN⟩:∃N,N=L6 (Cm r p) k:=⟨_,rfl⟩
 have hNl:N.length≤8:=by have:=Wj (Cm r p) k;rw [hN];omega
 have e1:I1 r p d=⟨true,r.Ai,Cm r p,I2 (Cm r p).next (r.Ai+d) (Dz r.Ar (Cm r p)) N⟩:=by unfold I1 M2;rw [hb,if_pos rfl,hN,hk]
 rw [e1]
 have Te:=Ht (Cm r p).next (min (gp (Cm r p).next p.Ec) 8)
 have hgp:gp (Cm r p).next (Cg (Cm r p).next (min (gp (Cm r p).next p.Ec) 8))=(k:Nat):=by rw [←hkm];unfold gp Cg;omega
 refine go ?_;intros
 refine ce (fun w s=>H8 _ _ _ (by omega) (by omega)) ?_
 refine go ?_;intros
 refine cf (Ali _ _) fun _ _=>?_
 refine Ap ?_
 refine go ?_;intros
 refine ce (fun w s=>Fh _ _ _ (by omega) (by omega)) ?_
 refine go ?_;intros
 refine cf (Acf (Cm r p) _ k _ F7 v0_ v1_ (by omega) (by omega) hgp) fun m _=>?_
 refine Ap ?_
 rw [←hN]
 refine A1 (E:=Bd) (xs:=N) fun GN=>?_
 refine A1 (E:=Ay) (xs:=Dz r.Ar (Cm r p)) fun F8=>?_
 refine go ?_;intros
 refine Cp [2,6,8,9,14,16] (fun s:AwS=>[(17,.int .i64 (s.i:Nat))]) (fun s=>[.row g8 84 0 [] [.bool true,.int .i64 r.Ai,.int .i64 (Cm r p).next,.slice a7 (Cm r p).Ao.length c7,.slice s.a (I2 (Cm r p).next (r.Ai+d) (Dz r.Ar (Cm r p)) (N.take s.i)).length s.c] [],.sl Ay (.slice s.a (I2 (Cm r p).next (r.Ai+d) (Dz r.Ar (Cm r p)) (N.take s.i)).length s.c) (I2 (Cm r p).next (r.Ai+d) (Dz r.Ar (Cm r p)) (N.take s.i)) s.F]) (fun s=>s.i≤N.length) (fun s=>N.length - s.i) ⟨0,z.1,z.2.1,F8⟩ (Nat.zero_le _) fun s hs=>?_
 obtain ⟨i,a3,c3,F3⟩:=s
 dsimp only at hs ⊢
 have hall:=N3 (w:=Cm r p) (u:=r.Ai+d) (by omega) (by omega) (N.take i) (Dz r.Ar (Cm r p)) (fun n hn=>by
  have:=N9 (w:=Cm r p) (n:=n) hk8 (by rw [←hN];exact List.mem_of_mem_take hn)
  exact ⟨this.1,this.2.2⟩) hnq Mq
 have hLs:∀h:i < N.length,I2 (Cm r p).next (r.Ai+d) (Dz r.Ar (Cm r p)) (N.take (i+1))=Qf (Cm r p).next (I2 (Cm r p).next (r.Ai+d) (Dz r.Ar (Cm r p)) (N.take i)) N[i] (r.Ai+d):=fun h=>W9 h
 generalize hLd:I2 (Cm r p).next (r.Ai+d) (Dz r.Ar (Cm r p)) (N.take i)=L at *
 have hLq:=hall.1
 have hL8:=(Dq.1 hLq).2.1
 refine go ?_;intros
 refine Bg rfl (fun h4=>?_) (fun h4=>?_)
 ·have hi:i < N.length:=by omega
  have hni:=N9 (w:=Cm r p) (n:=N[i]) hk8 (by rw [←hN];exact List.getElem_mem hi)
  refine In (xs:=N) i ?_
  rintro hi2 b o2 e
  rw [e]
  refine go ?_;intros
  refine As [0,1] [12] ?_
  refine dt 0 ?_
  refine dt 1 ?_
  refine dt 2 ?_
  refine dt 3 ?_
  refine dt 4 ?_
  refine dt 5 ?_
  refine dt 6 ?_
  refine dt 7 ?_
  refine dt 8 ?_
  refine dt 9 ?_
  refine dO 10 (by kernel_rfl) (by rw [List.getElem?_toArray];rfl) ?_
  apply At;rfl;kernel_rfl;exact Bf
  refine cf (Ald L (Cm r p).next N[i] r.Ai d a3 c3 F3 hLq hni.1 k0 k1 d0 d1) fun u _=>?_
  refine Ap ?_
  rw [←hLs hi]
  refine dk ?_
  refine dt 11 ?_
  refine dO 12 (by kernel_rfl) (by rw [List.getElem?_toArray];rfl) ?_
  apply Cs;rfl;rfl;rfl;(first|exact AggC.s|exact OneC.s);rfl;exact Cu;exact Ct;rfl
  refine Ng ?_
  refine dd ?_
  refine A1 (E:=Ay) fun F9=>?_
  refine go ?_;intros
  refine Ck (⟨i+1,_,_,_⟩:AwS) (by show i+1≤N.length;omega) (by show N.length - (i+1) < N.length - i;omega)
 have hi:i=N.length:=by omega
 subst hi
 rw [List.take_length] at hLd
 rw [hLd]
 refine go ?_;intros
 refine Co (x:=Cm r p) ?_
 rintro b1 dd1 G1 e5 m1
 simp only [Value.agg.injEq,Array.mk.injEq,List.cons.injEq,Value.slice.injEq,true_and,and_true] at e5
 obtain ⟨rfl,rfl⟩:=e5
 refine Em ⟨true,r.Ai,Cm r p,L⟩ ?_
 refine ret ⟨_,_,_,_,_,[],_,_,_⟩ trivial rfl
theorem We (r:Bb) (p:Av) (d:Int) (v:Value) (F:List Nat) (hg:Kk r) (hp:Bp p=true) (d0:1≤d) (d1:d≤8) :
  Fn prog 162 [v,.agg #[.int .i64 p.Df,.int .i64 p.Ae,.int .i64 p.Al,.int .i64 p.Ec,.string p.data],.int .i64 d] [.isv B4 v r F] [] (fun (_:NwS)=>True) (fun s=>.tuple #[.agg #[.bool ((De r p d)).Bh,.int .i64 ((De r p d)).Ai,.int .i64 ((De r p d)).Aa.next,.slice s.a1 ((De r p d)).Aa.Ao.length s.c1,.slice s.a2 ((De r p d)).Ar.length s.c2],.slice s.ae (Gw r p).length s.ce])
   (fun s=>[.isv B4 (.agg #[.bool ((De r p d)).Bh,.int .i64 ((De r p d)).Ai,.int .i64 ((De r p d)).Aa.next,.slice s.a1 ((De r p d)).Aa.Ao.length s.c1,.slice s.a2 ((De r p d)).Ar.length s.c2]) (De r p d) s.F1,.ow Ba 9 (.slice s.ae (Gw r p).length s.ce) (Gw r p) s.Fe]):=by
 have k0:=hg.k0
 have k1:=hg.k1
 have hrw:=(Ix hg.w).1
 obtain ⟨-,q1,q2, -⟩:=Dq.1 hg.q
 obtain ⟨n0,n1⟩:=Iv hp
 have hkd:1≤p.Df∧p.Df≤5:=by unfold Bp Ig at hp;simp only [Bool.and_eq_true,decide_eq_true_eq] at hp;exact hp.1.1.1.1.1.1
 refine enter func162 rfl ntmps162 fun w0=>?_
 refine E8 (v:=v) (x:=r) (F:=F) ?_
 rintro a1 c1 F1 a2 c2 F2 rfl - -
 refine go ?_;intros
 by_cases hk4:p.Df=4
 ·have hn:Kx p=false:=by unfold Kx;simp [hk4]
  have eE:Gw r p=[]:=by unfold Gw;rw [hn];rfl
  rw [decide_eq_true hk4]
  cases hs:r.Bh
  ·have eR:De r p d=r:=by unfold De;rw [hn,hs];simp
   refine go ?_;intros
   rw [decide_eq_true hk4]
   refine go ?_;intros
   refine cf (Qs r _ F (by omega) (by omega)) fun u _=>?_
   refine Ap ?_
   refine H9 ?_
   rintro a5 c5 F5 a6 c6 F6 e6 - -
   rw [e6]
   refine A1 (E:=Ci) fun G5=>?_
   refine A1 (E:=Ay) fun G6=>?_
   refine go ?_;intros
   refine C9 Ba ?_
   refine Em (a1:=a5) r ?_
   rw [eR,eE]
   rw [hs]
   refine ret ⟨_,_,_,_,_,[],_,_,_⟩ trivial rfl
  ·have eR:De r p d=Adp r p:=by unfold De;rw [hn,hs,decide_eq_true hk4];rfl
   refine go ?_;intros
   refine cf (Qs r _ F (by omega) (by omega)) fun u _=>?_
   refine Ap ?_
   refine H9 ?_
   rintro a5 c5 F5 a6 c6 F6 e6 - -
   rw [e6]
   refine A1 (E:=Ci) fun G5=>?_
   refine go ?_;intros
   refine cf (Ach r.Ar r.Aa.next p.Ae r.Ai a2 c2 F2 hg.q (A9.2 ⟨n0,n1⟩) k0 k1) fun y _=>?_
   refine Ap ?_
   refine A1 (E:=Ay) (xs:=N4 r.Aa.next r.Ar p.Ae (r.Ai+4)) fun G6=>?_
   refine go ?_;intros
   refine C9 Ba ?_
   refine Em (a1:=a5) (Adp r p) ?_
   rw [eR,eE]
   refine ret ⟨_,_,_,_,_,[],_,_,_⟩ trivial rfl
 rw [decide_eq_false hk4]
 refine go ?_;intros
 rw [decide_eq_false hk4]
 refine go ?_;intros
 by_cases hk3:p.Df=3
 ·have hn:Kx p=false:=by unfold Kx;simp [hk3]
  have eE:Gw r p=[]:=by unfold Gw;rw [hn];rfl
  have eR:De r p d=r:=by unfold De;rw [hn,decide_eq_false hk4];rfl
  rw [decide_eq_true hk3]
  refine go ?_;intros
  refine cf (Qs r _ F (by omega) (by omega)) fun u _=>?_
  refine Ap ?_
  refine H9 ?_
  rintro a5 c5 F5 a6 c6 F6 e6 - -
  rw [e6]
  refine A1 (E:=Ci) fun G5=>?_
  refine A1 (E:=Ay) fun G6=>?_
  refine go ?_;intros
  refine C9 Ba ?_
  refine Em (a1:=a5) r ?_
  rw [eR,eE]
  refine ret ⟨_,_,_,_,_,[],_,_,_⟩ trivial rfl
 have hn:Kx p=true:=by
  unfold Kx
  have:p.Df=1∨p.Df=2∨p.Df=5:=by omega
  rcases this with h|h|h <;> simp [h]
 have eE:Gw r p=Km r p:=by unfold Gw;rw [hn];rfl
 have eR:De r p d=I1 r p d:=by unfold De;rw [hn];rfl
 rw [decide_eq_false hk3,eE,eR]
 refine go ?_;intros
 refine cf (Aiw r p d _ F hg hp d0 d1) fun s _=>?_
 refine Ap ?_
 refine go ?_;intros
 refine ret ⟨s.a1,s.c1,s.F1,s.a2,s.c2,[],s.ae,s.ce,_⟩ trivial rfl
end Go.Proofs.YtaemjogbahcbcaaGreatDoor
namespace Go.Proofs.YtaemjogbahcbcaaGreatDoor

open Go.RowKit
end Go.Proofs.YtaemjogbahcbcaaGreatDoor
namespace Go.Proofs.YtaemjogbahcbcaaGreatDoor
open Go.RowKit
def Xz (x:Bb):Bool:=x.Bh && decide ((x.Ar.length:Int)=0) && decide ((x.Aa.Ao.length:Int)=0)
theorem Xg (x:Bb) (v:Value) (F:List Nat):Fn prog 58 [v] [.isv B4 v x F] [] (fun (_:Unit)=>True) (fun _=>.bool (Xz x)) (fun _=>[]):=by
 refine enter func58 rfl ntmps58 fun w0=>?_
 refine E8 (v:=v) (x:=x) (F:=F) ?_
 rintro a1 c1 F1 a2 c2 F2 rfl l1 l2
 unfold maxLen at l1 l2
 refine go ?_;intros
 cases hs:x.Bh
 ·refine go ?_;intros
  refine ret () trivial ?_
  unfold Xz;rw [hs];rfl
 refine go ?_;intros
 refine Dc rfl rfl (fun h1=>?_) (fun h1=>?_)
 rotate_left
 ·refine go ?_;intros
  refine ret () trivial ?_
  unfold Xz;rw [hs,decide_eq_false h1];rfl
 refine go ?_;intros
 refine ret () trivial ?_
 unfold Xz;rw [hs,decide_eq_true h1];rfl
def Nj (l:List Int) (k:Nat):List Int:=((List.range k).filter fun i=>Ev l ((i:Nat):Int)).map fun (i:Nat)=>((i:Nat):Int)
def lvs (l:List Int):List Int:=Nj l l.length
theorem Zf (l:List Int) (k:Nat):Nj l (k+1)=Nj l k++if Ev l (k:Int)=true then [(k:Int)] else []:=by
 unfold Nj
 rw [List.range_succ,List.filter_append,List.map_append]
 split <;> simp_all
theorem Ai3 {l:List Int} {k:Nat} (h:Ev l (k:Int)=true):Nj l (k+1)=Nj l k++[(k:Int)]:=by rw [Zf,if_pos h]
theorem All {l:List Int} {k:Nat} (h:Ev l (k:Int)=false):Nj l (k+1)=Nj l k:=by rw [Zf,if_neg (by rw [h];decide),List.append_nil]
theorem Abe (l:List Int) (k:Nat):(Nj l k).length≤k:=by
 unfold Nj
 rw [List.length_map]
 exact Nat.le_trans (List.length_filter_le _ _) (by simp)
theorem Ag3 {l:List Int} {x:Int} {k:Nat} (h:x∈Nj l k):∃i,i < k∧x=((i:Nat):Int)∧Ev l x=true:=by
 unfold Nj at h
 obtain ⟨i,hi,rfl⟩:=List.mem_map.1 h
 obtain ⟨h1,h2⟩:=List.mem_filter.1 hi
 exact ⟨i,List.mem_range.1 h1,rfl,h2⟩
theorem Aoz {l:List Int} (hg:Ml l):Ev l ((0:Nat):Int)=false:=by
 have h1:=hg.n0
 have h2:=hg.p 1 (by omega) (by omega)
 have h3:(((0:Nat):Int))∈l:=by
  have:l[1]=((0:Nat):Int):=by omega
  rw [←this];exact List.getElem_mem _
 unfold Ev
 rw [decide_eq_true h3];rfl
theorem Aqo {l:List Int} {k:Nat} (h:k < (lvs l).length):∃i,i < l.length∧(lvs l)[k]=((i:Nat):Int)∧Ev l ((i:Nat):Int)=true:=by
 obtain ⟨i,hi,e,hl⟩:=Ag3 (List.getElem_mem h)
 exact ⟨i,hi,e,e▸hl⟩
theorem Ams {n:D9} {s:Li} (hg:Ax n=true) (hs:Ij s=true) {y:NE} (e:By n s=some y):Aw n s=(y.1,y.2,true):=by
 unfold Aw;rw [hg,hs,e];rfl
theorem Ajo {n:D9} {s:Li} (e:By n s=none):(Aw n s).2.2=false:=by
 unfold Aw;rw [e];cases Ax n <;> cases Ij s <;> rfl
theorem Rr {n:D9} {s:Li} (h:(Aw n s).2.2=true):Ax (Aw n s).1=true:=by
 cases g:Ax n
 ·exact absurd h (by unfold Aw;rw [g];cases Ij s <;> exact Bool.false_ne_true)
 cases k:Ij s
 ·exact absurd h (by unfold Aw;rw [g,k];exact Bool.false_ne_true)
 cases e:By n s with
 | none=>rw [Ajo e] at h;cases h
 | some y=>rw [Ams g k e];exact Ku g k e
theorem Akt {n:D9} (hg:Ax n=true):Ax (Nh n).1=true∧Rk (Nh n).1=0:=⟨(Sk (x:=(n,[])) hg).1.g,(Sk (x:=(n,[])) hg).2⟩
theorem Adq {n:D9} (hg:Ax n=true) (h:Rk n=0):C3 n=(n,[],true):=by
 unfold C3 Nh
 rw [if_pos hg,Sm (x:=(n,[])) h]
def I7 (n:D9):Int × Int × Bool:=if Ax n then (((qd n.down:Nat):Int),((qd n.up:Nat):Int),true) else (0,0,false)
def V8 (n:D9) (i:Nat):Bool:=Xz (Vl n i) && decide ((Vl n i).Aa.next=Cg n.Ab.Aa.Al n.Ab.Aa.Aj.length)
def Acx (n:D9):Bool:=decide (Rk n=0) && (lvs n.Am.Ac).all fun x=>V8 n x.toNat
def Hb (n:D9):Bool × Bool:=if Ax n then (Acx n,true) else (false,false)
theorem Al7 {l:List (List Av)} (h:∀i (hi:i < l.length),l[i].length=0):qd l=0:=by
 refine Vk.2 fun q hq=>?_
 obtain ⟨i,hi,rfl⟩:=List.getElem_of_mem hq
 exact List.length_eq_zero_iff.1 (h i hi)
theorem Alm {l:List Int} {i:Nat} (hi:i < l.length) (h:Ev l ((i:Nat):Int)=true):((i:Nat):Int)∈lvs l:=by
 unfold lvs Nj
 exact List.mem_map.2 ⟨i,List.mem_filter.2 ⟨List.mem_range.2 hi,h⟩,rfl⟩
theorem Amt {n:D9} (h:¬Rk n=0):Acx n=false:=by unfold Acx;rw [decide_eq_false h];rfl
theorem Zz {n:D9} {i:Nat} (hi:i < n.Am.Ac.length) (h:Ev n.Am.Ac ((i:Nat):Int)=true) (hb:V8 n i=false):Acx n=false:=by
 unfold Acx
 rw [Bool.and_eq_false_iff]
 right
 rw [List.all_eq_false]
 exact ⟨_,Alm hi h,by rw [show ((i:Nat):Int).toNat=i from rfl,hb];decide⟩
theorem Aey {n:D9} (h:Rk n=0) (hl:∀i,i < n.Am.Ac.length→Ev n.Am.Ac ((i:Nat):Int)=true→V8 n i=true):Acx n=true:=by
 unfold Acx
 rw [decide_eq_true h,Bool.true_and,List.all_eq_true]
 intro x hx
 obtain ⟨i,hi,rfl,h2⟩:=Ag3 hx
 exact hl i hi h2
end Go.Proofs.YtaemjogbahcbcaaGreatDoor
namespace Go.Proofs.YtaemjogbahcbcaaGreatDoor
open Go.RowKit
open Go.RowKit
theorem Adx {α:Type} {E:Bv α} {w:World}:∀{ys:List (List Value)} {xs:List α} {G:List Nat},Cw E w ys.flatten xs G→(∀y∈ys,y.length=E.sz)→∀i (h1:i < ys.length) (h2:i < xs.length),∃Gi,E.Ka w ys[i] xs[i] Gi∧∀b∈Gi,b∈G
 | [],_,_,_,_,i,h1,_=>by simp at h1
 | y::r,[],_,_,_,i,_,h2=>by simp at h2
 | y::r,x::s,G,h,hm,i,h1,h2=>by
  obtain ⟨c1,c2,F1,F2,e,rfl,hr,hs⟩:=h
  rw [List.flatten_cons] at e
  obtain ⟨e1,e2⟩:=List.append_inj e (by rw [hm y (by simp),E.len hr])
  subst e1 e2
  cases i with
  | zero=>exact ⟨F1,hr,fun b hb=>by simp [hb]⟩
  | succ j =>
   obtain ⟨Gi,g1,g2⟩:=Adx hs (fun z hz=>hm z (by simp [hz])) j (by simpa using h1) (by simpa using h2)
   exact ⟨Gi,g1,fun b hb=>by simp [g2 b hb]⟩
theorem Aax {α:Type} {E:Bv α} {w:World} {cs:List Value} {x:α} {G2:List Nat} (hx:E.Ka w cs x G2):∀{ys:List (List Value)} {xs:List α} {G:List Nat},Cw E w ys.flatten xs G→(∀y∈ys,y.length=E.sz)→ys.length=xs.length→∀i,∃G',Cw E w (ys.set i cs).flatten (xs.set i x) G'∧∀b∈G',b∈G∨b∈G2
 | [],[],G,h,_,_,i=>⟨G,h,fun b hb=>.inl hb⟩
 | [],y::r,_,_,_,hl,_=>by simp at hl
 | y::r,[],_,_,_,hl,_=>by simp at hl
 | y::r,x1::s,G,h,hm,hl,i=>by
  obtain ⟨c1,c2,F1,F2,e,rfl,hr,hs⟩:=h
  rw [List.flatten_cons] at e
  obtain ⟨e1,e2⟩:=List.append_inj e (by rw [hm y (by simp),E.len hr])
  subst e1 e2
  cases i with
  | zero=>exact ⟨G2++F2,⟨cs,r.flatten,G2,F2,by simp,rfl,hx,hs⟩,fun b hb=>by rcases List.mem_append.1 hb with hb|hb;exact .inr hb;exact .inl (by simp [hb])⟩
  | succ j =>
   obtain ⟨G',g1,g2⟩:=Aax hx hs (fun z hz=>hm z (by simp [hz])) (by simpa using hl) j
   refine ⟨F1++G',⟨y,(r.set j cs).flatten,F1,G',by simp,rfl,hr,g1⟩,fun b hb=>?_⟩
   rcases List.mem_append.1 hb with hb|hb
   ·exact .inl (by simp [hb])
   ·rcases g2 b hb with h|h
    ·exact .inl (by simp [h])
    ·exact .inr h
section
variable {c:Cx} {fr:Fr} {H:List Pc} {Φ:Gl}
theorem Eq {m:Nat} {t:TypeId} {a:Option Addr} {n cp:Nat} {ys:List (List Value)} {F:List Nat} (h:(∀y∈ys,y.length=m)→ys.length=n→T c fr H Φ) (hp:.ow (EC m) t (.slice a n cp) ys F∈H:=by exact B8):T c fr H Φ:=.mk fun ac w s g=>by
 obtain ⟨hnd,ho⟩:=s.get hp
 have key:(∀y∈ys,y.length=m)∧ys.length=n:=by
  rcases ho with ⟨e,rfl, -⟩|⟨b,cap,cs,rest,G,e,h2,h3,h4,h5,h6, -⟩
  ·cases e;exact ⟨by simp,rfl⟩
  ·cases e;exact ⟨(Aca h6).2.2,rfl⟩
 exact (h key.1 key.2).h ac w s g
theorem Aq4 {α:Type} {E:Bv α} {k:Nat} {v:Value} {xs:List α} {G:List Nat} (h:xs.length=k→T c fr H Φ) (hp:.isv (EA E k) v xs G∈H:=by exact B8):T c fr H Φ:=.mk fun ac w s g=>by
 obtain ⟨cs,e,hl,hf⟩:=s.get hp
 exact (h hl).h ac w s g
theorem Zs {α:Type} {E:Bv α} {k:Nat} {ys:List (List Value)} {xs:List α} {G:List Nat} (i:Nat) (hm:∀y∈ys,y.length=E.sz) (hl:ys.length=xs.length) (h1:i < ys.length) (h:∀(h1:i < ys.length) (h2:i < xs.length) Gi,T c fr (.isv E (.agg ys[i].toArray) xs[i] Gi::H) Φ) (hp:.isv (EA E k) (.agg ys.flatten.toArray) xs G∈H:=by exact B8):T c fr H Φ:=.mk fun ac w s g=>by
 obtain ⟨cs,e, -,hf⟩:=s.get hp
 obtain rfl:ys.flatten=cs:=by simpa using e
 obtain ⟨Gi,g1,g2⟩:=Adx hf hm i h1 (by omega)
 exact (h h1 (by omega) Gi).h ac w (s.ro hp rfl rfl ⟨_,rfl,g1⟩ g2) g
theorem Zt {α:Type} {E:Bv α} {k:Nat} {ys:List (List Value)} {xs:List α} {G:List Nat} (i:Nat) (hm:∀y∈ys,y.length=E.sz) (hl:ys.length=xs.length) (h1:i < ys.length) (h:∀(h1:i < ys.length) (h2:i < xs.length) v Gi,v=.agg ys[i].toArray→T c fr (.isv E v xs[i] Gi::H) Φ) (hp:.isv (EA E k) (.agg ys.flatten.toArray) xs G∈H:=by exact B8):T c fr H Φ:=Zs i hm hl h1 (fun h1 h2 Gi=>h h1 h2 _ Gi rfl) hp
theorem Nv {α:Type} {E:Bv α} {k:Nat} {ys:List (List Value)} {xs:List α} {G G2:List Nat} {v:Value} {cs:List Value} {x:α} (i:Nat) (hv:v=.agg cs.toArray) (hm:∀y∈ys,y.length=E.sz) (hl:ys.length=xs.length) (h:∀G',T c fr (.isv (EA E k) (.agg (ys.set i cs).flatten.toArray) (xs.set i x) G'::H) Φ) (hp:.isv (EA E k) (.agg ys.flatten.toArray) xs G∈H:=by exact B8) (hp2:.isv E v x G2∈H:=by exact B8):T c fr H Φ:=.mk fun ac w s g=>by
 subst hv
 obtain ⟨c1,e,hk,hf⟩:=s.get hp
 obtain rfl:ys.flatten=c1:=by simpa using e
 obtain ⟨c2,e2,hx⟩:=s.get hp2
 obtain rfl:cs=c2:=by simpa using e2
 obtain ⟨G',g1,g2⟩:=Aax hx hf hm hl i
 refine (h G').h ac w (s.add (N:=[.isv (EA E k) (.agg (ys.set i cs).flatten.toArray) (xs.set i x) G']) (Below.refl _ _) (by intro p hq;rw [List.mem_singleton] at hq;subst hq;exact ⟨_,rfl,by simpa using hk,g1⟩) ⟨by simp,trivial⟩ ?_) g
 intro p hq z hb
 rw [List.mem_singleton] at hq;subst hq
 rcases g2 z hb with hb|hb
 ·exact .inr ⟨rfl,_,hp,rfl,hb⟩
 ·exact .inr ⟨rfl,_,hp2,rfl,hb⟩
theorem Wb {α:Type} {E:Bv α} {hz:0 < E.sz} {v:Value} {x:List α} {G:List Nat} (h:∀a1 c1,v=.agg #[.slice a1 x.length c1]→x.length≤maxLen→T c fr (.sl E (.slice a1 x.length c1) x G::H) Φ) (hp:.isv (Md E hz) v x G∈H:=by exact B8):T c fr H Φ:=.mk fun ac w s g=>by
 obtain ⟨cs,rfl,v1,rfl,h1⟩:=s.get hp
 obtain ⟨a1,c1,rfl⟩:=h1.slice
 exact (h a1 c1 rfl h1.len).h ac w (s.ro hp rfl rfl ⟨hz,h1⟩ fun b hb=>hb) g
theorem Um {α:Type} {E:Bv α} {v:Value} {x:List α} {G:List Nat} (hz:0 < E.sz) (h:T c fr (.isv (Md E hz) (.agg #[v]) x G::H) Φ) (hp:.sl E v x G∈H:=by exact B8):T c fr H Φ:=.mk fun ac w s g=>by
 obtain ⟨-,h1⟩:=s.get hp
 exact h.h ac w (s.ro hp rfl rfl ⟨[v],rfl,v,rfl,h1⟩ fun b hb=>hb) g
end
end Go.Proofs.YtaemjogbahcbcaaGreatDoor
namespace Go.Proofs.YtaemjogbahcbcaaGreatDoor
open Go.RowKit
theorem Aje {q ps:List Av} {k:Nat} (h:6≤(E9 q (ps.take k)).length):E9 q (ps.take k)=E9 q ps:=by
 unfold E9 at *
 rw [List.length_append,List.length_take,List.length_take] at h
 rw [List.take_take]
 congr 1
 by_cases h6:6≤q.length
 ·rw [show min (6 - q.length) k=6 - q.length by omega]
 ·by_cases hk:6 - q.length≤k
  ·rw [show min (6 - q.length) k=6 - q.length by omega]
  ·rw [show min (6 - q.length) k=k by omega,List.take_of_length_le (by omega),List.take_of_length_le (by omega)]
theorem Ajf {q ps:List Av} {k:Nat} (hk:k < ps.length) (h:(E9 q (ps.take k)).length < 6):E9 q (ps.take (k+1))=E9 q (ps.take k)++[ps[k]]:=by
 rw [List.take_succ_eq_append_getElem hk,Abl]
 unfold Qw;rw [if_pos h]
theorem Y8 (q ps:List Av) (a:Option Addr) (c:Nat) (F:List Nat) (a2:Option Addr) (c2:Nat) (F2:List Nat) (hq:q.length≤1000000):Fn prog 158 [.slice a q.length c,.slice a2 ps.length c2] [.sl Ak (.slice a q.length c) q F,.sl Ak (.slice a2 ps.length c2) ps F2] [] (fun (_:KA)=>True) (fun z=>.slice z.a (E9 q ps).length z.c) (fun z=>[.ow Ak 110 (.slice z.a (E9 q ps).length z.c) (E9 q ps) z.F]):=by
 refine enter func158 rfl ntmps158 fun w0=>?_
 refine Tp (E:=Ak) (xs:=ps) ?_
 rintro _ _ e0 hn1 hn2
 refine Acy (E:=Ak) (xs:=ps) (fun p:Av=>p.data.size≤maxLen) (fun w cs x F h=>by obtain ⟨_,h,_⟩:=h;exact h) ?_
 intro hz
 cases e0
 refine go ?_;intros
 refine C9 Ak ?_
 refine go ?_;intros
 apply wO
 refine Lx Hk Jh fun a3 c3 F3=>?_
 rw [List.nil_append]
 refine go ?_;intros
 have e0:E9 q (ps.take 0)=q:=by unfold E9;simp
 refine Cp [1,4] (fun z:KA=>[(5,.slice z.a (E9 q (ps.take z.k)).length z.c),(6,.int .i64 (z.k:Nat))]) (fun z=>[.ow Ak 110 (.slice z.a (E9 q (ps.take z.k)).length z.c) (E9 q (ps.take z.k)) z.F]) (fun z=>z.k≤ps.length) (fun z=>ps.length - z.k) ⟨0,a3,c3,F3⟩ (Nat.zero_le _) (fun z hz0=>?_) (hf:=by dsimp only;rw [e0];exact frE) (hH:=by dsimp only;rw [e0];exact Zi)
 have hql:(E9 q (ps.take z.k)).length≤q.length+ps.length:=by unfold E9;rw [List.length_append,List.length_take,List.length_take];omega
 have hnn:ps.length≤9223372036854775807:=by omega
 refine go ?_;intros
 refine Dc rfl rfl (fun h1=>?_) (fun h1=>?_)
 ·have hk:z.k < ps.length:=by omega
  refine go ?_;intros
  refine Bg rfl (fun h2=>?_) (fun h2=>?_)
  ·have h6:(E9 q (ps.take z.k)).length < 6:=by omega
   have hpz:=hz _ (List.getElem_mem hk)
   refine Mg (xs:=ps) z.k ?_
   rintro hi3 b3 o3 e3 s3
   rw [e3]
   refine go ?_;intros
   apply wO
   refine Mf (ys:=[ps[z.k]]) (C5 ps[z.k] hpz) Hk fun a7 c7 F7=>?_
   rw [←Ajf hk h6]
   refine go ?_;intros
   refine Ck ⟨z.k+1,a7,c7,F7⟩ hk (by show ps.length - (z.k+1) < ps.length - z.k;omega)
  ·rw [Aje (by omega)]
   refine go ?_;intros
   refine ret z trivial rfl
 ·rw [show ps.take z.k=ps from List.take_of_length_le (by omega)]
  refine go ?_;intros
  refine ret z trivial rfl
theorem Al5 {q ps:List Av} (h:q.length≤6):(E9 q ps).length≤6:=by unfold E9;rw [List.length_append,List.length_take];omega
theorem Aog {d:List (List Av)} {i:Nat} {ps:List Av} (h:∀q∈d,q.length≤6):∀q∈d.modify i (fun q=>E9 q ps),q.length≤6:=fun q hq=>by
 by_cases hi:i < d.length
 ·rw [Gb hi] at hq
  rcases List.mem_or_eq_of_mem_set hq with h'|rfl
  ·exact h q h'
  ·exact Al5 (h _ (List.getElem_mem hi))
 ·rw [Ui hi] at hq;exact h q hq
theorem Zx {ps:List Av}:∀{nodes:List Int} {d:List (List Av)},(∀q∈d,q.length≤6)→∀q∈Dl d nodes ps,q.length≤6
 | [],_,h=>h
 | x::r,d,h=>by
  show ∀q∈Dl (d.modify x.toNat fun q=>E9 q ps) r ps,q.length≤6
  exact Zx (Aog h)
structure ShZ where
 k:Nat
 ys:List (List Value)
 F:List Nat
 G:List Nat
theorem Lo (d:List (List Av)) (nodes:List Int) (ps:List Av) (a1 a2 a3 a4 a5 a7:Option Addr) (l1 c1 l2 c2 l3 c3 l4 c4 l5 c5 l7 c7:Nat) (w1 w2 w3 w4:Int) (a:Option Addr) (n c:Nat) (ys:List (List Value)) (F G:List Nat) (an:Option Addr) (cn:Nat) (Fn_:List Nat) (ap:Option Addr) (cp:Nat) (Fp:List Nat) (hx:∀x∈nodes,0≤x∧x.toNat < d.length) (hd:∀q∈d,q.length≤6) :
  Fn prog 89 [.agg #[.slice a1 l1 c1,.int .i64 w1,.int .i64 w2,.slice a2 l2 c2,.int .i64 w3,.int .i64 w4,.slice a3 l3 c3,.slice a4 l4 c4,.slice a5 l5 c5,.slice a n c,.slice a7 l7 c7],.slice an nodes.length cn,.slice ap ps.length cp] [.sl Bd (.slice an nodes.length cn) nodes Fn_,.sl Ak (.slice ap ps.length cp) ps Fp,.isv (EA (Md Ak (by decide)) n) (.agg (ys).flatten.toArray) d G] [.ow (EC 1) 86 (.slice a n c) ys F] (fun (_:ShZ)=>True) (fun _=>.tuple #[]) (fun z=>[.ow (EC 1) 86 (.slice a n c) z.ys z.F,.isv (EA (Md Ak (by decide)) n) (.agg (z.ys).flatten.toArray) (Dl d nodes ps) z.G]):=by
 refine enter func89 rfl ntmps89 fun w0=>?_
 refine Tp (E:=Bd) (xs:=nodes) ?_
 rintro _ _ e0 hn1 hn2
 cases e0
 refine Aq4 (xs:=d) fun hdn=>?_
 refine go ?_;intros
 refine Cp [1,2,3] (fun z:ShZ=>[(6,.int .i64 (z.k:Nat))]) (fun z=>[.ow (EC 1) 86 (.slice a n c) z.ys z.F,.isv (EA (Md Ak (by decide)) n) (.agg (z.ys).flatten.toArray) (Dl d (nodes.take z.k) ps) z.G]) (fun z=>z.k≤nodes.length) (fun z=>nodes.length - z.k) ⟨0,ys,F,G⟩ (Nat.zero_le _) fun z hz0=>?_
 have hsl:=Up ps (nodes.take z.k) d
 have hd6:=Zx (ps:=ps) (nodes:=nodes.take z.k) hd
 refine go ?_;intros
 refine Bg rfl (fun h1=>?_) (fun h1=>?_)
 ·have hk:z.k < nodes.length:=by omega
  obtain ⟨x0,x1⟩:=hx _ (List.getElem_mem hk)
  obtain ⟨i,hi⟩:∃i:Nat,nodes[z.k]=((i:Nat):Int):=⟨nodes[z.k].toNat,by omega⟩
  have hil:i < (Dl d (nodes.take z.k) ps).length:=by omega
  have hst:=Xt (d:=d) (ps:=ps) hk
  rw [show nodes[z.k].toNat=i by omega] at hst
  unfold Oa at hst
  rw [Gb hil] at hst
  have h6:=hd6 _ (List.getElem_mem hil)
  refine In (xs:=nodes) z.k ?_
  rintro hi2 b o e1
  rw [e1,hi]
  refine Eq (ys:=z.ys) fun hm hl=>?_
  refine Zs (ys:=z.ys) (xs:=Dl d (nodes.take z.k) ps) i hm (by omega) (by omega) fun h2 h3 Gi=>?_
  refine Wb (x:=(Dl d (nodes.take z.k) ps)[i]) fun a9 c9 e9 l9=>?_
  refine N6 (E:=EC 1) (xs:=z.ys) (m:=1) (Ga 1) i ?_ (by repeat (first|exact .here|apply C0.there)) rfl h2
  rintro _ g A cs B rfl k2 k3 hH
  obtain ⟨k4, -, -⟩:=k3 w0
  have e8:z.ys[i]=[.slice a9 (Dl d (nodes.take z.k) ps)[i].length c9]:=by simpa using e9
  rw [e8] at k4
  subst k4
  dsimp only [List.append]
  refine go ?_;intros
  refine As [0,3,5] [17] ?_
  refine dt 0 ?_
  refine dt 1 ?_
  refine dt 2 ?_
  refine dt 3 ?_
  refine dt 4 ?_
  refine dt 5 ?_
  refine dt 6 ?_
  refine dt 7 ?_
  refine dt 8 ?_
  refine dt 9 ?_
  refine dt 10 ?_
  refine dt 11 ?_
  refine dt 12 ?_
  refine dt 13 ?_
  refine dt 14 ?_
  refine dO 15 (by kernel_rfl) (by rw [List.getElem?_toArray];rfl) ?_
  apply At;rfl;kernel_rfl;exact Bf
  refine cf (Y8 (Dl d (nodes.take z.k) ps)[i] ps a9 c9 _ ap cp Fp (by omega)) fun u _=>?_
  refine Ap ?_
  refine dk ?_
  refine dt 16 ?_
  refine dO 17 (by kernel_rfl) (by rw [List.getElem?_toArray];rfl) ?_
  apply Cs;rfl;rfl;rfl;(first|exact AggC.s|exact OneC.s);rfl;exact Cu;exact Ct;rfl
  refine Ng ?_
  refine dd ?_
  refine Nd (E:=EC 1) (xs:=z.ys) [.slice u.a (E9 (Dl d (nodes.take z.k) ps)[i] ps).length u.c] hH (fun w=>⟨rfl,⟨rfl,by simp [Value.oneCell']⟩,rfl⟩) ?_
  refine A1 (E:=Ak) (xs:=E9 (Dl d (nodes.take z.k) ps)[i] ps) fun Fq=>?_
  refine Um (E:=Ak) (x:=E9 (Dl d (nodes.take z.k) ps)[i] ps) (by decide) ?_
  refine Nv (E:=Md Ak (by decide)) (ys:=z.ys) (xs:=Dl d (nodes.take z.k) ps) (x:=E9 (Dl d (nodes.take z.k) ps)[i] ps) i rfl hm (by omega) fun G'=>?_
  rw [←hst]
  refine go ?_;intros
  refine Ck ⟨z.k+1,z.ys.set i [.slice u.a (E9 (Dl d (nodes.take z.k) ps)[i] ps).length u.c],[g],G'⟩ hk (by show nodes.length - (z.k+1) < nodes.length - z.k;omega)
 ·rw [show nodes.take z.k=nodes from List.take_of_length_le (by omega)]
  refine go ?_;intros
  refine Rt ?_
  refine ret z trivial rfl
theorem Ad8 {l:List Int} (hg:Ml l) (i:Nat):Ns 1 7 (Gs l ((i:Nat):Int))=true:=by
 refine Abm ?_ fun z hz=>?_
 ·unfold Gs Io
  rw [List.pairwise_map]
  exact (List.Pairwise.filter _ List.pairwise_lt_range).imp fun h=>by omega
 ·have:=Jd hg hz
  have:=hg.n1
  omega
structure ShA where
 ys:List (List Value)
 F:List Nat
 G:List Nat
structure SZ where
 e:ShA
 r:ShA
 d:ShA
 u:ShA
structure JE where
 g:Nat
 b:Option Addr
 d:Nat
 F:List Nat
 a:Option Addr
 c:Nat
 G:List Nat
theorem Aci (n:D9) (i:Nat) (p:Av) (a1:Option Addr) (c1:Nat) (a4:Option Addr) (c4:Nat) (a5:Option Addr) (c5:Nat) (a6:Option Addr) (c6:Nat) (a7:Option Addr) (c7:Nat) (a2 a3:Option Addr) (l2 c2 l3 c3:Nat) (w1 w2 w3 w4:Int) (F1:List Nat) (z:SZ) (FT:List Nat) (hl:Je n=true) (hi:i < n.Am.Ac.length) (hi0:0 < i) (h8:Ml n.Am.Ac) (hr:Ev n.Am.Ac (i:Nat)=true→Dg (Vl n i)=true) (he:Ev n.Am.Ac (i:Nat)=false→Be (Qa n i)=true) (hp:Bp p=true) (hps:p.data.size≤maxLen) (hd:∀q∈n.down,q.length≤6) :
  Fn prog 92 [.agg #[.slice a1 n.Am.Ac.length c1,.int .i64 w1,.int .i64 w2,.slice a2 l2 c2,.int .i64 w3,.int .i64 w4,.slice a3 l3 c3,.slice a4 n.Am.Ac.length c4,.slice a5 n.Am.Ac.length c5,.slice a6 n.Am.Ac.length c6,.slice a7 n.Am.Ac.length c7],.int .i64 (i:Nat),.agg #[.int .i64 (p).Df,.int .i64 (p).Ae,.int .i64 (p).Al,.int .i64 (p).Ec,.string (p).data]] [Lw FT,.sl Bd (.slice a1 n.Am.Ac.length c1) n.Am.Ac F1,.isv (EA Bn n.Am.Ac.length) (.agg z.e.ys.flatten.toArray) n.Af z.e.G,.isv (EA B4 n.Am.Ac.length) (.agg z.r.ys.flatten.toArray) n.Ad z.r.G,.isv (EA (Md Ak (by decide)) n.Am.Ac.length) (.agg z.d.ys.flatten.toArray) n.down z.d.G,.isv (EA (Md Ak (by decide)) n.Am.Ac.length) (.agg z.u.ys.flatten.toArray) n.up z.u.G] [.ow (EC 2) 77 (.slice a4 n.Am.Ac.length c4) z.e.ys z.e.F,.ow (EC 5) 84 (.slice a5 n.Am.Ac.length c5) z.r.ys z.r.F,.ow (EC 1) 86 (.slice a6 n.Am.Ac.length c6) z.d.ys z.d.F,.ow (EC 1) 86 (.slice a7 n.Am.Ac.length c7) z.u.ys z.u.F] (fun (_:SZ × KA)=>True) (fun y=>.slice y.2.a (Cq n i p).2.length y.2.c) (fun y=>[.ow (EC 2) 77 (.slice a4 n.Am.Ac.length c4) y.1.e.ys y.1.e.F,.ow (EC 5) 84 (.slice a5 n.Am.Ac.length c5) y.1.r.ys y.1.r.F,.ow (EC 1) 86 (.slice a6 n.Am.Ac.length c6) y.1.d.ys y.1.d.F,.ow (EC 1) 86 (.slice a7 n.Am.Ac.length c7) y.1.u.ys y.1.u.F,.isv (EA Bn n.Am.Ac.length) (.agg y.1.e.ys.flatten.toArray) (Cq n i p).1.Af y.1.e.G,.isv (EA B4 n.Am.Ac.length) (.agg y.1.r.ys.flatten.toArray) (Cq n i p).1.Ad y.1.r.G,.isv (EA (Md Ak (by decide)) n.Am.Ac.length) (.agg y.1.d.ys.flatten.toArray) (Cq n i p).1.down y.1.d.G,.isv (EA (Md Ak (by decide)) n.Am.Ac.length) (.agg y.1.u.ys.flatten.toArray) (Cq n i p).1.up y.1.u.G,.ow Ba 9 (.slice y.2.a (Cq n i p).2.length y.2.c) (Cq n i p).2 y.2.F]):=by
 obtain ⟨q1,q2,q3,q4⟩:=Bm.1 hl
 have hn8:=h8.n1
 obtain ⟨d0,d1_⟩:=V3 (i:=i)
 refine enter func92 rfl ntmps92 fun w0=>?_
 refine Ju n.Am ?_
 refine go ?_;intros
 refine cf (Nn n.Am ((i:Nat):Int) _ F1 h8 (by omega)) fun _ _=>?_
 refine Ap ?_
 cases hlf:Ev n.Am.Ac (i:Nat)
 rotate_left
 ·have hir:i < n.Ad.length:=by omega
  have hgr:=Gg.1 (Hp hir▸hr hlf)
  have hev:=(Qn (d:=Ks i) hgr hp d0 d1_).2
  rw [show Cq n i p=(⟨n.Am,n.Ab,n.Af,n.Ad.set i (De n.Ad[i] p (Ks i)),n.down,n.up⟩,Si i (Gw n.Ad[i] p)) by unfold Cq;rw [if_pos hlf,Hp hir]]
  refine go ?_;intros
  refine Eq (ys:=z.r.ys) fun hm hlr=>?_
  refine Zt (E:=B4) (ys:=z.r.ys) (xs:=n.Ad) i hm (by omega) (by omega) fun h2 h3 v Gi ev=>?_
  refine E8 (v:=v) (x:=n.Ad[i]) ?_
  rintro b1 d1 G1 b2 d2 G2 rfl l1 l2
  have e8:z.r.ys[i]=[.bool (n.Ad[i]).Bh,.int .i64 (n.Ad[i]).Ai,.int .i64 (n.Ad[i]).Aa.next,.slice b1 (n.Ad[i]).Aa.Ao.length d1,.slice b2 (n.Ad[i]).Ar.length d2]:=by simpa using ev.symm
  refine N6 (E:=EC 5) (xs:=z.r.ys) (m:=5) (Ga 5) i ?_ (by repeat (first|exact .here|apply C0.there)) rfl h2
  rintro _ g A cs B rfl k2 k3 hH
  obtain ⟨k4, -, -⟩:=k3 w0
  rw [e8] at k4
  subst k4
  dsimp only [List.append]
  refine go ?_;intros
  refine E6 [1,3,5,6] [0,1,2,3,4,5,6,7,8,9,10,11,12,13,14,15] (fun w:Nat × NwS=>[(7,Ez w.1 0 0),(8,.slice w.2.ae (Gw n.Ad[i] p).length w.2.ce)]) (fun w=>[.row w.1 84 0 [] [.bool (De n.Ad[i] p (Ks i)).Bh,.int .i64 (De n.Ad[i] p (Ks i)).Ai,.int .i64 (De n.Ad[i] p (Ks i)).Aa.next,.slice w.2.a1 (De n.Ad[i] p (Ks i)).Aa.Ao.length w.2.c1,.slice w.2.a2 (De n.Ad[i] p (Ks i)).Ar.length w.2.c2] [],.isv B4 (.agg #[.bool (De n.Ad[i] p (Ks i)).Bh,.int .i64 (De n.Ad[i] p (Ks i)).Ai,.int .i64 (De n.Ad[i] p (Ks i)).Aa.next,.slice w.2.a1 (De n.Ad[i] p (Ks i)).Aa.Ao.length w.2.c1,.slice w.2.a2 (De n.Ad[i] p (Ks i)).Ar.length w.2.c2]) (De n.Ad[i] p (Ks i)) w.2.F1,.ow Ba 9 (.slice w.2.ae (Gw n.Ad[i] p).length w.2.ce) (Gw n.Ad[i] p) w.2.Fe]) (fun _=>True) ?_ fun w _=>?_
  ·skip
   refine As [0,4,5] [] ?_
   refine dt 0 ?_
   refine dt 1 ?_
   refine dt 2 ?_
   refine dt 3 ?_
   refine dt 4 ?_
   refine dt 5 ?_
   refine dt 6 ?_
   refine Ov 7 12 (by kernel_rfl) (by rw [List.getElem?_toArray];rfl) (by rw [List.getElem?_toArray];rfl) ?_ ?_
   ·apply At;rfl;kernel_rfl;exact Bf
    refine cf (Re i (by omega)) fun _ _=>?_
    refine Ap ?_
    refine dk ?_
    refine Ov 8 12 (by kernel_rfl) (by rw [List.getElem?_toArray];rfl) (by rw [List.getElem?_toArray];rfl) ?_ ?_
    ·apply At;rfl;kernel_rfl;exact Bf
     refine cf (We n.Ad[i] p (Ks i) _ Gi hgr hp d0 d1_) fun s _=>?_
     refine Ap ?_
     refine dk ?_
     refine dt 9 ?_
     refine dt 10 ?_
     refine dt 11 ?_
     refine dO 12 (by kernel_rfl) (by rw [List.getElem?_toArray];rfl) ?_
     apply Ce;rfl;intro _
     refine dk ?_
     refine dO 13 (by kernel_rfl) (by rw [List.getElem?_toArray];rfl) ?_
     apply Cs;rfl;rfl;rfl;(first|exact AggC.s|exact OneC.s);rfl;exact Cu;exact Ct;rfl
     refine dk ?_
     refine dt 14 ?_
     refine dd ?_
     refine Cd (⟨_,s⟩:Nat × NwS) trivial
    ·apply Ce;rfl;intro _
     refine dk ?_
     refine dO 8 (by kernel_rfl) (by rw [List.getElem?_toArray];rfl) ?_
     apply At;rfl;kernel_rfl;exact Bf
     refine cf (We n.Ad[i] p (Ks i) _ Gi hgr hp d0 d1_) fun s _=>?_
     refine Ap ?_
     refine dk ?_
     refine dt 9 ?_
     refine dt 10 ?_
     refine dt 11 ?_
     refine dO 13 (by kernel_rfl) (by rw [List.getElem?_toArray];rfl) ?_
     apply Cs;rfl;rfl;rfl;(first|exact AggC.s|exact OneC.s);rfl;exact Cu;exact Ct;rfl
     refine dk ?_
     refine dt 14 ?_
     refine dd ?_
     refine Cd (⟨_,s⟩:Nat × NwS) trivial
   ·apply Ce;rfl;intro _
    refine dk ?_
    refine dO 7 (by kernel_rfl) (by rw [List.getElem?_toArray];rfl) ?_
    apply At;rfl;kernel_rfl;exact Bf
    refine cf (Re i (by omega)) fun _ _=>?_
    refine Ap ?_
    refine dk ?_
    refine dO 8 (by kernel_rfl) (by rw [List.getElem?_toArray];rfl) ?_
    apply At;rfl;kernel_rfl;exact Bf
    refine cf (We n.Ad[i] p (Ks i) _ Gi hgr hp d0 d1_) fun s _=>?_
    refine Ap ?_
    refine dk ?_
    refine dt 9 ?_
    refine dt 10 ?_
    refine dt 11 ?_
    refine dO 13 (by kernel_rfl) (by rw [List.getElem?_toArray];rfl) ?_
    apply Cs;rfl;rfl;rfl;(first|exact AggC.s|exact OneC.s);rfl;exact Cu;exact Ct;rfl
    refine dk ?_
    refine dt 14 ?_
    refine dd ?_
    refine Cd (⟨_,s⟩:Nat × NwS) trivial
  obtain ⟨gr,s⟩:=w
  dsimp only
  refine Jm ?_;intros
  refine Nd (E:=EC 5) (xs:=z.r.ys) [.bool (De n.Ad[i] p (Ks i)).Bh,.int .i64 (De n.Ad[i] p (Ks i)).Ai,.int .i64 (De n.Ad[i] p (Ks i)).Aa.next,.slice s.a1 (De n.Ad[i] p (Ks i)).Aa.Ao.length s.c1,.slice s.a2 (De n.Ad[i] p (Ks i)).Ar.length s.c2] hH (fun w=>⟨rfl,⟨rfl,by simp [Value.oneCell']⟩,rfl⟩) ?_
  refine Nv (E:=B4) (ys:=z.r.ys) (xs:=n.Ad) (x:=De n.Ad[i] p (Ks i)) i rfl hm (by omega) fun G'=>?_
  refine A1 (E:=Ba) (xs:=Gw n.Ad[i] p) fun Fq=>?_
  refine go ?_;intros
  refine cf (Abc i (Gw n.Ad[i] p) _ _ Fq FT (by omega) (by omega) (Y3 hgr hp)) fun u _=>?_
  refine Ap ?_
  refine go ?_;intros
  refine ret (⟨z.e,⟨z.r.ys.set i [.bool (De n.Ad[i] p (Ks i)).Bh,.int .i64 (De n.Ad[i] p (Ks i)).Ai,.int .i64 (De n.Ad[i] p (Ks i)).Aa.next,.slice s.a1 (De n.Ad[i] p (Ks i)).Aa.Ao.length s.c1,.slice s.a2 (De n.Ad[i] p (Ks i)).Ar.length s.c2],[g],G'⟩,z.d,z.u⟩,u) trivial rfl
 ·have hir:i < n.Af.length:=by omega
  have hge:Be n.Af[i]=true:=Ja hir▸he hlf
  have hel:=(Fg.1 hge).2.1
  have hkl:=Qr n.Am.Ac ((i:Nat):Int)
  have hkx:∀x∈Gs n.Am.Ac ((i:Nat):Int),0≤x∧x.toNat < n.down.length:=fun x hx=>by have:=Jd h8 hx;omega
  have hri:=Ad8 h8 i
  refine go ?_;intros
  refine cf (M5 n.Am ((i:Nat):Int) _ F1 (O5 h8.z (by omega)) ⟨by omega,by omega⟩) fun u _=>?_
  refine Ap ?_
  refine A1 (E:=Bd) (xs:=Gs n.Am.Ac ((i:Nat):Int)) fun Fk=>?_
  refine go ?_;intros
  refine Bg rfl (fun hk=>?_) (fun hk=>?_)
  ·rw [show Cq n i p=(⟨n.Am,n.Ab,n.Af.set i (M9 n.Af[i] p.Ae),n.Ad,Dl n.down (Qj n.Af[i] p.Ae (Gs n.Am.Ac ((i:Nat):Int))) [p],n.up⟩,[]) by unfold Cq Xy Ts;rw [if_neg (by rw [hlf];decide),if_pos hk,if_pos hk,Ja hir]]
   rw [←Agv hge hri]
   refine go ?_;intros
   refine Eq (ys:=z.e.ys) fun hm hlr=>?_
   refine Zt (E:=Bn) (ys:=z.e.ys) (xs:=n.Af) i hm (by omega) (by omega) fun h2 h3 v Gi ev=>?_
   refine Ep (v:=v) (x:=n.Af[i]) ?_
   rintro b1 d1 G1 rfl l1
   have e8:z.e.ys[i]=[.int .i64 n.Af[i].Ai,.slice b1 n.Af[i].Ah.length d1]:=by simpa using ev.symm
   refine N6 (E:=EC 2) (xs:=z.e.ys) (m:=2) (Ga 2) i ?_ (by repeat (first|exact .here|apply C0.there)) rfl h2
   rintro _ g A cs B rfl k2 k3 hH
   obtain ⟨k4, -, -⟩:=k3 w0
   rw [e8] at k4
   subst k4
   dsimp only [List.append]
   refine go ?_;intros
   refine E6 [1,3,5,6,9] [0,1,2,3,4,5,6,7,8,9,10,11,12,13,14,15] (fun w:JE=>[(10,Ez w.g 0 0),(11,.slice w.a (U6 n.Af[i] p.Ae (Gs n.Am.Ac ((i:Nat):Int))).length w.c)]) (fun w=>[.row w.g 77 0 [] [.int .i64 (M9 n.Af[i] p.Ae).Ai,.slice w.b (M9 n.Af[i] p.Ae).Ah.length w.d] [],.isv Bn (.agg #[.int .i64 (M9 n.Af[i] p.Ae).Ai,.slice w.b (M9 n.Af[i] p.Ae).Ah.length w.d]) (M9 n.Af[i] p.Ae) w.F,.ow Bd 3 (.slice w.a (U6 n.Af[i] p.Ae (Gs n.Am.Ac ((i:Nat):Int))).length w.c) (U6 n.Af[i] p.Ae (Gs n.Am.Ac ((i:Nat):Int))) w.G]) (fun _=>True) ?_ fun w _=>?_
   ·skip
    refine As [0,4,5] [] ?_
    refine dt 0 ?_
    refine dt 1 ?_
    refine dt 2 ?_
    refine dt 3 ?_
    refine dt 4 ?_
    refine dt 5 ?_
    refine dt 6 ?_
    refine dt 7 ?_
    refine Ov 8 12 (by kernel_rfl) (by rw [List.getElem?_toArray];rfl) (by rw [List.getElem?_toArray];rfl) ?_ ?_
    ·apply At;rfl;kernel_rfl;exact Bf
     refine cf (Xk n.Af[i] p.Ae (Gs n.Am.Ac ((i:Nat):Int)) _ Gi u.a u.c Fk (by omega) (fun x hx=>by have:=Mn hge hx;omega) (by omega)) fun s _=>?_
     refine Ap ?_
     refine Ha ?_
     rintro b3 d3 G3 es l3
     rw [es]
     refine Fj (M9 n.Af[i] p.Ae) ?_
     refine N0 Jj fun Fe=>?_
     refine dk ?_
     refine dt 9 ?_
     refine dt 10 ?_
     refine dt 11 ?_
     refine dO 12 (by kernel_rfl) (by rw [List.getElem?_toArray];rfl) ?_
     apply Ce;rfl;intro _
     refine dk ?_
     refine dO 13 (by kernel_rfl) (by rw [List.getElem?_toArray];rfl) ?_
     apply Cs;rfl;rfl;rfl;(first|exact AggC.s|exact OneC.s);rfl;exact Cu;exact Ct;rfl
     refine dk ?_
     refine dt 14 ?_
     refine dd ?_
     refine Cd (⟨_,b3,d3,Fe,s.a,s.c,s.G⟩:JE) trivial
    ·apply Ce;rfl;intro _
     refine dk ?_
     refine dO 8 (by kernel_rfl) (by rw [List.getElem?_toArray];rfl) ?_
     apply At;rfl;kernel_rfl;exact Bf
     refine cf (Xk n.Af[i] p.Ae (Gs n.Am.Ac ((i:Nat):Int)) _ Gi u.a u.c Fk (by omega) (fun x hx=>by have:=Mn hge hx;omega) (by omega)) fun s _=>?_
     refine Ap ?_
     refine Ha ?_
     rintro b3 d3 G3 es l3
     rw [es]
     refine Fj (M9 n.Af[i] p.Ae) ?_
     refine N0 Jj fun Fe=>?_
     refine dk ?_
     refine dt 9 ?_
     refine dt 10 ?_
     refine dt 11 ?_
     refine dO 13 (by kernel_rfl) (by rw [List.getElem?_toArray];rfl) ?_
     apply Cs;rfl;rfl;rfl;(first|exact AggC.s|exact OneC.s);rfl;exact Cu;exact Ct;rfl
     refine dk ?_
     refine dt 14 ?_
     refine dd ?_
     refine Cd (⟨_,b3,d3,Fe,s.a,s.c,s.G⟩:JE) trivial
   refine Jm ?_;intros
   refine Nd (E:=EC 2) (xs:=z.e.ys) [.int .i64 (M9 n.Af[i] p.Ae).Ai,.slice w.b (M9 n.Af[i] p.Ae).Ah.length w.d] hH (fun _=>⟨rfl,⟨rfl,by simp [Value.oneCell']⟩,rfl⟩) ?_
   refine Nv (E:=Bn) (ys:=z.e.ys) (xs:=n.Af) (x:=M9 n.Af[i] p.Ae) i rfl hm (by omega) fun G'=>?_
   refine A1 (E:=Bd) (xs:=U6 n.Af[i] p.Ae (Gs n.Am.Ac ((i:Nat):Int))) fun Fk2=>?_
   refine Ei (E:=Ak) (xs:=[p]) (C5 p hps) ?_ (by simp)
   refine A1 (E:=Ak) (xs:=[p]) fun Fp=>?_
   refine go ?_;intros
   refine cf (Lo n.down (U6 n.Af[i] p.Ae (Gs n.Am.Ac ((i:Nat):Int))) [p] _ _ _ _ _ _ _ _ _ _ _ _ _ _ _ _ _ _ _ _ _ _ _ _ _ z.d.ys z.d.F z.d.G _ _ Fk2 _ _ Fp (by rw [Agv hge hri];exact fun x hx=>hkx x (U5 x hx)) hd) fun y _=>?_
   refine Ap ?_
   refine go ?_;intros
   refine C9 Ba ?_
   refine go ?_;intros
   refine ret (⟨⟨z.e.ys.set i [.int .i64 (M9 n.Af[i] p.Ae).Ai,.slice w.b (M9 n.Af[i] p.Ae).Ah.length w.d],[g],G'⟩,z.r,⟨y.ys,y.F,y.G⟩,z.u⟩,⟨0,_,_,_⟩) trivial rfl
  ·rw [show Cq n i p=(⟨n.Am,n.Ab,n.Af,n.Ad,Dl n.down (Gs n.Am.Ac ((i:Nat):Int)) [p],n.up⟩,[]) by unfold Cq Xy Ts;rw [if_neg (by rw [hlf];decide),if_neg hk,if_neg hk]]
   refine Jm ?_;intros
   refine Ei (E:=Ak) (xs:=[p]) (C5 p hps) ?_ (by simp)
   refine A1 (E:=Ak) (xs:=[p]) fun Fp=>?_
   refine go ?_;intros
   refine cf (Lo n.down (Gs n.Am.Ac ((i:Nat):Int)) [p] _ _ _ _ _ _ _ _ _ _ _ _ _ _ _ _ _ _ _ _ _ _ _ _ _ z.d.ys z.d.F z.d.G _ _ Fk _ _ Fp hkx hd) fun w _=>?_
   refine Ap ?_
   refine go ?_;intros
   refine C9 Ba ?_
   refine go ?_;intros
   refine ret (⟨z.e,z.r,⟨w.ys,w.F,w.G⟩,z.u⟩,⟨0,_,_,_⟩) trivial rfl
structure RjS where
 g:Nat
 a:Option Addr
 c:Nat
 a2:Option Addr
 c2:Nat
 F:List Nat
structure Ang where
 a:Option Addr
 c:Nat
 F:List Nat
theorem Aip (x:Cj) (n:Int) (v:Value) (F:List Nat) (t0:0≤x.Aa.Al) (t1:x.Aa.Al≤65535) (hm:x.holds.length≤1000) (hn:Ty x.holds) (n0:-1≤n) (n1:n≤65536) :
  Fn prog 187 [v,.int .i64 n] [.isv Dm v x F] [] (fun (_:Unit)=>True) (fun _=>.tuple #[.int .i64 (Ew x.Aa.Al x.holds n:Nat),.bool (L9 x.Aa.Al x.holds n)]) (fun _=>[]):=by
 refine enter func187 rfl ntmps187 fun w0=>?_
 refine Ex ?_
 rintro a1 c1 F1 a2 c2 F2 rfl l1 l2
 refine go ?_;intros
 refine Dv [1,2,4,5] (fun k:Nat=>[(6,.int .i64 (k:Nat))]) (fun k=>k≤x.holds.length∧∀j (_:j < k) (h:j < x.holds.length),gp x.Aa.Al x.holds[j].Ae < gp x.Aa.Al n) (fun k=>x.holds.length - k) 0 ⟨Nat.zero_le _,fun j h=>by omega⟩ fun k hk=>?_
 obtain ⟨hk1,hk2⟩:=hk
 by_cases hlt:k < x.holds.length
 ·obtain ⟨m0,m1⟩:=hn x.holds[k] (List.getElem_mem hlt)
  refine P8 (xs:=x.holds) k ?_
  rintro hi b o e
  rw [e]
  refine go ?_;intros
  refine As [0,1] [] ?_
  refine dt 0 ?_
  refine dt 1 ?_
  refine dt 2 ?_
  refine dt 3 ?_
  refine dt 4 ?_
  rw [decide_eq_true (show (k:Int) < x.holds.length by omega)]
  refine dt 5 ?_
  refine Dh 6 ?_
  refine Dh 7 ?_
  refine Dh 8 ?_
  refine Dh 9 ?_
  refine Dh 10 ?_
  refine Dh 11 ?_
  refine Dh 12 ?_
  refine Dh 13 ?_
  refine Dh 14 ?_
  refine Dh 16 ?_
  refine Dh 17 ?_
  refine Dh 18 ?_
  refine Dh 19 ?_
  refine d1g 15 ?_
  apply On.h
  apply At;rfl;kernel_rfl;exact Bf
  refine ce (fun w s=>H8 _ _ _ (by omega) (by omega)) ?_
  refine dk ?_
  refine d1g 20 ?_
  apply On.h
  apply At;rfl;kernel_rfl;exact Bf
  refine ce (fun w s=>H8 _ _ _ (by omega) (by omega)) ?_
  refine dk ?_
  refine Dh 21 ?_
  refine dt 22 ?_
  refine dd ?_
  refine go ?_;intros
  refine Bg rfl (fun h=>?_) (fun h=>?_)
  ·refine go ?_;intros
   refine Ck (k+1) ⟨hlt,fun j hj hh=>?_⟩ (by omega)
   rcases Nat.lt_or_eq_of_le (Nat.lt_succ_iff.1 hj) with h2|rfl
   ·exact hk2 j h2 hh
   ·exact h
  ·have hh:Ew x.Aa.Al x.holds n=k:=Sy hk1 (fun j hj h=>decide_eq_true (hk2 j hj h)) (fun _=>decide_eq_false h)
   have ht:L9 x.Aa.Al x.holds n=decide (x.holds[k].Ae=n):=by unfold L9;rw [hh,List.getElem?_eq_getElem hlt]
   rw [ht,hh]
   refine go ?_;intros
   refine As [0,1] [] ?_
   refine dt 0 ?_
   refine dt 1 ?_
   refine dt 2 ?_
   refine dt 3 ?_
   refine dt 4 ?_
   refine dt 5 ?_
   rw [decide_eq_true (show (k:Int) < x.holds.length by omega)]
   refine dt 6 ?_
   refine Dh 7 ?_
   refine Dh 8 ?_
   refine Dh 9 ?_
   refine Dh 10 ?_
   refine Dh 11 ?_
   refine Dh 12 ?_
   refine Dh 13 ?_
   refine Dh 14 ?_
   refine dt 15 ?_
   refine dt 16 ?_
   refine dt 17 ?_
   refine dd ?_
   refine go ?_;intros
   refine ret () trivial rfl
 ·have hh:Ew x.Aa.Al x.holds n=k:=Sy hk1 (fun j hj h=>decide_eq_true (hk2 j hj h)) (fun h=>absurd h hlt)
  have ht:L9 x.Aa.Al x.holds n=false:=by unfold L9;rw [hh,List.getElem?_eq_none (by omega)]
  rw [ht,hh]
  refine go ?_;intros
  refine As [0] [] ?_
  refine dt 0 ?_
  refine dt 1 ?_
  refine dt 2 ?_
  refine dt 3 ?_
  refine dt 4 ?_
  rw [decide_eq_false (show ¬(k:Int) < x.holds.length by omega)]
  refine dt 5 ?_
  refine ds 6 ?_
  refine ds 7 ?_
  refine ds 8 ?_
  refine ds 9 ?_
  refine ds 10 ?_
  refine ds 11 ?_
  refine ds 12 ?_
  refine ds 13 ?_
  refine ds 14 ?_
  refine ds 15 ?_
  refine ds 16 ?_
  refine ds 17 ?_
  refine ds 18 ?_
  refine ds 19 ?_
  refine ds 20 ?_
  refine ds 21 ?_
  refine dt 22 ?_
  refine dd ?_
  refine go ?_;intros
  refine As [0] [] ?_
  refine dt 0 ?_
  refine dt 1 ?_
  refine dt 2 ?_
  refine dt 3 ?_
  refine dt 4 ?_
  refine dt 5 ?_
  rw [decide_eq_false (show ¬(k:Int) < x.holds.length by omega)]
  refine dt 6 ?_
  refine ds 7 ?_
  refine ds 8 ?_
  refine ds 9 ?_
  refine ds 10 ?_
  refine ds 11 ?_
  refine ds 12 ?_
  refine ds 13 ?_
  refine ds 14 ?_
  refine dt 15 ?_
  refine dt 16 ?_
  refine dt 17 ?_
  refine dd ?_
  refine go ?_;intros
  refine ret () trivial rfl
theorem Tt (x:Cj) (p:Av) (v:Value) (F:List Nat) (t0:0≤x.Aa.Al) (t1:x.Aa.Al≤65535) (hl:x.Aa.Aj.length≤6) (k0:0≤x.Ai) (k1:x.Ai≤99999) (hm:x.holds.length≤900) (hn:Ty x.holds) (n0:-1≤p.Ae) (n1:p.Ae≤65536) (hps:p.data.size≤maxLen) (hans:(Dj x.Aa p).1.data.size≤maxLen) :
  Fn prog 125 [v,.agg #[.int .i64 p.Df,.int .i64 p.Ae,.int .i64 p.Al,.int .i64 p.Ec,.string p.data]] [.isv Dm v x F] [] (fun (_:TiS)=>True) (fun s=>.tuple #[.agg #[.int .i64 (K9 x p.Ae).Aa.Al,.int .i64 (K9 x p.Ae).Aa.size,.slice s.a (K9 x p.Ae).Aa.Aj.length s.c,.int .i64 (K9 x p.Ae).Ai,.int .i64 (K9 x p.Ae).quiet,.slice s.a2 (K9 x p.Ae).holds.length s.c2],.slice s.ae (Lg x p).length s.ce])
   (fun s=>[.isv Dm (.agg #[.int .i64 (K9 x p.Ae).Aa.Al,.int .i64 (K9 x p.Ae).Aa.size,.slice s.a (K9 x p.Ae).Aa.Aj.length s.c,.int .i64 (K9 x p.Ae).Ai,.int .i64 (K9 x p.Ae).quiet,.slice s.a2 (K9 x p.Ae).holds.length s.c2]) (K9 x p.Ae) s.F,.ow Ak 110 (.slice s.ae (Lg x p).length s.ce) (Lg x p) s.Fe]):=by
 refine enter func125 rfl ntmps125 fun w0=>?_
 refine Ex ?_
 rintro a1 c1 F1 a2 c2 F2 rfl l1 l2
 refine Ch x.Aa (a1:=a1) ?_
 generalize F1=F3
 refine go ?_;intros
 refine E6 [2,3,4,5] [0,1,2,3,4,5,6] (fun s:RjS=>[(6,Ez s.g 0 0)]) (fun s=>[.row s.g 32 0 [] [.int .i64 x.Aa.Al,.int .i64 x.Aa.size,.slice s.a x.Aa.Aj.length s.c,.int .i64 x.Ai,.int .i64 x.quiet,.slice s.a2 (Gp x.Aa x.Ai x.holds).length s.c2] [],.isv Dm (.agg #[.int .i64 x.Aa.Al,.int .i64 x.Aa.size,.slice s.a x.Aa.Aj.length s.c,.int .i64 x.Ai,.int .i64 x.quiet,.slice s.a2 (Gp x.Aa x.Ai x.holds).length s.c2]) (S8 x x.Aa) s.F]) (fun _=>True) ?_ fun s _=>?_
 ·refine Jm ?_;intros
  refine As [1,2] [] ?_
  refine dt 0 ?_
  refine dt 1 ?_
  refine dt 2 ?_
  refine Ov 3 5 (by kernel_rfl) (by rw [List.getElem?_toArray];rfl) (by rw [List.getElem?_toArray];rfl) ?_ ?_
  ·apply At;rfl;kernel_rfl;exact Bf
   refine cf (O6 x.Aa _ F3 t0 t1 (by omega)) fun y _=>?_
   refine Ap ?_
   refine Ik ?_
   rintro a5 c5 F5 e5 l5
   rw [e5]
   refine A1 (xs:=x.Aa.Aj) fun F8=>?_
   refine Ch x.Aa (a1:=a5) ?_
   refine dk ?_
   refine Ov 4 5 (by kernel_rfl) (by rw [List.getElem?_toArray];rfl) (by rw [List.getElem?_toArray];rfl) ?_ ?_
   ·apply At;rfl;kernel_rfl;exact Bf
    refine cf (Pk x x.Aa _ _ F _ t0 t1 (by omega) hn) fun z _=>?_
    refine Ap ?_
    refine dk ?_
    refine dO 5 (by kernel_rfl) (by rw [List.getElem?_toArray];rfl) ?_
    apply Ce;rfl;intro _
    refine dk ?_
    refine dO 6 (by kernel_rfl) (by rw [List.getElem?_toArray];rfl) ?_
    apply Cs;rfl;rfl;rfl;(first|exact AggC.s|exact OneC.s);rfl;exact Cu;exact Ct;rfl
    refine dk ?_
    refine dd ?_
    refine go ?_;intros
    refine Cd (⟨_,z.a,z.c,z.a2,z.c2,z.F⟩:RjS) trivial
   ·apply Ce;rfl;intro _
    refine dk ?_
    refine dO 4 (by kernel_rfl) (by rw [List.getElem?_toArray];rfl) ?_
    apply At;rfl;kernel_rfl;exact Bf
    refine cf (Pk x x.Aa _ _ F _ t0 t1 (by omega) hn) fun z _=>?_
    refine Ap ?_
    refine dk ?_
    refine dO 6 (by kernel_rfl) (by rw [List.getElem?_toArray];rfl) ?_
    apply Cs;rfl;rfl;rfl;(first|exact AggC.s|exact OneC.s);rfl;exact Cu;exact Ct;rfl
    refine dk ?_
    refine dd ?_
    refine go ?_;intros
    refine Cd (⟨_,z.a,z.c,z.a2,z.c2,z.F⟩:RjS) trivial
  ·apply Ce;rfl;intro _
   refine dk ?_
   refine dO 3 (by kernel_rfl) (by rw [List.getElem?_toArray];rfl) ?_
   apply At;rfl;kernel_rfl;exact Bf
   refine cf (O6 x.Aa _ F3 t0 t1 (by omega)) fun y _=>?_
   refine Ap ?_
   refine Ik ?_
   rintro a5 c5 F5 e5 l5
   rw [e5]
   refine A1 (xs:=x.Aa.Aj) fun F8=>?_
   refine Ch x.Aa (a1:=a5) ?_
   refine dk ?_
   refine dO 4 (by kernel_rfl) (by rw [List.getElem?_toArray];rfl) ?_
   apply At;rfl;kernel_rfl;exact Bf
   refine cf (Pk x x.Aa _ _ F _ t0 t1 (by omega) hn) fun z _=>?_
   refine Ap ?_
   refine dk ?_
   refine dO 6 (by kernel_rfl) (by rw [List.getElem?_toArray];rfl) ?_
   apply Cs;rfl;rfl;rfl;(first|exact AggC.s|exact OneC.s);rfl;exact Cu;exact Ct;rfl
   refine dk ?_
   refine dd ?_
   refine go ?_;intros
   refine Cd (⟨_,z.a,z.c,z.a2,z.c2,z.F⟩:RjS) trivial
 refine go ?_;intros
 refine cb (fun w st=>(Th x.Aa p.Ae _ F3 t0 t1 n0 n1).val w (Il (st.get (p:=.isv Bx (.agg #[.int .i64 x.Aa.Al,.int .i64 x.Aa.size,.slice a1 x.Aa.Aj.length c1]) x.Aa F3) (by simp)))) ?_
 cases hb:Hn x.Aa p.Ae
 ·have e1:K9 x p.Ae=S8 x x.Aa:=by unfold K9;rw [hb];rfl
  have e2:Lg x p=[Oo x.Aa]:=by unfold Lg;rw [hb];rfl
  rw [e1,e2]
  refine go ?_;intros
  refine As [0,4] [] ?_
  refine dt 0 ?_
  refine dt 1 ?_
  refine dt 2 ?_
  refine dO 3 (by kernel_rfl) (by rw [List.getElem?_toArray];rfl) ?_
  apply At;rfl;kernel_rfl;exact Bf
  refine cf (Uh x.Aa.Al x.Aa.size _ x.Aa.Aj.length _ t0 t1 (by omega)) fun _ _=>?_
  refine Ap ?_
  refine dk ?_
  refine Ov 4 5 (by kernel_rfl) (by rw [List.getElem?_toArray];rfl) (by rw [List.getElem?_toArray];rfl) ?_ ?_
  ·apply Ho;rfl;rfl;rfl;rfl;exact Hl;exact Hg;intro _
   refine dk ?_
   refine dO 5 (by kernel_rfl) (by rw [List.getElem?_toArray];rfl) ?_
   apply Cs;rfl;rfl;rfl;(first|exact AggC.s|exact OneC.s);rfl;exact Cu;exact Ct;rfl
   refine dk ?_
   refine dt 6 ?_
   refine dd ?_
   refine go ?_;intros
   refine Ei (xs:=[Oo x.Aa]) (C5 _ (by show (⟨#[]⟩:ByteArray).size≤maxLen;decide)) ?_ (by simp)
   refine ret ⟨s.a,s.c,s.a2,s.c2,s.F,_,_,_⟩ trivial rfl
  ·apply Cs;rfl;rfl;rfl;(first|exact AggC.s|exact OneC.s);rfl;exact Cu;exact Ct;rfl
   refine dk ?_
   refine dO 4 (by kernel_rfl) (by rw [List.getElem?_toArray];rfl) ?_
   apply Ho;rfl;rfl;rfl;rfl;exact Hl;exact Hg;intro _
   refine dk ?_
   refine dt 6 ?_
   refine dd ?_
   refine go ?_;intros
   refine Ei (xs:=[Oo x.Aa]) (C5 _ (by show (⟨#[]⟩:ByteArray).size≤maxLen;decide)) ?_ (by simp)
   refine ret ⟨s.a,s.c,s.a2,s.c2,s.F,_,_,_⟩ trivial rfl
 refine go ?_;intros
 refine As [3,4] [] ?_
 refine dt 0 ?_
 refine dt 1 ?_
 refine dt 2 ?_
 refine dt 3 ?_
 refine dt 4 ?_
 refine dt 5 ?_
 refine dt 6 ?_
 refine dO 7 (by kernel_rfl) (by rw [List.getElem?_toArray];rfl) ?_
 apply At;rfl;kernel_rfl;exact Bf
 refine cb (fun w _=>Qt _ _ _ _ _ w t0 t1 (by omega)) ?_
 refine dk ?_
 refine dt 8 ?_
 refine dO 9 (by kernel_rfl) (by rw [List.getElem?_toArray];rfl) ?_
 apply Ho;rfl;rfl;rfl;rfl;exact Hl;exact Hg;intro _
 refine dk ?_
 refine dt 10 ?_
 refine dd ?_
 refine Jm ?_;intros
 refine Ei (xs:=[U3 x.Aa p.Ae]) (C5 _ (by show (⟨#[]⟩:ByteArray).size≤maxLen;decide)) ?_ (by simp)
 refine go ?_;intros
 refine cf (Aip x p.Ae _ F t0 t1 (by omega) hn n0 n1) fun _ _=>?_
 refine Ap ?_
 cases ht:L9 x.Aa.Al x.holds p.Ae
 ·have e1:K9 x p.Ae=⟨x.Aa,x.Ai,x.quiet,(I9 x.holds (Ew x.Aa.Al x.holds p.Ae) ⟨p.Ae,x.Ai+3⟩)⟩:=by unfold K9;rw [hb,ht];rfl
  have e2:Lg x p=[U3 x.Aa p.Ae]++[(Dj x.Aa p).1]:=by unfold Lg;rw [hb,ht];rfl
  rw [e1,e2]
  have hkk:=Tf x.Aa.Al x.holds p.Ae
  refine Tp (E:=Bj) (xs:=x.holds) ?_
  rintro _ _ e8 q1 q2
  cases e8
  refine go ?_;intros
  refine cb (fun w st=>(Zu x.Aa p _ F3 hps).val w (Il (st.get (p:=.isv Bx (.agg #[.int .i64 x.Aa.Al,.int .i64 x.Aa.size,.slice a1 x.Aa.Aj.length c1]) x.Aa F3) (by simp)))) ?_
  refine go ?_;intros
  refine Ahk (E:=Bj) (xs:=x.holds) (Ew x.Aa.Al x.holds p.Ae) (fun FT=>?_) hkk
  obtain ⟨T1,hT1⟩:∃T1,T1=x.holds.take (Ew x.Aa.Al x.holds p.Ae):=⟨_,rfl⟩
  have hT1l:T1.length=Ew x.Aa.Al x.holds p.Ae:=by rw [hT1,List.length_take];omega
  rw [←hT1]
  have hAdd:T1++[⟨p.Ae,x.Ai+3⟩]++x.holds.drop (Ew x.Aa.Al x.holds p.Ae)=(I9 x.holds (Ew x.Aa.Al x.holds p.Ae) ⟨p.Ae,x.Ai+3⟩):=by rw [hT1];unfold I9;simp
  refine E6 [4,5,6,7,10] [0,1,2,3,5,6,7,8,9,10,11,12] (fun _:Ang=>[]) (fun z=>[.row s.g 32 0 [] [.int .i64 x.Aa.Al,.int .i64 x.Aa.size,.slice s.a x.Aa.Aj.length s.c,.int .i64 x.Ai,.int .i64 x.quiet,.slice z.a (I9 x.holds (Ew x.Aa.Al x.holds p.Ae) ⟨p.Ae,x.Ai+3⟩).length z.c] [],.ow Bj 134 (.slice z.a (I9 x.holds (Ew x.Aa.Al x.holds p.Ae) ⟨p.Ae,x.Ai+3⟩).length z.c) (I9 x.holds (Ew x.Aa.Al x.holds p.Ae) ⟨p.Ae,x.Ai+3⟩) z.F]) (fun _=>True) ?_ fun z _=>?_
  ·refine Jm ?_;intros
   refine As [1,8] [] ?_
   refine dt 1 ?_
   refine dt 2 ?_
   refine dt 3 ?_
   refine dt 4 ?_ (hy:=Mc (i:=T1.length) rfl rfl (by rw [hT1l]) (by omega) (by omega))
   refine dt 6 ?_
   refine dt 9 ?_
   refine dt 10 ?_
   refine dt 11 ?_
   refine Afl 12 (Ew x.Aa.Al x.holds p.Ae) (fun a6 c6 F6=>?_)
   refine Ov 0 7 (by kernel_rfl) (by rw [List.getElem?_toArray];rfl) (by rw [List.getElem?_toArray];rfl) ?_ ?_
   ·apply Jw;rfl;intro _
    refine C9 Bj ?_
    refine dk ?_
    refine Ov 5 7 (by kernel_rfl) (by rw [List.getElem?_toArray];rfl) (by rw [List.getElem?_toArray];rfl) ?_ ?_
    ·refine Lx (ys:=T1) Hx Jl fun a7 c7 F7=>?_
     rw [List.nil_append]
     refine dk ?_
     refine dO 7 (by kernel_rfl) (by rw [List.getElem?_toArray];rfl) ?_
     apply Ho;rfl;rfl;rfl;rfl;exact Hl;exact Hg;intro _
     refine dk ?_
     refine dO 8 (by kernel_rfl) (by rw [List.getElem?_toArray];rfl) ?_
     refine Mf (Qz ⟨p.Ae,x.Ai+3⟩) Hx fun a8 c8 F8=>?_
     refine dk ?_
     refine dO 13 (by kernel_rfl) (by rw [List.getElem?_toArray];rfl) ?_
     refine Lx (ys:=x.holds.drop (Ew x.Aa.Al x.holds p.Ae)) Hx Jl (h63:=by simp;omega) (hby:=by simp;omega) fun a9 c9 F9=>?_
     refine dk ?_
     refine dt 14 ?_
     refine dO 15 (by kernel_rfl) (by rw [List.getElem?_toArray];rfl) ?_
     apply Cs;rfl;rfl;rfl;(first|exact AggC.s|exact OneC.s);rfl;exact Cu;exact Ct;rfl
     refine dk ?_
     refine dd ?_
     refine go ?_;intros
     rw [hAdd]
     refine Cd (⟨a9,c9,F9⟩:Ang) trivial
    ·apply Ho;rfl;rfl;rfl;rfl;exact Hl;exact Hg;intro _
     refine dk ?_
     refine dO 5 (by kernel_rfl) (by rw [List.getElem?_toArray];rfl) ?_
     refine Lx (ys:=T1) Hx Jl fun a7 c7 F7=>?_
     rw [List.nil_append]
     refine dk ?_
     refine dO 8 (by kernel_rfl) (by rw [List.getElem?_toArray];rfl) ?_
     refine Mf (Qz ⟨p.Ae,x.Ai+3⟩) Hx fun a8 c8 F8=>?_
     refine dk ?_
     refine dO 13 (by kernel_rfl) (by rw [List.getElem?_toArray];rfl) ?_
     refine Lx (ys:=x.holds.drop (Ew x.Aa.Al x.holds p.Ae)) Hx Jl (h63:=by simp;omega) (hby:=by simp;omega) fun a9 c9 F9=>?_
     refine dk ?_
     refine dt 14 ?_
     refine dO 15 (by kernel_rfl) (by rw [List.getElem?_toArray];rfl) ?_
     apply Cs;rfl;rfl;rfl;(first|exact AggC.s|exact OneC.s);rfl;exact Cu;exact Ct;rfl
     refine dk ?_
     refine dd ?_
     refine go ?_;intros
     rw [hAdd]
     refine Cd (⟨a9,c9,F9⟩:Ang) trivial
   ·apply Ho;rfl;rfl;rfl;rfl;exact Hl;exact Hg;intro _
    refine dk ?_
    refine dO 0 (by kernel_rfl) (by rw [List.getElem?_toArray];rfl) ?_
    apply Jw;rfl;intro _
    refine C9 Bj ?_
    refine dk ?_
    refine dO 5 (by kernel_rfl) (by rw [List.getElem?_toArray];rfl) ?_
    refine Lx (ys:=T1) Hx Jl fun a7 c7 F7=>?_
    rw [List.nil_append]
    refine dk ?_
    refine dO 8 (by kernel_rfl) (by rw [List.getElem?_toArray];rfl) ?_
    refine Mf (Qz ⟨p.Ae,x.Ai+3⟩) Hx fun a8 c8 F8=>?_
    refine dk ?_
    refine dO 13 (by kernel_rfl) (by rw [List.getElem?_toArray];rfl) ?_
    refine Lx (ys:=x.holds.drop (Ew x.Aa.Al x.holds p.Ae)) Hx Jl (h63:=by simp;omega) (hby:=by simp;omega) fun a9 c9 F9=>?_
    refine dk ?_
    refine dt 14 ?_
    refine dO 15 (by kernel_rfl) (by rw [List.getElem?_toArray];rfl) ?_
    apply Cs;rfl;rfl;rfl;(first|exact AggC.s|exact OneC.s);rfl;exact Cu;exact Ct;rfl
    refine dk ?_
    refine dd ?_
    refine go ?_;intros
    rw [hAdd]
    refine Cd (⟨a9,c9,F9⟩:Ang) trivial
  refine Ex (x:=S8 x x.Aa) ?_
  rintro b1 d1 G1 b2 d2 G2 e5 m1 m2
  simp only [Value.agg.injEq,Array.mk.injEq,List.cons.injEq,Value.slice.injEq,Value.int.injEq,true_and,and_true] at e5
  obtain ⟨-, -,⟨rfl, -,rfl⟩, -⟩:=e5
  refine A1 (E:=Bj) fun F9=>?_
  refine Dr ⟨x.Aa,x.Ai,x.quiet,(I9 x.holds (Ew x.Aa.Al x.holds p.Ae) ⟨p.Ae,x.Ai+3⟩)⟩ (a1:=s.a) ?_
  refine go ?_;intros
  refine As [4,7] [] ?_
  refine dt 0 ?_
  refine dt 1 ?_
  refine dt 2 ?_
  refine dO 3 (by kernel_rfl) (by rw [List.getElem?_toArray];rfl) ?_
  apply Ho;rfl;rfl;rfl;rfl;exact Hl;exact Hg;intro _
  refine dk ?_
  refine dO 4 (by kernel_rfl) (by rw [List.getElem?_toArray];rfl) ?_
  refine Mf (C5 (Dj x.Aa p).1 hans) Hk fun a9 c9 F9=>?_
  refine dk ?_
  refine dO 5 (by kernel_rfl) (by rw [List.getElem?_toArray];rfl) ?_
  apply Cs;rfl;rfl;rfl;(first|exact AggC.s|exact OneC.s);rfl;exact Cu;exact Ct;rfl
  refine dk ?_
  refine dt 6 ?_
  refine dd ?_
  refine go ?_;intros
  refine ret ⟨s.a,s.c,z.a,z.c,_,a9,c9,F9⟩ trivial rfl
 ·have e1:K9 x p.Ae=S8 x x.Aa:=by unfold K9;rw [hb,ht];rfl
  have e2:Lg x p=[U3 x.Aa p.Ae]:=by unfold Lg;rw [hb,ht];rfl
  rw [e1,e2]
  refine go ?_;intros
  refine ret ⟨s.a,s.c,s.a2,s.c2,s.F,_,_,_⟩ trivial rfl
theorem Acg (x:Cj) (p:Av) (v:Value) (F:List Nat) (hg:Cc x=true) (n0:0≤p.Ae) (n1:p.Ae≤65535) (hps:p.data.size≤maxLen) :
  Fn prog 125 [v,.agg #[.int .i64 p.Df,.int .i64 p.Ae,.int .i64 p.Al,.int .i64 p.Ec,.string p.data]] [.isv Dm v x F] [] (fun (_:TiS)=>True) (fun s=>.tuple #[.agg #[.int .i64 (Jy x p.Ae).Aa.Al,.int .i64 (Jy x p.Ae).Aa.size,.slice s.a (Jy x p.Ae).Aa.Aj.length s.c,.int .i64 (Jy x p.Ae).Ai,.int .i64 (Jy x p.Ae).quiet,.slice s.a2 (Jy x p.Ae).holds.length s.c2],.slice s.ae (Lg x p).length s.ce])
   (fun s=>[.isv Dm (.agg #[.int .i64 (Jy x p.Ae).Aa.Al,.int .i64 (Jy x p.Ae).Aa.size,.slice s.a (Jy x p.Ae).Aa.Aj.length s.c,.int .i64 (Jy x p.Ae).Ai,.int .i64 (Jy x p.Ae).quiet,.slice s.a2 (Jy x p.Ae).holds.length s.c2]) (Jy x p.Ae) s.F,.ow Ak 110 (.slice s.ae (Lg x p).length s.ce) (Lg x p) s.Fe]):=by
 obtain ⟨gw,hl,t0,t1,k0,k1,hm,hn,hu,hb⟩:=Ll hg
 have h:=Tt x p v F t0 t1 hl k0 (by omega) (by omega) (Yg hn) (by omega) (by omega) hps (Ys gw)
 rw [Ame hg] at h
 exact h
structure JU where
 g:Nat
 b:Option Addr
 d:Nat
 F:List Nat
theorem Aoc (n:D9) (i:Nat) (p:Av) (a1:Option Addr) (c1:Nat) (a4:Option Addr) (c4:Nat) (a5:Option Addr) (c5:Nat) (a6:Option Addr) (c6:Nat) (a7:Option Addr) (c7:Nat) (a2 a3:Option Addr) (c2 c3:Nat) (F1 FS:List Nat) (z:SZ) (hl:Je n=true) (h0:i≠0) (hi:i < n.Am.Ac.length) (h8:Ml n.Am.Ac) (hsrc:Cc n.Ab=true) (he:∀k,k≠0→k < n.Am.Ac.length→Ev n.Am.Ac (k:Nat)=false→Be (Qa n k)=true) (hp:Bp p=true) (hps:p.data.size≤maxLen) (hd:∀q∈n.down,q.length≤6) (hu:∀q∈n.up,q.length≤6) :
  Fn prog 93 [.agg #[.slice a1 n.Am.Ac.length c1,.int .i64 n.Ab.Aa.Al,.int .i64 n.Ab.Aa.size,.slice a2 n.Ab.Aa.Aj.length c2,.int .i64 n.Ab.Ai,.int .i64 n.Ab.quiet,.slice a3 n.Ab.holds.length c3,.slice a4 n.Am.Ac.length c4,.slice a5 n.Am.Ac.length c5,.slice a6 n.Am.Ac.length c6,.slice a7 n.Am.Ac.length c7],.int .i64 (i:Nat),.agg #[.int .i64 (p).Df,.int .i64 (p).Ae,.int .i64 (p).Al,.int .i64 (p).Ec,.string (p).data]] [.sl Bd (.slice a1 n.Am.Ac.length c1) n.Am.Ac F1,.isv Dm (.agg #[.int .i64 n.Ab.Aa.Al,.int .i64 n.Ab.Aa.size,.slice a2 n.Ab.Aa.Aj.length c2,.int .i64 n.Ab.Ai,.int .i64 n.Ab.quiet,.slice a3 n.Ab.holds.length c3]) n.Ab FS,.isv (EA Bn n.Am.Ac.length) (.agg z.e.ys.flatten.toArray) n.Af z.e.G,.isv (EA B4 n.Am.Ac.length) (.agg z.r.ys.flatten.toArray) n.Ad z.r.G,.isv (EA (Md Ak (by decide)) n.Am.Ac.length) (.agg z.d.ys.flatten.toArray) n.down z.d.G,.isv (EA (Md Ak (by decide)) n.Am.Ac.length) (.agg z.u.ys.flatten.toArray) n.up z.u.G] [.ow (EC 2) 77 (.slice a4 n.Am.Ac.length c4) z.e.ys z.e.F,.ow (EC 5) 84 (.slice a5 n.Am.Ac.length c5) z.r.ys z.r.F,.ow (EC 1) 86 (.slice a6 n.Am.Ac.length c6) z.d.ys z.d.F,.ow (EC 1) 86 (.slice a7 n.Am.Ac.length c7) z.u.ys z.u.F] (fun (_:SZ × Ab1)=>True) (fun y=>.agg #[.int .i64 ((Mt n i p).Ab).Aa.Al,.int .i64 ((Mt n i p).Ab).Aa.size,.slice y.2.a ((Mt n i p).Ab).Aa.Aj.length y.2.c,.int .i64 ((Mt n i p).Ab).Ai,.int .i64 ((Mt n i p).Ab).quiet,.slice y.2.a2 ((Mt n i p).Ab).holds.length y.2.c2]) (fun y=>[.ow (EC 2) 77 (.slice a4 n.Am.Ac.length c4) y.1.e.ys y.1.e.F,.ow (EC 5) 84 (.slice a5 n.Am.Ac.length c5) y.1.r.ys y.1.r.F,.ow (EC 1) 86 (.slice a6 n.Am.Ac.length c6) y.1.d.ys y.1.d.F,.ow (EC 1) 86 (.slice a7 n.Am.Ac.length c7) y.1.u.ys y.1.u.F,.isv (EA Bn n.Am.Ac.length) (.agg y.1.e.ys.flatten.toArray) (Mt n i p).Af y.1.e.G,.isv (EA B4 n.Am.Ac.length) (.agg y.1.r.ys.flatten.toArray) (Mt n i p).Ad y.1.r.G,.isv (EA (Md Ak (by decide)) n.Am.Ac.length) (.agg y.1.d.ys.flatten.toArray) (Mt n i p).down y.1.d.G,.isv (EA (Md Ak (by decide)) n.Am.Ac.length) (.agg y.1.u.ys.flatten.toArray) (Mt n i p).up y.1.u.G,.isv Dm (.agg #[.int .i64 ((Mt n i p).Ab).Aa.Al,.int .i64 ((Mt n i p).Ab).Aa.size,.slice y.2.a ((Mt n i p).Ab).Aa.Aj.length y.2.c,.int .i64 ((Mt n i p).Ab).Ai,.int .i64 ((Mt n i p).Ab).quiet,.slice y.2.a2 ((Mt n i p).Ab).holds.length y.2.c2]) (Mt n i p).Ab y.2.F]):=by
 obtain ⟨q1,q2,q3,q4⟩:=Bm.1 hl
 have hn8:=h8.n1
 obtain ⟨n0,n1⟩:=Iv hp
 have hone:∀x∈[((i:Nat):Int)],0≤x∧x.toNat < n.down.length:=fun x hx=>by
  rw [List.mem_singleton] at hx;subst hx;omega
 obtain ⟨k,hk⟩:∃k,To n i=k:=⟨_,rfl⟩
 obtain ⟨e1,e2,e3⟩:=Ag9 h8 hi h0 hk
 refine enter func93 rfl ntmps93 fun w0=>?_
 refine In (xs:=n.Am.Ac) i ?_
 rintro hi2 b o e4
 rw [e4,e1]
 refine go ?_;intros
 refine Bg rfl (fun h5=>?_) (fun h5=>?_)
 ·obtain rfl:k=0:=by omega
  rw [show Mt n i p=⟨n.Am,Jy n.Ab p.Ae,n.Af,n.Ad,Dl n.down [((i:Nat):Int)] (Lg n.Ab p),n.up⟩ by unfold Mt;rw [if_pos hk]]
  refine go ?_;intros
  refine cf (Acg n.Ab p _ FS hsrc n0 n1 hps) fun u _=>?_
  refine Ap ?_
  refine Jm ?_;intros
  refine Ei (E:=Bd) (xs:=[((i:Nat):Int)]) (Mi _) ?_ (by simp)
  refine A1 (E:=Bd) (xs:=[((i:Nat):Int)]) fun Fo=>?_
  refine A1 (E:=Ak) (xs:=Lg n.Ab p) fun Fq=>?_
  refine go ?_;intros
  refine cf (Lo n.down [((i:Nat):Int)] (Lg n.Ab p) _ _ _ _ _ _ _ _ _ _ _ _ _ _ _ _ _ _ _ _ _ _ _ _ _ z.d.ys z.d.F z.d.G _ _ Fo _ _ Fq hone hd) fun y _=>?_
  refine Ap ?_
  refine go ?_;intros
  refine ret (⟨⟨z.e,z.r,⟨y.ys,y.F,y.G⟩,z.u⟩,⟨u.a,u.c,u.a2,u.c2,u.F⟩⟩:SZ × Ab1) trivial rfl
 have h6:k≠0:=by omega
 have hkl:k < n.Af.length:=by omega
 have hku:k < n.up.length:=by omega
 have hge:Be n.Af[k]=true:=Ja hkl▸he k h6 (by omega) e3
 have hel:=(Fg.1 hge).2.1
 obtain ⟨hc0,hc1⟩:=Kt.1 (Fg.1 hge).1
 rw [show Mt n i p=⟨n.Am,n.Ab,n.Af.set k (Lf n.Af[k] p.Ae ((i:Nat):Int)),n.Ad,Dl n.down [((i:Nat):Int)] [T8 p],if V6 n.Af[k] p.Ae then n.up.modify k fun q=>E9 q [p] else n.up⟩ by unfold Mt;rw [if_neg (by omega),hk,Ja hkl]]
 refine go ?_;intros
 refine Eq (ys:=z.e.ys) fun hm hlr=>?_
 refine Zt (E:=Bn) (ys:=z.e.ys) (xs:=n.Af) k hm (by omega) (by omega) fun h2 h3 v Gi ev=>?_
 refine Ep (v:=v) (x:=n.Af[k]) ?_
 rintro b1 d1 G1 rfl l1
 have e8:z.e.ys[k]=[.int .i64 n.Af[k].Ai,.slice b1 n.Af[k].Ah.length d1]:=by simpa using ev.symm
 refine N6 (E:=EC 2) (xs:=z.e.ys) (m:=2) (Ga 2) k ?_ (by repeat (first|exact .here|apply C0.there)) rfl h2
 rintro _ g A cs B rfl k2 k3 hH
 obtain ⟨k4, -, -⟩:=k3 w0
 rw [e8] at k4
 subst k4
 dsimp only [List.append]
 refine go ?_;intros
 refine E6 [1,3,5,6,7] [0,1,2,3,4,5,6,7,8,9,10,11,12,13,14,15] (fun w:JU=>[(10,Ez w.g 0 0),(11,.bool (V6 n.Af[k] p.Ae))]) (fun w=>[.row w.g 77 0 [] [.int .i64 (Lf n.Af[k] p.Ae ((i:Nat):Int)).Ai,.slice w.b (Lf n.Af[k] p.Ae ((i:Nat):Int)).Ah.length w.d] [],.isv Bn (.agg #[.int .i64 (Lf n.Af[k] p.Ae ((i:Nat):Int)).Ai,.slice w.b (Lf n.Af[k] p.Ae ((i:Nat):Int)).Ah.length w.d]) (Lf n.Af[k] p.Ae ((i:Nat):Int)) w.F]) (fun _=>True) ?_ fun w _=>?_
 ·skip
  refine As [0,4,5] [] ?_
  refine dt 0 ?_
  refine dt 1 ?_
  refine dt 2 ?_
  refine dt 3 ?_
  refine dt 4 ?_
  refine dt 5 ?_
  refine dt 6 ?_
  refine dt 7 ?_
  refine Ov 8 12 (by kernel_rfl) (by rw [List.getElem?_toArray];rfl) (by rw [List.getElem?_toArray];rfl) ?_ ?_
  ·apply At;rfl;kernel_rfl;exact Bf
   refine cf (Rd n.Af[k] p.Ae ((i:Nat):Int) _ Gi (by omega) (fun x hx=>by have:=Mn hge hx;omega) (by omega) (by omega)) fun s _=>?_
   refine Ap ?_
   refine Ha ?_
   rintro b3 d3 G3 es l3
   rw [es]
   refine Fj (Lf n.Af[k] p.Ae ((i:Nat):Int)) ?_
   refine N0 Jj fun Fe=>?_
   refine dk ?_
   refine dt 9 ?_
   refine dt 10 ?_
   refine dt 11 ?_
   refine dO 12 (by kernel_rfl) (by rw [List.getElem?_toArray];rfl) ?_
   apply Ce;rfl;intro _
   refine dk ?_
   refine dO 13 (by kernel_rfl) (by rw [List.getElem?_toArray];rfl) ?_
   apply Cs;rfl;rfl;rfl;(first|exact AggC.s|exact OneC.s);rfl;exact Cu;exact Ct;rfl
   refine dk ?_
   refine dt 14 ?_
   refine dd ?_
   refine Cd (⟨_,b3,d3,Fe⟩:JU) trivial
  ·apply Ce;rfl;intro _
   refine dk ?_
   refine dO 8 (by kernel_rfl) (by rw [List.getElem?_toArray];rfl) ?_
   apply At;rfl;kernel_rfl;exact Bf
   refine cf (Rd n.Af[k] p.Ae ((i:Nat):Int) _ Gi (by omega) (fun x hx=>by have:=Mn hge hx;omega) (by omega) (by omega)) fun s _=>?_
   refine Ap ?_
   refine Ha ?_
   rintro b3 d3 G3 es l3
   rw [es]
   refine Fj (Lf n.Af[k] p.Ae ((i:Nat):Int)) ?_
   refine N0 Jj fun Fe=>?_
   refine dk ?_
   refine dt 9 ?_
   refine dt 10 ?_
   refine dt 11 ?_
   refine dO 13 (by kernel_rfl) (by rw [List.getElem?_toArray];rfl) ?_
   apply Cs;rfl;rfl;rfl;(first|exact AggC.s|exact OneC.s);rfl;exact Cu;exact Ct;rfl
   refine dk ?_
   refine dt 14 ?_
   refine dd ?_
   refine Cd (⟨_,b3,d3,Fe⟩:JU) trivial
 refine Jm ?_;intros
 refine Nd (E:=EC 2) (xs:=z.e.ys) [.int .i64 (Lf n.Af[k] p.Ae ((i:Nat):Int)).Ai,.slice w.b (Lf n.Af[k] p.Ae ((i:Nat):Int)).Ah.length w.d] hH (fun _=>⟨rfl,⟨rfl,by simp [Value.oneCell']⟩,rfl⟩) ?_
 refine Nv (E:=Bn) (ys:=z.e.ys) (xs:=n.Af) (x:=Lf n.Af[k] p.Ae ((i:Nat):Int)) k rfl hm (by omega) fun G'=>?_
 refine Ei (E:=Bd) (xs:=[((i:Nat):Int)]) (Mi _) ?_ (by simp)
 refine A1 (E:=Bd) (xs:=[((i:Nat):Int)]) fun Fo=>?_
 refine Ei (E:=Ak) (xs:=[T8 p]) (C5 (T8 p) (Nat.zero_le _)) ?_ (by simp)
 refine A1 (E:=Ak) (xs:=[T8 p]) fun Fp=>?_
 refine go ?_;intros
 refine cf (Lo n.down [((i:Nat):Int)] [T8 p] _ _ _ _ _ _ _ _ _ _ _ _ _ _ _ _ _ _ _ _ _ _ _ _ _ z.d.ys z.d.F z.d.G _ _ Fo _ _ Fp hone hd) fun y _=>?_
 refine Ap ?_
 cases hf:V6 n.Af[k] p.Ae
 ·rw [if_neg (by decide)]
  refine go ?_;intros
  refine ret (⟨⟨⟨z.e.ys.set k [.int .i64 (Lf n.Af[k] p.Ae ((i:Nat):Int)).Ai,.slice w.b (Lf n.Af[k] p.Ae ((i:Nat):Int)).Ah.length w.d],[g],G'⟩,z.r,⟨y.ys,y.F,y.G⟩,z.u⟩,⟨a2,c2,a3,c3,FS⟩⟩:SZ × Ab1) trivial rfl
 ·rw [if_pos rfl,Gb hku]
  have hu6:=hu _ (List.getElem_mem hku)
  refine go ?_;intros
  refine Eq (ys:=z.u.ys) fun hmu hlu=>?_
  refine Zs (ys:=z.u.ys) (xs:=n.up) k hmu (by omega) (by omega) fun h9 _ Gu=>?_
  refine Wb (x:=n.up[k]) fun a9 c9 e9 l9=>?_
  have e10:z.u.ys[k]=[.slice a9 n.up[k].length c9]:=by simpa using e9
  refine N6 (E:=EC 1) (xs:=z.u.ys) (m:=1) (Ga 1) k ?_ (by repeat (first|exact .here|apply C0.there)) rfl h9
  rintro _ gu Au cs Bu rfl j2 j3 hHu
  obtain ⟨j4, -, -⟩:=j3 w0
  rw [e10] at j4
  subst j4
  refine go ?_;intros
  refine As [0,14,15] [12] ?_
  refine dt 0 ?_
  refine dt 1 ?_
  refine dt 2 ?_
  refine dt 3 ?_
  refine dt 4 ?_
  refine dt 5 ?_
  refine dt 6 ?_
  refine dt 7 ?_
  refine dt 8 ?_
  refine dO 9 (by kernel_rfl) (by rw [List.getElem?_toArray];rfl) ?_
  apply Ho;rfl;rfl;rfl;rfl;exact Hl;exact Hg;intro _
  refine Ei (E:=Ak) (xs:=[p]) (C5 p hps) ?_ (by simp)
  refine A1 (E:=Ak) (xs:=[p]) fun Fp2=>?_
  refine dk ?_
  refine dO 10 (by kernel_rfl) (by rw [List.getElem?_toArray];rfl) ?_
  apply At;rfl;kernel_rfl;exact Bf
  refine cf (Y8 n.up[k] [p] a9 c9 _ _ _ Fp2 (by omega)) fun r _=>?_
  refine Ap ?_
  refine dk ?_
  refine dt 11 ?_
  refine dO 12 (by kernel_rfl) (by rw [List.getElem?_toArray];rfl) ?_
  apply Cs;rfl;rfl;rfl;(first|exact AggC.s|exact OneC.s);rfl;exact Cu;exact Ct;rfl
  refine Ng ?_
  refine dd ?_
  refine Nd (E:=EC 1) (xs:=z.u.ys) [.slice r.a (E9 n.up[k] [p]).length r.c] hHu (fun w=>⟨rfl,⟨rfl,by simp [Value.oneCell']⟩,rfl⟩) ?_
  refine A1 (E:=Ak) (xs:=E9 n.up[k] [p]) fun Fu=>?_
  refine Um (E:=Ak) (x:=E9 n.up[k] [p]) (by decide) ?_
  refine Nv (E:=Md Ak (by decide)) (ys:=z.u.ys) (xs:=n.up) (x:=E9 n.up[k] [p]) k rfl hmu (by omega) fun Gv=>?_
  refine go ?_;intros
  refine ret (⟨⟨⟨z.e.ys.set k [.int .i64 (Lf n.Af[k] p.Ae ((i:Nat):Int)).Ai,.slice w.b (Lf n.Af[k] p.Ae ((i:Nat):Int)).Ah.length w.d],[g],G'⟩,z.r,⟨y.ys,y.F,y.G⟩,⟨z.u.ys.set k [.slice r.a (E9 n.up[k] [p]).length r.c],[gu],Gv⟩⟩,⟨a2,c2,a3,c3,FS⟩⟩:SZ × Ab1) trivial rfl
structure TkZ where
 k:Nat
 z:SZ
 a:Option Addr
 c:Nat
 F:List Nat
theorem Aiz (n:D9) (a1:Option Addr) (c1:Nat) (a4:Option Addr) (c4:Nat) (a5:Option Addr) (c5:Nat) (a6:Option Addr) (c6:Nat) (a7:Option Addr) (c7:Nat) (a2 a3:Option Addr) (c2 c3:Nat) (F1 FS FT:List Nat) (z:SZ) (hg:Ax n=true) (hc:n.Ab.Ai < 9999) :
  Fn prog 91 [.agg #[.slice a1 n.Am.Ac.length c1,.int .i64 n.Ab.Aa.Al,.int .i64 n.Ab.Aa.size,.slice a2 n.Ab.Aa.Aj.length c2,.int .i64 n.Ab.Ai,.int .i64 n.Ab.quiet,.slice a3 n.Ab.holds.length c3,.slice a4 n.Am.Ac.length c4,.slice a5 n.Am.Ac.length c5,.slice a6 n.Am.Ac.length c6,.slice a7 n.Am.Ac.length c7]] [Lw FT,.sl Bd (.slice a1 n.Am.Ac.length c1) n.Am.Ac F1,.isv Dm (.agg #[.int .i64 n.Ab.Aa.Al,.int .i64 n.Ab.Aa.size,.slice a2 n.Ab.Aa.Aj.length c2,.int .i64 n.Ab.Ai,.int .i64 n.Ab.quiet,.slice a3 n.Ab.holds.length c3]) n.Ab FS,.isv (EA Bn n.Am.Ac.length) (.agg z.e.ys.flatten.toArray) n.Af z.e.G,.isv (EA B4 n.Am.Ac.length) (.agg z.r.ys.flatten.toArray) n.Ad z.r.G,.isv (EA (Md Ak (by decide)) n.Am.Ac.length) (.agg z.d.ys.flatten.toArray) n.down z.d.G,.isv (EA (Md Ak (by decide)) n.Am.Ac.length) (.agg z.u.ys.flatten.toArray) n.up z.u.G] [.ow (EC 2) 77 (.slice a4 n.Am.Ac.length c4) z.e.ys z.e.F,.ow (EC 5) 84 (.slice a5 n.Am.Ac.length c5) z.r.ys z.r.F,.ow (EC 1) 86 (.slice a6 n.Am.Ac.length c6) z.d.ys z.d.F,.ow (EC 1) 86 (.slice a7 n.Am.Ac.length c7) z.u.ys z.u.F] (fun (_:SZ × TiS × KA)=>True) (fun y=>.tuple #[.agg #[.int .i64 ((Bz n).1.Ab).Aa.Al,.int .i64 ((Bz n).1.Ab).Aa.size,.slice y.2.1.a ((Bz n).1.Ab).Aa.Aj.length y.2.1.c,.int .i64 ((Bz n).1.Ab).Ai,.int .i64 ((Bz n).1.Ab).quiet,.slice y.2.1.a2 ((Bz n).1.Ab).holds.length y.2.1.c2],.slice y.2.2.a (Bz n).2.length y.2.2.c]) (fun y=>[.ow (EC 2) 77 (.slice a4 n.Am.Ac.length c4) y.1.e.ys y.1.e.F,.ow (EC 5) 84 (.slice a5 n.Am.Ac.length c5) y.1.r.ys y.1.r.F,.ow (EC 1) 86 (.slice a6 n.Am.Ac.length c6) y.1.d.ys y.1.d.F,.ow (EC 1) 86 (.slice a7 n.Am.Ac.length c7) y.1.u.ys y.1.u.F,.isv (EA Bn n.Am.Ac.length) (.agg y.1.e.ys.flatten.toArray) (Bz n).1.Af y.1.e.G,.isv (EA B4 n.Am.Ac.length) (.agg y.1.r.ys.flatten.toArray) (Bz n).1.Ad y.1.r.G,.isv (EA (Md Ak (by decide)) n.Am.Ac.length) (.agg y.1.d.ys.flatten.toArray) (Bz n).1.down y.1.d.G,.isv (EA (Md Ak (by decide)) n.Am.Ac.length) (.agg y.1.u.ys.flatten.toArray) (Bz n).1.up y.1.u.G,.isv Dm (.agg #[.int .i64 ((Bz n).1.Ab).Aa.Al,.int .i64 ((Bz n).1.Ab).Aa.size,.slice y.2.1.a ((Bz n).1.Ab).Aa.Aj.length y.2.1.c,.int .i64 ((Bz n).1.Ab).Ai,.int .i64 ((Bz n).1.Ab).quiet,.slice y.2.1.a2 ((Bz n).1.Ab).holds.length y.2.1.c2]) (Bz n).1.Ab y.2.1.F,.ow Ba 9 (.slice y.2.2.a (Bz n).2.length y.2.2.c) (Bz n).2 y.2.2.F]):=by
 have hG:=A8.1 hg
 have h8:=Ff hG.t
 have hn8:=h8.n1
 have hn2:=h8.n0
 obtain ⟨q1,q2,q3,q4⟩:=Bm.1 hG.l
 have hkl:=Qr n.Am.Ac 0
 have hkx:∀x∈Gs n.Am.Ac 0,0≤x∧x.toNat < n.down.length:=fun x hx=>by have:=Jd (i:=0) h8 hx;omega
 have hd:∀q∈n.down,q.length≤6:=fun q hq=>(Do ((Iw hg).2.2.1 q hq)).1
 refine enter func91 rfl ntmps91 fun w0=>?_
 refine Ju n.Am ?_
 refine go ?_;intros
 refine cf (Air n.Ab _ FS hG.s) fun u _=>?_
 refine Ap ?_
 refine A1 (E:=Ak) (xs:=Lc n.Ab.Aa n.Ab.quiet) fun Fp=>?_
 refine go ?_;intros
 refine As [4] [] ?_
 refine dt 0 ?_
 refine dt 1 ?_
 refine dt 2 ?_
 refine dt 4 ?_
 refine dO 3 (by kernel_rfl) (by rw [List.getElem?_toArray];rfl) ?_
 apply At;rfl;kernel_rfl;exact Bf
 refine cf (M5 n.Am 0 _ F1 (O5 h8.z (Int.le_refl _)) ⟨by omega,by omega⟩) fun v _=>?_
 refine Ap ?_
 refine A1 (E:=Bd) (xs:=Gs n.Am.Ac 0) fun Fk=>?_
 refine dk ?_
 refine dO 5 (by kernel_rfl) (by rw [List.getElem?_toArray];rfl) ?_
 apply At;rfl;kernel_rfl;exact Bf
 refine cf (Lo n.down (Gs n.Am.Ac 0) (Lc n.Ab.Aa n.Ab.quiet) _ _ _ _ _ _ _ _ _ _ _ _ _ _ _ _ _ _ _ _ _ _ _ _ _ z.d.ys z.d.F z.d.G _ _ Fk _ _ Fp hkx hd) fun y _=>?_
 refine Ap ?_
 refine dk ?_
 refine dd ?_
 rw [show Dl n.down (Gs n.Am.Ac 0) (Lc n.Ab.Aa n.Ab.quiet)=(Bc n 0).1.down from rfl]
 refine go ?_;intros
 refine C9 Ba ?_
 refine go ?_;intros
 refine Cp [1,2,3,4] (fun s:TkZ=>[(6,.slice s.a (Bc n s.k).2.length s.c),(7,.int .i64 ((s.k+1:Nat):Int))]) (fun s=>[.ow (EC 2) 77 (.slice a4 n.Am.Ac.length c4) s.z.e.ys s.z.e.F,.ow (EC 5) 84 (.slice a5 n.Am.Ac.length c5) s.z.r.ys s.z.r.F,.ow (EC 1) 86 (.slice a6 n.Am.Ac.length c6) s.z.d.ys s.z.d.F,.ow (EC 1) 86 (.slice a7 n.Am.Ac.length c7) s.z.u.ys s.z.u.F,.isv (EA Bn n.Am.Ac.length) (.agg s.z.e.ys.flatten.toArray) (Bc n s.k).1.Af s.z.e.G,.isv (EA B4 n.Am.Ac.length) (.agg s.z.r.ys.flatten.toArray) (Bc n s.k).1.Ad s.z.r.G,.isv (EA (Md Ak (by decide)) n.Am.Ac.length) (.agg s.z.d.ys.flatten.toArray) (Bc n s.k).1.down s.z.d.G,.isv (EA (Md Ak (by decide)) n.Am.Ac.length) (.agg s.z.u.ys.flatten.toArray) (Bc n s.k).1.up s.z.u.G,.ow Ba 9 (.slice s.a (Bc n s.k).2.length s.c) (Bc n s.k).2 s.F]) (fun s=>s.k+1≤n.Am.Ac.length∧(Bc n s.k).2.length≤40000 * s.k) (fun s=>n.Am.Ac.length - s.k) ⟨0,⟨z.e,z.r,⟨y.ys,y.F,y.G⟩,z.u⟩,_,_,_⟩ ⟨by show 0+1≤_;omega,Nat.le_refl _⟩ fun s hs0=>?_
 obtain ⟨k,⟨⟨ye,Fe,Ge⟩,⟨yr,Fr,Gr⟩,⟨yd,Fd,Gd⟩,⟨yu,Fu,Gu⟩⟩,ea,ec,eF⟩:=s
 obtain ⟨hk,hel⟩:=hs0
 dsimp only at hk hel ⊢
 obtain ⟨hGN,hT,hSrc⟩:=Oe hg hc k (by omega)
 obtain ⟨r1,r2,r3,r4⟩:=Bm.1 hGN.l
 rw [hT] at r1 r2 r3 r4
 refine go ?_;intros
 refine Bg rfl (fun h1=>?_) (fun h1=>?_)
 ·have hj:k+1 < n.Am.Ac.length:=by omega
  obtain ⟨i1,i2,i3,i4,hrn⟩:=hGN.rn (i:=k+1) (by rw [hT];exact hj)
  rw [hT] at hrn
  obtain ⟨d0,d1_⟩:=V3 (i:=k+1)
  refine go ?_;intros
  refine cf (Nn n.Am ((k+1:Nat):Int) _ F1 h8 (by omega)) fun _ _=>?_
  refine Ap ?_
  cases hlf:Ev n.Am.Ac ((k+1:Nat):Int)
  ·obtain ⟨hge,hck, -⟩:=hrn.hn (by omega) hlf
   obtain ⟨hgc,hel5, -⟩:=Fg.1 hge
   have hnx:Bc n (k+1)=(⟨n.Am,Kb n.Ab,(Bc n k).1.Af.set (k+1) (D8 (Bc n k).1.Af[k+1]),(Bc n k).1.Ad,(Bc n k).1.down,(Bc n k).1.up⟩,(Bc n k).2++[]):=by
    show ((L8 (Bc n k).1 (k+1)).1,(Bc n k).2++(L8 (Bc n k).1 (k+1)).2)=_
    unfold L8
    rw [hT,hlf,if_neg (by decide),Ja i1,hSrc]
   rw [List.append_nil] at hnx
   refine go ?_;intros
   refine Eq (ys:=ye) fun hm hlr=>?_
   refine Zt (E:=Bn) (ys:=ye) (xs:=(Bc n k).1.Af) (k+1) hm (by omega) (by omega) fun h2 h3 v Gi ev=>?_
   generalize hE:(Bc n k).1.Af[k+1]=E at *
   refine Ep (v:=v) (x:=E) ?_
   rintro b1 d1 G1 rfl l1
   have e8:ye[k+1]=[.int .i64 E.Ai,.slice b1 E.Ah.length d1]:=by simpa using ev.symm
   refine N6 (E:=EC 2) (xs:=ye) (m:=2) (Ga 2) (k+1) ?_ (by repeat (first|exact .here|apply C0.there)) rfl h2
   rintro _ g A cs B rfl k2 k3 hH
   obtain ⟨k4, -, -⟩:=k3 w0
   rw [e8] at k4
   subst k4
   dsimp only [List.append]
   refine go ?_;intros
   refine As [0,16] [10] ?_
   refine dt 0 ?_
   refine dt 1 ?_
   refine dt 2 ?_
   refine dt 3 ?_
   refine dt 4 ?_
   refine dt 5 ?_
   refine dt 6 ?_
   refine dt 7 ?_
   refine dO 8 (by kernel_rfl) (by rw [List.getElem?_toArray];rfl) ?_
   apply At;rfl;kernel_rfl;exact Bf
   refine cr (fun w st=>Abb _ E Gi w (st.get (p:=.isv Bn (.agg #[.int .i64 E.Ai,.slice b1 E.Ah.length d1]) E Gi) (by exact B8)) hgc (by omega) (fun x hx=>by have:=Mn hge hx;omega)) fun v3 FU=>?_
   refine Ep (v:=v3) ?_
   rintro b3 d3 G3 rfl l3
   refine dk ?_
   refine dt 9 ?_
   refine dO 10 (by kernel_rfl) (by rw [List.getElem?_toArray];rfl) ?_
   apply Cs;rfl;rfl;rfl;(first|exact AggC.s|exact OneC.s);rfl;exact Cu;exact Ct;rfl
   refine Ng ?_
   refine dd ?_
   refine Nd (E:=EC 2) (xs:=ye) [.int .i64 (D8 E).Ai,.slice b3 (D8 E).Ah.length d3] hH (fun _=>⟨rfl,⟨rfl,by simp [Value.oneCell']⟩,rfl⟩) ?_
   refine Nv (E:=Bn) (ys:=ye) (xs:=(Bc n k).1.Af) (x:=D8 E) (k+1) rfl hm (by omega) fun G'=>?_
   refine go ?_;intros
   refine Ck ⟨k+1,⟨⟨ye.set (k+1) [.int .i64 (D8 E).Ai,.slice b3 (D8 E).Ah.length d3],[g],G'⟩,⟨yr,Fr,Gr⟩,⟨yd,Fd,Gd⟩,⟨yu,Fu,Gu⟩⟩,ea,ec,eF⟩ ⟨by show k+1+1≤_;omega,by rw [hnx];dsimp only;omega⟩ (by show n.Am.Ac.length - (k+1) < n.Am.Ac.length - k;omega) (by dsimp only;rw [hnx];exact frE) (by dsimp only;rw [hnx];exact hsE)
  ·obtain ⟨-,hgr0,hck⟩:=hrn.hf (by omega) hlf
   have hgr:=Gg.1 hgr0
   obtain ⟨hsm,hfew⟩:=Wu hgr
   have hnx:Bc n (k+1)=(⟨n.Am,Kb n.Ab,(Bc n k).1.Af,(Bc n k).1.Ad.set (k+1) (Cv (Bc n k).1.Ad[k+1] (Ks (k+1))),(Bc n k).1.down,(Bc n k).1.up.set (k+1) (E9 (Bc n k).1.up[k+1] (En (Bc n k).1.Ad[k+1]))⟩,(Bc n k).2++Si (k+1) (Fm (Bc n k).1.Ad[k+1])):=by
    show ((L8 (Bc n k).1 (k+1)).1,(Bc n k).2++(L8 (Bc n k).1 (k+1)).2)=_
    unfold L8
    rw [hT,hlf,if_pos rfl,Hp i2,hSrc,Gb i4]
   have htl:(Si (k+1) (Fm (Bc n k).1.Ad[k+1])).length=(Fm (Bc n k).1.Ad[k+1]).length:=List.length_map ..
   have hu6:=(Do hrn.hu).1
   generalize hR:(Bc n k).1.Ad[k+1]=R at *
   generalize hQ:(Bc n k).1.up[k+1]=Q at *
   refine go ?_;intros
   refine Eq (ys:=yr) fun hm hlr=>?_
   refine Zt (E:=B4) (ys:=yr) (xs:=(Bc n k).1.Ad) (k+1) hm (by omega) (by omega) fun h2 h3 v Gi ev=>?_
   rw [hR]
   refine E8 (v:=v) (x:=R) ?_
   rintro b1 d1 G1 b2 d2 G2 rfl l1 l2
   have e8:yr[k+1]=[.bool (R).Bh,.int .i64 (R).Ai,.int .i64 (R).Aa.next,.slice b1 (R).Aa.Ao.length d1,.slice b2 (R).Ar.length d2]:=by simpa using ev.symm
   refine N6 (E:=EC 5) (xs:=yr) (m:=5) (Ga 5) (k+1) ?_ (by repeat (first|exact .here|apply C0.there)) rfl h2
   rintro _ g A cs B rfl k2 k3 hH
   obtain ⟨k4, -, -⟩:=k3 w0
   rw [e8] at k4
   subst k4
   dsimp only [List.append]
   refine go ?_;intros
   refine E6 [1,2,3,4,6,7] [0,1,2,3,4,5,6,7,8,9,10,11,12,13,14,15,16,17,18,19,20,21,22] (fun w:Nat × TkR=>[(8,Ez w.1 0 0),(9,.slice w.2.a3 (En R).length w.2.c3),(10,.slice w.2.a4 (Fm R).length w.2.c4)]) (fun w=>[.row w.1 84 0 [] [.bool (Cv R (Ks (k+1))).Bh,.int .i64 (Cv R (Ks (k+1))).Ai,.int .i64 (Cv R (Ks (k+1))).Aa.next,.slice w.2.a1 (Cv R (Ks (k+1))).Aa.Ao.length w.2.c1,.slice w.2.a2 (Cv R (Ks (k+1))).Ar.length w.2.c2] [],.isv B4 (.agg #[.bool (Cv R (Ks (k+1))).Bh,.int .i64 (Cv R (Ks (k+1))).Ai,.int .i64 (Cv R (Ks (k+1))).Aa.next,.slice w.2.a1 (Cv R (Ks (k+1))).Aa.Ao.length w.2.c1,.slice w.2.a2 (Cv R (Ks (k+1))).Ar.length w.2.c2]) (Cv R (Ks (k+1))) w.2.F1,.ow Ak 110 (.slice w.2.a3 (En R).length w.2.c3) (En R) w.2.F3,.ow Ba 9 (.slice w.2.a4 (Fm R).length w.2.c4) (Fm R) w.2.F4]) (fun _=>True) ?_ fun w _=>?_
   ·skip
    refine As [0,17] [] ?_
    refine dt 0 ?_
    refine dt 1 ?_
    refine dt 2 ?_
    refine dt 3 ?_
    refine dt 4 ?_
    refine dt 5 ?_
    refine Ov 6 12 (by kernel_rfl) (by rw [List.getElem?_toArray];rfl) (by rw [List.getElem?_toArray];rfl) ?_ ?_
    ·apply At;rfl;kernel_rfl;exact Bf
     refine cf (Re (k+1) (by omega)) fun _ _=>?_
     refine Ap ?_
     refine dk ?_
     refine Ov 7 12 (by kernel_rfl) (by rw [List.getElem?_toArray];rfl) (by rw [List.getElem?_toArray];rfl) ?_ ?_
     ·apply At;rfl;kernel_rfl;exact Bf
      refine cf (Wf R (Ks (k+1)) _ Gi hgr (by omega) (by omega) (by have:=hgr.k1;omega)) fun s _=>?_
      refine Ap ?_
      refine dk ?_
      refine dt 8 ?_
      refine dt 9 ?_
      refine dt 10 ?_
      refine dt 11 ?_
      refine dO 12 (by kernel_rfl) (by rw [List.getElem?_toArray];rfl) ?_
      apply Ce;rfl;intro _
      refine dk ?_
      refine dO 13 (by kernel_rfl) (by rw [List.getElem?_toArray];rfl) ?_
      apply Cs;rfl;rfl;rfl;(first|exact AggC.s|exact OneC.s);rfl;exact Cu;exact Ct;rfl
      refine dk ?_
      refine dt 14 ?_
      refine dt 15 ?_
      refine dd ?_
      refine Cd (⟨_,s⟩:Nat × TkR) trivial
     ·apply Ce;rfl;intro _
      refine dk ?_
      refine dO 7 (by kernel_rfl) (by rw [List.getElem?_toArray];rfl) ?_
      apply At;rfl;kernel_rfl;exact Bf
      refine cf (Wf R (Ks (k+1)) _ Gi hgr (by omega) (by omega) (by have:=hgr.k1;omega)) fun s _=>?_
      refine Ap ?_
      refine dk ?_
      refine dt 8 ?_
      refine dt 9 ?_
      refine dt 10 ?_
      refine dt 11 ?_
      refine dO 13 (by kernel_rfl) (by rw [List.getElem?_toArray];rfl) ?_
      apply Cs;rfl;rfl;rfl;(first|exact AggC.s|exact OneC.s);rfl;exact Cu;exact Ct;rfl
      refine dk ?_
      refine dt 14 ?_
      refine dt 15 ?_
      refine dd ?_
      refine Cd (⟨_,s⟩:Nat × TkR) trivial
    ·apply Ce;rfl;intro _
     refine dk ?_
     refine dO 6 (by kernel_rfl) (by rw [List.getElem?_toArray];rfl) ?_
     apply At;rfl;kernel_rfl;exact Bf
     refine cf (Re (k+1) (by omega)) fun _ _=>?_
     refine Ap ?_
     refine dk ?_
     refine dO 7 (by kernel_rfl) (by rw [List.getElem?_toArray];rfl) ?_
     apply At;rfl;kernel_rfl;exact Bf
     refine cf (Wf R (Ks (k+1)) _ Gi hgr (by omega) (by omega) (by have:=hgr.k1;omega)) fun s _=>?_
     refine Ap ?_
     refine dk ?_
     refine dt 8 ?_
     refine dt 9 ?_
     refine dt 10 ?_
     refine dt 11 ?_
     refine dO 13 (by kernel_rfl) (by rw [List.getElem?_toArray];rfl) ?_
     apply Cs;rfl;rfl;rfl;(first|exact AggC.s|exact OneC.s);rfl;exact Cu;exact Ct;rfl
     refine dk ?_
     refine dt 14 ?_
     refine dt 15 ?_
     refine dd ?_
     refine Cd (⟨_,s⟩:Nat × TkR) trivial
   obtain ⟨gr,s⟩:=w
   dsimp only
   refine Jm ?_;intros
   refine Nd (E:=EC 5) (xs:=yr) [.bool (Cv R (Ks (k+1))).Bh,.int .i64 (Cv R (Ks (k+1))).Ai,.int .i64 (Cv R (Ks (k+1))).Aa.next,.slice s.a1 (Cv R (Ks (k+1))).Aa.Ao.length s.c1,.slice s.a2 (Cv R (Ks (k+1))).Ar.length s.c2] hH (fun _=>⟨rfl,⟨rfl,by simp [Value.oneCell']⟩,rfl⟩) ?_
   refine Nv (E:=B4) (ys:=yr) (xs:=(Bc n k).1.Ad) (x:=Cv R (Ks (k+1))) (k+1) rfl hm (by omega) fun G'=>?_
   refine A1 (E:=Ak) (xs:=En R) fun Fp9=>?_
   refine Eq (ys:=yu) fun hmu hlu=>?_
   refine Zs (ys:=yu) (xs:=(Bc n k).1.up) (k+1) hmu (by omega) (by omega) fun h9 _ Gq=>?_
   rw [hQ]
   refine Wb (x:=Q) fun a9 c9 e9 l9=>?_
   have e10:yu[k+1]=[.slice a9 Q.length c9]:=by simpa using e9
   refine N6 (E:=EC 1) (xs:=yu) (m:=1) (Ga 1) (k+1) ?_ (by repeat (first|exact .here|apply C0.there)) rfl h9
   rintro _ gu Au cs Bu rfl j2 j3 hHu
   obtain ⟨j4, -, -⟩:=j3 w0
   rw [e10] at j4
   subst j4
   refine go ?_;intros
   refine As [0,24] [11] ?_
   refine dt 0 ?_
   refine dt 1 ?_
   refine dt 2 ?_
   refine dt 3 ?_
   refine dt 4 ?_
   refine dt 5 ?_
   refine dt 6 ?_
   refine dt 7 ?_
   refine dt 8 ?_
   refine dO 9 (by kernel_rfl) (by rw [List.getElem?_toArray];rfl) ?_
   apply At;rfl;kernel_rfl;exact Bf
   refine cf (Y8 Q (En R) a9 c9 _ _ _ Fp9 (by omega)) fun r _=>?_
   refine Ap ?_
   refine dk ?_
   refine dt 10 ?_
   refine dO 11 (by kernel_rfl) (by rw [List.getElem?_toArray];rfl) ?_
   apply Cs;rfl;rfl;rfl;(first|exact AggC.s|exact OneC.s);rfl;exact Cu;exact Ct;rfl
   refine Ng ?_
   refine dd ?_
   refine Nd (E:=EC 1) (xs:=yu) [.slice r.a (E9 Q (En R)).length r.c] hHu (fun _=>⟨rfl,⟨rfl,by simp [Value.oneCell']⟩,rfl⟩) ?_
   refine A1 (E:=Ak) (xs:=E9 Q (En R)) fun Fu=>?_
   refine Um (E:=Ak) (x:=E9 Q (En R)) (by decide) ?_
   refine Nv (E:=Md Ak (by decide)) (ys:=yu) (xs:=(Bc n k).1.up) (x:=E9 Q (En R)) (k+1) rfl hmu (by omega) fun Gv=>?_
   refine A1 (E:=Ba) (xs:=Fm R) fun F7=>?_
   refine go ?_;intros
   refine cf (Abc (k+1) (Fm R) _ _ F7 FT (by omega) (by omega) hsm) fun u9 _=>?_
   refine Ap ?_
   refine A1 (E:=Ba) (xs:=Si (k+1) (Fm R)) fun F8=>?_
   apply wO
   refine Lx (E:=Ba) (xs:=(Bc n k).2) (ys:=Si (k+1) (Fm R)) Ed Hf fun ax cx Fx=>?_
   refine go ?_;intros
   refine Ck ⟨k+1,⟨⟨ye,Fe,Ge⟩,⟨yr.set (k+1) [.bool (Cv R (Ks (k+1))).Bh,.int .i64 (Cv R (Ks (k+1))).Ai,.int .i64 (Cv R (Ks (k+1))).Aa.next,.slice s.a1 (Cv R (Ks (k+1))).Aa.Ao.length s.c1,.slice s.a2 (Cv R (Ks (k+1))).Ar.length s.c2],[g],G'⟩,⟨yd,Fd,Gd⟩,⟨yu.set (k+1) [.slice r.a (E9 Q (En R)).length r.c],[gu],Gv⟩⟩,ax,cx,Fx⟩ ⟨by show k+1+1≤_;omega,by rw [hnx];dsimp only;rw [List.length_append,htl];omega⟩ (by show n.Am.Ac.length - (k+1) < n.Am.Ac.length - k;omega) (by dsimp only;rw [hnx];exact frE) (by dsimp only;rw [hnx];exact hsE)
 ·have hke:n.Am.Ac.length - 1=k:=by omega
  rw [show Bz n=Bc n k by unfold Bz;rw [hke],hSrc]
  refine go ?_;intros
  refine ret (⟨⟨⟨ye,Fe,Ge⟩,⟨yr,Fr,Gr⟩,⟨yd,Fd,Gd⟩,⟨yu,Fu,Gu⟩⟩,u,⟨0,ea,ec,eF⟩⟩:SZ × TiS × KA) trivial rfl
structure OwN where
 g:Nat
 a1:Option Addr
 c1:Nat
 F1:List Nat
 s:Ab1
structure OwK where
 k:Nat
 a4:Option Addr
 c4:Nat
 F4:List Nat
 a5:Option Addr
 c5:Nat
 F5:List Nat
 a6:Option Addr
 c6:Nat
 F6:List Nat
 a7:Option Addr
 c7:Nat
 F7:List Nat
theorem Vh:W0 (Hi Ak 110):=fun h u hu=>by
 obtain ⟨v,rfl,h⟩:=h
 obtain rfl:=List.mem_singleton.1 hu
 rcases h with ⟨rfl, -, -⟩|⟨b,cap,cs,rest,G,rfl, -⟩ <;> rfl
theorem Agk {x:Cj} (hg:Cc x=true):Ae5 x x.Aa=x:=by
 obtain ⟨gw,hl,t0,t1,k0,k1,hm,hn,hu,hb⟩:=Ll hg
 unfold Ae5
 rw [←Ss hu,Ue hg]
theorem Ad9 (n:D9) (v:Value) (F:List Nat) (hg:Ax n=true):Fn prog 49 [v] [.isv Le v n F] [] (fun (_:OwN × OwK)=>True) (fun z=>.agg #[.slice z.1.a1 n.Am.Ac.length z.1.c1,.int .i64 (n.Ab).Aa.Al,.int .i64 (n.Ab).Aa.size,.slice z.1.s.a (n.Ab).Aa.Aj.length z.1.s.c,.int .i64 (n.Ab).Ai,.int .i64 (n.Ab).quiet,.slice z.1.s.a2 (n.Ab).holds.length z.1.s.c2,.slice z.2.a4 (n.Af).length z.2.c4,.slice z.2.a5 (n.Ad).length z.2.c5,.slice z.2.a6 (n.down).length z.2.c6,.slice z.2.a7 (n.up).length z.2.c7]) (fun z=>[.ow Bd 3 (.slice z.1.a1 n.Am.Ac.length z.1.c1) n.Am.Ac z.1.F1,.isv Dm (.agg #[.int .i64 (n.Ab).Aa.Al,.int .i64 (n.Ab).Aa.size,.slice z.1.s.a (n.Ab).Aa.Aj.length z.1.s.c,.int .i64 (n.Ab).Ai,.int .i64 (n.Ab).quiet,.slice z.1.s.a2 (n.Ab).holds.length z.1.s.c2]) n.Ab z.1.s.F,.ow Bt 77 (.slice z.2.a4 (n.Af).length z.2.c4) (n.Af) z.2.F4,.ow Bk 84 (.slice z.2.a5 (n.Ad).length z.2.c5) (n.Ad) z.2.F5,.ow (Hi Ak 110) 86 (.slice z.2.a6 (n.down).length z.2.c6) (n.down) z.2.F6,.ow (Hi Ak 110) 86 (.slice z.2.a7 (n.up).length z.2.c7) (n.up) z.2.F7]):=by
 have hG:=A8.1 hg
 have h8:=(Ff hG.t).n1
 have hS:=Ll hG.s
 have hSl:=hS.l
 have hSm:=hS.m
 obtain ⟨q1,q2,q3,q4⟩:=Bm.1 hG.l
 obtain ⟨g1,g2,g3,g4⟩:=Iw hg
 refine enter func49 rfl ntmps49 fun w0=>?_
 refine Di ?_
 rintro a1 c1 F1 a2 c2 F2 a3 c3 F3 a4 c4 F4 a5 c5 F5 a6 c6 F6 a7 c7 F7 rfl l1 l2 l3 l4 l5 l6 l7
 refine Dr n.Ab ?_
 refine Ch n.Ab.Aa (a1:=a2) ?_
 have hW:=fun vw Fw=>Ais n.Ab n.Ab.Aa (.agg #[.int .i64 n.Ab.Aa.Al,.int .i64 n.Ab.Aa.size,.slice a2 n.Ab.Aa.Aj.length c2,.int .i64 n.Ab.Ai,.int .i64 n.Ab.quiet,.slice a3 n.Ab.holds.length c3]) vw (F2++F3) Fw hS.t0 hS.t1 (by omega) hS.n hS.u
 rw [Agk hG.s,show Ln n.Ab.Aa n.Ab.holds=n.Ab.holds by rw [←Ss hS.u,Ue hG.s]] at hW
 refine go ?_;intros
 refine E6 [1,2] [0,1,2,3,4,5,6,7,8,9,10,11] (fun w:OwN=>[(3,Ez w.g 0 0)]) (fun w=>[.row w.g 37 0 [] [.slice w.a1 n.Am.Ac.length w.c1,.int .i64 (n.Ab).Aa.Al,.int .i64 (n.Ab).Aa.size,.slice w.s.a (n.Ab).Aa.Aj.length w.s.c,.int .i64 (n.Ab).Ai,.int .i64 (n.Ab).quiet,.slice w.s.a2 (n.Ab).holds.length w.s.c2,.slice none 0 0,.slice none 0 0,.slice none 0 0,.slice none 0 0] [],.ow Bd 3 (.slice w.a1 n.Am.Ac.length w.c1) n.Am.Ac w.F1,.isv Dm (.agg #[.int .i64 (n.Ab).Aa.Al,.int .i64 (n.Ab).Aa.size,.slice w.s.a (n.Ab).Aa.Aj.length w.s.c,.int .i64 (n.Ab).Ai,.int .i64 (n.Ab).quiet,.slice w.s.a2 (n.Ab).holds.length w.s.c2]) n.Ab w.s.F]) (fun _=>True) ?_ fun w _=>?_
 ·skip
  refine As [1] [] ?_
  refine dt 0 ?_
  refine dt 1 ?_
  refine dt 2 ?_
  refine dt 5 ?_
  refine dt 6 ?_
  refine dt 7 ?_
  refine dt 8 ?_
  refine dt 9 ?_
  refine Ov 3 13 (by kernel_rfl) (by rw [List.getElem?_toArray];rfl) (by rw [List.getElem?_toArray];rfl) ?_ ?_
  ·apply At;rfl;kernel_rfl;exact Bf
   refine cn (fun w st=>X7 _ n.Am.Ac F1 w (st.get (p:=.sl Bd (.slice a1 n.Am.Ac.length c1) n.Am.Ac F1) (by exact B8)).2 (by omega)) fun b1 d1 G1=>?_
   refine dk ?_
   refine dt 4 ?_
   refine Ov 10 13 (by kernel_rfl) (by rw [List.getElem?_toArray];rfl) (by rw [List.getElem?_toArray];rfl) ?_ ?_
   ·apply At;rfl;kernel_rfl;exact Bf
    refine cf (O6 n.Ab.Aa _ F2 hS.t0 hS.t1 (by omega)) fun y _=>?_
    refine Ap ?_
    refine Ik ?_
    rintro a9 c9 F9 e9 l9
    rw [e9]
    refine A1 (xs:=n.Ab.Aa.Aj) fun F8=>?_
    refine Ch n.Ab.Aa (a1:=a9) ?_
    refine dk ?_
    refine Ov 11 13 (by kernel_rfl) (by rw [List.getElem?_toArray];rfl) (by rw [List.getElem?_toArray];rfl) ?_ ?_
    ·apply At;rfl;kernel_rfl;exact Bf
     refine cf (hW _ F8) fun s _=>?_
     refine Ap ?_
     refine dk ?_
     refine dt 12 ?_
     refine dO 13 (by kernel_rfl) (by rw [List.getElem?_toArray];rfl) ?_
     apply Ce;rfl;intro _
     refine dk ?_
     refine dO 14 (by kernel_rfl) (by rw [List.getElem?_toArray];rfl) ?_
     apply Cs;rfl;rfl;rfl;(first|exact AggC.s|exact OneC.s);rfl;exact Cu;exact Ct;rfl
     refine dk ?_
     refine dd ?_
     refine Cd (⟨_,b1,d1,G1,s⟩:OwN) trivial
    ·apply Ce;rfl;intro _
     refine dk ?_
     refine dO 11 (by kernel_rfl) (by rw [List.getElem?_toArray];rfl) ?_
     apply At;rfl;kernel_rfl;exact Bf
     refine cf (hW _ F8) fun s _=>?_
     refine Ap ?_
     refine dk ?_
     refine dt 12 ?_
     refine dO 14 (by kernel_rfl) (by rw [List.getElem?_toArray];rfl) ?_
     apply Cs;rfl;rfl;rfl;(first|exact AggC.s|exact OneC.s);rfl;exact Cu;exact Ct;rfl
     refine dk ?_
     refine dd ?_
     refine Cd (⟨_,b1,d1,G1,s⟩:OwN) trivial
   ·apply Ce;rfl;intro _
    refine dk ?_
    refine dO 10 (by kernel_rfl) (by rw [List.getElem?_toArray];rfl) ?_
    apply At;rfl;kernel_rfl;exact Bf
    refine cf (O6 n.Ab.Aa _ F2 hS.t0 hS.t1 (by omega)) fun y _=>?_
    refine Ap ?_
    refine Ik ?_
    rintro a9 c9 F9 e9 l9
    rw [e9]
    refine A1 (xs:=n.Ab.Aa.Aj) fun F8=>?_
    refine Ch n.Ab.Aa (a1:=a9) ?_
    refine dk ?_
    refine dO 11 (by kernel_rfl) (by rw [List.getElem?_toArray];rfl) ?_
    apply At;rfl;kernel_rfl;exact Bf
    refine cf (hW _ F8) fun s _=>?_
    refine Ap ?_
    refine dk ?_
    refine dt 12 ?_
    refine dO 14 (by kernel_rfl) (by rw [List.getElem?_toArray];rfl) ?_
    apply Cs;rfl;rfl;rfl;(first|exact AggC.s|exact OneC.s);rfl;exact Cu;exact Ct;rfl
    refine dk ?_
    refine dd ?_
    refine Cd (⟨_,b1,d1,G1,s⟩:OwN) trivial
  ·apply Ce;rfl;intro _
   refine dk ?_
   refine dO 3 (by kernel_rfl) (by rw [List.getElem?_toArray];rfl) ?_
   apply At;rfl;kernel_rfl;exact Bf
   refine cn (fun w st=>X7 _ n.Am.Ac F1 w (st.get (p:=.sl Bd (.slice a1 n.Am.Ac.length c1) n.Am.Ac F1) (by exact B8)).2 (by omega)) fun b1 d1 G1=>?_
   refine dk ?_
   refine dt 4 ?_
   refine dO 10 (by kernel_rfl) (by rw [List.getElem?_toArray];rfl) ?_
   apply At;rfl;kernel_rfl;exact Bf
   refine cf (O6 n.Ab.Aa _ F2 hS.t0 hS.t1 (by omega)) fun y _=>?_
   refine Ap ?_
   refine Ik ?_
   rintro a9 c9 F9 e9 l9
   rw [e9]
   refine A1 (xs:=n.Ab.Aa.Aj) fun F8=>?_
   refine Ch n.Ab.Aa (a1:=a9) ?_
   refine dk ?_
   refine dO 11 (by kernel_rfl) (by rw [List.getElem?_toArray];rfl) ?_
   apply At;rfl;kernel_rfl;exact Bf
   refine cf (hW _ F8) fun s _=>?_
   refine Ap ?_
   refine dk ?_
   refine dt 12 ?_
   refine dO 14 (by kernel_rfl) (by rw [List.getElem?_toArray];rfl) ?_
   apply Cs;rfl;rfl;rfl;(first|exact AggC.s|exact OneC.s);rfl;exact Cu;exact Ct;rfl
   refine dk ?_
   refine dd ?_
   refine Cd (⟨_,b1,d1,G1,s⟩:OwN) trivial
 refine Cb Bt 77 ?_
 refine Cb Bk 84 ?_
 refine Cb (Hi Ak 110) 86 ?_
 refine Cb (Hi Ak 110) 86 ?_
 refine go ?_;intros
 refine Cp [1,2,3] (fun y:OwK=>[(4,.int .i64 (y.k:Nat))]) (fun y=>[.row w.g 37 0 [] [.slice w.a1 n.Am.Ac.length w.c1,.int .i64 (n.Ab).Aa.Al,.int .i64 (n.Ab).Aa.size,.slice w.s.a (n.Ab).Aa.Aj.length w.s.c,.int .i64 (n.Ab).Ai,.int .i64 (n.Ab).quiet,.slice w.s.a2 (n.Ab).holds.length w.s.c2,.slice y.a4 (n.Af.take y.k).length y.c4,.slice y.a5 (n.Ad.take y.k).length y.c5,.slice y.a6 (n.down.take y.k).length y.c6,.slice y.a7 (n.up.take y.k).length y.c7] [],.ow Bt 77 (.slice y.a4 (n.Af.take y.k).length y.c4) (n.Af.take y.k) y.F4,.ow Bk 84 (.slice y.a5 (n.Ad.take y.k).length y.c5) (n.Ad.take y.k) y.F5,.ow (Hi Ak 110) 86 (.slice y.a6 (n.down.take y.k).length y.c6) (n.down.take y.k) y.F6,.ow (Hi Ak 110) 86 (.slice y.a7 (n.up.take y.k).length y.c7) (n.up.take y.k) y.F7]) (fun y=>y.k≤n.Af.length) (fun y=>n.Af.length - y.k) ⟨0,none,0,[],none,0,[],none,0,[],none,0,[]⟩ (Nat.zero_le _) fun y hy=>?_
 refine go ?_;intros
 refine Bg rfl (fun h1=>?_) (fun h1=>?_)
 ·have hk:y.k < n.Af.length:=by omega
  have hk5:y.k < n.Ad.length:=by omega
  have hk6:y.k < n.down.length:=by omega
  have hk7:y.k < n.up.length:=by omega
  have t4:(n.Af.take y.k).length≤8:=by rw [List.length_take];omega
  have t5:(n.Ad.take y.k).length≤8:=by rw [List.length_take];omega
  have t6:(n.down.take y.k).length≤8:=by rw [List.length_take];omega
  have t7:(n.up.take y.k).length≤8:=by rw [List.length_take];omega
  have hge:=g1 _ (List.getElem_mem hk)
  have hel:=(Fg.1 hge).2.1
  have hgr:=Gg.1 (g2 _ (List.getElem_mem hk5))
  have hrs:=(Ix hgr.w).1
  have hrq:=(Dq.1 hgr.q).2.1
  have hd6:=(Do (g3 _ (List.getElem_mem hk6))).1
  have hu6:=(Do (g4 _ (List.getElem_mem hk7))).1
  refine O1 (xs:=n.Af) y.k ?_
  rintro hi4 b4 o4 a8 c8 F8 e4 l8
  rw [e4]
  refine E7 n.Af[y.k] ?_
  dsimp only [List.append]
  refine go ?_;intros
  refine As [1,3,11] [11] ?_
  refine dt 0 ?_
  refine dt 1 ?_
  refine dt 2 ?_
  refine dt 3 ?_
  refine dt 4 ?_
  refine dt 5 ?_
  refine dt 6 ?_
  refine dO 7 (by kernel_rfl) (by rw [List.getElem?_toArray];rfl) ?_
  apply At;rfl;kernel_rfl;exact Bf
  refine cv (fun w2 st=>Vc _ n.Af[y.k] F8 w2 (st.get (p:=.isv Bn (.agg #[.int .i64 n.Af[y.k].Ai,.slice a8 n.Af[y.k].Ah.length c8]) n.Af[y.k] F8) (by exact B8)) (by omega) (fun x hx=>by have:=Mn hge hx;omega)) fun v9 F9=>?_
  refine Ha (x:=n.Af[y.k]) ?_
  rintro a9 c9 F10 rfl l9
  refine Fj n.Af[y.k] ?_
  refine dk ?_
  refine dO 8 (by kernel_rfl) (by rw [List.getElem?_toArray];rfl) ?_
  apply Ho;rfl;rfl;rfl;rfl;exact Hl;exact Hg;intro _
  refine dk ?_
  refine dO 9 (by kernel_rfl) (by rw [List.getElem?_toArray];rfl) ?_
  refine Ab3 Rj n.Af[y.k] rfl fun x4 d4 G4=>?_
  refine dk ?_
  refine dt 10 ?_
  refine dO 11 (by kernel_rfl) (by rw [List.getElem?_toArray];rfl) ?_
  apply Cs;rfl;rfl;rfl;(first|exact AggC.s|exact OneC.s);rfl;exact Cu;exact Ct;rfl
  refine Ng ?_
  refine dd ?_
  rw [←List.take_succ_eq_append_getElem hk]
  refine Lj (xs:=n.Ad) y.k ?_
  rintro hi5 b5 o5 a11 c11 F11 a12 c12 F12 e5 l11 l12
  rw [e5]
  refine Em n.Ad[y.k] ?_
  dsimp only [List.append]
  refine go ?_;intros
  refine As [1,8,15] [11] ?_
  refine dt 0 ?_
  refine dt 1 ?_
  refine dt 2 ?_
  refine dt 3 ?_
  refine dt 4 ?_
  refine dt 5 ?_
  refine dt 6 ?_
  refine dO 7 (by kernel_rfl) (by rw [List.getElem?_toArray];rfl) ?_
  apply At;rfl;kernel_rfl;exact Bf
  refine cf (Qs n.Ad[y.k] _ _ (by omega) (by omega)) fun s9 _=>?_
  refine Ap ?_
  refine H9 (x:=n.Ad[y.k]) ?_
  rintro a9 c9 G9 a10 c10 G10 e9 l9 l10
  rw [e9]
  refine Js n.Ad[y.k] ?_
  refine dk ?_
  refine dO 8 (by kernel_rfl) (by rw [List.getElem?_toArray];rfl) ?_
  apply Ho;rfl;rfl;rfl;rfl;exact Hl;exact Hg;intro _
  refine dk ?_
  refine dO 9 (by kernel_rfl) (by rw [List.getElem?_toArray];rfl) ?_
  refine Ab3 Qb n.Ad[y.k] rfl fun x5 d5 G5=>?_
  refine dk ?_
  refine dt 10 ?_
  refine dO 11 (by kernel_rfl) (by rw [List.getElem?_toArray];rfl) ?_
  apply Cs;rfl;rfl;rfl;(first|exact AggC.s|exact OneC.s);rfl;exact Cu;exact Ct;rfl
  refine Ng ?_
  refine dd ?_
  rw [←List.take_succ_eq_append_getElem hk5]
  refine Kw (E:=Ak) (hz:=by decide) (xs:=n.down) y.k ?_
  rintro hi6 b6 o6 a13 c13 F13 e6 l13
  rw [e6]
  refine go ?_;intros
  refine As [0,11,17] [12] ?_
  refine dt 0 ?_
  refine dt 1 ?_
  refine dt 3 ?_
  refine dt 4 ?_
  refine dt 5 ?_
  refine dt 6 ?_
  refine dt 7 ?_
  refine dO 2 (by kernel_rfl) (by rw [List.getElem?_toArray];rfl) ?_
  apply Jw;rfl;intro _
  refine C9 Ak ?_
  refine dk ?_
  refine dO 8 (by kernel_rfl) (by rw [List.getElem?_toArray];rfl) ?_
  refine Lx Hk Jh fun a9 c9 F9=>?_
  rw [List.nil_append]
  refine Jt n.down[y.k] ?_
  refine dk ?_
  refine dO 9 (by kernel_rfl) (by rw [List.getElem?_toArray];rfl) ?_
  apply Ho;rfl;rfl;rfl;rfl;exact Hl;exact Hg;intro _
  refine dk ?_
  refine dO 10 (by kernel_rfl) (by rw [List.getElem?_toArray];rfl) ?_
  refine Ab3 (Vh) n.down[y.k] rfl fun x6 d6 G6=>?_
  refine dk ?_
  refine dt 11 ?_
  refine dO 12 (by kernel_rfl) (by rw [List.getElem?_toArray];rfl) ?_
  apply Cs;rfl;rfl;rfl;(first|exact AggC.s|exact OneC.s);rfl;exact Cu;exact Ct;rfl
  refine Ng ?_
  refine dd ?_
  rw [←List.take_succ_eq_append_getElem hk6]
  refine Kw (E:=Ak) (hz:=by decide) (xs:=n.up) y.k ?_
  rintro hi7 b7 o7 a14 c14 F14 e7 l14
  rw [e7]
  refine go ?_;intros
  refine As [0,14,19] [12] ?_
  refine dt 0 ?_
  refine dt 1 ?_
  refine dt 3 ?_
  refine dt 4 ?_
  refine dt 5 ?_
  refine dt 6 ?_
  refine dt 7 ?_
  refine dO 2 (by kernel_rfl) (by rw [List.getElem?_toArray];rfl) ?_
  apply Jw;rfl;intro _
  refine C9 Ak ?_
  refine dk ?_
  refine dO 8 (by kernel_rfl) (by rw [List.getElem?_toArray];rfl) ?_
  refine Lx Hk Jh fun a9 c9 F9=>?_
  rw [List.nil_append]
  refine Jt n.up[y.k] ?_
  refine dk ?_
  refine dO 9 (by kernel_rfl) (by rw [List.getElem?_toArray];rfl) ?_
  apply Ho;rfl;rfl;rfl;rfl;exact Hl;exact Hg;intro _
  refine dk ?_
  refine dO 10 (by kernel_rfl) (by rw [List.getElem?_toArray];rfl) ?_
  refine Ab3 (Vh) n.up[y.k] rfl fun x7 d7 G7=>?_
  refine dk ?_
  refine dt 11 ?_
  refine dO 12 (by kernel_rfl) (by rw [List.getElem?_toArray];rfl) ?_
  apply Cs;rfl;rfl;rfl;(first|exact AggC.s|exact OneC.s);rfl;exact Cu;exact Ct;rfl
  refine Ng ?_
  refine dd ?_
  rw [←List.take_succ_eq_append_getElem hk7]
  refine go ?_;intros
  refine Ck ⟨y.k+1,x4,d4,G4,x5,d5,G5,x6,d6,G6,x7,d7,G7⟩ hk (by show n.Af.length - (y.k+1) < n.Af.length - y.k;omega)
 ·rw [show n.Af.take y.k=n.Af from List.take_of_length_le (by omega),show n.Ad.take y.k=n.Ad from List.take_of_length_le (by omega),show n.down.take y.k=n.down from List.take_of_length_le (by omega),show n.up.take y.k=n.up from List.take_of_length_le (by omega)]
  refine go ?_;intros
  refine ret (⟨w,y⟩:OwN × OwK) trivial rfl
end Go.Proofs.YtaemjogbahcbcaaGreatDoor
namespace Go.Proofs.YtaemjogbahcbcaaGreatDoor
open Go.RowKit
open Go.RowKit
theorem Aay {α:Type} {O R:Bv α} (hW:Me O R) {w:World}:∀{xs:List α} {cs:List Value} {G:List Nat},Cw O w cs xs G→∃G',(∀b∈G',b∈G)∧Cw R w cs xs G'
 | [],_,_,h=>⟨[],by simp,h.1,rfl⟩
 | x::r,_,_,h=>by
  obtain ⟨c1,c2,F1,F2,rfl,rfl,h1,h2⟩:=h
  obtain ⟨G1,s1,r1⟩:=hW.Ka h1
  obtain ⟨G2,s2,r2⟩:=Aay hW h2
  exact ⟨G1++G2,fun b hb=>by rcases List.mem_append.1 hb with hb|hb;simp [s1 b hb];simp [s2 b hb],c1,c2,G1,G2,rfl,rfl,r1,r2⟩
theorem I8.skip {x:Pc}:∀{B A:List Pc},I8 A B→I8 (x::A) B
 | _,_,.nil=>.nil
 | _,_,.cons hp hr=>.cons (.there hp) hr.skip
theorem I8.all:∀A:List Pc,I8 A A
 | []=>.nil
 | _::A=>.cons .here (I8.all A)
section
variable {c:Cx} {fr:Fr} {H:List Pc} {Φ:Gl}
theorem Yc {α:Type} {O R:Bv α} (hW:Me O R) {cs:List Value} {xs:List α} {G:List Nat} {S:List Pc} (h:∀G',T c fr (.isv (EA R xs.length) (.agg cs.toArray) xs G'::S) Φ) (hp:C0 H (.flat O cs xs G) S:=by exact D0):T c fr H Φ:=.mk fun a w s g=>by
 have s1:=s.pick hp
 obtain ⟨-,ho⟩:=s1.on (.flat O cs xs G) (by simp)
 obtain ⟨G',hG,hf⟩:=Aay hW ho
 exact (h G').h a w (s1.conv rfl ⟨_,rfl,rfl,hf⟩ hG) g
theorem Ub (m:D9) {l:List Int} {N:Nat} (hT:m.Am.Ac=l) (hN:N=l.length) (hl:Je m=true) {a1 a2 a3 a4 a5 a6 a7:Option Addr} {c1 c2 c3 c4 c5 c6 c7:Nat} {F1 FS F4 G4 F5 G5 F6 G6 F7 G7:List Nat} {ys4 ys5 ys6 ys7:List (List Value)} (h4:ys4.length=N) (h5:ys5.length=N) (h6:ys6.length=N) (h7:ys7.length=N)
  (h:∀F,T c fr (.isv Le (.agg #[.slice a1 N c1,.int .i64 m.Ab.Aa.Al,.int .i64 m.Ab.Aa.size,.slice a2 m.Ab.Aa.Aj.length c2,.int .i64 m.Ab.Ai,.int .i64 m.Ab.quiet,.slice a3 m.Ab.holds.length c3,.slice a4 N c4,.slice a5 N c5,.slice a6 N c6,.slice a7 N c7]) m F::H) Φ) (p1:.sl Bd (.slice a1 N c1) l F1∈H:=by exact B8) (p2:.isv Dm (.agg #[.int .i64 m.Ab.Aa.Al,.int .i64 m.Ab.Aa.size,.slice a2 m.Ab.Aa.Aj.length c2,.int .i64 m.Ab.Ai,.int .i64 m.Ab.quiet,.slice a3 m.Ab.holds.length c3]) m.Ab FS∈H:=by exact B8) (p4:.sl (EC 2) (.slice a4 N c4) ys4 F4∈H:=by exact B8) (q4:.isv (EA (Bn) N) (.agg ys4.flatten.toArray) m.Af G4∈H:=by exact B8) (p5:.sl (EC 5) (.slice a5 N c5) ys5 F5∈H:=by exact B8) (q5:.isv (EA (B4) N) (.agg ys5.flatten.toArray) m.Ad G5∈H:=by exact B8) (p6:.sl (EC 1) (.slice a6 N c6) ys6 F6∈H:=by exact B8) (q6:.isv (EA (Md Ak (by decide)) N) (.agg ys6.flatten.toArray) m.down G6∈H:=by exact B8) (p7:.sl (EC 1) (.slice a7 N c7) ys7 F7∈H:=by exact B8) (q7:.isv (EA (Md Ak (by decide)) N) (.agg ys7.flatten.toArray) m.up G7∈H:=by exact B8):T c fr H Φ:=by
 obtain ⟨e1,e2,e3,e4⟩:=Bm.1 hl
 subst hT hN
 refine Ex (hm:=p2) ?_
 rintro b2 d2 F2 b3 d3 F3 ev - -
 have ev2:=ev
 simp only [Value.agg.injEq,Array.mk.injEq,List.cons.injEq,Value.slice.injEq,true_and,and_true] at ev2
 obtain ⟨⟨rfl,rfl⟩,rfl,rfl⟩:=ev2
 refine Nc (E:=Bn) (xs:=m.Af) rfl (by omega) rfl (fun F8=>?_) (.tail _ (.tail _ p4)) (.tail _ (.tail _ q4))
 refine Nc (E:=B4) (xs:=m.Ad) rfl (by omega) rfl (fun F9=>?_) (.tail _ (.tail _ (.tail _ p5))) (.tail _ (.tail _ (.tail _ q5)))
 refine Nc (E:=Md Ak (by decide)) (xs:=m.down) rfl (by omega) rfl (fun F10=>?_) (.tail _ (.tail _ (.tail _ (.tail _ p6)))) (.tail _ (.tail _ (.tail _ (.tail _ q6))))
 refine Nc (E:=Md Ak (by decide)) (xs:=m.up) rfl (by omega) rfl (fun F11=>?_) (.tail _ (.tail _ (.tail _ (.tail _ (.tail _ p7))))) (.tail _ (.tail _ (.tail _ (.tail _ (.tail _ q7)))))
 refine Is m (a1:=a1) (c1:=c1) (F1:=F1) (a2:=a2) (c2:=c2) (F2:=F2) (a3:=a3) (c3:=c3) (F3:=F3) (a4:=a4) (c4:=c4) (F4:=F8) (a5:=a5) (c5:=c5) (F5:=F9) (a6:=a6) (c6:=c6) (F6:=F10) (a7:=a7) (c7:=c7) (F7:=F11) ?_ (.tail _ (.tail _ (.tail _ (.tail _ (.tail _ (.tail _ p1)))))) (.tail _ (.tail _ (.tail _ (.tail _ (.head _))))) (.tail _ (.tail _ (.tail _ (.tail _ (.tail _ (.head _)))))) (by rw [e1];exact .tail _ (.tail _ (.tail _ (.head _)))) (by rw [e2];exact .tail _ (.tail _ (.head _))) (by rw [e3];exact .tail _ (.head _)) (by rw [e4];exact .head _)
 rw [e1,e2,e3,e4]
 exact Asj _ (h _) (.cons .here (I8.skip (I8.skip (I8.skip (I8.skip (I8.skip (I8.skip (I8.all H))))))))
end
end Go.Proofs.YtaemjogbahcbcaaGreatDoor
namespace Go.Proofs.YtaemjogbahcbcaaGreatDoor
open Go.RowKit
def Nb (x:Cj) (s:ByteArray):Cj:=⟨Db x.Aa s,x.Ai,0,Gp (Db x.Aa s) x.Ai x.holds⟩
theorem Amj {x:Cj} {s:ByteArray} (h:∀z∈x.holds,x.Ai+1≤z.Ca):Nb x s=Oc x s:=by unfold Nb Oc;rw [Ss h]
theorem Ug (x:Cj) (s:ByteArray) (v:Value) (F:List Nat) (t0:0≤x.Aa.Al) (t1:x.Aa.Al≤65535) (hl:x.Aa.Aj.length≤6) (z1:1≤x.Aa.size) (hm:x.holds.length≤1000) (hn:Ty x.holds) (hs:s.size≤maxLen) :
  Fn prog 88 [v,.string s] [.isv Dm v x F] [] (fun (_:Ab1)=>True) (fun z=>.tuple #[.agg #[.int .i64 (Nb x s).Aa.Al,.int .i64 (Nb x s).Aa.size,.slice z.a (Nb x s).Aa.Aj.length z.c,.int .i64 (Nb x s).Ai,.int .i64 (Nb x s).quiet,.slice z.a2 (Nb x s).holds.length z.c2],.agg #[.int .i64 1,.int .i64 (Dp x.Aa s).Ae,.int .i64 (Dp x.Aa s).Al,.int .i64 (Dp x.Aa s).Ec,.string s]]) (fun z=>[.isv Dm (.agg #[.int .i64 (Nb x s).Aa.Al,.int .i64 (Nb x s).Aa.size,.slice z.a (Nb x s).Aa.Aj.length z.c,.int .i64 (Nb x s).Ai,.int .i64 (Nb x s).quiet,.slice z.a2 (Nb x s).holds.length z.c2]) (Nb x s) z.F]):=by
 have hb:=Nt t0 t1
 refine enter func88 rfl ntmps88 fun w0=>?_
 refine Ex ?_
 rintro a1 c1 F1 a2 c2 F2 rfl l1 l2
 refine Ch x.Aa ?_
 generalize F1=F3
 refine go ?_;intros
 refine cf (Ale x.Aa s _ F3 hl t0 t1 hs z1) fun y _=>?_
 refine Ap ?_
 refine El (x:=Db x.Aa s) ?_
 rintro a5 c5 F5 e5 l5
 rw [e5]
 refine go ?_;intros
 refine cf (Pk x (Db x.Aa s) _ _ F y.2 hb.1 hb.2 (by omega) hn) fun q _=>?_
 refine Ap ?_
 refine Ex (x:=S8 x (Db x.Aa s)) ?_
 rintro a6 c6 F6 a7 c7 F7 e6 l6 l7
 rw [e6]
 refine go ?_;intros
 refine As [0,4] [] ?_
 refine dt 0 ?_
 refine dt 1 ?_
 refine dO 2 (by kernel_rfl) (by rw [List.getElem?_toArray];rfl) ?_
 apply Cs;rfl;rfl;rfl;(first|exact AggC.s|exact OneC.s);rfl;exact Cu;exact Ct;rfl
 refine dk ?_
 refine dO 3 (by kernel_rfl) (by rw [List.getElem?_toArray];rfl) ?_
 apply Cs;rfl;rfl;rfl;(first|exact AggC.s|exact OneC.s);rfl;exact Cu;exact Ct;rfl
 refine dk ?_
 refine dd ?_
 refine Dr (Nb x s) ?_
 refine go ?_;intros
 refine ret ⟨_,_,_,_,_⟩ trivial rfl
theorem Aiq (x:Cj) (s:ByteArray) (v:Value) (F:List Nat) (hg:Cc x=true) (hs:s.size≤maxLen) :
  Fn prog 88 [v,.string s] [.isv Dm v x F] [] (fun (_:Ab1)=>True) (fun z=>.tuple #[.agg #[.int .i64 (Oc x s).Aa.Al,.int .i64 (Oc x s).Aa.size,.slice z.a (Oc x s).Aa.Aj.length z.c,.int .i64 (Oc x s).Ai,.int .i64 (Oc x s).quiet,.slice z.a2 (Oc x s).holds.length z.c2],.agg #[.int .i64 1,.int .i64 (Dp x.Aa s).Ae,.int .i64 (Dp x.Aa s).Al,.int .i64 (Dp x.Aa s).Ec,.string s]]) (fun z=>[.isv Dm (.agg #[.int .i64 (Oc x s).Aa.Al,.int .i64 (Oc x s).Aa.size,.slice z.a (Oc x s).Aa.Aj.length z.c,.int .i64 (Oc x s).Ai,.int .i64 (Oc x s).quiet,.slice z.a2 (Oc x s).holds.length z.c2]) (Oc x s) z.F]):=by
 obtain ⟨gw,hl,t0,t1,k0,k1,hm,hn,hu,hb⟩:=Ll hg
 obtain ⟨-,⟨z1, -⟩, -⟩:=D6.1 gw
 have h:=Ug x s v F t0 t1 hl z1 (by omega) (Yg hn) hs
 rw [Amj hu] at h
 exact h
theorem Tg (n:D9) (s:Li) (v:Value) (F FT:List Nat) (hss:s.data.size≤maxLen) (g1:Ax n=true) (g2:Ij s=true):Fn prog 37 [v,.agg #[.int .i64 s.Df,.int .i64 s.node,.string s.data]] [.isv Le v n F,Lw FT] [] (fun (_:V0)=>True) (fun z=>.tuple #[.agg z.cs.toArray,.slice z.a (Aw n s).2.1.length z.c,.bool (Aw n s).2.2]) (fun z=>[.isv Le (.agg z.cs.toArray) (Aw n s).1 z.F,.ow Ba 9 (.slice z.a (Aw n s).2.1.length z.c) (Aw n s).2.1 z.Fe]):=by
 have hG:=A8.1 g1
 have h8:=Ff hG.t
 have hn8:=h8.n1
 have hn2:=h8.n0
 obtain ⟨q1,q2,q3,q4⟩:=Bm.1 hG.l
 have hkl:=Qr n.Am.Ac 0
 have hkx:∀x∈Gs n.Am.Ac 0,0≤x∧x.toNat < n.down.length:=fun x hx=>by have:=Jd (i:=0) h8 hx;omega
 have hd6:∀q∈n.down,q.length≤6:=fun q hq=>(Do ((Iw g1).2.2.1 q hq)).1
 have hck:=Q1 hG.s
 refine enter func37 rfl ntmps37 fun w0=>?_
 refine Di ?_
 rintro a1 c1 F1 a2 c2 F2 a3 c3 F3 a4 c4 F4 a5 c5 F5 a6 c6 F6 a7 c7 F7 rfl l1 l2 l3 l4 l5 l6 l7
 refine go ?_;intros
 refine cf (Ad9 n _ F g1) fun z _=>?_
 refine Ap ?_
 obtain ⟨w,y⟩:=z
 dsimp only
 refine A1 (E:=Bd) (xs:=n.Am.Ac) fun Ft=>?_
 refine Wt (E:=Bt) (xs:=n.Af) Rj (m:=2) rfl fun ye Fe Ge he1 he2=>?_
 refine Yc (R:=Bn) (xs:=n.Af) Jj fun He=>?_
 refine Wt (E:=Bk) (xs:=n.Ad) Qb (m:=5) rfl fun yr Fr Gr hr1 hr2=>?_
 refine Yc (R:=B4) (xs:=n.Ad) Qd fun Hr=>?_
 refine Wt (E:=Hi Ak 110) (xs:=n.down) Vh (m:=1) rfl fun yd Fd Gd hd1 hd2=>?_
 refine Yc (R:=Md Ak (by decide)) (xs:=n.down) (Pq (Me.refl Ak) (by decide) _) fun Hd=>?_
 refine Wt (E:=Hi Ak 110) (xs:=n.up) Vh (m:=1) rfl fun yu Fu Gu hu1 hu2=>?_
 refine Yc (R:=Md Ak (by decide)) (xs:=n.up) (Pq (Me.refl Ak) (by decide) _) fun Hu=>?_
 rw [q1,q2,q3,q4]
 refine Ju n.Am (a1:=w.a1) ?_
 refine go ?_;intros
 refine Bg rfl (fun h1=>?_) (fun h1=>?_)
 ·have e1:By n s=some (Na n s.data,[]):=by unfold By;rw [if_pos h1]
  have hgm:=Ku g1 g2 e1
  rw [show Aw n s=(Na n s.data,[],true) by unfold Aw;rw [g1,g2,e1];rfl]
  refine go ?_;intros
  refine cf (Aiq n.Ab s.data _ _ hG.s hss) fun u _=>?_
  refine Ap ?_
  refine go ?_;intros
  refine As [0,3] [] ?_
  refine dt 0 ?_
  refine dt 1 ?_
  refine dt 2 ?_
  refine dt 4 ?_
  refine Ov 3 5 (by kernel_rfl) (by rw [List.getElem?_toArray];rfl) (by rw [List.getElem?_toArray];rfl) ?_ ?_
  ·apply At;rfl;kernel_rfl;exact Bf
   refine cf (M5 n.Am 0 _ Ft (O5 h8.z (Int.le_refl _)) ⟨by omega,by omega⟩) fun v _=>?_
   refine Ap ?_
   refine A1 (E:=Bd) (xs:=Gs n.Am.Ac 0) fun Fk=>?_
   refine dk ?_
   refine dO 5 (by kernel_rfl) (by rw [List.getElem?_toArray];rfl) ?_
   apply Ho;rfl;rfl;rfl;rfl;exact Hl;exact Hg;intro _
   refine Ei (E:=Ak) (xs:=[Dp n.Ab.Aa s.data]) (C5 (Dp n.Ab.Aa s.data) hss) ?_ (by simp)
   refine A1 (E:=Ak) (xs:=[Dp n.Ab.Aa s.data]) fun Fp=>?_
   refine dk ?_
   refine dO 6 (by kernel_rfl) (by rw [List.getElem?_toArray];rfl) ?_
   apply At;rfl;kernel_rfl;exact Bf
   refine cf (Lo n.down (Gs n.Am.Ac 0) [Dp n.Ab.Aa s.data] _ _ _ _ _ _ _ _ _ _ _ _ _ _ _ _ _ _ _ _ _ _ _ _ _ yd Fd Hd _ _ Fk _ _ Fp hkx hd6) fun x _=>?_
   refine Ap ?_
   refine dk ?_
   refine dd ?_
   refine go ?_;intros
   refine C9 Ba ?_
   refine go ?_;intros
   refine Eq (ys:=ye) fun _ w4=>?_
   refine Eq (ys:=yr) fun _ w5=>?_
   refine Eq (ys:=x.ys) fun _ w6=>?_
   refine Eq (ys:=yu) fun _ w7=>?_
   refine A1 (E:=EC 2) (xs:=ye) fun _=>?_
   refine A1 (E:=EC 5) (xs:=yr) fun _=>?_
   refine A1 (E:=EC 1) (xs:=x.ys) fun _=>?_
   refine A1 (E:=EC 1) (xs:=yu) fun _=>?_
   refine Ub (Na n s.data) (l:=n.Am.Ac) (N:=n.Am.Ac.length) rfl rfl (A8.1 hgm).l w4 w5 w6 w7 (a1:=w.a1) (c1:=w.c1) (a2:=u.a) (c2:=u.c) (a3:=u.a2) (c3:=u.c2) (a4:=y.a4) (c4:=y.c4) (a5:=y.a5) (c5:=y.c5) (a6:=y.a6) (c6:=y.c6) (a7:=y.a7) (c7:=y.c7) fun FN=>?_
   refine ret (⟨[.slice w.a1 n.Am.Ac.length w.c1,.int .i64 ((Na n s.data).Ab).Aa.Al,.int .i64 ((Na n s.data).Ab).Aa.size,.slice u.a ((Na n s.data).Ab).Aa.Aj.length u.c,.int .i64 ((Na n s.data).Ab).Ai,.int .i64 ((Na n s.data).Ab).quiet,.slice u.a2 ((Na n s.data).Ab).holds.length u.c2,.slice y.a4 n.Am.Ac.length y.c4,.slice y.a5 n.Am.Ac.length y.c5,.slice y.a6 n.Am.Ac.length y.c6,.slice y.a7 n.Am.Ac.length y.c7],FN,_,_,_⟩:V0) trivial rfl
  ·apply Ho;rfl;rfl;rfl;rfl;exact Hl;exact Hg;intro _
   refine Ei (E:=Ak) (xs:=[Dp n.Ab.Aa s.data]) (C5 (Dp n.Ab.Aa s.data) hss) ?_ (by simp)
   refine A1 (E:=Ak) (xs:=[Dp n.Ab.Aa s.data]) fun Fp=>?_
   refine dk ?_
   refine dO 3 (by kernel_rfl) (by rw [List.getElem?_toArray];rfl) ?_
   apply At;rfl;kernel_rfl;exact Bf
   refine cf (M5 n.Am 0 _ Ft (O5 h8.z (Int.le_refl _)) ⟨by omega,by omega⟩) fun v _=>?_
   refine Ap ?_
   refine A1 (E:=Bd) (xs:=Gs n.Am.Ac 0) fun Fk=>?_
   refine dk ?_
   refine dO 6 (by kernel_rfl) (by rw [List.getElem?_toArray];rfl) ?_
   apply At;rfl;kernel_rfl;exact Bf
   refine cf (Lo n.down (Gs n.Am.Ac 0) [Dp n.Ab.Aa s.data] _ _ _ _ _ _ _ _ _ _ _ _ _ _ _ _ _ _ _ _ _ _ _ _ _ yd Fd Hd _ _ Fk _ _ Fp hkx hd6) fun x _=>?_
   refine Ap ?_
   refine dk ?_
   refine dd ?_
   refine go ?_;intros
   refine C9 Ba ?_
   refine go ?_;intros
   refine Eq (ys:=ye) fun _ w4=>?_
   refine Eq (ys:=yr) fun _ w5=>?_
   refine Eq (ys:=x.ys) fun _ w6=>?_
   refine Eq (ys:=yu) fun _ w7=>?_
   refine A1 (E:=EC 2) (xs:=ye) fun _=>?_
   refine A1 (E:=EC 5) (xs:=yr) fun _=>?_
   refine A1 (E:=EC 1) (xs:=x.ys) fun _=>?_
   refine A1 (E:=EC 1) (xs:=yu) fun _=>?_
   refine Ub (Na n s.data) (l:=n.Am.Ac) (N:=n.Am.Ac.length) rfl rfl (A8.1 hgm).l w4 w5 w6 w7 (a1:=w.a1) (c1:=w.c1) (a2:=u.a) (c2:=u.c) (a3:=u.a2) (c3:=u.c2) (a4:=y.a4) (c4:=y.c4) (a5:=y.a5) (c5:=y.c5) (a6:=y.a6) (c6:=y.c6) (a7:=y.a7) (c7:=y.c7) fun FN=>?_
   refine ret (⟨[.slice w.a1 n.Am.Ac.length w.c1,.int .i64 ((Na n s.data).Ab).Aa.Al,.int .i64 ((Na n s.data).Ab).Aa.size,.slice u.a ((Na n s.data).Ab).Aa.Aj.length u.c,.int .i64 ((Na n s.data).Ab).Ai,.int .i64 ((Na n s.data).Ab).quiet,.slice u.a2 ((Na n s.data).Ab).holds.length u.c2,.slice y.a4 n.Am.Ac.length y.c4,.slice y.a5 n.Am.Ac.length y.c5,.slice y.a6 n.Am.Ac.length y.c6,.slice y.a7 n.Am.Ac.length y.c7],FN,_,_,_⟩:V0) trivial rfl
 refine go ?_;intros
 refine Bg rfl (fun h4=>?_) (fun h4=>?_)
 ·refine go ?_;intros
  refine Bg rfl (fun hc=>?_) (fun hc=>?_)
  ·have e1:By n s=none:=by unfold By;rw [if_neg h1,if_pos h4,if_pos hc]
   rw [show Aw n s=(Lh,[],false) by unfold Aw;rw [g1,g2,e1];rfl]
   refine Bw Bd (by decide) ?_
   refine Bw Ba (by decide) ?_
   refine Bw Bj (by decide) ?_
   refine Bw Bn (by decide) ?_
   refine Bw B4 (by decide) ?_
   refine Bw (Md Ak (by decide)) (by decide) ?_
   refine Bw (Md Ak (by decide)) (by decide) ?_
   refine Is Lh (a1:=none) (c1:=0) (a2:=none) (c2:=0) (a3:=none) (c3:=0) (a4:=none) (c4:=0) (a5:=none) (c5:=0) (a6:=none) (c6:=0) (a7:=none) (c7:=0) ?_
   refine go ?_;intros
   refine C9 Ba ?_
   refine go ?_;intros
   refine ret (⟨[.slice none 0 0,.int .i64 0,.int .i64 0,.slice none 0 0,.int .i64 0,.int .i64 0,.slice none 0 0,.slice none 0 0,.slice none 0 0,.slice none 0 0,.slice none 0 0],_,_,_,_⟩:V0) trivial rfl
  ·have e1:By n s=some (Bz n):=by unfold By;rw [if_neg h1,if_pos h4,if_neg hc]
   have hgm:=Ku g1 g2 e1
   rw [show Aw n s=((Bz n).1,(Bz n).2,true) by unfold Aw;rw [g1,g2,e1];rfl]
   refine go ?_;intros
   refine cf (Aiz n w.a1 w.c1 y.a4 y.c4 y.a5 y.c5 y.a6 y.c6 y.a7 y.c7 w.s.a w.s.a2 w.s.c w.s.c2 Ft w.s.F FT ⟨⟨ye,Fe,He⟩,⟨yr,Fr,Hr⟩,⟨yd,Fd,Hd⟩,⟨yu,Fu,Hu⟩⟩ g1 (by omega)) fun x _=>?_
   refine Ap ?_
   refine go ?_;intros
   refine Eq (ys:=x.1.e.ys) fun _ w4=>?_
   refine Eq (ys:=x.1.r.ys) fun _ w5=>?_
   refine Eq (ys:=x.1.d.ys) fun _ w6=>?_
   refine Eq (ys:=x.1.u.ys) fun _ w7=>?_
   refine A1 (E:=EC 2) (xs:=x.1.e.ys) fun _=>?_
   refine A1 (E:=EC 5) (xs:=x.1.r.ys) fun _=>?_
   refine A1 (E:=EC 1) (xs:=x.1.d.ys) fun _=>?_
   refine A1 (E:=EC 1) (xs:=x.1.u.ys) fun _=>?_
   refine Ub ((Bz n).1) (l:=n.Am.Ac) (N:=n.Am.Ac.length) (congrArg Nl.Ac (O9 e1)) rfl (A8.1 hgm).l w4 w5 w6 w7 (a1:=w.a1) (c1:=w.c1) (a2:=x.2.1.a) (c2:=x.2.1.c) (a3:=x.2.1.a2) (c3:=x.2.1.c2) (a4:=y.a4) (c4:=y.c4) (a5:=y.a5) (c5:=y.c5) (a6:=y.a6) (c6:=y.c6) (a7:=y.a7) (c7:=y.c7) fun FN=>?_
   refine ret (⟨[.slice w.a1 n.Am.Ac.length w.c1,.int .i64 (((Bz n).1).Ab).Aa.Al,.int .i64 (((Bz n).1).Ab).Aa.size,.slice x.2.1.a (((Bz n).1).Ab).Aa.Aj.length x.2.1.c,.int .i64 (((Bz n).1).Ab).Ai,.int .i64 (((Bz n).1).Ab).quiet,.slice x.2.1.a2 (((Bz n).1).Ab).holds.length x.2.1.c2,.slice y.a4 n.Am.Ac.length y.c4,.slice y.a5 n.Am.Ac.length y.c5,.slice y.a6 n.Am.Ac.length y.c6,.slice y.a7 n.Am.Ac.length y.c7],FN,_,_,_⟩:V0) trivial rfl
 have htk0:By n s=Cy n s:=by unfold By;rw [if_neg h1,if_neg h4]
 have hf:Pi s.node=true:=by
  have:=g2
  unfold Ij at this
  rw [if_neg h1,if_neg h4] at this
  simp only [Bool.and_eq_true] at this
  exact this.1.2
 obtain ⟨f1,f2⟩:=L0.1 hf
 obtain ⟨i,hi⟩:∃i:Nat,s.node=((i:Nat):Int):=⟨s.node.toNat,by omega⟩
 have i0:i≠0:=by omega
 rw [hi]
 by_cases k5:s.Df=5
 ·have hu:Sh s=true:=by unfold Sh;rw [decide_eq_true k5];rfl
  have hq:∀h:i < n.up.length,Qx n s=n.up[i]:=fun h=>by unfold Qx;rw [hu,if_pos rfl,hi,Int.toNat_natCast];exact N7 h []
  have hpo:Gm n s=I4 n i:=by unfold Gm;rw [hu,if_pos rfl,hi,Int.toNat_natCast]
  refine go ?_;intros
  refine Dc rfl rfl (fun g5=>?_) (fun g5=>?_)
  rotate_left
  ·exact absurd k5 g5
  refine go ?_;intros
  refine Dc rfl rfl (fun h6=>?_) (fun h6=>?_)
  ·have e1:Cy n s=none:=by unfold Cy;rw [if_pos (by omega)]
   rw [show Aw n s=(Lh,[],false) by unfold Aw;rw [g1,g2,htk0,e1];rfl]
   refine Bw Bd (by decide) ?_
   refine Bw Ba (by decide) ?_
   refine Bw Bj (by decide) ?_
   refine Bw Bn (by decide) ?_
   refine Bw B4 (by decide) ?_
   refine Bw (Md Ak (by decide)) (by decide) ?_
   refine Bw (Md Ak (by decide)) (by decide) ?_
   refine Is Lh (a1:=none) (c1:=0) (a2:=none) (c2:=0) (a3:=none) (c3:=0) (a4:=none) (c4:=0) (a5:=none) (c5:=0) (a6:=none) (c6:=0) (a7:=none) (c7:=0) ?_
   refine go ?_;intros
   refine C9 Ba ?_
   refine go ?_;intros
   refine ret (⟨[.slice none 0 0,.int .i64 0,.int .i64 0,.slice none 0 0,.int .i64 0,.int .i64 0,.slice none 0 0,.slice none 0 0,.slice none 0 0,.slice none 0 0,.slice none 0 0],_,_,_,_⟩:V0) trivial rfl
  have hil:i < n.up.length:=by omega
  have hq:=hq hil
  refine Eq (ys:=yu) fun hm hlr=>?_
  refine Zs (ys:=yu) (xs:=n.up) i hm (by omega) (by omega) fun h9 _ Gq=>?_
  refine Wb (x:=n.up[i]) fun a9 c9 e9 l9=>?_
  have e10:yu[i]=[.slice a9 n.up[i].length c9]:=by simpa using e9
  refine N6 (E:=EC 1) (xs:=yu) (m:=1) (Ga 1) i ?_ (by repeat (first|exact .here|apply C0.there)) rfl h9
  rintro _ gq Aq cs Bq ea j2 j3 hHq
  rw [ea]
  obtain ⟨j4, -, -⟩:=j3 w0
  rw [e10] at j4
  subst j4
  refine go ?_;intros
  refine Bg rfl (fun h7=>?_) (fun h7=>?_)
  ·have e1:Cy n s=none:=by unfold Cy;rw [if_neg (by omega),hq,if_pos (by omega)]
   rw [show Aw n s=(Lh,[],false) by unfold Aw;rw [g1,g2,htk0,e1];rfl]
   refine Bw Bd (by decide) ?_
   refine Bw Ba (by decide) ?_
   refine Bw Bj (by decide) ?_
   refine Bw Bn (by decide) ?_
   refine Bw B4 (by decide) ?_
   refine Bw (Md Ak (by decide)) (by decide) ?_
   refine Bw (Md Ak (by decide)) (by decide) ?_
   refine Is Lh (a1:=none) (c1:=0) (a2:=none) (c2:=0) (a3:=none) (c3:=0) (a4:=none) (c4:=0) (a5:=none) (c5:=0) (a6:=none) (c6:=0) (a7:=none) (c7:=0) ?_
   refine go ?_;intros
   refine C9 Ba ?_
   refine go ?_;intros
   refine ret (⟨[.slice none 0 0,.int .i64 0,.int .i64 0,.slice none 0 0,.int .i64 0,.int .i64 0,.slice none 0 0,.slice none 0 0,.slice none 0 0,.slice none 0 0,.slice none 0 0],_,_,_,_⟩:V0) trivial rfl
  have h0:0 < n.up[i].length:=by omega
  refine Mg (xs:=n.up[i]) 0 ?_
  rintro hi3 b3 o3 e3 s3
  rw [e3]
  refine go ?_;intros
  refine As [2,17] [10] ?_
  refine dt 0 ?_
  refine dt 1 ?_
  refine dt 2 ?_
  refine dt 3 ?_
  refine dt 4 ?_
  refine dt 5 ?_
  refine dt 6 ?_
  refine dt 7 ?_
  refine dO 8 (by kernel_rfl) (by rw [List.getElem?_toArray];rfl) ?_
  refine sld 1 fun a8 c8 F8=>?_
  refine dk ?_
  refine dt 9 ?_
  refine dO 10 (by kernel_rfl) (by rw [List.getElem?_toArray];rfl) ?_
  apply Cs;rfl;rfl;rfl;(first|exact AggC.s|exact OneC.s);rfl;exact Cu;exact Ct;rfl
  refine Ng ?_
  refine dd ?_
  refine Nd (E:=EC 1) (xs:=yu) [.slice a8 (n.up[i].drop 1).length c8] hHq (fun _=>⟨rfl,⟨rfl,by simp [Value.oneCell']⟩,rfl⟩) ?_
  refine Um (E:=Ak) (x:=n.up[i].drop 1) (by decide) ?_
  refine Nv (E:=Md Ak (by decide)) (ys:=yu) (xs:=n.up) (x:=n.up[i].drop 1) i rfl hm (by omega) fun Gv=>?_
  rw [←ea,show n.up.set i (n.up[i].drop 1)=(I4 n i).up from (Gb (by omega)).symm]
  have hmem:=M8 h0
  have hpk:Bp (Kz n.up[i])=true:=Lz (hq▸(Ko (s:=s) g1).1) hmem
  have hpz:(Kz n.up[i]).data.size≤maxLen:=by
   have h9:=hpk
   unfold Bp Oh at h9
   simp only [Bool.and_eq_true,decide_eq_true_eq] at h9
   unfold maxLen;omega
  have hgp:Ax (I4 n i)=true:=hpo▸J8 g1
  have hGp:=A8.1 hgp
  have hPg:=Sv h0
  rw [←hPg]
  generalize hP:Kz n.up[i]=P at *
  have htk:Cy n s=some (Mt (I4 n i) i P,[]):=by
   unfold Cy
   rw [if_neg (by omega),hq,if_neg (by omega),hpo,hP,hi,Int.toNat_natCast]
   rw [if_neg (by omega),if_pos k5]
  have hgm:=Ku g1 g2 (htk0.trans htk)
  rw [show Aw n s=(Mt (I4 n i) i P,[],true) by unfold Aw;rw [g1,g2,htk0,htk];rfl]
  refine go ?_;intros
  refine Bg rfl (fun k2=>?_) (fun k2=>?_)
  ·exact absurd k2 (by omega)
  refine go ?_;intros
  refine Bg rfl (fun m5=>?_) (fun m5=>?_)
  rotate_left
  ·exact absurd k5 m5
  have hdp:∀q∈(I4 n i).down,q.length≤6:=fun q hq=>(Do ((Iw hgp).2.2.1 q hq)).1
  have hup:∀q∈(I4 n i).up,q.length≤6:=fun q hq=>(Do ((Iw hgp).2.2.2 q hq)).1
  refine go ?_;intros
  refine cf (Aoc (I4 n i) i P w.a1 w.c1 y.a4 y.c4 y.a5 y.c5 y.a6 y.c6 y.a7 y.c7 w.s.a w.s.a2 w.s.c w.s.c2 Ft w.s.F ⟨⟨ye,Fe,He⟩,⟨yr,Fr,Hr⟩,⟨yd,Fd,Hd⟩,⟨yu.set i [.slice a8 (n.up[i].drop 1).length c8],[gq],Gv⟩⟩ hGp.l i0 (by show i < n.Am.Ac.length;omega) (Ff hGp.t) hGp.s (fun k hk hkl hl=>by obtain ⟨x1,x2,x3,x4,r⟩:=hGp.rn (i:=k) hkl;rw [Ja x1];exact (r.hn hk hl).1) hpk hpz hdp hup) fun x _=>?_
  refine Ap ?_
  refine go ?_;intros
  refine C9 Ba ?_
  refine go ?_;intros
  refine Eq (ys:=x.1.e.ys) fun _ w4=>?_
  refine Eq (ys:=x.1.r.ys) fun _ w5=>?_
  refine Eq (ys:=x.1.d.ys) fun _ w6=>?_
  refine Eq (ys:=x.1.u.ys) fun _ w7=>?_
  refine A1 (E:=EC 2) (xs:=x.1.e.ys) fun _=>?_
  refine A1 (E:=EC 5) (xs:=x.1.r.ys) fun _=>?_
  refine A1 (E:=EC 1) (xs:=x.1.d.ys) fun _=>?_
  refine A1 (E:=EC 1) (xs:=x.1.u.ys) fun _=>?_
  refine Ub (Mt (I4 n i) i P) (l:=n.Am.Ac) (N:=n.Am.Ac.length) (congrArg Nl.Ac (O9 (htk0.trans htk))) rfl (A8.1 hgm).l w4 w5 w6 w7 (a1:=w.a1) (c1:=w.c1) (a2:=x.2.a) (c2:=x.2.c) (a3:=x.2.a2) (c3:=x.2.c2) (a4:=y.a4) (c4:=y.c4) (a5:=y.a5) (c5:=y.c5) (a6:=y.a6) (c6:=y.c6) (a7:=y.a7) (c7:=y.c7) fun FN=>?_
  refine ret (⟨[.slice w.a1 n.Am.Ac.length w.c1,.int .i64 ((Mt (I4 n i) i P).Ab).Aa.Al,.int .i64 ((Mt (I4 n i) i P).Ab).Aa.size,.slice x.2.a ((Mt (I4 n i) i P).Ab).Aa.Aj.length x.2.c,.int .i64 ((Mt (I4 n i) i P).Ab).Ai,.int .i64 ((Mt (I4 n i) i P).Ab).quiet,.slice x.2.a2 ((Mt (I4 n i) i P).Ab).holds.length x.2.c2,.slice y.a4 n.Am.Ac.length y.c4,.slice y.a5 n.Am.Ac.length y.c5,.slice y.a6 n.Am.Ac.length y.c6,.slice y.a7 n.Am.Ac.length y.c7],FN,_,_,_⟩:V0) trivial rfl
 by_cases k6:s.Df=6
 ·have hu:Sh s=true:=by unfold Sh;rw [decide_eq_true k6,Bool.or_true]
  have hq:∀h:i < n.up.length,Qx n s=n.up[i]:=fun h=>by unfold Qx;rw [hu,if_pos rfl,hi,Int.toNat_natCast];exact N7 h []
  have hpo:Gm n s=I4 n i:=by unfold Gm;rw [hu,if_pos rfl,hi,Int.toNat_natCast]
  refine go ?_;intros
  refine Dc rfl rfl (fun g5=>?_) (fun g5=>?_)
  ·exact absurd g5 (by omega)
  refine go ?_;intros
  refine Bg rfl (fun g6=>?_) (fun g6=>?_)
  rotate_left
  ·exact absurd k6 g6
  refine go ?_;intros
  refine Dc rfl rfl (fun h6=>?_) (fun h6=>?_)
  ·have e1:Cy n s=none:=by unfold Cy;rw [if_pos (by omega)]
   rw [show Aw n s=(Lh,[],false) by unfold Aw;rw [g1,g2,htk0,e1];rfl]
   refine Bw Bd (by decide) ?_
   refine Bw Ba (by decide) ?_
   refine Bw Bj (by decide) ?_
   refine Bw Bn (by decide) ?_
   refine Bw B4 (by decide) ?_
   refine Bw (Md Ak (by decide)) (by decide) ?_
   refine Bw (Md Ak (by decide)) (by decide) ?_
   refine Is Lh (a1:=none) (c1:=0) (a2:=none) (c2:=0) (a3:=none) (c3:=0) (a4:=none) (c4:=0) (a5:=none) (c5:=0) (a6:=none) (c6:=0) (a7:=none) (c7:=0) ?_
   refine go ?_;intros
   refine C9 Ba ?_
   refine go ?_;intros
   refine ret (⟨[.slice none 0 0,.int .i64 0,.int .i64 0,.slice none 0 0,.int .i64 0,.int .i64 0,.slice none 0 0,.slice none 0 0,.slice none 0 0,.slice none 0 0,.slice none 0 0],_,_,_,_⟩:V0) trivial rfl
  have hil:i < n.up.length:=by omega
  have hq:=hq hil
  refine Eq (ys:=yu) fun hm hlr=>?_
  refine Zs (ys:=yu) (xs:=n.up) i hm (by omega) (by omega) fun h9 _ Gq=>?_
  refine Wb (x:=n.up[i]) fun a9 c9 e9 l9=>?_
  have e10:yu[i]=[.slice a9 n.up[i].length c9]:=by simpa using e9
  refine N6 (E:=EC 1) (xs:=yu) (m:=1) (Ga 1) i ?_ (by repeat (first|exact .here|apply C0.there)) rfl h9
  rintro _ gq Aq cs Bq ea j2 j3 hHq
  rw [ea]
  obtain ⟨j4, -, -⟩:=j3 w0
  rw [e10] at j4
  subst j4
  refine go ?_;intros
  refine Bg rfl (fun h7=>?_) (fun h7=>?_)
  ·have e1:Cy n s=none:=by unfold Cy;rw [if_neg (by omega),hq,if_pos (by omega)]
   rw [show Aw n s=(Lh,[],false) by unfold Aw;rw [g1,g2,htk0,e1];rfl]
   refine Bw Bd (by decide) ?_
   refine Bw Ba (by decide) ?_
   refine Bw Bj (by decide) ?_
   refine Bw Bn (by decide) ?_
   refine Bw B4 (by decide) ?_
   refine Bw (Md Ak (by decide)) (by decide) ?_
   refine Bw (Md Ak (by decide)) (by decide) ?_
   refine Is Lh (a1:=none) (c1:=0) (a2:=none) (c2:=0) (a3:=none) (c3:=0) (a4:=none) (c4:=0) (a5:=none) (c5:=0) (a6:=none) (c6:=0) (a7:=none) (c7:=0) ?_
   refine go ?_;intros
   refine C9 Ba ?_
   refine go ?_;intros
   refine ret (⟨[.slice none 0 0,.int .i64 0,.int .i64 0,.slice none 0 0,.int .i64 0,.int .i64 0,.slice none 0 0,.slice none 0 0,.slice none 0 0,.slice none 0 0,.slice none 0 0],_,_,_,_⟩:V0) trivial rfl
  have h0:0 < n.up[i].length:=by omega
  refine Mg (xs:=n.up[i]) 0 ?_
  rintro hi3 b3 o3 e3 s3
  rw [e3]
  refine go ?_;intros
  refine As [2,17] [10] ?_
  refine dt 0 ?_
  refine dt 1 ?_
  refine dt 2 ?_
  refine dt 3 ?_
  refine dt 4 ?_
  refine dt 5 ?_
  refine dt 6 ?_
  refine dt 7 ?_
  refine dO 8 (by kernel_rfl) (by rw [List.getElem?_toArray];rfl) ?_
  refine sld 1 fun a8 c8 F8=>?_
  refine dk ?_
  refine dt 9 ?_
  refine dO 10 (by kernel_rfl) (by rw [List.getElem?_toArray];rfl) ?_
  apply Cs;rfl;rfl;rfl;(first|exact AggC.s|exact OneC.s);rfl;exact Cu;exact Ct;rfl
  refine Ng ?_
  refine dd ?_
  refine Nd (E:=EC 1) (xs:=yu) [.slice a8 (n.up[i].drop 1).length c8] hHq (fun _=>⟨rfl,⟨rfl,by simp [Value.oneCell']⟩,rfl⟩) ?_
  refine Um (E:=Ak) (x:=n.up[i].drop 1) (by decide) ?_
  refine Nv (E:=Md Ak (by decide)) (ys:=yu) (xs:=n.up) (x:=n.up[i].drop 1) i rfl hm (by omega) fun Gv=>?_
  rw [←ea,show n.up.set i (n.up[i].drop 1)=(I4 n i).up from (Gb (by omega)).symm]
  have hmem:=M8 h0
  have hpk:Bp (Kz n.up[i])=true:=Lz (hq▸(Ko (s:=s) g1).1) hmem
  have hpz:(Kz n.up[i]).data.size≤maxLen:=by
   have h9:=hpk
   unfold Bp Oh at h9
   simp only [Bool.and_eq_true,decide_eq_true_eq] at h9
   unfold maxLen;omega
  have hgp:Ax (I4 n i)=true:=hpo▸J8 g1
  have hGp:=A8.1 hgp
  have hPg:=Sv h0
  rw [←hPg]
  generalize hP:Kz n.up[i]=P at *
  have htk:Cy n s=some (I4 n i,[]):=by
   unfold Cy
   rw [if_neg (by omega),hq,if_neg (by omega),hpo,hP,hi,Int.toNat_natCast]
   rw [if_neg (by omega),if_neg (by omega)]
  have hgm:=Ku g1 g2 (htk0.trans htk)
  rw [show Aw n s=(I4 n i,[],true) by unfold Aw;rw [g1,g2,htk0,htk];rfl]
  refine go ?_;intros
  refine Bg rfl (fun k2=>?_) (fun k2=>?_)
  ·exact absurd k2 (by omega)
  refine go ?_;intros
  refine Bg rfl (fun m5=>?_) (fun m5=>?_)
  ·exact absurd m5 (by omega)
  refine go ?_;intros
  refine C9 Ba ?_
  refine go ?_;intros
  refine Eq (ys:=ye) fun _ w4=>?_
  refine Eq (ys:=yr) fun _ w5=>?_
  refine Eq (ys:=yd) fun _ w6=>?_
  refine Eq (ys:=(yu.set i [.slice a8 (n.up[i].drop 1).length c8])) fun _ w7=>?_
  refine A1 (E:=EC 2) (xs:=ye) fun _=>?_
  refine A1 (E:=EC 5) (xs:=yr) fun _=>?_
  refine A1 (E:=EC 1) (xs:=yd) fun _=>?_
  refine A1 (E:=EC 1) (xs:=(yu.set i [.slice a8 (n.up[i].drop 1).length c8])) fun _=>?_
  refine Ub (I4 n i) (l:=n.Am.Ac) (N:=n.Am.Ac.length) rfl rfl (A8.1 hgm).l w4 w5 w6 w7 (a1:=w.a1) (c1:=w.c1) (a2:=w.s.a) (c2:=w.s.c) (a3:=w.s.a2) (c3:=w.s.c2) (a4:=y.a4) (c4:=y.c4) (a5:=y.a5) (c5:=y.c5) (a6:=y.a6) (c6:=y.c6) (a7:=y.a7) (c7:=y.c7) fun FN=>?_
  refine ret (⟨[.slice w.a1 n.Am.Ac.length w.c1,.int .i64 ((I4 n i).Ab).Aa.Al,.int .i64 ((I4 n i).Ab).Aa.size,.slice w.s.a ((I4 n i).Ab).Aa.Aj.length w.s.c,.int .i64 ((I4 n i).Ab).Ai,.int .i64 ((I4 n i).Ab).quiet,.slice w.s.a2 ((I4 n i).Ab).holds.length w.s.c2,.slice y.a4 n.Am.Ac.length y.c4,.slice y.a5 n.Am.Ac.length y.c5,.slice y.a6 n.Am.Ac.length y.c6,.slice y.a7 n.Am.Ac.length y.c7],FN,_,_,_⟩:V0) trivial rfl
 have hu:Sh s=false:=by unfold Sh;rw [decide_eq_false k5,decide_eq_false k6];rfl
 have hq:∀h:i < n.down.length,Qx n s=n.down[i]:=fun h=>by unfold Qx;rw [hu,if_neg (by decide),hi,Int.toNat_natCast];exact N7 h []
 have hpo:Gm n s=Kh n i:=by unfold Gm;rw [hu,if_neg (by decide),hi,Int.toNat_natCast]
 refine go ?_;intros
 refine Dc rfl rfl (fun g5=>?_) (fun g5=>?_)
 ·exact absurd g5 k5
 refine go ?_;intros
 refine Bg rfl (fun g6=>?_) (fun g6=>?_)
 ·exact absurd g6 k6
 refine go ?_;intros
 refine Dc rfl rfl (fun h6=>?_) (fun h6=>?_)
 ·have e1:Cy n s=none:=by unfold Cy;rw [if_pos (by omega)]
  rw [show Aw n s=(Lh,[],false) by unfold Aw;rw [g1,g2,htk0,e1];rfl]
  refine Bw Bd (by decide) ?_
  refine Bw Ba (by decide) ?_
  refine Bw Bj (by decide) ?_
  refine Bw Bn (by decide) ?_
  refine Bw B4 (by decide) ?_
  refine Bw (Md Ak (by decide)) (by decide) ?_
  refine Bw (Md Ak (by decide)) (by decide) ?_
  refine Is Lh (a1:=none) (c1:=0) (a2:=none) (c2:=0) (a3:=none) (c3:=0) (a4:=none) (c4:=0) (a5:=none) (c5:=0) (a6:=none) (c6:=0) (a7:=none) (c7:=0) ?_
  refine go ?_;intros
  refine C9 Ba ?_
  refine go ?_;intros
  refine ret (⟨[.slice none 0 0,.int .i64 0,.int .i64 0,.slice none 0 0,.int .i64 0,.int .i64 0,.slice none 0 0,.slice none 0 0,.slice none 0 0,.slice none 0 0,.slice none 0 0],_,_,_,_⟩:V0) trivial rfl
 have hil:i < n.down.length:=by omega
 have hq:=hq hil
 refine Eq (ys:=yd) fun hm hlr=>?_
 refine Zs (ys:=yd) (xs:=n.down) i hm (by omega) (by omega) fun h9 _ Gq=>?_
 refine Wb (x:=n.down[i]) fun a9 c9 e9 l9=>?_
 have e10:yd[i]=[.slice a9 n.down[i].length c9]:=by simpa using e9
 refine N6 (E:=EC 1) (xs:=yd) (m:=1) (Ga 1) i ?_ (by repeat (first|exact .here|apply C0.there)) rfl h9
 rintro _ gq Aq cs Bq ea j2 j3 hHq
 rw [ea]
 obtain ⟨j4, -, -⟩:=j3 w0
 rw [e10] at j4
 subst j4
 refine go ?_;intros
 refine Bg rfl (fun h7=>?_) (fun h7=>?_)
 ·have e1:Cy n s=none:=by unfold Cy;rw [if_neg (by omega),hq,if_pos (by omega)]
  rw [show Aw n s=(Lh,[],false) by unfold Aw;rw [g1,g2,htk0,e1];rfl]
  refine Bw Bd (by decide) ?_
  refine Bw Ba (by decide) ?_
  refine Bw Bj (by decide) ?_
  refine Bw Bn (by decide) ?_
  refine Bw B4 (by decide) ?_
  refine Bw (Md Ak (by decide)) (by decide) ?_
  refine Bw (Md Ak (by decide)) (by decide) ?_
  refine Is Lh (a1:=none) (c1:=0) (a2:=none) (c2:=0) (a3:=none) (c3:=0) (a4:=none) (c4:=0) (a5:=none) (c5:=0) (a6:=none) (c6:=0) (a7:=none) (c7:=0) ?_
  refine go ?_;intros
  refine C9 Ba ?_
  refine go ?_;intros
  refine ret (⟨[.slice none 0 0,.int .i64 0,.int .i64 0,.slice none 0 0,.int .i64 0,.int .i64 0,.slice none 0 0,.slice none 0 0,.slice none 0 0,.slice none 0 0,.slice none 0 0],_,_,_,_⟩:V0) trivial rfl
 have h0:0 < n.down[i].length:=by omega
 refine Mg (xs:=n.down[i]) 0 ?_
 rintro hi3 b3 o3 e3 s3
 rw [e3]
 refine go ?_;intros
 refine As [2,17] [10] ?_
 refine dt 0 ?_
 refine dt 1 ?_
 refine dt 2 ?_
 refine dt 3 ?_
 refine dt 4 ?_
 refine dt 5 ?_
 refine dt 6 ?_
 refine dt 7 ?_
 refine dO 8 (by kernel_rfl) (by rw [List.getElem?_toArray];rfl) ?_
 refine sld 1 fun a8 c8 F8=>?_
 refine dk ?_
 refine dt 9 ?_
 refine dO 10 (by kernel_rfl) (by rw [List.getElem?_toArray];rfl) ?_
 apply Cs;rfl;rfl;rfl;(first|exact AggC.s|exact OneC.s);rfl;exact Cu;exact Ct;rfl
 refine Ng ?_
 refine dd ?_
 refine Nd (E:=EC 1) (xs:=yd) [.slice a8 (n.down[i].drop 1).length c8] hHq (fun _=>⟨rfl,⟨rfl,by simp [Value.oneCell']⟩,rfl⟩) ?_
 refine Um (E:=Ak) (x:=n.down[i].drop 1) (by decide) ?_
 refine Nv (E:=Md Ak (by decide)) (ys:=yd) (xs:=n.down) (x:=n.down[i].drop 1) i rfl hm (by omega) fun Gv=>?_
 rw [←ea,show n.down.set i (n.down[i].drop 1)=(Kh n i).down from (Gb (by omega)).symm]
 have hmem:=M8 h0
 have hpk:Bp (Kz n.down[i])=true:=Lz (hq▸(Ko (s:=s) g1).1) hmem
 have hpz:(Kz n.down[i]).data.size≤maxLen:=by
  have h9:=hpk
  unfold Bp Oh at h9
  simp only [Bool.and_eq_true,decide_eq_true_eq] at h9
  unfold maxLen;omega
 have hgp:Ax (Kh n i)=true:=hpo▸J8 g1
 have hGp:=A8.1 hgp
 have hPg:=Sv h0
 rw [←hPg]
 generalize hP:Kz n.down[i]=P at *
 have htk:Cy n s=if s.Df=2 then some (Cq (Kh n i) i P) else some (Kh n i,[]):=by
  unfold Cy
  rw [if_neg (by omega),hq,if_neg (by omega),hpo,hP,hi,Int.toNat_natCast]
  split
  ·rfl
  ·first|rfl|rw [if_neg k5]
 have hdp:∀q∈(Kh n i).down,q.length≤6:=fun q hq=>(Do ((Iw hgp).2.2.1 q hq)).1
 refine go ?_;intros
 refine Bg rfl (fun k2=>?_) (fun k2=>?_)
 ·rw [if_pos k2] at htk
  have hgm:=Ku g1 g2 (htk0.trans htk)
  rw [show Aw n s=((Cq (Kh n i) i P).1,(Cq (Kh n i) i P).2,true) by unfold Aw;rw [g1,g2,htk0,htk];rfl]
  refine go ?_;intros
  have hls:(Cq (Kh n i) i P).1.Ab=n.Ab:=by unfold Cq;split <;> rfl
  refine As [4,8,20] [] ?_
  refine dt 0 ?_
  refine dt 1 ?_
  refine dt 2 ?_
  refine dt 3 ?_
  refine dt 4 ?_
  refine dO 5 (by kernel_rfl) (by rw [List.getElem?_toArray];rfl) ?_
  apply At;rfl;kernel_rfl;exact Bf
  refine cf (Aci (Kh n i) i P w.a1 w.c1 y.a4 y.c4 y.a5 y.c5 y.a6 y.c6 y.a7 y.c7 w.s.a w.s.a2 n.Ab.Aa.Aj.length w.s.c n.Ab.holds.length w.s.c2 _ _ _ _ Ft ⟨⟨ye,Fe,He⟩,⟨yr,Fr,Hr⟩,⟨yd.set i [.slice a8 (n.down[i].drop 1).length c8],[gq],Gv⟩,⟨yu,Fu,Hu⟩⟩ FT hGp.l (by show i < n.Am.Ac.length;omega) (by omega) (Ff hGp.t) (fun hl=>by obtain ⟨x1,x2,x3,x4,r⟩:=hGp.rn (i:=i) (by show i < n.Am.Ac.length;omega);rw [Hp x2];exact (r.hf i0 hl).2.1) (fun hl=>by obtain ⟨x1,x2,x3,x4,r⟩:=hGp.rn (i:=i) (by show i < n.Am.Ac.length;omega);rw [Ja x1];exact (r.hn i0 hl).1) hpk hpz hdp) fun x _=>?_
  refine Ap ?_
  refine dk ?_
  refine dO 6 (by kernel_rfl) (by rw [List.getElem?_toArray];rfl) ?_
  apply Cs;rfl;rfl;rfl;(first|exact AggC.s|exact OneC.s);rfl;exact Cu;exact Ct;rfl
  refine dk ?_
  refine dt 7 ?_
  refine dt 8 ?_
  refine dd ?_
  refine go ?_;intros
  rw [←hls]
  refine Eq (ys:=x.1.e.ys) fun _ w4=>?_
  refine Eq (ys:=x.1.r.ys) fun _ w5=>?_
  refine Eq (ys:=x.1.d.ys) fun _ w6=>?_
  refine Eq (ys:=x.1.u.ys) fun _ w7=>?_
  refine A1 (E:=EC 2) (xs:=x.1.e.ys) fun _=>?_
  refine A1 (E:=EC 5) (xs:=x.1.r.ys) fun _=>?_
  refine A1 (E:=EC 1) (xs:=x.1.d.ys) fun _=>?_
  refine A1 (E:=EC 1) (xs:=x.1.u.ys) fun _=>?_
  refine Ub ((Cq (Kh n i) i P).1) (l:=n.Am.Ac) (N:=n.Am.Ac.length) (congrArg Nl.Ac (O9 (htk0.trans htk))) rfl (A8.1 hgm).l w4 w5 w6 w7 (a1:=w.a1) (c1:=w.c1) (a2:=w.s.a) (c2:=w.s.c) (a3:=w.s.a2) (c3:=w.s.c2) (a4:=y.a4) (c4:=y.c4) (a5:=y.a5) (c5:=y.c5) (a6:=y.a6) (c6:=y.c6) (a7:=y.a7) (c7:=y.c7) fun FN=>?_
  refine ret (⟨[.slice w.a1 n.Am.Ac.length w.c1,.int .i64 (((Cq (Kh n i) i P).1).Ab).Aa.Al,.int .i64 (((Cq (Kh n i) i P).1).Ab).Aa.size,.slice w.s.a (((Cq (Kh n i) i P).1).Ab).Aa.Aj.length w.s.c,.int .i64 (((Cq (Kh n i) i P).1).Ab).Ai,.int .i64 (((Cq (Kh n i) i P).1).Ab).quiet,.slice w.s.a2 (((Cq (Kh n i) i P).1).Ab).holds.length w.s.c2,.slice y.a4 n.Am.Ac.length y.c4,.slice y.a5 n.Am.Ac.length y.c5,.slice y.a6 n.Am.Ac.length y.c6,.slice y.a7 n.Am.Ac.length y.c7],FN,x.2.a,x.2.c,x.2.F⟩:V0) trivial rfl
 ·rw [if_neg k2] at htk
  have hgm:=Ku g1 g2 (htk0.trans htk)
  rw [show Aw n s=(Kh n i,[],true) by unfold Aw;rw [g1,g2,htk0,htk];rfl]
  refine go ?_;intros
  refine Bg rfl (fun m5=>?_) (fun m5=>?_)
  ·exact absurd m5 k5
  refine go ?_;intros
  refine C9 Ba ?_
  refine go ?_;intros
  refine Eq (ys:=ye) fun _ w4=>?_
  refine Eq (ys:=yr) fun _ w5=>?_
  refine Eq (ys:=(yd.set i [.slice a8 (n.down[i].drop 1).length c8])) fun _ w6=>?_
  refine Eq (ys:=yu) fun _ w7=>?_
  refine A1 (E:=EC 2) (xs:=ye) fun _=>?_
  refine A1 (E:=EC 5) (xs:=yr) fun _=>?_
  refine A1 (E:=EC 1) (xs:=(yd.set i [.slice a8 (n.down[i].drop 1).length c8])) fun _=>?_
  refine A1 (E:=EC 1) (xs:=yu) fun _=>?_
  refine Ub (Kh n i) (l:=n.Am.Ac) (N:=n.Am.Ac.length) rfl rfl (A8.1 hgm).l w4 w5 w6 w7 (a1:=w.a1) (c1:=w.c1) (a2:=w.s.a) (c2:=w.s.c) (a3:=w.s.a2) (c3:=w.s.c2) (a4:=y.a4) (c4:=y.c4) (a5:=y.a5) (c5:=y.c5) (a6:=y.a6) (c6:=y.c6) (a7:=y.a7) (c7:=y.c7) fun FN=>?_
  refine ret (⟨[.slice w.a1 n.Am.Ac.length w.c1,.int .i64 ((Kh n i).Ab).Aa.Al,.int .i64 ((Kh n i).Ab).Aa.size,.slice w.s.a ((Kh n i).Ab).Aa.Aj.length w.s.c,.int .i64 ((Kh n i).Ab).Ai,.int .i64 ((Kh n i).Ab).quiet,.slice w.s.a2 ((Kh n i).Ab).holds.length w.s.c2,.slice y.a4 n.Am.Ac.length y.c4,.slice y.a5 n.Am.Ac.length y.c5,.slice y.a6 n.Am.Ac.length y.c6,.slice y.a7 n.Am.Ac.length y.c7],FN,_,_,_⟩:V0) trivial rfl
theorem Ae4 (v v2:Value) (xs:List ByteArray) (F F2:List Nat):Fn prog 10 [v,v2] [.sl Ba v xs F,.sl Ba v2 xs F2] [] (fun (_:Unit)=>True) (fun _=>.bool true) (fun _=>[]):=by
 refine enter func10 rfl ntmps10 fun w0=>?_
 refine Tp (v:=v) (xs:=xs) (F:=F) ?_
 rintro a c rfl l1 l2
 refine Tp (v:=v2) (xs:=xs) (F:=F2) ?_
 rintro a2 c2 rfl l3 l4
 refine go ?_;intros
 refine Bg rfl (fun h=>?_) (fun h=>?_)
 ·exact absurd rfl h
 refine go ?_;intros
 refine Dv [0,1,4] (fun k:Nat=>[(5,.int .i64 k)]) (fun k=>k≤xs.length) (fun k=>xs.length - k) 0 (Nat.zero_le _) fun k hk=>?_
 refine go ?_;intros
 refine Bg rfl (fun h3=>?_) (fun h3=>?_)
 ·have hk3:k < xs.length:=by omega
  refine V1 (a:=a) (xs:=xs) k ?_
  rintro hi b o e s1
  rw [e]
  refine V1 (a:=a2) (xs:=xs) k ?_
  rintro hi2 b2 o2 e2 s2
  rw [e2]
  refine Jm ?_;intros
  refine As [0,1] [] ?_
  refine dt 0 ?_
  refine dt 1 ?_
  refine dt 2 ?_
  refine dt 3 ?_
  refine dt 4 ?_
  refine dt 5 ?_
  refine dt 6 ?_
  refine dt 7 ?_
  refine dt 8 ?_
  refine dd ?_
  refine go ?_;intros
  refine Bg rfl (fun h4=>?_) (fun h4=>?_)
  ·exact absurd rfl h4
  refine go ?_;intros
  refine Ck (k+1) hk3 (by omega)
 ·refine go ?_;intros
  refine ret () trivial rfl
theorem Ara (v:Value) (Br:List Int) (F:List Nat):Fn prog 5 [v] [.sl Gf v Br F] [] (fun (_:Unit)=>True) (fun _=>.bool (decide (65536 < (Br.length:Int)))) (fun _=>[]):=by
 refine enter func5 rfl ntmps5 fun w0=>?_
 refine Tp (E:=Gf) ?_
 rintro a c rfl l1 l2
 refine go ?_;intros
 refine ret () trivial rfl
theorem Aju (v v2:Value) (x:Az) (F F2:List Nat):Fn prog 94 [v,v2] [.isv Bx v x F,.isv Bx v2 x F2] [] (fun (_:Unit)=>True) (fun _=>.bool true) (fun _=>[]):=by
 refine enter func94 rfl ntmps94 fun w0=>?_
 refine El (v:=v) (F:=F) ?_
 rintro a1 c1 F1 rfl l1
 refine El (v:=v2) (F:=F2) ?_
 rintro a2 c2 F3 rfl l2
 refine go ?_;intros
 refine Dc rfl rfl (fun h1=>?_) (fun h1=>?_)
 ·refine go ?_;intros
  refine Dc rfl rfl (fun h2=>?_) (fun h2=>?_)
  ·refine go ?_;intros
   refine cf (Ae4 _ _ x.Aj F1 F3) fun _ _=>?_
   refine Ap ?_
   refine go ?_;intros
   refine ret () trivial rfl
  ·exact absurd rfl h2
 ·exact absurd rfl h1
theorem Ai9 (p:Av) (w:World):(Op.equalIn 10000 110 (.agg #[.int .i64 p.Df,.int .i64 p.Ae,.int .i64 p.Al,.int .i64 p.Ec,.string p.data]) (.agg #[.int .i64 p.Df,.int .i64 p.Ae,.int .i64 p.Al,.int .i64 p.Ec,.string p.data])).run prog w=.ok true w:=by
 have u1:=underlying3
 have u2:=underlying9
 have hS:prog.underlying 110=some (.struct (prog.fieldsOf 110)):=by kernel_rfl
 rw [show (10000:Nat)=9999+1 from rfl,run_equalIn_agg w 9999 110 _ _ hS (by kernel_rfl)]
 have a1:=Tryz.isAgg3
 have a2:=Tryz.isAgg9
 simp only [Program.fieldsOf,underlying110]
 go_simp
theorem Ae7 {n:Nat} {fr:Fr} {H:List Pc} {x y:Operand} {ty t':TypeId} {p:Av} (hx:ev fr x=some (.agg #[.int .i64 p.Df,.int .i64 p.Ae,.int .i64 p.Al,.int .i64 p.Ec,.string p.data])) (hy:ev fr y=some (.agg #[.int .i64 p.Df,.int .i64 p.Ae,.int .i64 p.Al,.int .i64 p.Ec,.string p.data])):Yd prog n fr H (.binOp .neq 110 x y t') ty (.bool false):=.mk fun c w d pos Cg gd hA _=>by
 have h2:(eqGuard .neq 110 x y (.agg #[.int .i64 p.Df,.int .i64 p.Ae,.int .i64 p.Al,.int .i64 p.Ec,.string p.data]) (.agg #[.int .i64 p.Df,.int .i64 p.Ae,.int .i64 p.Al,.int .i64 p.Ec,.string p.data])).run prog w=.ok () w:=run_eqGuard_agg w _ _ _ _ _ _ (by kernel_rfl)
 simp only [execOp,hA.ev hx,hA.ev hy,Sem.run_bind,h2,Result.andThen_ok,run_neq_struct,Ai9,Sem.run_pure]
 rfl
theorem An7 (s:Gt) (w:World):(Op.equalIn 10000 134 (.agg #[.int .i64 s.Ae,.int .i64 s.Ca]) (.agg #[.int .i64 s.Ae,.int .i64 s.Ca])).run prog w=.ok true w:=by
 have u0:=underlying3
 have a0:=Tryz.isAgg3
 have hS:prog.underlying 134=some (.struct (prog.fieldsOf 134)):=by kernel_rfl
 rw [show (10000:Nat)=9999+1 from rfl,run_equalIn_agg w 9999 134 _ _ hS (by kernel_rfl)]
 simp only [Program.fieldsOf,underlying134]
 go_simp
theorem Ajy {n:Nat} {fr:Fr} {H:List Pc} {x y:Operand} {ty t':TypeId} {s:Gt} (hx:ev fr x=some (.agg #[.int .i64 s.Ae,.int .i64 s.Ca])) (hy:ev fr y=some (.agg #[.int .i64 s.Ae,.int .i64 s.Ca])):Yd prog n fr H (.binOp .neq 134 x y t') ty (.bool false):=.mk fun c w d pos Cg gd hA _=>by
 have h2:(eqGuard .neq 134 x y (.agg #[.int .i64 s.Ae,.int .i64 s.Ca]) (.agg #[.int .i64 s.Ae,.int .i64 s.Ca])).run prog w=.ok () w:=run_eqGuard_agg w _ _ _ _ _ _ (by kernel_rfl)
 simp only [execOp,hA.ev hx,hA.ev hy,Sem.run_bind,h2,Result.andThen_ok,run_neq_struct,An7,Sem.run_pure]
 rfl
theorem Ajt (v v2:Value) (x:Cj) (F F2:List Nat):Fn prog 39 [v,v2] [.isv Dm v x F,.isv Dm v2 x F2] [] (fun (_:Unit)=>True) (fun _=>.bool true) (fun _=>[]):=by
 refine enter func39 rfl ntmps39 fun w0=>?_
 refine Ex (v:=v) (x:=x) (F:=F) ?_
 rintro a1 c1 F3 a2 c2 F4 rfl l1 l2
 unfold maxLen at l1 l2
 refine Ch x.Aa (a1:=a1) ?_
 generalize F3=F5
 refine Ex (v:=v2) (x:=x) (F:=F2) ?_
 rintro a3 c3 F6 a4 c4 F7 rfl l3 l4
 refine Ch x.Aa (a1:=a3) ?_
 generalize F6=F8
 refine go ?_;intros
 refine cf (Aju _ _ x.Aa F5 F8) fun _ _=>?_
 refine Ap ?_
 refine go ?_;intros
 refine Dc rfl rfl (fun h=>?_) (fun h=>?_)
 ·exact absurd rfl h
 refine go ?_;intros
 refine Dc rfl rfl (fun h2=>?_) (fun h2=>?_)
 ·exact absurd rfl h2
 refine go ?_;intros
 refine Bg rfl (fun h3=>?_) (fun h3=>?_)
 ·exact absurd rfl h3
 refine go ?_;intros
 refine Dv [2,3,4] (fun k:Nat=>[(5,.int .i64 k)]) (fun k=>k≤x.holds.length) (fun k=>x.holds.length - k) 0 (Nat.zero_le _) fun k hk=>?_
 refine go ?_;intros
 refine Bg rfl (fun h4=>?_) (fun h4=>?_)
 ·have hk3:k < x.holds.length:=by omega
  refine P8 (a:=a2) (xs:=x.holds) k ?_
  rintro hi b o e
  rw [e]
  refine P8 (a:=a4) (xs:=x.holds) k ?_
  rintro hi2 b2 o2 e2
  rw [e2]
  refine Jm ?_;intros
  refine As [0,1,2,3] [] ?_
  refine dt 0 ?_
  refine dt 1 ?_
  refine dt 2 ?_
  refine dt 3 ?_
  refine dt 4 ?_
  refine dt 5 ?_
  refine dt 6 ?_
  refine dt 7 ?_
  refine dt 8 ?_
  refine dt 9 ?_
  refine dt 10 ?_ (hy:=Ajy rfl rfl)
  refine dd ?_
  refine go ?_;intros
  refine Ck (k+1) hk3 (by omega)
 ·refine go ?_;intros
  refine ret () trivial rfl
theorem Z7 (a a2:Option Addr) (c c2:Nat) (xs:List Av) (F F2:List Nat) (hl:xs.length≤1000000000):Fn prog 42 [.slice a xs.length c,.slice a2 xs.length c2] [.sl Ak (.slice a xs.length c) xs F,.sl Ak (.slice a2 xs.length c2) xs F2] [] (fun (_:Unit)=>True) (fun _=>.bool true) (fun _=>[]):=by
 refine enter func42 rfl ntmps42 fun w0=>?_
 refine go ?_;intros
 refine Bg rfl (fun h2=>?_) (fun h2=>?_)
 ·exact absurd rfl h2
 refine go ?_;intros
 refine Dv [0,1,4] (fun k:Nat=>[(5,.int .i64 k)]) (fun k=>k≤xs.length) (fun k=>xs.length - k) 0 (Nat.zero_le _) fun k hk=>?_
 refine go ?_;intros
 refine Bg rfl (fun h3=>?_) (fun h3=>?_)
 ·have hk3:k < xs.length:=by omega
  refine Mg (a:=a) (xs:=xs) k ?_
  rintro hi b o e s1
  rw [e]
  refine Mg (a:=a2) (xs:=xs) k ?_
  rintro hi2 b2 o2 e2 s2
  rw [e2]
  refine Jm ?_;intros
  refine As [0,1] [] ?_
  refine dt 0 ?_
  refine dt 1 ?_
  refine dt 2 ?_
  refine dt 3 ?_
  refine dt 4 ?_
  refine dt 5 ?_
  refine dt 6 ?_
  refine dt 7 ?_
  refine dt 8 ?_ (hy:=Ae7 rfl rfl)
  refine dd ?_
  refine go ?_;intros
  refine Ck (k+1) hk3 (by omega)
 ·refine go ?_;intros
  refine ret () trivial rfl
structure SwS where
 y:Az
 a:Option Addr
 c:Nat
 F:List Nat
 s:Ps
structure SwL where
 y:Az
 i:Nat
 a:Option Addr
 c:Nat
 F:List Nat
 s:Ps
structure As8 (B r0:Nat) (z:SwL):Prop where
 l:z.y.Aj.length+z.i=r0
 s:Ia (B+8+50 * z.y.Aj.length) z.s
theorem Acv (B g:Nat) (F:T3) (s:Ps) (ok:Ia B s) (hB:B≤800000000000) :
  Fn prog 128 [Ez g 0 0] [.sl Gf (.slice F.a F.Br.length F.c) F.Br F.bs] [.row g 67 0 [] [.slice F.a F.Br.length F.c,.int .i64 (s.k:Nat),.int .u64 s.D7] []] (fun (z:SwS)=>z.y.Aj.length≤7∧Ia (B+1000) z.s) (fun s=>.agg #[.int .i64 s.y.Al,.int .i64 s.y.size,.slice s.a s.y.Aj.length s.c])
   (fun s=>[.isv Bx (.agg #[.int .i64 s.y.Al,.int .i64 s.y.size,.slice s.a s.y.Aj.length s.c]) s.y s.F,.row g 67 0 [] [.slice F.a F.Br.length F.c,.int .i64 (s.s.k:Nat),.int .u64 s.s.D7] []]):=by
 refine enter func128 rfl ntmps128 fun w0=>?_
 refine Cb Ba 9 ?_
 refine go ?_;intros
 refine cf (Q0 B g F s ok (by omega)) fun n hn=>?_
 refine Ap ?_
 obtain ⟨hn1,hn2⟩:=hn
 refine go ?_;intros
 refine cf (Ey (B+4) g F 6 n.2 hn2 (by omega) (by omega)) fun y hy=>?_
 refine Ap ?_
 obtain ⟨r1,s1⟩:=y
 obtain ⟨hy1,hy2⟩:=hy
 dsimp only at hy1 hy2 ⊢
 have hr1:r1≤5:=by omega
 refine go ?_;intros
 rename_i gg
 refine cf (Ey _ g F (1+(r1:Int)+1) s1 hy2 (by omega) (by omega)) fun y hy=>?_
 refine Ap ?_
 obtain ⟨r0,s2⟩:=y
 obtain ⟨hz1,hz2⟩:=hy
 dsimp only at hz1 hz2 ⊢
 have hr0:r0≤6:=by omega
 refine go ?_;intros
 refine Cp [0,2,3] (fun z:SwL=>[(4,.int .i64 (z.i:Nat))]) (fun z=>[.row gg 29 0 [] [.int .i64 z.y.Al,.int .i64 z.y.size,.slice z.a z.y.Aj.length z.c] [],.ow Ba 9 (.slice z.a z.y.Aj.length z.c) z.y.Aj z.F,.row g 67 0 [] [.slice F.a F.Br.length F.c,.int .i64 (z.s.k:Nat),.int .u64 z.s.D7] []]) (As8 B r0) (fun z=>z.i) ⟨⟨n.1,1+(r1:Int),[]⟩,r0,none,0,[],s2⟩ ⟨by simp,hz2.mono (by show _≤B+8+50 * 0;omega)⟩ fun z hz=>?_
 obtain ⟨z1,z3⟩:=hz
 refine go ?_;intros
 refine Bg rfl (fun h2=>?_) (fun h2=>?_)
 ·refine Jm ?_;intros
  refine As [0] [7] ?_
  refine dt 0 ?_
  refine dt 1 ?_
  refine dt 2 ?_
  refine dO 3 (by kernel_rfl) (by rw [List.getElem?_toArray];rfl) ?_
  apply At;rfl;kernel_rfl;exact Bf
  refine cf (O7 _ g F z.s 4 z3 (by omega) (by omega) (by omega)) fun l hl=>?_
  refine Ap ?_
  obtain ⟨hl1,hl2⟩:=hl
  have hl3:l.1.size≤maxLen:=by unfold maxLen;omega
  refine dk ?_
  refine dO 4 (by kernel_rfl) (by rw [List.getElem?_toArray];rfl) ?_
  apply Ho;rfl;rfl;rfl;rfl;exact Hl;exact Hg;intro _
  refine dk ?_
  refine dO 5 (by kernel_rfl) (by rw [List.getElem?_toArray];rfl) ?_
  refine Mf (Ahe hl3) Ed fun a9 c9 F9=>?_
  refine dk ?_
  refine dt 6 ?_
  refine dO 7 (by kernel_rfl) (by rw [List.getElem?_toArray];rfl) ?_
  apply Cs;rfl;rfl;rfl;(first|exact AggC.s|exact OneC.s);rfl;exact Cu;exact Ct;rfl
  refine Ng ?_
  refine dd ?_
  refine go ?_;intros
  rw [show ((z.i:Nat):Int) - 1=((z.i - 1:Nat):Int) by omega]
  refine Ck ⟨⟨z.y.Al,z.y.size,z.y.Aj++[l.1]⟩,z.i - 1,a9,c9,F9,l.2⟩ ⟨by show (z.y.Aj++[l.1]).length+(z.i - 1)=r0;rw [List.length_append];simp only [List.length_cons,List.length_nil];omega,hl2.mono (by show _≤B+8+50 * (z.y.Aj++[l.1]).length;rw [List.length_append];simp only [List.length_cons,List.length_nil];omega)⟩ (by show z.i - 1 < _;omega)
 ·have hl7:z.y.Aj.length≤6:=by omega
  refine go ?_;intros
  refine cf (Ey _ g F 24 z.s z3 (by omega) (by omega)) fun p hp=>?_
  refine Ap ?_
  obtain ⟨r,s3⟩:=p
  obtain ⟨-,hp⟩:=hp
  dsimp only at hp ⊢
  refine go ?_;intros
  refine Bg rfl (fun e0=>?_) (fun e0=>?_)
  ·refine go ?_;intros
   refine cf (Py _ g F s3 hp (by omega)) fun q hq=>?_
   refine Ap ?_
   refine go ?_;intros
   refine A1 (E:=Ba) (xs:=z.y.Aj) fun F8=>?_
   refine Ch ⟨q.1,z.y.size,z.y.Aj⟩ ?_
   refine ret ⟨⟨q.1,z.y.size,z.y.Aj⟩,_,_,_,q.2⟩ ⟨by show z.y.Aj.length≤7;omega,hq.mono (by omega)⟩ rfl
  refine go ?_;intros
  refine Bg rfl (fun e1=>?_) (fun e1=>?_)
  ·refine Jm ?_;intros
   refine Ei (xs:=[0,7,6]) (fun w=>Jv w _) ?_ (by decide)
   refine A1 (E:=Bd) fun G=>?_
   refine go ?_;intros
   refine cf (Mz _ g F _ [0,7,6] G s3 hp (by omega) (by decide) (by decide)) fun q hq=>?_
   refine Ap ?_
   refine go ?_;intros
   refine A1 (E:=Ba) (xs:=z.y.Aj) fun F8=>?_
   refine Ch ⟨z.y.Al,q.1,z.y.Aj⟩ ?_
   refine ret ⟨⟨z.y.Al,q.1,z.y.Aj⟩,_,_,_,q.2⟩ ⟨by show z.y.Aj.length≤7;omega,hq.2.mono (by omega)⟩ rfl
  refine go ?_;intros
  refine Bg rfl (fun e2=>?_) (fun e2=>?_)
  ·refine Jm ?_;intros
   refine As [1] [8] ?_
   refine dt 0 ?_
   refine dt 1 ?_
   refine dt 2 ?_
   refine dO 3 (by kernel_rfl) (by rw [List.getElem?_toArray];rfl) ?_
   apply Ho;rfl;rfl;rfl;rfl;exact Hl;exact Hg;intro _
   refine Ei (xs:=[⟨#[65]⟩,⟨#[97,98,99,100,101,102,103,104]⟩,⟨#[97,98,99,100,101,102,103,104,105]⟩,⟨#[]⟩]) (fun w=>Acc w _ (by decide)) ?_ (by decide)
   refine A1 (E:=Ba) fun G=>?_
   refine dk ?_
   refine dO 4 (by kernel_rfl) (by rw [List.getElem?_toArray];rfl) ?_
   apply At;rfl;kernel_rfl;exact Bf
   refine cf (Aqr _ g F _ [⟨#[65]⟩,⟨#[97,98,99,100,101,102,103,104]⟩,⟨#[97,98,99,100,101,102,103,104,105]⟩,⟨#[]⟩] _ s3 hp (by omega) (by decide) (by decide)) fun q2 hq2=>?_
   refine Ap ?_
   have hq3:q2.1.size≤maxLen:=by have:=hq2.1;simp only [List.mem_cons,List.not_mem_nil,or_false] at this;rcases this with e|e|e|e <;> rw [e] <;> decide
   refine dk ?_
   refine dO 5 (by kernel_rfl) (by rw [List.getElem?_toArray];rfl) ?_
   apply Ho;rfl;rfl;rfl;rfl;exact Hl;exact Hg;intro _
   refine dk ?_
   refine dO 6 (by kernel_rfl) (by rw [List.getElem?_toArray];rfl) ?_
   refine Mf (Ahe hq3) Ed fun a9 c9 F9=>?_
   refine dk ?_
   refine dt 7 ?_
   refine dO 8 (by kernel_rfl) (by rw [List.getElem?_toArray];rfl) ?_
   apply Cs;rfl;rfl;rfl;(first|exact AggC.s|exact OneC.s);rfl;exact Cu;exact Ct;rfl
   refine Ng ?_
   refine dd ?_
   refine go ?_;intros
   refine A1 (E:=Ba) (xs:=z.y.Aj++[q2.1]) fun F8=>?_
   refine Ch ⟨z.y.Al,z.y.size,z.y.Aj++[q2.1]⟩ ?_
   refine ret ⟨⟨z.y.Al,z.y.size,z.y.Aj++[q2.1]⟩,_,_,_,q2.2⟩ ⟨by show (z.y.Aj++[q2.1]).length≤7;rw [List.length_append];simp only [List.length_cons,List.length_nil];omega,hq2.2.mono (by omega)⟩ rfl
  refine go ?_;intros
  refine A1 (E:=Ba) (xs:=z.y.Aj) fun F8=>?_
  refine Ch z.y ?_
  refine ret ⟨z.y,_,_,_,s3⟩ ⟨by show z.y.Aj.length≤7;omega,hp.mono (by omega)⟩ rfl
theorem Aih (B g:Nat) (F:T3) (s:Ps) (x:Az) (v:Value) (Fx:List Nat) (ok:Ia B s) (hB:B≤800000000000) (hl:x.Aj.length≤1000) :
  Fn prog 126 [Ez g 0 0,v] [.sl Gf (.slice F.a F.Br.length F.c) F.Br F.bs,.isv Bx v x Fx] [.row g 67 0 [] [.slice F.a F.Br.length F.c,.int .i64 (s.k:Nat),.int .u64 s.D7] []] (fun (z:Int × Ps)=>(-1≤z.1∧z.1≤65536)∧Ia (B+8) z.2) (fun z=>.int .i64 z.1) (fun z=>[.row g 67 0 [] [.slice F.a F.Br.length F.c,.int .i64 (z.2.k:Nat),.int .u64 z.2.D7] []]):=by
 refine enter func126 rfl ntmps126 fun w0=>?_
 refine El ?_
 rintro a1 c1 F1 rfl l1
 refine go ?_;intros
 refine ce (fun w s=>Lp _ _) ?_
 cases g1:B9 x.Al
 ·refine go ?_;intros
  refine cf (Q5 B g F s ok (by omega)) fun z hz=>?_
  refine Ap ?_
  refine go ?_;intros
  refine ret z ⟨hz.1,hz.2.mono (by omega)⟩ rfl
 obtain ⟨n0,n1⟩:=A9.1 g1
 refine go ?_;intros
 refine cf (Aly B g F 12 s ok (by omega) (by omega)) fun q hq=>?_
 refine Ap ?_
 cases hb:q.1
 ·refine go ?_;intros
  refine As [1] [] ?_
  refine dt 0 ?_
  refine dt 1 ?_
  refine dt 2 ?_
  refine dt 3 ?_
  refine dt 4 ?_
  refine dt 5 ?_
  refine dt 6 ?_
  refine dO 7 (by kernel_rfl) (by rw [List.getElem?_toArray];rfl) ?_
  apply At;rfl;kernel_rfl;exact Bf
  refine cf (Ey _ g F ((x.Aj.length:Int)+3) q.2 hq.2 (by omega) (by omega)) fun y hy=>?_
  refine Ap ?_
  obtain ⟨hy1,hy2⟩:=hy
  refine dk ?_
  refine dt 8 ?_
  refine dO 9 (by kernel_rfl) (by rw [List.getElem?_toArray];rfl) ?_
  apply At;rfl;kernel_rfl;exact Bf
  refine ce (fun w s=>Fh _ _ _ (by omega) (by omega)) ?_
  refine dk ?_
  refine dt 10 ?_
  refine dd ?_
  refine go ?_;intros
  refine ret (_,y.2) ⟨by have:=Ht x.Al ((y.1:Int) - 1);show -1≤Cg x.Al ((y.1:Int) - 1)∧Cg x.Al ((y.1:Int) - 1)≤65536;omega,hy2.mono (by omega)⟩ rfl
 ·refine go ?_;intros
  refine cf (Q5 (B+2) g F q.2 hq.2 (by omega)) fun z hz=>?_
  refine Ap ?_
  refine go ?_;intros
  refine ret z hz rfl
structure SwN where
 y:Az
 a:Option Addr
 c:Nat
 F:List Nat
 n:Int
structure SwT where
 y:Az
 a:Option Addr
 c:Nat
 F:List Nat
 t:ByteArray
structure SwP where
 y:Az
 a:Option Addr
 c:Nat
 F:List Nat
 p:Av
structure SwJ where
 y:Az
 a:Option Addr
 c:Nat
 F:List Nat
structure OkD (m:Nat) (y:Cj):Prop where
 t0:0≤y.Aa.Al
 t1:y.Aa.Al≤65535
 z0:1≤y.Aa.size
 z6:y.Aa.size≤6
 l:(y.Aa.Aj.length:Int)≤y.Aa.size
 it:∀s∈y.Aa.Aj,s.size≤maxLen
 k0:0≤y.Ai
 km:y.Ai≤m
 q0:0≤y.quiet
 q3:y.quiet≤3
 h:y.holds.length≤m
 w:Ty y.holds
 mm:m≤100
theorem OkD.l6 {m y} (h:OkD m y):y.Aa.Aj.length≤6:=by have:=h.l;have:=h.z6;omega
theorem OkD.k1 {m y} (h:OkD m y):y.Ai≤99999:=by have:=h.km;have:=h.mm;omega
theorem OkD.h1 {m y} (h:OkD m y):y.holds.length≤900:=by have:=h.h;have:=h.mm;omega
theorem Wc (W:Az) (cl:Int) (hs:List Gt):(Gp W cl hs).length≤hs.length:=List.length_filter_le _ _
theorem Ur {W:Az} {cl:Int} {hs:List Gt} (h:Ty hs):Ty (Gp W cl hs):=fun z hz=>h z (List.mem_filter.1 hz).1
theorem Aqa {W:Az} {p:Av} (h:∀s∈W.Aj,s.size≤maxLen):(Dj W p).1.data.size≤maxLen:=by
 unfold Dj
 split
 ·rename_i g
  unfold Im at g
  simp only [Bool.and_eq_true] at g
  have hk:=Va g.2
  show (Ud W p.Ae).size≤maxLen
  rw [Qp hk]
  exact h _ (List.getElem_mem hk)
 ·decide
theorem Ag8 {m y} (h:OkD m y) {s:ByteArray} (hs:s.size≤maxLen) (hm:m+1≤100:=by omega):OkD (m+1) (Nb y s):=by
 have hb:=Nt h.t0 h.t1
 have hkl:=Wc (Db y.Aa s) y.Ai y.holds
 have:=h.km;have:=h.h
 have hr:((Dk y.Aa).Aj.length:Int)+1≤y.Aa.size∧∀x∈(Dk y.Aa).Aj,x.size≤maxLen:=by
  have:=h.l
  unfold Dk
  split
  ·exact ⟨by simp only [List.length_drop];have:=h.z0;omega,fun x hx=>h.it x (List.mem_of_mem_drop hx)⟩
  ·exact ⟨by omega,h.it⟩
 refine ⟨hb.1,hb.2,h.z0,h.z6,?_,?_,h.k0,?_,by show (0:Int)≤0;omega,by show (0:Int)≤3;omega,?_,Ur h.w,hm⟩
 ·show (((Dk y.Aa).Aj++[s]).length:Int)≤y.Aa.size
  simp only [List.length_append,List.length_cons,List.length_nil];omega
 ·intro x hx
  have hx:x∈(Dk y.Aa).Aj++[s]:=hx
  simp only [List.mem_append,List.mem_cons,List.not_mem_nil,or_false] at hx
  rcases hx with hx|rfl
  ·exact hr.2 x hx
  ·exact hs
 ·show y.Ai≤((m+1:Nat):Int);omega
 ·show (Gp _ _ _).length≤m+1;omega
theorem Aqt {m y} (h:OkD m y) {n:Int} (hn:-1≤n∧n≤65536) (hm:m+1≤100:=by omega):OkD (m+1) (K9 y n):=by
 have hkl:=Wc y.Aa y.Ai y.holds
 have:=h.km;have:=h.h
 unfold K9
 split
 ·refine ⟨h.t0,h.t1,h.z0,h.z6,h.l,h.it,h.k0,by show y.Ai≤((m+1:Nat):Int);omega,h.q0,h.q3,?_,?_,hm⟩
  ·show (I9 _ _ _).length≤m+1
   unfold I9;simp;omega
  ·intro z hz
   have hz:z∈I9 y.holds (Ew y.Aa.Al y.holds n) ⟨n,y.Ai+3⟩:=hz
   unfold I9 at hz
   simp only [List.mem_append,List.mem_cons] at hz
   rcases hz with hz|rfl|hz
   ·exact h.w z (List.mem_of_mem_take hz)
   ·exact hn
   ·exact h.w z (List.mem_of_mem_drop hz)
 ·exact ⟨h.t0,h.t1,h.z0,h.z6,h.l,h.it,h.k0,by show y.Ai≤((m+1:Nat):Int);omega,h.q0,h.q3,by show (Gp _ _ _).length≤m+1;omega,Ur h.w,hm⟩
theorem Aon {m y} (h:OkD m y) (hm:m+1≤100:=by omega):OkD (m+1) (Kq y):=by
 have hkl:=Wc y.Aa (y.Ai+1) y.holds
 have:=h.km;have:=h.h;have:=h.k0;have:=h.q0;have:=h.q3
 refine ⟨h.t0,h.t1,h.z0,h.z6,h.l,h.it,by show 0≤y.Ai+1;omega,by show y.Ai+1≤((m+1:Nat):Int);omega,?_,?_,by show (Gp _ _ _).length≤m+1;omega,Ur h.w,hm⟩
 ·show 0≤Oq y.quiet;unfold Oq;split <;> omega
 ·show Oq y.quiet≤3;unfold Oq;split <;> omega
theorem An4 {f z:Int} (h0:0≤f) (h1:f≤65535) (z0:1≤z) (z6:z≤6):Es f z=(⟨⟨f,z,[]⟩,0,0,[]⟩,true):=by
 have hg:Cc ⟨⟨f,z,[]⟩,0,0,[]⟩=true:=Eu.2 ⟨D6.2 ⟨⟨h0,h1⟩,⟨z0,z6⟩,by simp;omega,rfl⟩,rfl,rfl,by simp,List.Pairwise.nil⟩
 unfold Es;rw [hg];rfl
structure SrD where
 y:Cj
 a:Option Addr
 c:Nat
 a2:Option Addr
 c2:Nat
 F:List Nat
 i:Nat
 s:Ps
theorem Amo (B g:Nat) (F:T3) (s:Ps) (ok:Ia B s) (hB:B≤700000000000) :
  Fn prog 71 [Ez g 0 0] [.sl Gf (.slice F.a F.Br.length F.c) F.Br F.bs] [.row g 67 0 [] [.slice F.a F.Br.length F.c,.int .i64 (s.k:Nat),.int .u64 s.D7] []] (fun (z:SrD)=>z.y.Aa.Aj.length≤7∧z.y.holds.length≤20∧Ia (B+2000) z.s) (fun s=>.agg #[.int .i64 s.y.Aa.Al,.int .i64 s.y.Aa.size,.slice s.a s.y.Aa.Aj.length s.c,.int .i64 s.y.Ai,.int .i64 s.y.quiet,.slice s.a2 s.y.holds.length s.c2])
   (fun s=>[.isv Dm (.agg #[.int .i64 s.y.Aa.Al,.int .i64 s.y.Aa.size,.slice s.a s.y.Aa.Aj.length s.c,.int .i64 s.y.Ai,.int .i64 s.y.quiet,.slice s.a2 s.y.holds.length s.c2]) s.y s.F,.row g 67 0 [] [.slice F.a F.Br.length F.c,.int .i64 (s.s.k:Nat),.int .u64 s.s.D7] []]):=by
 refine enter func71 rfl ntmps71 fun w0=>?_
 refine go ?_;intros
 refine cf (Q0 B g F s ok (by omega)) fun n hn=>?_
 refine Ap ?_
 obtain ⟨hn1,hn2⟩:=hn
 refine go ?_;intros
 refine cf (Ey (B+4) g F 6 n.2 hn2 (by omega) (by omega)) fun y hy=>?_
 refine Ap ?_
 obtain ⟨r1,s1⟩:=y
 obtain ⟨hy1,hy2⟩:=hy
 dsimp only at hy1 hy2 ⊢
 have hr1:r1≤5:=by omega
 refine go ?_;intros
 refine cf (Sd n.1 (1+(r1:Int))) fun F0 _=>?_
 refine Ap ?_
 rw [An4 hn1.1 hn1.2 (by omega) (by omega)]
 refine go ?_;intros
 rename_i gg
 refine cf (Ey _ g F 9 s1 hy2 (by omega) (by omega)) fun y hy=>?_
 refine Ap ?_
 obtain ⟨r0,s2⟩:=y
 obtain ⟨hz1,hz2⟩:=hy
 dsimp only at hz1 hz2 ⊢
 have hr0:r0≤8:=by omega
 refine go ?_;intros
 refine Cp [0,2,3] (fun z:SrD=>[(5,.int .i64 (z.i:Nat))]) (fun z=>[.row gg 32 0 [] [.int .i64 z.y.Aa.Al,.int .i64 z.y.Aa.size,.slice z.a z.y.Aa.Aj.length z.c,.int .i64 z.y.Ai,.int .i64 z.y.quiet,.slice z.a2 z.y.holds.length z.c2] [],.isv Dm (.agg #[.int .i64 z.y.Aa.Al,.int .i64 z.y.Aa.size,.slice z.a z.y.Aa.Aj.length z.c,.int .i64 z.y.Ai,.int .i64 z.y.quiet,.slice z.a2 z.y.holds.length z.c2]) z.y z.F,.row g 67 0 [] [.slice F.a F.Br.length F.c,.int .i64 (z.s.k:Nat),.int .u64 z.s.D7] []]) (fun z=>OkD (r0 - z.i) z.y∧z.i≤r0∧Ia (B+20+50 * (r0 - z.i)) z.s) (fun z=>z.i) ⟨⟨⟨n.1,1+(r1:Int),[]⟩,0,0,[]⟩,none,0,none,0,F0,r0,s2⟩ ⟨⟨hn1.1,hn1.2,by show (1:Int)≤1+(r1:Int);omega,by show 1+(r1:Int)≤6;omega,by show ((0:Nat):Int)≤1+(r1:Int);omega,by simp,by show (0:Int)≤0;omega,by show (0:Int)≤((r0 - r0:Nat):Int);omega,by show (0:Int)≤0;omega,by show (0:Int)≤3;omega,by simp,by intro z hz;simp at hz,by omega⟩,Nat.le_refl _,hz2.mono (by show _≤B+20+50 * (r0 - r0);omega)⟩ fun z hz=>?_
 obtain ⟨z1,z2,z3⟩:=hz
 refine go ?_;intros
 refine Bg rfl (fun h2=>?_) (fun h2=>?_)
 ·have hi0:0 < z.i:=by omega
  refine go ?_;intros
  refine cf (Ey _ g F 4 z.s z3 (by omega) (by omega)) fun p hp=>?_
  refine Ap ?_
  obtain ⟨r2,s4⟩:=p
  obtain ⟨hr2,z3⟩:=hp
  dsimp only at hr2 z3 ⊢
  have hr4:r2=0∨r2=1∨r2=2∨r2=3:=by omega
  rcases hr4 with rfl|rfl|rfl|rfl
  ·refine go ?_;intros
   refine As [1] [5,6,7] ?_
   refine dt 0 ?_
   refine dt 1 ?_
   refine dO 2 (by kernel_rfl) (by rw [List.getElem?_toArray];rfl) ?_
   apply At;rfl;kernel_rfl;exact Bf
   refine cf (O7 _ g F s4 3 z3 (by omega) (by omega) (by omega)) fun l hl=>?_
   refine Ap ?_
   obtain ⟨hl1,hl2⟩:=hl
   have hl3:l.1.size≤maxLen:=by unfold maxLen;omega
   refine dk ?_
   refine dO 3 (by kernel_rfl) (by rw [List.getElem?_toArray];rfl) ?_
   apply At;rfl;kernel_rfl;exact Bf
   refine cf (Ug z.y l.1 _ z.F z1.t0 z1.t1 z1.l6 z1.z0 (by have:=z1.h1;omega) z1.w hl3) fun q _=>?_
   refine Ap ?_
   refine dk ?_
   refine dt 4 ?_
   refine Ua 5 ?_
   refine Ua 6 ?_
   refine dO 7 (by kernel_rfl) (by rw [List.getElem?_toArray];rfl) ?_
   apply Cs;rfl;rfl;rfl;(first|exact AggC.s|exact OneC.s);rfl;exact Cu;exact Ct;rfl
   refine Ng ?_
   refine dd ?_
   refine go ?_;intros
   rw [show ((z.i:Nat):Int) - 1=((z.i - 1:Nat):Int) by omega]
   refine Ck ⟨Nb z.y l.1,q.a,q.c,q.a2,q.c2,q.F,z.i - 1,l.2⟩ ⟨by rw [show r0 - (z.i - 1)=r0 - z.i+1 by omega];exact Ag8 z1 hl3,by show z.i - 1≤r0;omega,hl2.mono (by show _≤B+20+50 * (r0 - (z.i - 1));omega)⟩ (by show z.i - 1 < z.i;omega)
  ·refine go ?_;intros
   refine As [1] [5,6,7] ?_
   refine dt 0 ?_
   refine dt 1 ?_
   refine dO 2 (by kernel_rfl) (by rw [List.getElem?_toArray];rfl) ?_
   apply At;rfl;kernel_rfl;exact Bf
   refine cf (O7 _ g F s4 3 z3 (by omega) (by omega) (by omega)) fun l hl=>?_
   refine Ap ?_
   obtain ⟨hl1,hl2⟩:=hl
   have hl3:l.1.size≤maxLen:=by unfold maxLen;omega
   refine dk ?_
   refine dO 3 (by kernel_rfl) (by rw [List.getElem?_toArray];rfl) ?_
   apply At;rfl;kernel_rfl;exact Bf
   refine cf (Ug z.y l.1 _ z.F z1.t0 z1.t1 z1.l6 z1.z0 (by have:=z1.h1;omega) z1.w hl3) fun q _=>?_
   refine Ap ?_
   refine dk ?_
   refine dt 4 ?_
   refine Ua 5 ?_
   refine Ua 6 ?_
   refine dO 7 (by kernel_rfl) (by rw [List.getElem?_toArray];rfl) ?_
   apply Cs;rfl;rfl;rfl;(first|exact AggC.s|exact OneC.s);rfl;exact Cu;exact Ct;rfl
   refine Ng ?_
   refine dd ?_
   refine go ?_;intros
   rw [show ((z.i:Nat):Int) - 1=((z.i - 1:Nat):Int) by omega]
   refine Ck ⟨Nb z.y l.1,q.a,q.c,q.a2,q.c2,q.F,z.i - 1,l.2⟩ ⟨by rw [show r0 - (z.i - 1)=r0 - z.i+1 by omega];exact Ag8 z1 hl3,by show z.i - 1≤r0;omega,hl2.mono (by show _≤B+20+50 * (r0 - (z.i - 1));omega)⟩ (by show z.i - 1 < z.i;omega)
  ·refine Ex (x:=z.y) (F:=z.F) ?_
   rintro b1 d1 G1 b2 d2 G2 e5 m1 m2
   simp only [Value.agg.injEq,Array.mk.injEq,List.cons.injEq,Value.slice.injEq,Value.int.injEq,true_and,and_true] at e5
   obtain ⟨⟨rfl,rfl⟩, -⟩:=e5
   refine Ch z.y.Aa (a1:=z.a) ?_
   generalize G1=FW
   refine go ?_;intros
   refine As [4] [8,9,10] ?_
   refine dt 0 ?_
   refine dt 1 ?_
   refine dt 2 ?_
   refine dt 3 ?_
   refine dO 4 (by kernel_rfl) (by rw [List.getElem?_toArray];rfl) ?_
   apply At;rfl;kernel_rfl;exact Bf
   refine cf (Aih _ g F s4 z.y.Aa _ FW z3 (by omega) (by have:=z1.l6;omega)) fun n hn=>?_
   refine Ap ?_
   obtain ⟨hn1,hn2⟩:=hn
   refine dk ?_
   refine dt 5 ?_
   refine dO 6 (by kernel_rfl) (by rw [List.getElem?_toArray];rfl) ?_
   apply At;rfl;kernel_rfl;exact Bf
   refine cf (Tt z.y ⟨3,n.1,0,0,⟨#[]⟩⟩ _ z.F z1.t0 z1.t1 z1.l6 z1.k0 z1.k1 z1.h1 z1.w hn1.1 hn1.2 (by show (⟨#[]⟩:ByteArray).size≤maxLen;decide) (Aqa z1.it)) fun q _=>?_
   refine Ap ?_
   refine dk ?_
   refine dt 7 ?_
   refine Ua 8 ?_
   refine Ua 9 ?_
   refine dO 10 (by kernel_rfl) (by rw [List.getElem?_toArray];rfl) ?_
   apply Cs;rfl;rfl;rfl;(first|exact AggC.s|exact OneC.s);rfl;exact Cu;exact Ct;rfl
   refine Ng ?_
   refine dd ?_
   refine go ?_;intros
   rw [show ((z.i:Nat):Int) - 1=((z.i - 1:Nat):Int) by omega]
   refine Ck ⟨K9 z.y n.1,q.a,q.c,q.a2,q.c2,q.F,z.i - 1,n.2⟩ ⟨by rw [show r0 - (z.i - 1)=r0 - z.i+1 by omega];exact Aqt z1 hn1,by show z.i - 1≤r0;omega,hn2.mono (by show _≤B+20+50 * (r0 - (z.i - 1));omega)⟩ (by show z.i - 1 < z.i;omega)
  ·refine go ?_;intros
   refine cf (Y6 z.y _ z.F z1.t0 z1.t1 z1.l6 z1.k0 z1.k1 z1.q0 z1.q3 (by have:=z1.h1;omega) z1.w) fun q _=>?_
   refine Ap ?_
   refine go ?_;intros
   rw [show ((z.i:Nat):Int) - 1=((z.i - 1:Nat):Int) by omega]
   refine Ck ⟨Kq z.y,q.a,q.c,q.a2,q.c2,q.F,z.i - 1,s4⟩ ⟨by rw [show r0 - (z.i - 1)=r0 - z.i+1 by omega];exact Aon z1,by show z.i - 1≤r0;omega,z3.mono (by show _≤B+20+50 * (r0 - (z.i - 1));omega)⟩ (by show z.i - 1 < z.i;omega)
 ·have hl7:=z1.l6
  have hh7:=z1.h
  refine go ?_;intros
  refine cf (Ey _ g F 24 z.s z3 (by omega) (by omega)) fun p hp=>?_
  refine Ap ?_
  obtain ⟨r,s3⟩:=p
  obtain ⟨-,hp⟩:=hp
  dsimp only at hp ⊢
  refine Ex (x:=z.y) (F:=z.F) ?_
  rintro b1 d1 G1 b2 d2 G2 e5 m1 m2
  simp only [Value.agg.injEq,Array.mk.injEq,List.cons.injEq,Value.slice.injEq,Value.int.injEq,true_and,and_true] at e5
  obtain ⟨⟨rfl,rfl⟩,rfl,rfl⟩:=e5
  refine go ?_;intros
  refine Bg rfl (fun e0=>?_) (fun e0=>?_)
  ·refine Jm ?_;intros
   refine Ei (xs:=[-1,9999,10000]) (fun w=>Jv w _) ?_ (by decide)
   refine A1 (E:=Bd) fun G=>?_
   refine go ?_;intros
   refine cf (Mz _ g F _ [-1,9999,10000] G s3 hp (by omega) (by decide) (by decide)) fun q hq=>?_
   refine Ap ?_
   refine go ?_;intros
   refine Dr ⟨z.y.Aa,q.1,z.y.quiet,z.y.holds⟩ (a1:=z.a) ?_
   refine ret ⟨⟨z.y.Aa,q.1,z.y.quiet,z.y.holds⟩,_,_,_,_,_,0,q.2⟩ ⟨by show z.y.Aa.Aj.length≤7;omega,by show z.y.holds.length≤20;omega,hq.2.mono (by omega)⟩ rfl
  refine go ?_;intros
  refine Bg rfl (fun e1=>?_) (fun e1=>?_)
  ·refine Jm ?_;intros
   refine Ei (xs:=[-1,3,4]) (fun w=>Jv w _) ?_ (by decide)
   refine A1 (E:=Bd) fun G=>?_
   refine go ?_;intros
   refine cf (Mz _ g F _ [-1,3,4] G s3 hp (by omega) (by decide) (by decide)) fun q hq=>?_
   refine Ap ?_
   refine go ?_;intros
   refine Dr ⟨z.y.Aa,z.y.Ai,q.1,z.y.holds⟩ (a1:=z.a) ?_
   refine ret ⟨⟨z.y.Aa,z.y.Ai,q.1,z.y.holds⟩,_,_,_,_,_,0,q.2⟩ ⟨by show z.y.Aa.Aj.length≤7;omega,by show z.y.holds.length≤20;omega,hq.2.mono (by omega)⟩ rfl
  refine go ?_;intros
  refine Bg rfl (fun e2=>?_) (fun e2=>?_)
  ·have hkm:=z1.km
   have hk0:=z1.k0
   refine Jm ?_;intros
   refine As [3] [15] ?_
   refine dt 1 ?_
   refine dt 2 ?_
   refine dt 4 ?_
   refine dt 6 ?_
   refine dt 7 ?_
   refine dt 8 ?_
   refine dO 0 (by kernel_rfl) (by rw [List.getElem?_toArray];rfl) ?_
   apply Jw;rfl;intro _
   refine C9 Bj ?_
   refine dk ?_
   refine dO 3 (by kernel_rfl) (by rw [List.getElem?_toArray];rfl) ?_
   refine Lx (ys:=z.y.holds) Hx Jl fun a7 c7 F7=>?_
   rw [List.nil_append]
   refine dk ?_
   refine dO 5 (by kernel_rfl) (by rw [List.getElem?_toArray];rfl) ?_
   apply At;rfl;kernel_rfl;exact Bf
   refine cf (Py _ g F s3 hp (by omega)) fun q hq=>?_
   refine Ap ?_
   refine dk ?_
   refine dO 9 (by kernel_rfl) (by rw [List.getElem?_toArray];rfl) ?_
   apply At;rfl;kernel_rfl;exact Bf
   refine cf (Ey _ g F 5 q.2 hq (by omega) (by omega)) fun r hr=>?_
   refine Ap ?_
   obtain ⟨hr1,hr2⟩:=hr
   refine dk ?_
   refine dt 10 ?_
   refine dt 11 ?_
   refine dO 12 (by kernel_rfl) (by rw [List.getElem?_toArray];rfl) ?_
   apply Ho;rfl;rfl;rfl;rfl;exact Hl;exact Hg;intro _
   refine dk ?_
   refine dO 13 (by kernel_rfl) (by rw [List.getElem?_toArray];rfl) ?_
   refine Mf (Qz ⟨q.1,z.y.Ai+(r.1:Nat)⟩) Hx fun a9 c9 F9=>?_
   refine dk ?_
   refine dt 14 ?_
   refine dO 15 (by kernel_rfl) (by rw [List.getElem?_toArray];rfl) ?_
   apply Cs;rfl;rfl;rfl;(first|exact AggC.s|exact OneC.s);rfl;exact Cu;exact Ct;rfl
   refine Ng ?_
   refine dd ?_
   refine go ?_;intros
   refine A1 (E:=Bj) fun F8=>?_
   refine Dr ⟨z.y.Aa,z.y.Ai,z.y.quiet,z.y.holds++[⟨q.1,z.y.Ai+(r.1:Nat)⟩]⟩ (a1:=z.a) ?_
   refine ret ⟨⟨z.y.Aa,z.y.Ai,z.y.quiet,z.y.holds++[⟨q.1,z.y.Ai+(r.1:Nat)⟩]⟩,_,_,_,_,_,0,r.2⟩ ⟨by show z.y.Aa.Aj.length≤7;omega,by show (z.y.holds++[_]).length≤20;simp;omega,hr2.mono (by omega)⟩ rfl
  refine go ?_;intros
  refine Bg rfl (fun e3=>?_) (fun e3=>?_)
  ·refine go ?_;intros
   refine cf (Acv _ g F s3 hp (by omega)) fun q hq=>?_
   refine Ap ?_
   obtain ⟨hq1,hq2⟩:=hq
   refine go ?_;intros
   refine El (x:=q.y) ?_
   rintro b3 d3 G3 e6 m3
   simp only [Value.agg.injEq,Array.mk.injEq,List.cons.injEq,Value.slice.injEq,Value.int.injEq,true_and,and_true] at e6
   obtain ⟨rfl,rfl⟩:=e6
   refine Bw Bj (by decide) ?_
   refine Dr ⟨q.y,0,0,[]⟩ (a1:=q.a) ?_
   refine ret ⟨⟨q.y,0,0,[]⟩,_,_,_,_,_,0,q.s⟩ ⟨by show q.y.Aj.length≤7;omega,by show ([]:List Gt).length≤20;simp,hq2.mono (by omega)⟩ rfl
  ·refine go ?_;intros
   refine ret ⟨z.y,z.a,z.c,z.a2,z.c2,z.F,0,s3⟩ ⟨by show z.y.Aa.Aj.length≤7;omega,by show z.y.holds.length≤20;omega,hp.mono (by omega)⟩ rfl
end Go.Proofs.YtaemjogbahcbcaaGreatDoor
