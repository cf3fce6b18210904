/- Part 5 of the proof: 48 texts, one behind the other. -/
import Derived.ArgAppend
import Derived.Lib.SliceRun
import Derived.Test.YtaemjogbahcbcaaGreatDoorShelf
import Derived.Lib.RowBridge
import Derived.Test.YtaemjogbahcbcaaGreatDoorM4
open _root_.Go.Proofs.Tryz
set_option maxRecDepth 100000
set_option maxHeartbeats 8000000
set_option linter.all false
set_option linter.unusedVariables false
set_option linter.unusedSimpArgs false
namespace Go.Proofs.YtaemjogbahcbcaaGreatDoor
open Go.RowKit
def Qw (q:List Av) (p:Av):List Av:=if q.length < 6 then q++[p] else q
def E9 (q ps:List Av):List Av:=q++ps.take (6 - q.length)
theorem Aep (q:List Av):E9 q []=q:=by unfold E9;simp
theorem Ajd (q:List Av) (p:Av) (ps:List Av):E9 (Qw q p) ps=E9 q (p::ps):=by
 unfold E9 Qw
 by_cases h:q.length < 6
 ·rw [if_pos h,show 6 - q.length=(6 - (q.length+1))+1 by omega,List.take_succ_cons]
  simp
 ·rw [if_neg h,show 6 - q.length=0 by omega];simp
theorem Al4 (q:List Av) (p:Av):E9 q [p]=Qw q p:=by rw [←Ajd,Aep]
theorem Aeo (q ps:List Av):(E9 q ps).length≤q.length+ps.length∧(q.length≤6→(E9 q ps).length≤6):=by
 unfold E9
 rw [List.length_append,List.length_take]
 omega
theorem Wn {q ps:List Av} (hq:Eo q=true) (hp:∀p∈ps,Bp p=true):Eo (E9 q ps)=true:=by
 unfold Eo at *
 simp only [Bool.and_eq_true,decide_eq_true_eq] at hq ⊢
 refine ⟨(Aeo q ps).2 hq.1,?_⟩
 unfold E9
 rw [List.all_append,hq.2,Bool.true_and,List.all_eq_true]
 exact fun p h=>hp p (List.mem_of_mem_take h)
def Dl (d:List (List Av)) (nodes:List Int) (ps:List Av):List (List Av):=nodes.foldl (fun d x=>d.modify x.toNat fun q=>E9 q ps) d
theorem Up (ps:List Av):∀(nodes:List Int) (d:List (List Av)),(Dl d nodes ps).length=d.length
 | [],_=>rfl
 | x::r,d=>by
  show (Dl (d.modify x.toNat fun q=>E9 q ps) r ps).length=d.length
  rw [Up ps r,List.length_modify]
theorem Aew (d:List (List Av)) (nodes:List Int) (x:Int) (ps:List Av):Dl d (nodes++[x]) ps=(Dl d nodes ps).modify x.toNat fun q=>E9 q ps:=by
 unfold Dl
 rw [List.foldl_append];rfl
def Jr (f:Nat→Nat):Nat→List (List Av)→Nat
 | _,[]=>0
 | k,x::r=>x.length * f k+Jr f (k+1) r
theorem Z8 (f:Nat→Nat):∀(l:List (List Av)) (k i:Nat) (h:i < l.length) (x:List Av),Jr f k (l.set i x)+l[i].length * f (k+i)=Jr f k l+x.length * f (k+i)
 | [],_,_,h,_=>absurd h (by simp)
 | y::r,k,0,_,x=>by
  show x.length * f k+Jr f (k+1) r+y.length * f k=y.length * f k+Jr f (k+1) r+x.length * f k
  omega
 | y::r,k,i+1,h,x=>by
  have hr:i < r.length:=by simpa using h
  have ih:=Z8 f r (k+1) i hr x
  show y.length * f k+Jr f (k+1) (r.set i x)+r[i].length * f (k+(i+1))=y.length * f k+Jr f (k+1) r+x.length * f (k+(i+1))
  rw [show k+(i+1)=k+1+i by omega]
  omega
theorem Gb {l:List (List Av)} {i:Nat} {g:List Av→List Av} (h:i < l.length):l.modify i g=l.set i (g l[i]):=by
 refine List.ext_getElem? fun j=>?_
 rw [List.getElem?_modify,List.getElem?_set]
 by_cases e:i=j
 ·subst e;simp [h]
 ·simp [e]
theorem Ui {l:List (List Av)} {i:Nat} {g:List Av→List Av} (h:¬i < l.length):l.modify i g=l:=by
 refine List.ext_getElem? fun j=>?_
 rw [List.getElem?_modify]
 by_cases e:i=j
 ·subst e;simp [List.getElem?_eq_none (show l.length≤i by omega)]
 ·simp [e]
theorem Ae6 (f:Nat→Nat) (l:List (List Av)) (i:Nat) (ps:List Av):Jr f 0 (l.modify i fun q=>E9 q ps)≤Jr f 0 l+ps.length * f i:=by
 by_cases h:i < l.length
 ·have h1:=Z8 f l 0 i h (E9 l[i] ps)
  have h2:=Nat.mul_le_mul_right (f i) (Aeo l[i] ps).1
  rw [Nat.zero_add,Nat.add_mul] at *
  rw [Gb h]
  omega
 ·rw [Ui h];omega
def Us (f:Nat→Nat) (nodes:List Int):Nat:=(nodes.map fun x=>f x.toNat).sum
theorem P6 (f:Nat→Nat) (ps:List Av):∀(nodes:List Int) (d:List (List Av)),Jr f 0 (Dl d nodes ps)≤Jr f 0 d+ps.length * Us f nodes
 | [],d=>by show Jr f 0 d≤_;omega
 | x::r,d=>by
  have ih:=P6 f ps r (d.modify x.toNat fun q=>E9 q ps)
  have h1:=Ae6 f d x.toNat ps
  show Jr f 0 (Dl (d.modify x.toNat fun q=>E9 q ps) r ps)≤Jr f 0 d+ps.length * (f x.toNat+Us f r)
  rw [Nat.mul_add];omega
theorem Anc (f:Nat→Nat) (l:List (List Av)) (i:Nat) (h:i < l.length) (h0:0 < l[i].length):Jr f 0 (l.set i (l[i].drop 1))+f i=Jr f 0 l:=by
 have h1:=Z8 f l 0 i h (l[i].drop 1)
 rw [List.length_drop,Nat.zero_add] at h1
 have h2:l[i].length * f i=(l[i].length - 1) * f i+f i:=by
  obtain ⟨m,hm⟩:∃m,l[i].length=m+1:=⟨l[i].length - 1,by omega⟩
  rw [hm,Nat.succ_mul,Nat.add_sub_cancel]
 omega
theorem Abw (f:Nat→Nat) (b:Nat):∀nodes:List Int,(∀x∈nodes,f x.toNat≤b)→Us f nodes≤nodes.length * b
 | [],_=>by simp [Us]
 | x::r,h=>by
  have ih:=Abw f b r fun y hy=>h y (by simp [hy])
  have:=h x (by simp)
  show f x.toNat+Us f r≤(r.length+1) * b
  rw [Nat.succ_mul];omega
theorem Jd {l:List Int} (hg:Ml l) {i:Nat} {x:Int} (h:x∈Gs l (i:Int)):i < x.toNat∧x.toNat < l.length∧0≤x:=by
 obtain ⟨j,hj,rfl,e⟩:=Ad7 h
 rcases Nat.eq_zero_or_pos j with rfl|h0
 ·have:=hg.z hj;omega
 ·have:=(hg.p j hj h0).2;simp only [Int.toNat_natCast];omega
theorem Qr (l:List Int) (node:Int):(Gs l node).length≤l.length:=Y5 l node l.length
theorem An2 (x:Fb) (gb:Nat) (n:Int) (u:Value) (G:List Nat):Fn prog 271 [u,Ez gb 0 0] [.isv Da u x G,.cel gb 0 [.int .i64 n]] [] (fun (_:Unit)=>True) (fun _=>.bool (x.Ae == n)) (fun _=>[]):=by
 refine enter func271 rfl ntmps271 fun w0=>?_
 refine Abh ?_
 rintro a1 c1 F1 rfl l1
 refine go ?_;intros
 refine ret () trivial ?_
 rfl
theorem Agp (e:Bl) (n:Int) (v:Value) (F:List Nat):Fn prog 242 [v,.int .i64 n] [.isv Bn v e F] [] (fun (_:Unit)=>True) (fun _=>.int .i64 (Ox (fun x=>x.Ae == n) e.Ah)) (fun _=>[]):=by
 refine enter func242 rfl ntmps242 fun w0=>?_
 refine Ep ?_
 rintro a1 c1 F1 rfl l1
 refine go ?_;intros
 rename_i gb
 refine cb (fun w st=>Og _ (Q6 (by kernel_rfl)) #[Ez gb 0 0] _ e.Ah _ (fun x=>x.Ae == n) w (st.get (p:=.sl Da (.slice a1 e.Ah.length c1) e.Ah F1) (by simp)).2 (fun k hk wr u G hB hu=>(An2 e.Ah[k] gb n u G).val wr (Sf hu ⟨by simp,Gh ((st.below hB).get (p:=.row gb 3 0 [] [.int .i64 n] []) (by simp))⟩))) ?_
 refine go ?_;intros
 refine ret () trivial rfl
theorem Aba (e:Bl) (n:Int) (v:Value) (F:List Nat):Fn prog 189 [v,.int .i64 n] [.isv Bn v e F] [] (fun (_:Unit)=>True) (fun _=>.int .i64 (Ox (fun x=>x.Ae == n) e.Ah)) (fun _=>[]):=by
 refine enter func189 rfl ntmps189 fun w0=>?_
 refine Ep ?_
 rintro a1 c1 F1 rfl l1
 unfold maxLen at l1
 refine go ?_;intros
 refine Dv [1,2,4] (fun k:Nat=>[(5,.int .i64 (k:Nat))]) (fun k=>k≤e.Ah.length∧∀j (_:j < k) (hj:j < e.Ah.length),(e.Ah[j].Ae == n)=false) (fun k=>e.Ah.length - k) 0 ⟨Nat.zero_le _,fun j h=>by omega⟩ fun k hk=>?_
 obtain ⟨hk1,hk2⟩:=hk
 refine go ?_;intros
 refine Bg rfl (fun h1=>?_) (fun h1=>?_)
 ·have hh:k < e.Ah.length:=by omega
  refine go ?_;intros
  refine U2 (xs:=e.Ah) k ?_
  rintro hi b o a3 c3 F3 e1 l3
  rw [e1]
  refine go ?_;intros
  refine Bg rfl (fun h2=>?_) (fun h2=>?_)
  ·refine go ?_;intros
   refine ret () trivial ?_
   rw [M4 hh hk2 (by simpa using h2)];rfl
  ·refine go ?_;intros
   refine Ck (k+1) ⟨hh,fun j hj hl=>?_⟩ (by omega)
   rcases Nat.lt_or_eq_of_le (Nat.lt_succ_iff.1 hj) with h|rfl
   ·exact hk2 j h hl
   ·simpa using h2
 ·obtain rfl:k=e.Ah.length:=by omega
  refine go ?_;intros
  refine ret () trivial ?_
  rw [Ly (fun j hj=>hk2 j hj hj)];rfl
theorem Aod (l:List Int) (n:Int) (a:Option Addr) (c:Nat) (F:List Nat):Fn prog 220 [.slice a l.length c,.int .i64 n] [.sl Bd (.slice a l.length c) l F] [] (fun (_:Unit)=>True) (fun _=>.bool (decide (n∈l))) (fun _=>[]):=by
 refine enter func220 rfl ntmps220 fun w0=>?_
 refine Tp (xs:=l) ?_
 rintro _ _ _ l2 l3
 refine go ?_;intros
 refine Dv [0,1,4] (fun k:Nat=>[(5,.int .i64 (k:Nat))]) (fun k=>k≤l.length∧n ∉ l.take k) (fun k=>l.length - k) 0 ⟨Nat.zero_le _,by simp⟩ fun k hk=>?_
 obtain ⟨hk1,hk2⟩:=hk
 refine go ?_;intros
 refine Bg rfl (fun h1=>?_) (fun h1=>?_)
 ·have hh:k < l.length:=by omega
  refine go ?_;intros
  refine In (xs:=l) k ?_
  rintro hi b o e1
  rw [e1]
  refine go ?_;intros
  refine Bg rfl (fun h2=>?_) (fun h2=>?_)
  ·refine go ?_;intros
   refine ret () trivial ?_
   rw [decide_eq_true (h2▸List.getElem_mem hh:n∈l)];rfl
  ·refine go ?_;intros
   refine Ck (k+1) ⟨hh,fun hm=>?_⟩ (by omega)
   rw [List.take_add_one,List.getElem?_eq_getElem hh] at hm
   rcases List.mem_append.1 hm with h|h
   ·exact hk2 h
   ·simp at h;exact h2 h.symm
 ·obtain rfl:k=l.length:=by omega
  rw [List.take_length] at hk2
  refine go ?_;intros
  refine ret () trivial ?_
  rw [decide_eq_false hk2];rfl
theorem Mi (n:Int) (w:World):Cw Bd w [.int .i64 n] [n] []:=⟨_,[],[],[],by simp,by simp,⟨rfl,rfl⟩,rfl,rfl⟩
theorem Aja (l:List Int) (n:Int):I3 l n≤l.length:=(N1 (p:=fun x=>decide (x < n)) (xs:=l)).1
structure As4 where
 a:Option Addr
 c:Nat
 F:List Nat
theorem Aof (l:List Int) (n:Int) (a:Option Addr) (c:Nat) (F:List Nat) (hl:l.length≤1000000):Fn prog 190 [.slice a l.length c,.int .i64 n] [] [.ow Bd 3 (.slice a l.length c) l F] (fun (_:As4)=>True) (fun s=>.slice s.a (Ok l n).length s.c) (fun s=>[.ow Bd 3 (.slice s.a (Ok l n).length s.c) (Ok l n) s.F]):=by
 refine enter func190 rfl ntmps190 fun w0=>?_
 refine go ?_;intros
 refine Dv [0,1,4] (fun k:Nat=>[(5,.int .i64 (k:Nat))]) (fun k=>k≤l.length∧∀j (_:j < k) (hj:j < l.length),l[j] < n) (fun k=>l.length - k) 0 ⟨Nat.zero_le _,fun j h=>by omega⟩ fun k hk=>?_
 obtain ⟨hk1,hk2⟩:=hk
 refine go ?_;intros
 refine Dc rfl rfl (fun h1=>?_) (fun h1=>?_)
 ·have hh:k < l.length:=by omega
  refine go ?_;intros
  refine N6 (m:=1) Du k ?_ (by repeat (first|exact .here|apply C0.there)) rfl hh
  rintro _ g A cs B rfl rfl hr hH
  obtain ⟨rfl, -⟩:=hr w0
  refine go ?_;intros
  refine Nd l[k] hH hr ?_
  rw [List.set_getElem_self]
  refine Bg rfl (fun h2=>?_) (fun h2=>?_)
  ·refine go ?_;intros
   refine Ck (k+1) ⟨hh,fun j hj hl=>?_⟩ (by omega)
   rcases Nat.lt_or_eq_of_le (Nat.lt_succ_iff.1 hj) with h|rfl
   ·exact hk2 j h hl
   ·exact h2
  ·have hp:I3 l n=k:=Wl hk1 hk2 (fun _=>h2)
   refine go ?_;intros
   refine Dc rfl rfl (fun h4=>?_) (fun h4=>absurd h1 h4)
   refine go ?_;intros
   refine N6 (m:=1) Du k ?_ (by repeat (first|exact .here|apply C0.there)) rfl hh
   rintro _ g A cs B e1 - hr hH
   cases e1
   obtain ⟨rfl, -⟩:=hr w0
   refine go ?_;intros
   refine Nd l[k] hH hr ?_
   rw [List.set_getElem_self]
   refine Bg rfl (fun h3=>?_) (fun h3=>?_)
   ·have e:Ok l n=l:=by unfold Ok;rw [hp,List.getElem?_eq_getElem hh,if_pos (by rw [h3])]
    rw [e]
    refine go ?_;intros
    refine ret ⟨_,_,_⟩ trivial rfl
   ·have e:Ok l n=l.take k++[n]++l.drop k:=by unfold Ok;rw [hp,List.getElem?_eq_getElem hh,if_neg (by simpa using h3)];simp
    refine go ?_;intros
    refine A1 fun F5=>?_
    refine Amz k (by omega) fun F6 hc1 hc2=>?_
    refine As [] [] ?_
    refine dt 1 ?_
    refine dt 2 ?_
    refine dt 3 ?_ (hy:=Mc (i:=k) rfl rfl rfl (by omega) (by omega))
    refine dt 5 ?_
    refine dt 8 ?_
    refine dt 9 ?_
    refine Afl 10 k fun a6 c6 F6=>?_
    refine Ov 0 6 (by kernel_rfl) (by rw [List.getElem?_toArray];rfl) (by rw [List.getElem?_toArray];rfl) ?_ ?_
    ·apply Jw;rfl;intro _
     refine C9 Bd ?_
     refine dk ?_
     refine Ov 4 6 (by kernel_rfl) (by rw [List.getElem?_toArray];rfl) (by rw [List.getElem?_toArray];rfl) ?_ ?_
     ·refine Lx C8 Du (fun a2 c2 F2=>?_) (hn:=by rw [List.length_take];omega) (h63:=by exact I0) (hby:=by exact I0)
      refine dk ?_
      refine dO 6 (by kernel_rfl) (by rw [List.getElem?_toArray];rfl) ?_
      apply Ho;rfl;rfl;rfl;rfl;exact Hl;exact Hg;intro _
      refine dk ?_
      refine dO 7 (by kernel_rfl) (by rw [List.getElem?_toArray];rfl) ?_
      refine Mf (Mi n) C8 (fun a3 c3 F3=>?_) (h63:=by exact I0) (hby:=by exact I0)
      refine dk ?_
      refine dO 11 (by kernel_rfl) (by rw [List.getElem?_toArray];rfl) ?_
      refine Lx C8 Du (fun a4 c4 F4=>?_) (h63:=by exact I0) (hby:=by exact I0)
      refine dk ?_
      refine dt 12 ?_
      refine dd ?_
      rw [e]
      refine go ?_;intros
      refine ret ⟨_,_,_⟩ trivial rfl
     ·apply Ho;rfl;rfl;rfl;rfl;exact Hl;exact Hg;intro _
      refine dk ?_
      refine dO 4 (by kernel_rfl) (by rw [List.getElem?_toArray];rfl) ?_
      refine Lx C8 Du (fun a2 c2 F2=>?_) (hn:=by rw [List.length_take];omega) (h63:=by exact I0) (hby:=by exact I0)
      refine dk ?_
      refine dO 7 (by kernel_rfl) (by rw [List.getElem?_toArray];rfl) ?_
      refine Mf (Mi n) C8 (fun a3 c3 F3=>?_) (h63:=by exact I0) (hby:=by exact I0)
      refine dk ?_
      refine dO 11 (by kernel_rfl) (by rw [List.getElem?_toArray];rfl) ?_
      refine Lx C8 Du (fun a4 c4 F4=>?_) (h63:=by exact I0) (hby:=by exact I0)
      refine dk ?_
      refine dt 12 ?_
      refine dd ?_
      rw [e]
      refine go ?_;intros
      refine ret ⟨_,_,_⟩ trivial rfl
    ·apply Ho;rfl;rfl;rfl;rfl;exact Hl;exact Hg;intro _
     refine dk ?_
     refine dO 0 (by kernel_rfl) (by rw [List.getElem?_toArray];rfl) ?_
     apply Jw;rfl;intro _
     refine C9 Bd ?_
     refine dk ?_
     refine dO 4 (by kernel_rfl) (by rw [List.getElem?_toArray];rfl) ?_
     refine Lx C8 Du (fun a2 c2 F2=>?_) (hn:=by rw [List.length_take];omega) (h63:=by exact I0) (hby:=by exact I0)
     refine dk ?_
     refine dO 7 (by kernel_rfl) (by rw [List.getElem?_toArray];rfl) ?_
     refine Mf (Mi n) C8 (fun a3 c3 F3=>?_) (h63:=by exact I0) (hby:=by exact I0)
     refine dk ?_
     refine dO 11 (by kernel_rfl) (by rw [List.getElem?_toArray];rfl) ?_
     refine Lx C8 Du (fun a4 c4 F4=>?_) (h63:=by exact I0) (hby:=by exact I0)
     refine dk ?_
     refine dt 12 ?_
     refine dd ?_
     rw [e]
     refine go ?_;intros
     refine ret ⟨_,_,_⟩ trivial rfl
 ·have hp:I3 l n=k:=Wl hk1 hk2 (fun h=>by omega)
  have e:Ok l n=l.take k++[n]++l.drop k:=by unfold Ok;rw [hp,List.getElem?_eq_none (by omega)];simp
  refine go ?_;intros
  refine Dc rfl rfl (fun h4=>absurd h4 h1) (fun h4=>?_)
  refine go ?_;intros
  refine A1 fun F5=>?_
  refine Amz k (by omega) fun F6 hc1 hc2=>?_
  refine As [] [] ?_
  refine dt 1 ?_
  refine dt 2 ?_
  refine dt 3 ?_ (hy:=Mc (i:=k) rfl rfl rfl (by omega) (by omega))
  refine dt 5 ?_
  refine dt 8 ?_
  refine dt 9 ?_
  refine Afl 10 k fun a6 c6 F6=>?_
  refine Ov 0 6 (by kernel_rfl) (by rw [List.getElem?_toArray];rfl) (by rw [List.getElem?_toArray];rfl) ?_ ?_
  ·apply Jw;rfl;intro _
   refine C9 Bd ?_
   refine dk ?_
   refine Ov 4 6 (by kernel_rfl) (by rw [List.getElem?_toArray];rfl) (by rw [List.getElem?_toArray];rfl) ?_ ?_
   ·refine Lx C8 Du (fun a2 c2 F2=>?_) (hn:=by rw [List.length_take];omega) (h63:=by exact I0) (hby:=by exact I0)
    refine dk ?_
    refine dO 6 (by kernel_rfl) (by rw [List.getElem?_toArray];rfl) ?_
    apply Ho;rfl;rfl;rfl;rfl;exact Hl;exact Hg;intro _
    refine dk ?_
    refine dO 7 (by kernel_rfl) (by rw [List.getElem?_toArray];rfl) ?_
    refine Mf (Mi n) C8 (fun a3 c3 F3=>?_) (h63:=by exact I0) (hby:=by exact I0)
    refine dk ?_
    refine dO 11 (by kernel_rfl) (by rw [List.getElem?_toArray];rfl) ?_
    refine Lx C8 Du (fun a4 c4 F4=>?_) (h63:=by exact I0) (hby:=by exact I0)
    refine dk ?_
    refine dt 12 ?_
    refine dd ?_
    rw [e]
    refine go ?_;intros
    refine ret ⟨_,_,_⟩ trivial rfl
   ·apply Ho;rfl;rfl;rfl;rfl;exact Hl;exact Hg;intro _
    refine dk ?_
    refine dO 4 (by kernel_rfl) (by rw [List.getElem?_toArray];rfl) ?_
    refine Lx C8 Du (fun a2 c2 F2=>?_) (hn:=by rw [List.length_take];omega) (h63:=by exact I0) (hby:=by exact I0)
    refine dk ?_
    refine dO 7 (by kernel_rfl) (by rw [List.getElem?_toArray];rfl) ?_
    refine Mf (Mi n) C8 (fun a3 c3 F3=>?_) (h63:=by exact I0) (hby:=by exact I0)
    refine dk ?_
    refine dO 11 (by kernel_rfl) (by rw [List.getElem?_toArray];rfl) ?_
    refine Lx C8 Du (fun a4 c4 F4=>?_) (h63:=by exact I0) (hby:=by exact I0)
    refine dk ?_
    refine dt 12 ?_
    refine dd ?_
    rw [e]
    refine go ?_;intros
    refine ret ⟨_,_,_⟩ trivial rfl
  ·apply Ho;rfl;rfl;rfl;rfl;exact Hl;exact Hg;intro _
   refine dk ?_
   refine dO 0 (by kernel_rfl) (by rw [List.getElem?_toArray];rfl) ?_
   apply Jw;rfl;intro _
   refine C9 Bd ?_
   refine dk ?_
   refine dO 4 (by kernel_rfl) (by rw [List.getElem?_toArray];rfl) ?_
   refine Lx C8 Du (fun a2 c2 F2=>?_) (hn:=by rw [List.length_take];omega) (h63:=by exact I0) (hby:=by exact I0)
   refine dk ?_
   refine dO 7 (by kernel_rfl) (by rw [List.getElem?_toArray];rfl) ?_
   refine Mf (Mi n) C8 (fun a3 c3 F3=>?_) (h63:=by exact I0) (hby:=by exact I0)
   refine dk ?_
   refine dO 11 (by kernel_rfl) (by rw [List.getElem?_toArray];rfl) ?_
   refine Lx C8 Du (fun a4 c4 F4=>?_) (h63:=by exact I0) (hby:=by exact I0)
   refine dk ?_
   refine dt 12 ?_
   refine dd ?_
   rw [e]
   refine go ?_;intros
   refine ret ⟨_,_,_⟩ trivial rfl
theorem Ahw {c:Cx} {fr:Fr} {H S:List Pc} {Φ:Gl} (x:Bl) {a:Option Addr} {n cp:Nat} {F:List Nat} (hn:n=x.Ah.length) (h:T c fr (.own Bt (.agg #[.int .i64 x.Ai,.slice a n cp]) x F::S) Φ) (hp:C0 H (.ow Ee 136 (.slice a n cp) x.Ah F) S:=by exact D0):T c fr H Φ:=by
 subst hn;exact Fj x h hp
theorem Zo {e:Bl} {n f:Int} (h:Ke e n < e.Ah.length):Lf e n f=⟨e.Ai,e.Ah.set (Ke e n) ⟨e.Ah[Ke e n].Ae,Ok e.Ah[Ke e n].Bi f,e.Ah[Ke e n].Ca⟩⟩:=by unfold Lf;rw [List.getElem?_eq_getElem h]
theorem Zn {e:Bl} {n f:Int} (h:e.Ah[Ke e n]?=none) (hl:e.Ah.length < 5):Lf e n f=⟨e.Ai,e.Ah++[⟨n,[f],e.Ai+6⟩]⟩:=by unfold Lf;rw [h];simp [hl]
theorem Wo {e:Bl} {n f:Int} (h:e.Ah[Ke e n]?=none) (hl:¬e.Ah.length < 5):Lf e n f=e:=by unfold Lf;rw [h];simp [hl]
theorem Rd (e:Bl) (n f:Int) (v:Value) (F:List Nat) (hl:e.Ah.length≤1000000) (hf:∀x∈e.Ah,x.Bi.length≤1000000) (hc0:-1000000≤e.Ai) (hc1:e.Ai≤1000000):Fn prog 131 [v,.int .i64 n,.int .i64 f] [.isv Bn v e F] [] (fun (_:Value × List Nat)=>True) (fun s=>.tuple #[s.1,.bool (V6 e n)]) (fun s=>[.own Bt s.1 (Lf e n f) s.2]):=by
 refine enter func131 rfl ntmps131 fun w0=>?_
 refine Ep ?_
 rintro a1 c1 F1 rfl l1
 refine go ?_;intros
 refine cv (fun w st=>Vc _ e _ w (st.get (p:=.isv Bn (.agg #[.int .i64 e.Ai,.slice a1 e.Ah.length c1]) e F) (by simp)) (by omega) (fun x hx=>Nat.le_trans (hf x hx) (by decide))) fun u FU=>?_
 refine Ha ?_
 rintro a2 c2 F2 rfl l2
 refine go ?_;intros
 refine cf (Aba e n _ F) fun _ _=>?_
 refine Ap ?_
 rcases Ql e n with ⟨h,e1,e2,e3⟩|⟨e1,e2,e3,e4⟩
 ·rw [e1,e3,Zo h]
  have hfx:=hf e.Ah[Ke e n] (List.getElem_mem h)
  refine go ?_;intros
  refine V5 (m:=3) (Ke e n) ?_ rfl h
  rintro _ g A cs B k1 k2 G1 Gi G2 rfl - hc hH
  refine Uk ?_
  rintro a5 c5 F5 ev l5
  obtain rfl:cs=[.int .i64 e.Ah[Ke e n].Ae,.slice a5 e.Ah[Ke e n].Bi.length c5,.int .i64 e.Ah[Ke e n].Ca]:=by simpa using ev
  refine go ?_;intros
  refine cf (Aof _ f a5 c5 F5 hfx) fun z _=>?_
  refine Ap ?_
  refine go ?_;intros
  refine Mm ⟨e.Ah[Ke e n].Ae,Ok e.Ah[Ke e n].Bi f,e.Ah[Ke e n].Ca⟩ ?_
  refine Rw _ hH rfl fun F6=>?_
  refine Ahw ⟨e.Ai,_⟩ List.length_set.symm ?_
  refine ret (_,_) trivial rfl
 ·rw [e1,e3]
  refine go ?_;intros
  refine Bg rfl (fun h5=>?_) (fun h5=>?_)
  ·rw [Zn e2 (by omega)]
   refine go ?_;intros
   refine Ei (E:=Bd) (xs:=[f]) (Mi f) ?_ (by simp)
   refine Mm ⟨n,[f],e.Ai+6⟩ ?_
   apply wO
   refine Ab3 Pm ⟨n,[f],e.Ai+6⟩ rfl fun a3 c3 F3=>?_
   refine go ?_;intros
   refine Ahw ⟨e.Ai,_⟩ rfl ?_
   refine ret (_,_) trivial rfl
  ·rw [Wo e2 (by omega)]
   refine go ?_;intros
   refine Ahw e rfl ?_
   refine ret (_,_) trivial rfl
def U6 (e:Bl) (n:Int) (below:List Int):List Int:=match e.Ah[Ke e n]? with
 | some x=>below.filter fun f=>decide (f∈x.Bi)
 | none=>if e.Ah.length=5 then below else []
theorem Zl {e:Bl} {n:Int} (h:Ke e n < e.Ah.length):M9 e n=⟨e.Ai,e.Ah.take (Ke e n)++e.Ah.drop (Ke e n+1)⟩:=by unfold M9;rw [List.getElem?_eq_getElem h]
theorem Acr {e:Bl} {n:Int} (h:e.Ah[Ke e n]?=none):M9 e n=e:=by unfold M9;rw [h]
theorem Ak0 {e:Bl} {n:Int} {l:List Int} (h:Ke e n < e.Ah.length):U6 e n l=l.filter fun f=>decide (f∈e.Ah[Ke e n].Bi):=by unfold U6;rw [List.getElem?_eq_getElem h]
theorem An1 {e:Bl} {n:Int} {l:List Int} (h:e.Ah[Ke e n]?=none):U6 e n l=if e.Ah.length=5 then l else []:=by unfold U6;rw [h]
structure Ap4 where
 k:Nat
 a:Option Addr
 c:Nat
 F:List Nat
structure As5 where
 v:Value
 F:List Nat
 a:Option Addr
 c:Nat
 G:List Nat
theorem Xk (e:Bl) (n:Int) (below:List Int) (v:Value) (F:List Nat) (a0:Option Addr) (c0:Nat) (F0:List Nat) (hl:e.Ah.length≤1000000) (hf:∀x∈e.Ah,x.Bi.length≤1000000) (hb:below.length≤1000000):Fn prog 163 [v,.int .i64 n,.slice a0 below.length c0] [.isv Bn v e F,.sl Bd (.slice a0 below.length c0) below F0] [] (fun (_:As5)=>True) (fun s=>.tuple #[s.v,.slice s.a (U6 e n below).length s.c]) (fun s=>[.own Bt s.v (M9 e n) s.F,.ow Bd 3 (.slice s.a (U6 e n below).length s.c) (U6 e n below) s.G]):=by
 refine enter func163 rfl ntmps163 fun w0=>?_
 refine Ep ?_
 rintro a1 c1 F1 rfl l1
 refine go ?_;intros
 refine cv (fun w st=>Vc _ e _ w (st.get (p:=.isv Bn (.agg #[.int .i64 e.Ai,.slice a1 e.Ah.length c1]) e F) (by simp)) (by omega) (fun x hx=>Nat.le_trans (hf x hx) (by decide))) fun u FU=>?_
 refine Ha ?_
 rintro a2 c2 F2 rfl l2
 refine go ?_;intros
 refine cf (Aba e n _ F) fun _ _=>?_
 refine Ap ?_
 refine C9 Bd ?_
 rcases Ql e n with ⟨h,e1,e2,e3⟩|⟨e1,e2,e3,e4⟩
 ·rw [e1,Zl h,Ak0 h]
  have hfx:=hf e.Ah[Ke e n] (List.getElem_mem h)
  refine go ?_;intros
  refine U2 (xs:=e.Ah) (Ke e n) ?_
  rintro hi b o a5 c5 F5 e6 l5
  generalize Ke e n=i at *
  generalize hx:e.Ah[i]=x at *
  rw [e6]
  refine go ?_;intros
  refine Cp [2,3,6,7,8,10] (fun s:Ap4=>[(11,.int .i64 (s.k:Nat)),(9,.slice s.a ((below.take s.k).filter fun f=>decide (f∈x.Bi)).length s.c)]) (fun s=>[.ow Bd 3 (.slice s.a ((below.take s.k).filter fun f=>decide (f∈x.Bi)).length s.c) ((below.take s.k).filter fun f=>decide (f∈x.Bi)) s.F]) (fun s=>s.k≤below.length) (fun s=>below.length - s.k) ⟨0,_,_,_⟩ (Nat.zero_le _) fun s hs=>?_
  obtain ⟨k,a3,c3,F3⟩:=s
  dsimp only at hs ⊢
  refine go ?_;intros
  refine Bg rfl (fun h6=>?_) (fun h6=>?_)
  ·have hk:k < below.length:=by omega
   refine In (xs:=below) k ?_
   rintro hi2 b2 o2 e7
   rw [e7]
   have ht:below.take (k+1)=below.take k++[below[k]]:=by rw [List.take_add_one,List.getElem?_eq_getElem hk];rfl
   have hle:((below.take k).filter fun f=>decide (f∈x.Bi)).length≤k:=Nat.le_trans (List.length_filter_le _ _) (by simp;omega)
   refine go ?_;intros
   refine As [0,2,7] [] ?_
   refine dt 0 ?_
   refine dt 1 ?_
   refine dt 2 ?_
   refine dt 3 ?_
   refine dt 4 ?_
   refine dt 5 ?_
   refine dt 6 ?_
   refine dt 7 ?_
   refine dt 8 ?_
   refine dt 9 ?_
   refine dO 10 (by kernel_rfl) (by rw [List.getElem?_toArray];rfl) ?_
   apply At;rfl;kernel_rfl;exact Bf
   refine cf (Aod x.Bi below[k] a5 c5 F5) fun _ _=>?_
   refine Ap ?_
   refine dk ?_
   refine dd ?_
   refine go ?_;intros
   refine Bg rfl (fun h7=>?_) (fun h7=>?_)
   ·have e8:(below.take (k+1)).filter (fun f=>decide (f∈x.Bi))=((below.take k).filter fun f=>decide (f∈x.Bi))++[below[k]]:=by rw [ht,List.filter_append];simp [h7]
    refine go ?_;intros
    apply wO
    refine Mf (Mi _) C8 fun a6 c6 F6=>?_
    rw [←e8]
    refine go ?_;intros
    refine Ck (⟨k+1,_,_,_⟩:Ap4) hk (by dsimp only;omega)
   ·have e8:(below.take (k+1)).filter (fun f=>decide (f∈x.Bi))=((below.take k).filter fun f=>decide (f∈x.Bi)):=by rw [ht,List.filter_append];simp [h7]
    refine go ?_;intros
    rw [←e8]
    refine Ck (⟨k+1,_,_,_⟩:Ap4) hk (by dsimp only;omega)
  ·have hk:below.take k=below:=List.take_of_length_le (by omega)
   rw [hk]
   refine go ?_;intros
   refine Wt Pm rfl fun ys Fy Gy hyl hym=>?_
   refine Amw i hi hyl hym fun G1 Gi G2=>?_
   refine A1 (E:=EC 3) (xs:=ys) fun Fr=>?_
   refine Amz (E:=EC 3) (xs:=ys) i (by omega) fun F6 hc1 hc2=>?_
   refine As [8] [13] ?_
   refine dt 1 ?_
   refine dt 2 ?_
   refine dt 3 ?_
   refine dt 4 ?_ (hy:=Mc (i:=i) rfl rfl rfl (by omega) (by omega))
   refine dt 6 ?_
   refine dt 7 ?_
   refine dt 8 ?_
   refine dt 9 ?_
   refine Afl 10 (i+1) fun a7 c7 F7=>?_
   refine dO 0 (by kernel_rfl) (by rw [List.getElem?_toArray];rfl) ?_
   apply Jw;rfl;intro _
   refine C9 (EC 3) ?_
   refine dk ?_
   refine dO 5 (by kernel_rfl) (by rw [List.getElem?_toArray];rfl) ?_
   refine Lx (M6 3) (Ga 3) (fun a6 c6 F6=>?_) (hn:=by rw [List.length_take];omega) (h63:=by exact I0) (hby:=by exact I0)
   refine dk ?_
   refine dO 11 (by kernel_rfl) (by rw [List.getElem?_toArray];rfl) ?_
   refine Lx (M6 3) (Ga 3) (fun a8 c8 F8=>?_) (h63:=by exact I0) (hby:=by exact I0)
   refine dk ?_
   refine dt 12 ?_
   refine dO 13 (by kernel_rfl) (by rw [List.getElem?_toArray];rfl) ?_
   apply Cs;rfl;rfl;rfl;(first|exact AggC.s|exact OneC.s);rfl;exact Cu;exact Ct;rfl
   refine Ng ?_
   refine dd ?_
   refine Ahi (E:=Ee) ?_
   refine Amu (E:=Ee) (m:=3) (ys:=([]++ys.take i)++ys.drop (i+1)) (cs:=(ys.take i).flatten++(ys.drop (i+1)).flatten) (xs:=e.Ah.take i++e.Ah.drop (i+1)) ?_ rfl (by simp) (by simp [hyl])
   refine go ?_;intros
   refine Ahw (n:=(([]++ys.take i)++ys.drop (i+1)).length) ⟨e.Ai,e.Ah.take i++e.Ah.drop (i+1)⟩ (by simp [hyl]) ?_
   refine ret ⟨_,_,_,_,_⟩ trivial rfl
 ·rw [e1,Acr e2,An1 e2]
  refine go ?_;intros
  refine Bg rfl (fun h5=>?_) (fun h5=>?_)
  ·rw [if_pos (by omega)]
   refine go ?_;intros
   apply wO
   refine Lx C8 Du fun a4 c4 F4=>?_
   refine go ?_;intros
   refine Ahw e rfl ?_
   refine ret ⟨_,_,_,_,_⟩ trivial rfl
  ·rw [if_neg (by omega)]
   refine go ?_;intros
   refine Ahw e rfl ?_
   refine ret ⟨_,_,_,_,_⟩ trivial rfl
section
variable {P:Program} {n:Nat} {fr:Fr} {H:List Pc} {ty:TypeId} {x y z u:Operand}
theorem Ane {t e m i g o len cp:Nat} {kd:IntKind} {q:Int} [hS:SlC P t e m] (hx:ev fr x=some (.slice (some ⟨g,o,none⟩) len cp)) (hy:ev fr y=some (.int kd q)) (hq:q=(i:Int)) (hi:i≤len) (hlc:len≤cp):Yd P n fr H (.slice t x (some y) none none) ty (.slice (some ⟨g,if cp=i then o else o+i * m,none⟩) (len - i) (cp - i)):=.mk fun ac w d pos Cg gd hA _=>by
 subst hq
 have he2:P.elem t=e:=by simp [Program.elem,hS.u]
 have h3:(Instr.sliceAt t (.slice (some ⟨g,o,none⟩) len cp) (some (.int kd (i:Int))) none none).run P w=.ok (.slice (some ⟨g,if cp=i then o else o+i * m,none⟩) (len - i) (cp - i)) w:=by
  rw [run_sliceAt_slice (h:=by rw [he2];exact hS.u),run_slice_l (ht:=by rw [he2];exact hS.u) (h0:=by omega) (h1:=by omega),he2,Ki hS.s]
  simp only [Result.andThen,sliced,Option.map_some,Addr.add_lit,Int.toNat_natCast]
  split <;> rfl
 simp only [execOp,Option.map_none,Option.map_some,hA.ev hx,hA.ev hy,Sem.run_bind,h3,Result.andThen_ok,Sem.run_pure]
theorem Aho {t e m i j g o len cp:Nat} {kd kd2:IntKind} {q r:Int} [hS:SlC P t e m] (hx:ev fr x=some (.slice (some ⟨g,o,none⟩) len cp)) (hy:ev fr y=some (.int kd q)) (hz:ev fr z=some (.int kd2 r)) (hq:q=(i:Int)) (hr:r=(j:Int)) (hi:i < cp) (hij:i≤j) (hj:j≤cp):Yd P n fr H (.slice t x (some y) (some z) none) ty (.slice (some ⟨g,o+i * m,none⟩) (j - i) (cp - i)):=.mk fun ac w d pos Cg gd hA _=>by
 subst hq hr
 have he2:P.elem t=e:=by simp [Program.elem,hS.u]
 have h3:(Instr.sliceAt t (.slice (some ⟨g,o,none⟩) len cp) (some (.int kd (i:Int))) (some (.int kd2 (j:Int))) none).run P w=.ok (.slice (some ⟨g,o+i * m,none⟩) (j - i) (cp - i)) w:=by
  rw [run_sliceAt_slice (h:=by rw [he2];exact hS.u),run_slice_lh (ht:=by rw [he2];exact hS.u) (h0:=by omega) (h1:=by omega) (h2:=by omega),he2,Ki hS.s]
  simp only [Result.andThen,sliced,Option.map_some,Addr.add_lit,Int.toNat_natCast]
  rw [if_neg (by omega)]
 simp only [execOp,Option.map_none,Option.map_some,hA.ev hx,hA.ev hy,hA.ev hz,Sem.run_bind,h3,Result.andThen_ok,Sem.run_pure]
end
section
variable {c:Cx} {fr:Fr} {H:List Pc} {k:List It} {Φ:Gl} {d:Nat} {ty:TypeId} {x y z u:Operand}
theorem Aeh {t e m n cp i j l:Nat} {a:Option Addr} {q r s:Int} [hS:SlC c.P t e m] (hd:Nat.blt d c.n=true) (hx:ev fr x=some (.slice a n cp)) (hy:ev fr y=some (.int .i64 q)) (hz:ev fr z=some (.int .i64 r)) (hu:ev fr u=some (.int .i64 s)) (hq:q=(i:Int)) (hr:r=(j:Int)) (hs:s=(l:Int)) (hij:i≤j) (hjl:j≤l) (hl:l≤cp) (h:∀v,T c ((d,v)::fr) H Φ):On c fr H (some d) (.slice t x (some y) (some z) (some u)) ty Φ:=⟨fun _ _ _=>Ni fun Q ac w st g=>by
 subst hq hr hs
 have he2:=X4 hS
 obtain ⟨v,h3⟩:∃v,(Instr.sliceAt t (.slice a n cp) (some (.int .i64 (i:Int))) (some (.int .i64 (j:Int))) (some (.int .i64 (l:Int)))).run c.P w=.ok v w:=by
  rw [run_sliceAt_slice (h:=by rw [he2];exact hS.u),run_slice_lhm (ht:=by rw [he2];exact hS.u) (h0:=by omega) (h1:=by omega) (h2:=by omega) (h3:=by omega),he2,Ki hS.s]
  exact ⟨_,rfl⟩
 have e1:∀pos Cg gd,(execOp ac.eval ⟨some d,.slice t x (some y) (some z) (some u),ty,pos,Cg,gd⟩).run c.P w=.ok (.value v) w:=by
  intro pos Cg gd
  simp only [execOp,Option.map_none,Option.map_some,g.ev hx,g.ev hy,g.ev hz,g.ev hu,Sem.run_bind,h3,Result.andThen_ok,Sem.run_pure]
 rw [e1]
 exact (h v).h _ w st (g.put hd)⟩
theorem Alr {α:Type} {E:Bv α} (sc:U1 E) (one:W0 E) {t e m b g n cp i j q c2:Nat} {zv:Value} [hS:SlC c.P t e m] [hE:ElT c.P e zv m b] (hm:E.sz=m) {xs:List α} {F:List Nat} {S:List Pc}
  (hd:Nat.blt d c.n=true) (hx:ev fr x=some (.slice (some ⟨g,0,none⟩) i cp)) (hy:ev fr y=some (.slice (some ⟨g,q,none⟩) (n - j) c2)) (hq:j < n→q=j * m) (hij:i≤j) (hj:j≤n) (hn:n=xs.length)
  (hp:C0 H (.ow E e (.slice (some ⟨g,0,none⟩) n cp) xs F) S) (h:T c ((d,.slice (some ⟨g,0,none⟩) (i+(n - j)) cp)::fr) (.ow E e (.slice (some ⟨g,0,none⟩) n cp) (xs.take i++xs.drop j++xs.drop (i+(n - j))) F::S) Φ) :
  On c fr H (some d) (.call { callee:=.builtin .append,args:=#[x,y],argTypes:=#[t,t] }) ty Φ:=⟨fun _ _ _=>Ni fun Q a w s ag=>by
 subst hm hn
 have s1:=s.pick hp
 obtain ⟨hnd,ho⟩:=s1.on (.ow E e (.slice (some ⟨g,0,none⟩) xs.length cp) xs F) (by simp)
 have hF:=ho.scal sc
 rcases ho with ⟨h1, -, -⟩|⟨g2,cap,cs,rest,G,h1,h2,h3,h4,h5,h6,h7⟩
 ·cases h1
 cases h1
 have hG:G=[]:=by rw [h7] at hF;simpa [Value.ownBlock] using hF
 subst hG h7
 obtain ⟨ti,hi,hiz⟩:=Option.map_eq_some_iff.1 hE.i
 simp only [Prod.mk.injEq] at hiz
 obtain ⟨-,i2, -⟩:=hiz
 have hl:=h6.len
 have hle:i+(xs.length - j)≤xs.length:=by omega
 have fi:=(h6.cutL i (by omega)).1
 have fj:=(h6.cutL j hj).2
 have fk:=(h6.cutL (i+(xs.length - j)) hle).2
 have hd1:(cs.take (i * E.sz)).length=i * E.sz:=by have:=fi.len;rw [List.length_take (l:=xs),Nat.min_eq_left (by omega)] at this;exact this
 have hd2:(cs.drop (j * E.sz)).length=(xs.length - j) * E.sz:=by have:=fj.len;rwa [List.length_drop (l:=xs)] at this
 have h1c:=h6.one' one
 have hsm:(i+(xs.length - j)) * E.sz≤xs.length * E.sz:=Nat.mul_le_mul_right _ hle
 have hadd:(i+(xs.length - j)) * E.sz=i * E.sz+(xs.length - j) * E.sz:=Nat.add_mul _ _ _
 have hsrc:∀r u,(cs.drop (j * E.sz))[r]?=some u→w.cell? ((⟨g,q,none⟩:Addr).add r)=some u:=fun r u hu=>by
  have hr:r < (cs.drop (j * E.sz)).length:=(List.getElem?_eq_some_iff.1 hu).1
  have hlt:j < xs.length:=by
   rcases Nat.lt_or_ge j xs.length with h|h
   ·exact h
   ·rw [hd2,show xs.length - j=0 by omega] at hr;simp at hr
  rw [hq hlt,Addr.add_lit,h2.cell,List.getElem?_append_left (by rw [List.length_drop] at hr;omega)]
  rw [List.getElem?_drop] at hu;exact hu
 have hr:=fun ty=>run_append_room_cells (P:=c.P) w t ty e ti hS.u hi g 0 i cp ⟨g,q,none⟩ (xs.length - j) c2 (cs.drop (j * E.sz)) (by rw [hd2,i2]) hsrc (fun u hu=>h1c u (List.mem_of_mem_drop hu)) (by omega)
  (fun r hr=>by rw [i2,h2.cell,List.getElem?_eq_getElem (by rw [List.length_append];omega)];rfl) (fun r _=>h2.frozen _)
 have e1:∀pos Cg gd,(execOp a.eval ⟨some d,.call { callee:=.builtin .append,args:=#[x,y],argTypes:=#[t,t] },ty,pos,Cg,gd⟩).run c.P w=.ok (.value (.slice (some ⟨g,0,none⟩) (i+(xs.length - j)) cp)) (w.setCells g (0+i * E.sz) (cs.drop (j * E.sz))):=by
  intro pos Cg gd
  simp only [execOp,resolve,invoke,builtin,Sem.run_bind,Sem.run_pure,Result.andThen_ok,List.map_toArray,List.map_cons,List.map_nil,ag.ev hx,ag.ev hy,hr,i2]
 rw [e1]
 have R0:Hm w g e (cs.take (i * E.sz)++(cs.drop (i * E.sz)).take ((xs.length - j) * E.sz)++(cs.drop ((i+(xs.length - j)) * E.sz)++rest)):=by
  rw [hadd,←List.drop_drop,List.append_assoc,←List.append_assoc _ _ rest,List.take_append_drop,←List.append_assoc,List.take_append_drop];exact h2
 have R1:=Hm.put (cs.drop (j * E.sz)) _ R0 (p:=0+i * E.sz) (by omega) (by rw [hd2,List.length_take,List.length_drop];omega)
 have hk:=Jk (g:=g) (cs.drop (j * E.sz)) w (0+i * E.sz)
 rw [J9 w g] at R1 hk
 have hW:(Pc.ow E e (.slice (some ⟨g,0,none⟩) xs.length cp) (xs.take i++xs.drop j++xs.drop (i+(xs.length - j))) [g]).P (w.setCells g (0+i * E.sz) (cs.drop (j * E.sz))):=by
  have hll:(xs.take i++xs.drop j++xs.drop (i+(xs.length - j))).length=xs.length:=by simp only [List.length_append,List.length_take,List.length_drop];omega
  refine ⟨by simp,.inr ⟨g,cp,cs.take (i * E.sz)++cs.drop (j * E.sz)++cs.drop ((i+(xs.length - j)) * E.sz),rest,[],by rw [hll],by simpa [List.append_assoc] using R1,by rw [hll];exact h3,h4,?_,?_,rfl⟩⟩
  ·rw [List.length_append,List.length_append,hd1,hd2,List.length_drop,hl,←h5];omega
  ·have:=((fi.all (w.setCells g (0+i * E.sz) (cs.drop (j * E.sz)))).append (fj.all _)).append (fk.all _)
   simpa using this
 exact h.h _ _ (St.turn (M:=[.ow E e (.slice (some ⟨g,0,none⟩) xs.length cp) xs [g]]) (N:=[.ow E e (.slice (some ⟨g,0,none⟩) xs.length cp) (xs.take i++xs.drop j++xs.drop (i+(xs.length - j))) [g]]) s1 (by simpa [List.filter,Pc.mu,fp,Pc.F] using hk) (by intro q hq;rw [List.mem_singleton] at hq;subst hq;exact hW) ⟨by simp,trivial⟩ (by
   intro q hq b hb
   rw [List.mem_singleton] at hq;subst hq
   exact .inr (.inl ⟨_,List.mem_singleton.2 rfl,rfl,hb⟩))) (ag.put hd)⟩
end
theorem Ap2 (xs:List (List Value)) (n i:Nat) (j:Int) (a:Option Addr) (c:Nat) (F:List Nat) (hn:n=xs.length) (hi:i < xs.length) (hj:j=(i:Int)+1) (hl:xs.length≤1000000) :
  Fn prog 245 [.slice a n c,.int .i64 i,.int .i64 j] [] [.ow (EC 3) 136 (.slice a n c) xs F] (fun (_:Option Addr × Nat × List Nat)=>True)
   (fun z=>.slice z.1 (xs.take i++xs.drop (i+1)).length z.2.1) (fun z=>[.ow (EC 3) 136 (.slice z.1 (xs.take i++xs.drop (i+1)).length z.2.1) (xs.take i++xs.drop (i+1)) z.2.2]):=by
 subst hn
 refine enter func245 rfl ntmps245 fun w0=>?_
 refine Acz (xs:=xs) (Ga 3) (by rintro rfl;simp at hi) ?_
 rintro g rfl rfl - hc1 hc2
 refine go ?_;intros
 apply wO
 refine Aeh (i:=i) (j:=i+1) (l:=xs.length) rfl rfl rfl rfl rfl rfl (by omega) rfl (by omega) (by omega) hc1 (fun _=>?_)
 refine go ?_;intros
 refine Bg rfl (fun h=>absurd h (by omega)) (fun _=>?_)
 refine go ?_;intros
 refine As [] [] ?_
 refine dt 0 ?_
 refine dt 1 ?_
 refine dt 2 ?_ (hy:=Mc (i:=i) rfl rfl rfl (by omega) (by omega))
 refine dt 3 ?_
 refine dt 4 ?_
 refine dt 5 ?_ (hy:=Ane (i:=i+1) rfl rfl (by omega) (by omega) hc1)
 refine dO 6 (by kernel_rfl) (by rw [List.getElem?_toArray];rfl) ?_
 refine Alr (m:=3) (i:=i) (j:=i+1) (q:=if c=i+1 then 0 else 0+(i+1) * 3) (g:=g) (cp:=c) (n:=xs.length) (Ga 3) (M6 3) rfl rfl rfl rfl (fun h=>by rw [if_neg (by omega)];omega) (by omega) (by omega) rfl (by repeat (first|exact .here|apply C0.there)) ?_
 refine dk ?_
 refine dt 7 ?_
 refine dd ?_
 refine go ?_;intros
 apply wO;apply oc;rfl;exact Aho (i:=i+(xs.length - (i+1))) (j:=xs.length) rfl rfl rfl rfl rfl (by omega) (by omega) hc1
 refine go ?_;intros
 apply wO
 refine Ag6 (xs:=xs.take i++xs.drop (i+1)++xs.drop (i+(xs.length - (i+1)))) (z0:=[.int .i64 0,.slice none 0 0,.int .i64 0]) (n:=xs.length) (cp:=c) (i:=i+(xs.length - (i+1))) (g:=g) (Ga 3) (fun w=>⟨rfl,⟨rfl,by simp [Value.oneCell']⟩,rfl⟩) (by decide) rfl rfl (by omega) (by exact I0) (by repeat (first|exact .here|apply C0.there)) ?_
 have hk:(xs.take i++xs.drop (i+1)).length=i+(xs.length - (i+1)):=by exact I0
 refine Z3 (xs:=(xs.take i++xs.drop (i+1)++xs.drop (i+(xs.length - (i+1)))).take (i+(xs.length - (i+1)))++List.replicate (xs.length - (i+(xs.length - (i+1)))) [.int .i64 0,.slice none 0 0,.int .i64 0]) (i+(xs.length - (i+1))) (fun F2=>?_) (by exact I0)
 rw [List.take_left' (by rw [List.take_left' hk,hk]),List.take_left' hk,←hk]
 refine go ?_;intros
 refine ret (_,c,F2) trivial rfl
theorem Ac0 {c:Cx} {fr:Fr} {H S:List Pc} {Φ:Gl} {g t:Nat} {cs:List Value} (h:T c fr (.cel g 0 cs::S) Φ) (h0:cs≠[]) (hp:C0 H (.row g t 0 [] cs []) S:=by exact D0):T c fr H Φ:=.mk fun ac w s ag=>by
 have s1:=s.pick hp
 exact h.h ac w (s1.conv rfl ⟨h0,Gh (s1.on (.row g t 0 [] cs []) (by simp))⟩ (fun b hb=>hb)) ag
theorem Ahj {c:Cx} {fr:Fr} {H S:List Pc} {Φ:Gl} {g t o k:Nat} {A B L:List Value} (X cs Y:List Value) (h:T c fr (.row g t (o+k) (A++X) cs (Y++B)::S) Φ) (hL:L=X++cs++Y:=by rfl) (hk:X.length=k:=by rfl) (hp:C0 H (.row g t o A L B) S:=by exact D0):T c fr H Φ:=.mk fun ac w s ag=>by
 subst hL hk
 have s1:=s.pick hp
 obtain ⟨hA,hr⟩:=s1.on (.row g t o A (X++cs++Y) B) (by simp)
 exact h.h ac w (s1.conv rfl ⟨by simp [hA],by simpa [List.append_assoc] using hr⟩ (fun b hb=>hb)) ag
theorem Z0 {c:Cx} {fr:Fr} {H S:List Pc} {Φ:Gl} {g t o k:Nat} {A B L:List Value} (X cs Y:List Value) (h:T c fr (.row g t o A L B::S) Φ) (hL:L=X++cs++Y:=by rfl) (hk:X.length=k:=by rfl) (hp:C0 H (.row g t (o+k) (A++X) cs (Y++B)) S:=by exact D0):T c fr H Φ:=.mk fun ac w s ag=>by
 subst hL hk
 have s1:=s.pick hp
 obtain ⟨hA,hr⟩:=s1.on (.row g t (o+X.length) (A++X) cs (Y++B)) (by simp)
 exact h.h ac w (s1.conv rfl ⟨by simpa using hA,by simpa [List.append_assoc] using hr⟩ (fun b hb=>hb)) ag
theorem Wa {p:Pc}:∀(A:List Pc),I8 (p::A) A
 | []=>.nil
 | _::r=>.cons (.there .here) (Wa r)
theorem Afd (e:Bl) (n f:Int) (g t o:Nat) (A B:List Value) (a:Option Addr) (c:Nat) (F:List Nat) (hl:e.Ah.length≤1000000) (hf:∀x∈e.Ah,x.Bi.length≤1000000∧x.Bi.Pairwise (· < ·)) (hc0:-1000000≤e.Ai) (hc1:e.Ai≤1000000) :
  Fn prog 208 [Ez g o 0,.int .i64 n,.int .i64 f] [] [.row g t o A [.int .i64 e.Ai,.slice a e.Ah.length c] B,.ow Ee 136 (.slice a e.Ah.length c) e.Ah F] (fun (_:Option Addr × Nat × List Nat)=>True) (fun _=>.bool (V6 e n)) (fun s=>[.row g t o A [.int .i64 (Lf e n f).Ai,.slice s.1 (Lf e n f).Ah.length s.2.1] B,.ow Ee 136 (.slice s.1 (Lf e n f).Ah.length s.2.1) (Lf e n f).Ah s.2.2]):=by
 refine enter func208 rfl ntmps208 fun w0=>?_
 refine go ?_;intros
 refine cb (fun w st=>by
  obtain ⟨F', -,hs⟩:=(st.get (p:=.ow Ee 136 (.slice a e.Ah.length c) e.Ah F) (by simp)).2.sl Nw
  exact (Agp e n _ F').val w (Il ⟨_,rfl,_,rfl,hs⟩)) ?_
 rcases Ql e n with ⟨h,e1,e2,e3⟩|⟨e1,e2,e3,e4⟩
 ·rw [e1,e3,Zo h]
  obtain ⟨hfx,hpw⟩:=hf e.Ah[Ke e n] (List.getElem_mem h)
  have hsl:∀y,(e.Ah.set (Ke e n) y).length=e.Ah.length:=fun y=>List.length_set
  refine go ?_;intros
  refine V5 (m:=3) (Ke e n) ?_ rfl h
  rintro _ g2 A2 cs B2 k1 k2 G1 Gi G2 rfl - hc hH
  refine Uk ?_
  rintro a5 c5 F5 ev l5
  obtain rfl:cs=[.int .i64 e.Ah[Ke e n].Ae,.slice a5 e.Ah[Ke e n].Bi.length c5,.int .i64 e.Ah[Ke e n].Ca]:=by simpa using ev
  refine go ?_;intros
  refine cb (fun w st=>by
   obtain ⟨F', -,hs⟩:=(st.get (p:=.ow Bd 3 (.slice a5 e.Ah[Ke e n].Bi.length c5) e.Ah[Ke e n].Bi F5) (by simp)).2.read
   exact (Ant _ f a5 c5 F' hpw hfx).val w (Il ⟨by decide,hs⟩)) ?_
  cases hq:Ako e.Ah[Ke e n].Bi f
  ·have ep:Ok e.Ah[Ke e n].Bi f=e.Ah[Ke e n].Bi.take (I3 e.Ah[Ke e n].Bi f)++f::e.Ah[Ke e n].Bi.drop (I3 e.Ah[Ke e n].Bi f):=by unfold Ok;rw [if_neg (by simpa [Ako] using hq)]
   refine go ?_;intros
   refine cf (Aka e.Ah[Ke e n].Bi f (I3 e.Ah[Ke e n].Bi f) a5 c5 _ F5 (Aja _ _) hfx) fun z _=>?_
   refine Ap ?_
   rw [←ep]
   refine go ?_;intros
   refine Mm ⟨e.Ah[Ke e n].Ae,Ok e.Ah[Ke e n].Bi f,e.Ah[Ke e n].Ca⟩ ?_
   refine Rw _ hH rfl fun F6=>?_
   dsimp only
   rw [←hsl ⟨e.Ah[Ke e n].Ae,Ok e.Ah[Ke e n].Bi f,e.Ah[Ke e n].Ca⟩]
   refine ret (_,_,_) trivial rfl
  ·have ep:Ok e.Ah[Ke e n].Bi f=e.Ah[Ke e n].Bi:=by unfold Ok;rw [if_pos (by simpa [Ako] using hq)]
   rw [ep]
   refine go ?_;intros
   refine Mm ⟨e.Ah[Ke e n].Ae,e.Ah[Ke e n].Bi,e.Ah[Ke e n].Ca⟩ ?_
   refine Rw _ hH rfl fun F6=>?_
   dsimp only
   rw [←hsl ⟨e.Ah[Ke e n].Ae,e.Ah[Ke e n].Bi,e.Ah[Ke e n].Ca⟩]
   refine ret (_,_,_) trivial rfl
 ·rw [e1,e3]
  refine go ?_;intros
  refine Bg rfl (fun h5=>?_) (fun h5=>?_)
  ·rw [Zn e2 (by omega)]
   refine go ?_;intros
   refine As [0] [18] ?_
   refine dt 0 ?_
   refine dt 1 ?_
   refine dt 2 ?_
   refine dt 3 ?_
   refine dt 4 ?_
   refine dt 5 ?_
   refine dt 6 ?_
   refine dt 8 ?_
   refine dt 9 ?_
   refine dt 10 ?_
   refine dt 11 ?_
   refine dt 12 ?_
   refine dO 7 (by kernel_rfl) (by rw [List.getElem?_toArray];rfl) ?_
   apply Ho;rfl;rfl;rfl;rfl;exact Hl;exact Hg;intro _
   refine dk ?_
   refine dt 13 ?_
   refine dO 14 (by kernel_rfl) (by rw [List.getElem?_toArray];rfl) ?_
   apply Ho;rfl;rfl;rfl;rfl;exact Hl;exact Hg;intro _
   refine Ei (E:=Bd) (xs:=[f]) (Mi f) ?_ (by simp)
   refine Mm ⟨n,[f],e.Ai+6⟩ ?_
   refine dk ?_
   refine dO 15 (by kernel_rfl) (by rw [List.getElem?_toArray];rfl) ?_
   refine Ab3 Pm ⟨n,[f],e.Ai+6⟩ rfl fun a3 c3 F3=>?_
   refine dk ?_
   refine dt 16 ?_
   refine dt 17 ?_
   refine dO 18 (by kernel_rfl) (by rw [List.getElem?_toArray];rfl) ?_
   apply Cs;rfl;rfl;rfl;(first|exact AggC.s|exact OneC.s);rfl;exact Cu;exact Ct;rfl
   refine Ng ?_
   refine dd ?_
   refine go ?_;intros
   refine ret (_,_,_) trivial rfl
  ·rw [Wo e2 (by omega)]
   refine go ?_;intros
   refine ret (_,_,_) trivial rfl
theorem Akz {e:Bl} {n:Int} {l:List Int} (h:Ke e n < e.Ah.length):Qj e n l=e.Ah[Ke e n].Bi.filter fun f=>decide (f∈l):=by unfold Qj;rw [List.getElem?_eq_getElem h]
theorem Anz {e:Bl} {n:Int} {l:List Int} (h:e.Ah[Ke e n]?=none):Qj e n l=if e.Ah.length=5 then l else []:=by unfold Qj;rw [h]
theorem Ajg (x:Int) (gb:Nat) (l:List Int) (a:Option Addr) (c:Nat) (F:List Nat):Fn prog 244 [.int .i64 x,Ez gb 0 0] [.cel gb 0 [.slice a l.length c],.sl Bd (.slice a l.length c) l F] [] (fun (_:Unit)=>True) (fun _=>.bool (!decide (x∈l))) (fun _=>[]):=by
 refine enter func244 rfl ntmps244 fun w0=>?_
 refine go ?_;intros
 refine cf (Aks l x _ _ F) fun _ _=>?_
 refine Ap ?_
 refine go ?_;intros
 refine ret () trivial ?_
 rw [decide_not];rfl
structure As6 where
 a:Option Addr
 c:Nat
 F:List Nat
 a2:Option Addr
 c2:Nat
 F2:List Nat
theorem Ahq (e:Bl) (n:Int) (below:List Int) (g t o:Nat) (A B:List Value) (a:Option Addr) (c:Nat) (F:List Nat) (a0:Option Addr) (c0:Nat) (F0:List Nat) (hl:e.Ah.length≤1000000) (hf:∀x∈e.Ah,x.Bi.length≤1000000) (hb:below.length≤1000000) :
  Fn prog 206 [Ez g o 0,.int .i64 n,.slice a0 below.length c0] [.sl Bd (.slice a0 below.length c0) below F0] [.row g t o A [.int .i64 e.Ai,.slice a e.Ah.length c] B,.ow Ee 136 (.slice a e.Ah.length c) e.Ah F] (fun (_:As6)=>True) (fun s=>.slice s.a2 (Qj e n below).length s.c2) (fun s=>[.row g t o A [.int .i64 (M9 e n).Ai,.slice s.a (M9 e n).Ah.length s.c] B,.ow Ee 136 (.slice s.a (M9 e n).Ah.length s.c) (M9 e n).Ah s.F,.ow Bd 3 (.slice s.a2 (Qj e n below).length s.c2) (Qj e n below) s.F2]):=by
 refine enter func206 rfl ntmps206 fun w0=>?_
 refine go ?_;intros
 rename_i gb
 refine cb (fun w st=>by
  obtain ⟨F', -,hs⟩:=(st.get (p:=.ow Ee 136 (.slice a e.Ah.length c) e.Ah F) (by simp)).2.sl Nw
  exact (Agp e n _ F').val w (Il ⟨_,rfl,_,rfl,hs⟩)) ?_
 refine Ac0 (cs:=[.slice a0 below.length c0]) ?_ (by simp)
 rcases Ql e n with ⟨h,e1,e2,e3⟩|⟨e1,e2,e3,e4⟩
 ·rw [e1,Zl h,Akz h]
  have hfx:=hf e.Ah[Ke e n] (List.getElem_mem h)
  refine go ?_;intros
  refine Wt Pm rfl fun ys Fy Gy hyl hym=>?_
  generalize Ke e n=i at *
  generalize hx:e.Ah[i]=x at *
  refine Amw i h hyl hym fun G1 Gi G2=>?_
  rw [hx]
  refine Uk ?_
  rintro a5 c5 F5 ev l5
  have hyi:ys[i]=[.int .i64 x.Ae,.slice a5 x.Bi.length c5,.int .i64 x.Ca]:=by simpa using ev
  refine N6 (m:=3) (Ga 3) i ?_ (by repeat (first|exact .here|apply C0.there)) rfl (by omega)
  rintro _ g2 A2 cs B2 rfl rfl hr hH
  obtain ⟨rfl, -⟩:=hr w0
  rw [hyi]
  refine go ?_;intros
  refine cf (Ac9 244 [] [Ez gb 0 0] [.cel gb 0 [.slice a0 below.length c0],.sl Bd (.slice a0 below.length c0) below F0] rfl x.Bi a5 c5 F5 (fun z=>!decide (z∈below)) (by kernel_rfl) (by omega) (fun z _ w hA=>(Ajg z gb below a0 c0 F0).val w hA)) fun z _=>?_
  refine Ap ?_
  have e9:(x.Bi.filter fun z=>!!decide (z∈below))=x.Bi.filter fun z=>decide (z∈below):=by simp only [Bool.not_not]
  rw [e9]
  rw [←hyi]
  refine Nd ys[i] hH hr ?_
  rw [List.set_getElem_self]
  refine go ?_;intros
  refine cf (Ap2 ys e.Ah.length i _ _ _ _ hyl.symm (by omega) rfl (by omega)) fun q _=>?_
  refine Ap ?_
  refine go ?_;intros
  refine Ahi (E:=Ee) ?_
  refine Amu (E:=Ee) (m:=3) (ys:=ys.take i++ys.drop (i+1)) (cs:=(ys.take i).flatten++(ys.drop (i+1)).flatten) (xs:=e.Ah.take i++e.Ah.drop (i+1)) ?_ rfl (by simp) (by simp [hyl])
  rw [show (ys.take i++ys.drop (i+1)).length=(e.Ah.take i++e.Ah.drop (i+1)).length by simp [hyl]]
  refine ret ⟨_,_,_,_,_,_⟩ trivial rfl
 ·rw [e1,Acr e2,Anz e2]
  refine go ?_;intros
  refine Bg rfl (fun h5=>?_) (fun h5=>?_)
  ·rw [if_pos (by omega)]
   refine go ?_;intros
   refine cn (fun w st=>Qe _ below F0 w (st.get (p:=.sl Bd (.slice a0 below.length c0) below F0) (by simp)).2 (by omega)) fun a6 c6 F6=>?_
   refine go ?_;intros
   refine ret ⟨_,_,_,_,_,_⟩ trivial rfl
  ·rw [if_neg (by omega)]
   refine Cb Bd 3 ?_
   refine go ?_;intros
   refine ret ⟨_,_,_,_,_,_⟩ trivial rfl
theorem Adt {e:Bl} (h:Be e=true) {x:Fb} (hx:x∈e.Ah):x.Bi.Pairwise (· < ·):=by
 unfold Be at h
 simp only [Bool.and_eq_true] at h
 obtain ⟨i,hi,rfl⟩:=List.getElem_of_mem hx
 have:=Ib h.2 i hi
 rw [Iu hi] at this
 simp only [Jf,Bool.and_eq_true] at this
 exact (Wp this.1.2.2.1).1
theorem Agv {e:Bl} {n:Int} {l:List Int} (h:Be e=true) (h2:Ns 1 7 l=true):U6 e n l=Qj e n l:=by
 unfold U6 Qj
 cases hx:e.Ah[Ke e n]? with
 | none=>rfl
 | some x=>exact (Adu (Adt h (List.mem_of_getElem? hx)) (Wp h2).1).symm
theorem Ac3 (v v2:Value) (xs:List Int) (F F2:List Nat):Fn prog 38 [v,v2] [.sl Bd v xs F,.sl Bd v2 xs F2] [] (fun (_:Unit)=>True) (fun _=>.bool true) (fun _=>[]):=by
 refine enter func38 rfl ntmps38 fun w0=>?_
 refine Tp (v:=v) (xs:=xs) (F:=F) ?_
 rintro a c rfl l1 l2
 refine Tp (v:=v2) (xs:=xs) (F:=F2) ?_
 rintro a2 c2 rfl l3 l4
 refine go ?_;intros
 refine Bg rfl (fun h=>?_) (fun h=>?_)
 ·exact absurd rfl h
 refine go ?_;intros
 refine Dv [0,1,4] (fun k:Nat=>[(5,.int .i64 k)]) (fun k=>k≤xs.length) (fun k=>xs.length - k) 0 (Nat.zero_le _) fun k hk=>?_
 refine go ?_;intros
 refine Bg rfl (fun h3=>?_) (fun h3=>?_)
 ·have hk3:k < xs.length:=by omega
  refine In (a:=a) (xs:=xs) k ?_
  rintro hi b o e
  rw [e]
  refine In (a:=a2) (xs:=xs) k ?_
  rintro hi2 b2 o2 e2
  rw [e2]
  refine Jm ?_;intros
  refine As [0,1] [] ?_
  refine dt 0 ?_
  refine dt 1 ?_
  refine dt 2 ?_
  refine dt 3 ?_
  refine dt 4 ?_
  refine dt 5 ?_
  refine dt 6 ?_
  refine dt 7 ?_
  refine dt 8 ?_
  refine dd ?_
  refine go ?_;intros
  refine Bg rfl (fun h4=>?_) (fun h4=>?_)
  ·exact absurd rfl h4
  refine go ?_;intros
  refine Ck (k+1) hk3 (by omega)
 ·refine go ?_;intros
  refine ret () trivial rfl
theorem Agi (v v2:Value) (e:Bl) (F F2:List Nat):Fn prog 40 [v,v2] [.isv Bn v e F,.isv Bn v2 e F2] [] (fun (_:Unit)=>True) (fun _=>.bool true) (fun _=>[]):=by
 refine enter func40 rfl ntmps40 fun w0=>?_
 refine Ep (v:=v) (x:=e) (F:=F) ?_
 rintro a1 c1 F3 rfl l1
 unfold maxLen at l1
 refine Ep (v:=v2) (x:=e) (F:=F2) ?_
 rintro a2 c2 F4 rfl l2
 refine go ?_;intros
 refine Dc rfl rfl (fun h1=>?_) (fun h1=>?_)
 ·exact absurd rfl h1
 refine go ?_;intros
 refine Bg rfl (fun h2=>?_) (fun h2=>?_)
 ·exact absurd rfl h2
 refine go ?_;intros
 refine Dv [2,3,4] (fun k:Nat=>[(5,.int .i64 (k:Nat))]) (fun k=>k≤e.Ah.length) (fun k=>e.Ah.length - k) 0 (Nat.zero_le _) fun k hk=>?_
 refine go ?_;intros
 refine Bg rfl (fun h3=>?_) (fun h3=>?_)
 ·have hk3:k < e.Ah.length:=by omega
  refine U2 (a:=a1) (xs:=e.Ah) k ?_
  rintro hi b o a5 c5 F5 e6 l5
  rw [e6]
  refine U2 (a:=a2) (xs:=e.Ah) k ?_
  rintro hi2 b2 o2 a7 c7 F7 e8 l7
  rw [e8]
  refine go ?_;intros
  refine As [0,2,4,5] [] ?_
  refine dt 0 ?_
  refine dt 1 ?_
  refine dt 2 ?_
  refine dt 3 ?_
  refine dt 4 ?_
  refine dt 5 ?_
  refine dt 6 ?_
  refine dt 7 ?_
  refine dt 8 ?_
  refine dt 9 ?_
  refine Ov 10 11 (by kernel_rfl) (by rw [List.getElem?_toArray];rfl) (by rw [List.getElem?_toArray];rfl) ?_ ?_
  ·apply Ce;rfl;intro _
   refine dk ?_
   refine dO 11 (by kernel_rfl) (by rw [List.getElem?_toArray];rfl) ?_
   apply Ce;rfl;intro _
   refine dk ?_
   refine dO 12 (by kernel_rfl) (by rw [List.getElem?_toArray];rfl) ?_
   apply Cs;rfl;rfl;rfl;(first|exact AggC.s|exact OneC.s);rfl;exact Cu;exact Ct;rfl
   refine dk ?_
   refine dO 13 (by kernel_rfl) (by rw [List.getElem?_toArray];rfl) ?_
   apply Cs;rfl;rfl;rfl;(first|exact AggC.s|exact OneC.s);rfl;exact Cu;exact Ct;rfl
   refine dk ?_
   refine dd ?_
   refine go ?_;intros
   refine Dc rfl rfl (fun h4=>?_) (fun h4=>?_)
   ·exact absurd rfl h4
   refine go ?_;intros
   refine Dc rfl rfl (fun h5=>?_) (fun h5=>?_)
   ·exact absurd rfl h5
   refine go ?_;intros
   refine cf (Ac3 _ _ e.Ah[k].Bi F5 F7) fun _ _=>?_
   refine Ap ?_
   refine go ?_;intros
   refine Ck (k+1) (by omega) (by omega)
  ·apply Ce;rfl;intro _
   refine dk ?_
   refine dO 10 (by kernel_rfl) (by rw [List.getElem?_toArray];rfl) ?_
   apply Ce;rfl;intro _
   refine dk ?_
   refine dO 12 (by kernel_rfl) (by rw [List.getElem?_toArray];rfl) ?_
   apply Cs;rfl;rfl;rfl;(first|exact AggC.s|exact OneC.s);rfl;exact Cu;exact Ct;rfl
   refine dk ?_
   refine dO 13 (by kernel_rfl) (by rw [List.getElem?_toArray];rfl) ?_
   apply Cs;rfl;rfl;rfl;(first|exact AggC.s|exact OneC.s);rfl;exact Cu;exact Ct;rfl
   refine dk ?_
   refine dd ?_
   refine go ?_;intros
   refine Dc rfl rfl (fun h4=>?_) (fun h4=>?_)
   ·exact absurd rfl h4
   refine go ?_;intros
   refine Dc rfl rfl (fun h5=>?_) (fun h5=>?_)
   ·exact absurd rfl h5
   refine go ?_;intros
   refine cf (Ac3 _ _ e.Ah[k].Bi F5 F7) fun _ _=>?_
   refine Ap ?_
   refine go ?_;intros
   refine Ck (k+1) (by omega) (by omega)
 ·refine go ?_;intros
  refine ret () trivial rfl
theorem Al2 (l:List Int) (n:Int):(Ok l n).length≤l.length+1:=by
 unfold Ok
 split
 ·omega
 ·simp only [List.length_append,List.length_take,List.length_cons,List.length_drop];omega
theorem Fg {e:Bl}:Be e=true↔Iy e.Ai=true∧e.Ah.length≤5∧(∀x∈e.Ah,Jf e.Ai x=true)∧e.Ah.Pairwise fun a b=>a.Ae≠b.Ae:=by
 unfold Be
 simp only [Bool.and_eq_true,decide_eq_true_eq]
 constructor
 ·rintro ⟨⟨h1,h2⟩,h3⟩
  refine ⟨h1,h2,fun x hx=>?_,List.pairwise_iff_getElem.2 fun i j hi hj hij=>?_⟩
  ·obtain ⟨i,hi,rfl⟩:=List.getElem_of_mem hx
   have:=Ib h3 i hi
   rw [Iu hi,Bool.and_eq_true] at this
   exact this.1
  ·have:=Ib h3 j hj
   rw [Iu hj,Bool.and_eq_true,Bool.not_eq_true',List.any_eq_false] at this
   have:=this.2 e.Ah[i] (List.mem_take_iff_getElem.2 ⟨i,by omega,rfl⟩)
   simpa using this
 ·rintro ⟨h1,h2,h3,h4⟩
  refine ⟨⟨h1,h2⟩,Ip fun i hi=>?_⟩
  rw [Iu hi,h3 _ (List.getElem_mem hi),Bool.true_and,Bool.not_eq_true',List.any_eq_false]
  intro x hx
  obtain ⟨j,hj,rfl⟩:=List.mem_take_iff_getElem.1 hx
  have:=List.pairwise_iff_getElem.1 h4 j i (by omega) hi (by omega)
  simpa using this
theorem Mr {c:Int} {x:Fb}:Jf c x=true↔B9 x.Ae=true∧0 < x.Bi.length∧(x.Bi.Pairwise (· < ·)∧∀z∈x.Bi,1≤z∧z≤7)∧c+1≤x.Ca∧x.Ca≤c+6:=by
 unfold Jf Ig
 simp only [Bool.and_eq_true,decide_eq_true_eq]
 exact ⟨fun ⟨a,b,c,d⟩=>⟨a,b,Wp c,d⟩,fun ⟨a,b,c,d⟩=>⟨a,b,Abm c.1 c.2,d⟩⟩
theorem Ael (l:List Int) (n:Int):(∀j (_:j < I3 l n) (h:j < l.length),l[j] < n)∧∀h:I3 l n < l.length,¬l[I3 l n] < n:=by
 have:=N1 (p:=fun x=>decide (x < n)) (xs:=l)
 exact ⟨fun j hj h=>of_decide_eq_true (this.2.1 j hj h),fun h=>of_decide_eq_false (this.2.2 h)⟩
theorem Aem {l:List Int} {n x:Int}:x∈Ok l n↔x=n∨x∈l:=by
 unfold Ok
 split
 ·rename_i h
  have:=List.mem_of_getElem? h
  exact ⟨fun h=>.inr h,fun h=>by rcases h with rfl|h;exact this;exact h⟩
 ·rw [List.mem_append,List.mem_cons]
  constructor
  ·rintro (h|h|h)
   ·exact .inr (List.mem_of_mem_take h)
   ·exact .inl h
   ·exact .inr (List.mem_of_mem_drop h)
  ·rintro (h|h)
   ·exact .inr (.inl h)
   ·rw [←List.take_append_drop (I3 l n) l,List.mem_append] at h
    rcases h with h|h
    ·exact .inl h
    ·exact .inr (.inr h)
theorem Aoq {l:List Int} {n:Int} (h:l.Pairwise (· < ·)):(Ok l n).Pairwise (· < ·):=by
 obtain ⟨s1,s2⟩:=Ael l n
 have hp:=List.pairwise_iff_getElem.1 h
 unfold Ok
 split
 ·exact h
 ·rename_i hne
  refine List.pairwise_append.2 ⟨h.sublist (List.take_sublist _ _),List.pairwise_cons.2 ⟨fun z hz=>?_,h.sublist (List.drop_sublist _ _)⟩,fun a ha b hb=>?_⟩
  ·obtain ⟨j,hj,rfl⟩:=List.mem_drop_iff_getElem.1 hz
   have hk:I3 l n < l.length:=by omega
   have h1:=s2 hk
   have h2:l[I3 l n]≠n:=fun e=>hne (by rw [List.getElem?_eq_getElem hk,e])
   rcases Nat.eq_zero_or_pos j with rfl|hj0
   ·simp only [Nat.add_zero];omega
   ·have:=hp (I3 l n) (I3 l n+j) hk (by omega) (by omega)
    omega
  ·obtain ⟨i,hi,rfl⟩:=List.mem_take_iff_getElem.1 ha
   have h1:=s1 i (by omega) (by omega)
   rcases List.mem_cons.1 hb with rfl|hb
   ·exact h1
   ·obtain ⟨j,hj,rfl⟩:=List.mem_drop_iff_getElem.1 hb
    exact hp i (I3 l n+j) (by omega) (by omega) (by omega)
theorem L0 {f:Int}:Pi f=true↔1≤f∧f≤7:=by unfold Pi Ig;simp
theorem Aic {e:Bl} {n f:Int} (hg:Be e=true) (hn:B9 n=true) (hf:Pi f=true):Be (Lf e n f)=true:=by
 obtain ⟨h1,h2,h3,h4⟩:=Fg.1 hg
 obtain ⟨f1,f2⟩:=L0.1 hf
 rcases Ql e n with ⟨h, -,e2, -⟩|⟨-,e2, -,e4⟩
 ·rw [Zo h]
  have hx:=Mr.1 (h3 _ (List.getElem_mem h))
  refine Fg.2 ⟨h1,by simpa using h2,fun x hx'=>?_,?_⟩
  ·rcases List.mem_or_eq_of_mem_set hx' with h'|rfl
   ·exact h3 x h'
   ·refine Mr.2 ⟨hx.1,?_,⟨Aoq hx.2.2.1.1,fun z hz=>?_⟩,hx.2.2.2⟩
    ·exact List.length_pos_of_mem (Aem.2 (.inl rfl))
    ·rcases Aem.1 hz with rfl|hz
     ·exact ⟨f1,f2⟩
     ·exact hx.2.2.1.2 z hz
  ·refine List.pairwise_iff_getElem.2 fun i j hi hj hij=>?_
   have hp:=List.pairwise_iff_getElem.1 h4 i j (by simpa using hi) (by simpa using hj) hij
   simp only [List.getElem_set]
   split <;> split <;> simp_all
 ·by_cases hl:e.Ah.length < 5
  ·rw [Zn e2 hl]
   refine Fg.2 ⟨h1,by simp;omega,fun x hx=>?_,?_⟩
   ·rcases List.mem_append.1 hx with h'|h'
    ·exact h3 x h'
    ·simp only [List.mem_cons,List.not_mem_nil,or_false] at h'
     subst h'
     exact Mr.2 ⟨hn,by simp,⟨by simp,by simp [f1,f2]⟩,by show e.Ai+1≤e.Ai+6;omega,by show e.Ai+6≤e.Ai+6;omega⟩
   ·refine List.pairwise_append.2 ⟨h4,by simp,fun a ha b hb=>?_⟩
    simp only [List.mem_cons,List.not_mem_nil,or_false] at hb
    subst hb
    exact e4 a ha
  ·rw [Wo e2 hl];exact hg
theorem Aib {e:Bl} {n:Int} (hg:Be e=true):Be (M9 e n)=true:=by
 obtain ⟨h1,h2,h3,h4⟩:=Fg.1 hg
 rcases Ql e n with ⟨h, -,e2, -⟩|⟨-,e2, -,e4⟩
 ·rw [Zl h]
  have hs:(e.Ah.take (Ke e n)++e.Ah.drop (Ke e n+1)).Sublist e.Ah:=by
   have:=List.Sublist.append (List.Sublist.refl (e.Ah.take (Ke e n))) (List.drop_sublist_drop_left e.Ah (Nat.le_succ (Ke e n)))
   rwa [List.take_append_drop] at this
  exact Fg.2 ⟨h1,Nat.le_trans hs.length_le h2,fun x hx=>h3 x (hs.subset hx),h4.sublist hs⟩
 ·rw [Acr e2];exact hg
theorem U5 {e:Bl} {n:Int} {l:List Int}:∀z∈Qj e n l,z∈l:=fun z hz=>by
 unfold Qj at hz
 split at hz
 ·have:=(List.mem_filter.1 hz).2;simpa using this
 ·split at hz
  ·exact hz
  ·simp at hz
theorem Tl {a t:Int}:Eh a t≤(gp a t).toNat:=by unfold Eh;split <;> omega
theorem Qv {w:An} {t:Int} (hg:C6 w=true):(Hw w t).next=Cg w.next ((Ii w t).length:Nat)∧(Hw w t).Ao=w.Ao.drop (Ii w t).length∧(Ii w t).length≤Eh w.next t+8∧Eh w.next t≤(Ii w t).length:=by
 obtain ⟨h0,h1⟩:0≤w.next∧w.next≤65535:=by
  unfold C6 at hg
  simp only [Bool.and_eq_true] at hg
  exact A9.1 hg.1.1.1
 have hl:w.Ao.length≤8:=by
  unfold C6 at hg
  simp only [Bool.and_eq_true,decide_eq_true_eq] at hg
  have:=hg.1.1.2;omega
 have e1:∀k (x:An),(Mp k x).length=k:=by
  intro k
  induction k with
  | zero=>intro x;rfl
  | succ k ih=>intro x;simp [Mp,ih]
 have h2:=Xd (Eh w.next t) w h0 h1
 have h3:=Sx (Hj (Eh w.next t) w).Ao (Hj (Eh w.next t) w).next
 have h4:=Q8 (Eh w.next t) w
 have h5:=Ahc (Hj (Eh w.next t) w)
 rw [h4,List.length_drop] at h5
 refine ⟨h2,?_,?_,?_⟩
 ·have e:(Hw w t).Ao=(Hj (Eh w.next t) w).Ao.drop (Ob (Hj (Eh w.next t) w)).length:=h3.1
  rw [e,h4,List.drop_drop]
  unfold Ii
  rw [List.length_append,e1]
 ·unfold Ii
  rw [List.length_append,e1];omega
 ·unfold Ii
  rw [List.length_append,e1];omega
theorem Agy (w:An) (n:Int):Hh w n=Ic w.Ao (gp w.next n).toNat:=rfl
theorem Aoi {w:An} {t n:Int} (hg:C6 w=true) (ht:gp w.next t≤8) (hn:B9 n=true) (h8:gp w.next n < 8) (hh:Hh w n=false) :
  (Pu n (Hw w t).next=true∧gp w.next n < ((Ii w t).length:Nat))∨(Pu n (Hw w t).next=false∧Hh (Hw w t) n=false∧gp w.next n=((Ii w t).length:Nat)+gp (Hw w t).next n):=by
 obtain ⟨e1,e2,e3, -⟩:=Qv (t:=t) hg
 have hs:=@Tl w.next t
 obtain ⟨n0,n1⟩:=A9.1 hn
 obtain ⟨w0,w1⟩:0≤w.next∧w.next≤65535:=by
  unfold C6 at hg
  simp only [Bool.and_eq_true] at hg
  exact A9.1 hg.1.1.1
 have hm:(Ii w t).length≤16:=by omega
 have hb:=Jb w.next n
 rw [Agy,e1,e2,Rb]
 rw [Agy] at hh
 generalize hM:(Ii w t).length=m at *
 clear e1 e2 e3 hs hM hg ht
 by_cases hc:gp w.next n < (m:Nat)
 ·left
  refine ⟨?_,hc⟩
  unfold Pu Ig gp Cg at *
  simp only [Bool.and_eq_true,decide_eq_true_eq]
  omega
 ·right
  have e:gp w.next n=m+gp (Cg w.next m) n:=by unfold gp Cg at *;omega
  refine ⟨?_,?_,e⟩
  ·have:¬(1≤gp n (Cg w.next m)∧gp n (Cg w.next m)≤32767):=by unfold gp Cg at *;omega
   unfold Pu Ig
   simpa using this
  ·have hb2:=Jb (Cg w.next m) n
   rw [show m+(gp (Cg w.next m) n).toNat=(gp w.next n).toNat by omega]
   exact hh
theorem Ack {w:An} {t:Int} (hg:C6 w=true) (ht:gp w.next t≤8) {l:List A4} (hl:∀q∈l,B9 q.Ae=true∧gp w.next q.Ae < 8∧Hh w q.Ae=false):Dz l (Hw w t)=Tu l (Hw w t).next:=by
 unfold Dz Tu
 refine List.filter_congr fun q hq=>?_
 obtain ⟨a,b,c⟩:=hl q hq
 rcases Aoi hg ht a b c with ⟨h, -⟩|⟨h,h2,h3⟩
 ·simp [h]
 ·have:=Jb (Hw w t).next q.Ae
  simp [h,h2,show gp (Hw w t).next q.Ae < 8 by omega]
theorem Ac2 {c d:Int} {r q:A4} (h:P5 c d r=some q):q.Ae=r.Ae:=by
 unfold P5 at h
 split at h
 ·cases h;rfl
 ·split at h
  ·cases h
  ·split at h <;> cases h <;> rfl
theorem Ao7 {c:Int} {r:A4} {n:Int} (h:Qc c r=some n):n=r.Ae:=by
 unfold Qc at h
 split at h
 ·cases h
 ·split at h <;> cases h <;> rfl
theorem Zp {r:Bb} (hg:Kk r) {q:A4} (hq:q∈r.Ar):B9 q.Ae=true∧gp r.Aa.next q.Ae < 8∧Hh r.Aa q.Ae=false:=by
 obtain ⟨-, -,h3, -⟩:=Dq.1 hg.q
 have:=Eb.1 (h3 q hq)
 exact ⟨this.n,this.g,hg.f q hq⟩
theorem Vs {r:Bb} {d:Int} (hg:Kk r) {q:A4} (hq:q∈Ld r d):B9 q.Ae=true∧gp r.Aa.next q.Ae < 8∧Hh r.Aa q.Ae=false:=by
 obtain ⟨q',hq',h⟩:=List.mem_filterMap.1 hq
 rw [Ac2 h]
 exact Zp hg hq'
theorem Ww {r:Bb} (hg:Kk r) {n:Int} (hn:n∈Cz r):B9 n=true∧gp r.Aa.next n < 8:=by
 obtain ⟨q',hq',h⟩:=List.mem_filterMap.1 hn
 rw [Ao7 h]
 exact ⟨(Zp hg hq').1,(Zp hg hq').2.1⟩
theorem Gz {w:An} (hg:C6 w=true):0≤w.next∧w.next≤65535:=by
 unfold C6 at hg
 simp only [Bool.and_eq_true] at hg
 exact A9.1 hg.1.1.1
theorem X8 {r:Bb} (hg:Kk r) (h:Cz r≠[]):gp r.Aa.next (Dd (Cz r))≤8∧B9 (Dd (Cz r))=true:=by
 unfold Dd
 have hm:(Cz r).getLastD 0∈Cz r:=by
  rw [List.getLastD_eq_getLast?,List.getLast?_eq_some_getLast h]
  exact List.getLast_mem h
 obtain ⟨a,b⟩:=Ww hg hm
 refine ⟨?_,Mx _ _⟩
 obtain ⟨n0,n1⟩:=A9.1 a
 obtain ⟨w0,w1⟩:=Gz hg.w
 unfold gp Cg at *
 omega
theorem Xv {r:Bb} {d:Int} (hg:Kk r) (h:Cz r≠[]):Dz (Ld r d) (Hw r.Aa (Dd (Cz r)))=Tu (Ld r d) (Hw r.Aa (Dd (Cz r))).next :=
 Ack hg.w (X8 hg h).1 fun _ hq=>Vs hg hq
theorem Apv {t a b:Int} (ha:B9 a=true) (hb:B9 b=true) (h:gp t a=gp t b):a=b:=by
 obtain ⟨a0,a1⟩:=A9.1 ha
 obtain ⟨b0,b1⟩:=A9.1 hb
 unfold gp at h;omega
def D5 (base:Int) (l:List A4) (n:Int):Nat:=(l.takeWhile fun r=>decide (gp base r.Ae < gp base n)).length
def Kl (base:Int) (l:List A4) (n:Int):Bool:=match l[D5 base l n]? with|some r=>decide (r.Ae=n)|none=>false
def Asd (n u:Int):A4:=⟨n,1,u,0⟩
def Sg (base:Int) (l:List A4) (n u:Int):List A4:=l.take (D5 base l n)++Asd n u::l.drop (D5 base l n)
def Qf (base:Int) (l:List A4) (n u:Int):List A4:=if Kl base l n || !decide (gp base n < 8) then l else Sg base l n u
def N4 (base:Int) (l:List A4) (n u:Int):List A4:=match l[D5 base l n]? with|some r=>if r.Ae=n then l.set (D5 base l n) ⟨n,3,u,r.Dn⟩ else l|none=>l
theorem Pe (base:Int) (l:List A4) (n:Int):D5 base l n≤l.length:=N1.1
theorem Qg {base:Int} {l:List A4} {n:Int} (h:D5 base l n < l.length):Kl base l n=decide (l[D5 base l n].Ae=n):=by unfold Kl;rw [List.getElem?_eq_getElem h]
theorem Aaq {base:Int} {l:List A4} {n:Int} (h:¬D5 base l n < l.length):Kl base l n=false:=by unfold Kl;rw [List.getElem?_eq_none (by omega)]
theorem Qh {base:Int} {l:List A4} {n:Int} (h:Kl base l n=true):D5 base l n < l.length:=by
 by_cases h2:D5 base l n < l.length
 ·exact h2
 ·rw [Aaq h2] at h;cases h
theorem Sj {base:Int} {l:List A4} {n u:Int} (h:Kl base l n=false):N4 base l n u=l:=by
 unfold N4
 unfold Kl at h
 cases hq:l[D5 base l n]? with
 | none=>rfl
 | some r=>rw [hq] at h;dsimp only at h ⊢;rw [if_neg (by simpa using h)]
theorem Qi {base:Int} {l:List A4} {n u:Int} (h:Kl base l n=true):N4 base l n u=l.set (D5 base l n) ⟨n,3,u,(l[D5 base l n]'(Qh h)).Dn⟩:=by
 have h2:=Qh h
 rw [Qg h2] at h
 unfold N4
 rw [List.getElem?_eq_getElem h2]
 dsimp only
 rw [if_pos (by simpa using h)]
theorem Aat (base:Int) (l:List A4) (n u:Int):(N4 base l n u).length=l.length:=by
 cases h:Kl base l n
 ·rw [Sj h]
 ·rw [Qi h,List.length_set]
theorem Aqb {base n:Int} {l:List A4} (hq:Jq l base=true) (hn:B9 n=true) (h:Kl base l n=false):∀r∈l,gp base r.Ae≠gp base n:=by
 obtain ⟨-, -,h3,h4⟩:=Dq.1 hq
 obtain ⟨t1,t2,t3⟩:=N1 (p:=fun r:A4=>decide (gp base r.Ae < gp base n)) (xs:=l)
 intro r hr e
 obtain ⟨i,hi,rfl⟩:=List.getElem_of_mem hr
 have e2:=Apv (Eb.1 (h3 _ hr)).n hn e
 have hk:D5 base l n=i:=Sy (by omega) (fun j hj h=>by
  have:=List.pairwise_iff_getElem.1 h4 j i h hi hj
  simp only [decide_eq_true_eq];omega) (fun h=>by simp only [decide_eq_false_iff_not];omega)
 rw [Qg (by omega)] at h
 simp only [hk] at h
 simp [e2] at h
theorem Aqv {base:Int} {l:List A4} (hp:l.Pairwise fun a b=>gp base a.Ae < gp base b.Ae) (h8:∀q∈l,gp base q.Ae < 8):l.length≤8:=by
 have key:∀i (h:i < l.length),(i:Int)≤gp base l[i].Ae:=by
  intro i
  induction i with
  | zero=>intro h;exact (Jb _ _).1
  | succ i ih =>
   intro h
   have a:=ih (by omega)
   have b:=List.pairwise_iff_getElem.1 hp i (i+1) (by omega) h (by omega)
   omega
 by_cases h:l.length≤8
 ·exact h
 ·have a:=key 8 (by omega)
  have b:=h8 _ (List.getElem_mem (show 8 < l.length by omega))
  omega
theorem Ak9 (base:Int) (l:List A4) (n u:Int):(Sg base l n u).length=l.length+1:=by
 have:=Pe base l n
 unfold Sg
 rw [List.length_append,List.length_cons,List.length_take,List.length_drop];omega
theorem Aa5 {base n u:Int} {l:List A4} (hq:Jq l base=true) (hn:B9 n=true) (h8:gp base n < 8) (u0:0≤u) (u1:u≤10007) (h:Kl base l n=false):Jq (Sg base l n u) base=true:=by
 have hne:=Aqb hq hn h
 obtain ⟨h1,h2,h3,h4⟩:=Dq.1 hq
 obtain ⟨t1,t2,t3⟩:=N1 (p:=fun r:A4=>decide (gp base r.Ae < gp base n)) (xs:=l)
 have hle:=Pe base l n
 have hok:∀r∈Sg base l n u,Kn base r=true:=by
  intro r hr
  unfold Sg at hr
  rcases List.mem_append.1 hr with h|h
  ·exact h3 r (List.mem_of_mem_take h)
  ·rcases List.mem_cons.1 h with rfl|h
   ·exact Eb.2 ⟨hn,h8,by show (1:Int)≤1;decide,by show (1:Int)≤3;decide,u0,u1,by show (0:Int)≤0;decide,by show (0:Int)≤3;decide⟩
   ·exact h3 r (List.mem_of_mem_drop h)
 have hpw:(Sg base l n u).Pairwise fun a b=>gp base a.Ae < gp base b.Ae:=by
  unfold Sg
  rw [List.pairwise_append]
  refine ⟨h4.sublist (List.take_sublist _ _),?_,?_⟩
  ·rw [List.pairwise_cons]
   refine ⟨fun b hb=>?_,h4.sublist (List.drop_sublist _ _)⟩
   obtain ⟨j,hj,rfl⟩:=List.getElem_of_mem hb
   rw [List.getElem_drop]
   rw [List.length_drop] at hj
   have hk:D5 base l n < l.length:=by omega
   have h0:=t3 hk
   simp only [decide_eq_false_iff_not,Int.not_lt] at h0
   have h00:gp base n≤gp base (l[D5 base l n]'hk).Ae:=h0
   have hd:=hne _ (List.getElem_mem hk)
   show gp base n < _
   rcases Nat.eq_zero_or_pos j with e|e
   ·subst e;simp only [Nat.add_zero];omega
   ·have h5:=List.pairwise_iff_getElem.1 h4 (D5 base l n) (D5 base l n+j) hk (by omega) (by omega)
    omega
  ·intro a ha b hb
   obtain ⟨i,hi,rfl⟩:=List.getElem_of_mem ha
   rw [List.length_take] at hi
   rw [List.getElem_take]
   have ha2:=t2 i (by show i < D5 base l n;omega) (by omega)
   simp only [decide_eq_true_eq] at ha2
   rcases List.mem_cons.1 hb with rfl|hb
   ·exact ha2
   ·obtain ⟨j,hj,rfl⟩:=List.getElem_of_mem hb
    rw [List.getElem_drop]
    rw [List.length_drop] at hj
    exact List.pairwise_iff_getElem.1 h4 i (D5 base l n+j) (by omega) (by omega) (by omega)
 exact Dq.2 ⟨h1,Aqv hpw fun q hq=>(Eb.1 (hok q hq)).g,hok,hpw⟩
theorem Ahu {base n u:Int} {l:List A4} (hq:Jq l base=true) (hn:B9 n=true) (u0:0≤u) (u1:u≤10007):Jq (Qf base l n u) base=true:=by
 unfold Qf
 split
 ·exact hq
 ·rename_i h
  simp only [Bool.or_eq_true,Bool.not_eq_true',not_or,Bool.not_eq_false,Bool.not_eq_true,decide_eq_true_eq] at h
  exact Aa5 hq hn h.2 u0 u1 h.1
theorem Aln {base n u:Int} {l:List A4} {q:A4} (h:q∈Qf base l n u):q∈l∨q.Ae=n:=by
 unfold Qf Sg at h
 split at h
 ·exact .inl h
 ·rcases List.mem_append.1 h with h|h
  ·exact .inl (List.mem_of_mem_take h)
  ·rcases List.mem_cons.1 h with rfl|h
   ·exact .inr rfl
   ·exact .inl (List.mem_of_mem_drop h)
theorem Afi {base n u:Int} {l:List A4} (hq:Jq l base=true) (u0:0≤u) (u1:u≤10007):Jq (N4 base l n u) base=true:=by
 cases h:Kl base l n
 ·rw [Sj h];exact hq
 obtain ⟨h1,h2,h3,h4⟩:=Dq.1 hq
 have hk:=Qh h
 have hn:l[D5 base l n].Ae=n:=by rw [Qg hk] at h;simpa using h
 have ho:=Eb.1 (h3 _ (List.getElem_mem hk))
 rw [Qi h]
 have hnum:∀i (h:i < (l.set (D5 base l n) ⟨n,3,u,l[D5 base l n].Dn⟩).length),(l.set (D5 base l n) ⟨n,3,u,l[D5 base l n].Dn⟩)[i].Ae=(l[i]'(by simpa using h)).Ae:=fun i h=>by
  rw [List.getElem_set]
  split
  ·rename_i e;subst e;exact hn.symm
  ·rfl
 refine Dq.2 ⟨h1,by simpa using h2,fun r hr=>?_,?_⟩
 ·have gn:=ho.n
  have gg:=ho.g
  rw [hn] at gn gg
  rcases List.mem_or_eq_of_mem_set hr with h|rfl
  ·exact h3 r h
  ·exact Eb.2 ⟨gn,gg,by show (1:Int)≤3;decide,by show (3:Int)≤3;decide,u0,u1,ho.t0,ho.t1⟩
 ·refine List.pairwise_iff_getElem.2 fun i j hi hj hij=>?_
  rw [hnum i hi,hnum j hj]
  exact List.pairwise_iff_getElem.1 h4 i j _ _ hij
theorem Ai4 {base n u:Int} {l:List A4} {q:A4} (h:q∈N4 base l n u):∃r∈l,r.Ae=q.Ae:=by
 cases h2:Kl base l n
 ·rw [Sj h2] at h;exact ⟨q,h,rfl⟩
 have hk:=Qh h2
 have hn:l[D5 base l n].Ae=n:=by rw [Qg hk] at h2;simpa using h2
 rw [Qi h2] at h
 rcases List.mem_or_eq_of_mem_set h with h|rfl
 ·exact ⟨q,h,rfl⟩
 ·exact ⟨_,List.getElem_mem hk,hn⟩
def Dx (r:Bb) (p:Av):An:=if r.Bh then r.Aa else ⟨if p.Df=5 then p.Ec else p.Ae,r.Aa.Ao⟩
def Et (r:Bb) (p:Av):An:=if p.Df=5 then Dx r p else Jp (Dx r p) p.Ae p.data
def I5 (r:Bb) (p:Av):List ByteArray:=if p.Df=5 then [] else Jo (Dx r p) p.Ae p.data
def L7 (w:An) (t:Int):An:=if Pu w.next t then (if gp w.next t≤8 then Hw w t else ⟨t,[]⟩) else w
def Ms (w:An) (t:Int):List ByteArray:=if Pu w.next t then (if gp w.next t≤8 then Ii w t else [⟨#[33]⟩]) else []
def Cm (r:Bb) (p:Av):An:=L7 (Et r p) p.Al
def Km (r:Bb) (p:Av):List ByteArray:=I5 r p++Ms (Et r p) p.Al
def I2 (base u:Int) (l:List A4) (ns:List Int):List A4:=ns.foldl (fun l n=>Qf base l n u) l
def T6 (w:An) (Ec:Int):Nat:=(min (gp w.next Ec) 8).toNat
def M2 (w:An) (l:List A4) (Ec u:Int):List A4:=if Pu w.next Ec then I2 w.next u l (L6 w (T6 w Ec)) else l
def I1 (r:Bb) (p:Av) (d:Int):Bb:=⟨true,r.Ai,Cm r p,M2 (Cm r p) (Dz r.Ar (Cm r p)) p.Ec (r.Ai+d)⟩
def Kx (p:Av):Bool:=decide (p.Df=1) || decide (p.Df=2) || decide (p.Df=5)
def Adp (r:Bb) (p:Av):Bb:=⟨r.Bh,r.Ai,r.Aa,N4 r.Aa.next r.Ar p.Ae (r.Ai+4)⟩
def De (r:Bb) (p:Av) (d:Int):Bb:=if Kx p then I1 r p d else if decide (p.Df=4) && r.Bh then Adp r p else r
def Gw (r:Bb) (p:Av):List ByteArray:=if Kx p then Km r p else []
theorem Ajp {w:An} {n:Int} {s:ByteArray} (hg:C6 w=true) (hn:B9 n=true) (hs:Oh s=true):C6 (Jp w n s)=true∧(∃m:Nat,m≤8∧(Jp w n s).next=Cg w.next m)∧(Jo w n s).length≤8:=by
 obtain ⟨w0,w1⟩:=Gz hg
 cases ht:K8 w n
 ·have e:(E4 w n || !decide (gp w.next n < 8))=true:=by unfold K8 at ht;simp only [Bool.or_eq_false_iff] at ht;rw [ht.1,ht.2];rfl
  have e1:Jp w n s=w:=by unfold Jp;rw [if_pos e]
  have e2:Jo w n s=[]:=by unfold Jo;rw [if_pos e]
  rw [e1,e2]
  exact ⟨hg,⟨0,by omega,(O0 w0 w1).symm⟩,by simp⟩
 ·have hok:Rh w n s=true:=by unfold Rh;rw [hg,hn,hs,ht];rfl
  have h:=Alg w n s (by unfold Id;rw [hok];rfl)
  rw [show Id w n s=(Jp w n s,Jo w n s,true) by unfold Id;rw [hok];rfl] at h
  obtain ⟨-, -,h3,h4, -, -,h7, -⟩:=h
  dsimp only at h3 h4 h7
  refine ⟨h3,⟨_,h7,?_⟩,h7⟩
  obtain ⟨v0,v1⟩:=Gz h3
  rw [←h4]
  unfold Cg gp at *;omega
theorem Pp {r:Bb} {p:Av} (hg:Kk r) (hp:Bp p=true):C6 (Dx r p)=true∧(r.Bh=true→Dx r p=r.Aa):=by
 unfold Dx
 unfold Bp at hp
 simp only [Bool.and_eq_true] at hp
 cases hs:r.Bh
 ·refine ⟨?_,fun h=>by cases h⟩
  rw [(hg.z hs).1]
  simp only [Bool.false_eq_true,if_false]
  unfold C6
  split
  ·rw [hp.1.1.1.2];rfl
  ·rw [hp.1.1.1.1.1.2];rfl
 ·exact ⟨hg.w,fun _=>rfl⟩
theorem Ru {r:Bb} {p:Av} (hg:Kk r) (hp:Bp p=true):C6 (Et r p)=true∧(∃m:Nat,m≤8∧(Et r p).next=Cg (Dx r p).next m)∧(I5 r p).length≤8:=by
 have h1:=(Pp hg hp).1
 obtain ⟨w0,w1⟩:=Gz h1
 unfold Et I5
 split
 ·exact ⟨h1,⟨0,by omega,(O0 w0 w1).symm⟩,by simp⟩
 ·unfold Bp at hp
  simp only [Bool.and_eq_true] at hp
  exact Ajp h1 hp.1.1.1.1.1.2 hp.1.1.2
theorem Ajl {w:An} {t:Int} (hg:C6 w=true) (ht:B9 t=true):C6 (L7 w t)=true∧(∃m:Nat,m≤32767∧(L7 w t).next=Cg w.next m)∧(Ms w t).length≤16:=by
 obtain ⟨w0,w1⟩:=Gz hg
 obtain ⟨t0,t1⟩:=A9.1 ht
 unfold L7 Ms
 cases hb:Pu w.next t
 ·exact ⟨hg,⟨0,by omega,(O0 w0 w1).symm⟩,by simp⟩
 ·simp only [if_true]
  split
  ·obtain ⟨e1,e2,e3,e4⟩:=Qv (t:=t) hg
   have:=@Tl w.next t
   exact ⟨Xc _ _ hg,⟨_,by omega,e1⟩,by omega⟩
  ·refine ⟨by unfold C6;rw [ht];rfl,⟨(gp w.next t).toNat,?_,?_⟩,by simp⟩
   ·unfold Pu Ig at hb;simp only [Bool.and_eq_true,decide_eq_true_eq] at hb;omega
   ·have:=Jb w.next t
    show t=_
    unfold Cg gp at *;omega
theorem Xm {l:List A4} {b:Int} {w:An} {m:Nat} (hm:m≤65528) (hq:Jq l b=true) (hw:C6 w=true) (e:w.next=Cg b m):Jq (Dz l w) w.next=true:=by
 obtain ⟨h1,h2,h3,h4⟩:=Dq.1 hq
 obtain ⟨b0,b1⟩:=A9.1 h1
 have key:∀q∈l,gp w.next q.Ae < 8→gp w.next q.Ae=gp b q.Ae - m:=fun q hq h=>by
  have ho:=Eb.1 (h3 q hq)
  obtain ⟨n0,n1⟩:=A9.1 ho.n
  have:=ho.g
  rw [e] at h ⊢
  unfold gp Cg at *;omega
 have hin:∀q∈Dz l w,q∈l∧gp w.next q.Ae < 8:=fun q hq=>by
  unfold Dz at hq
  rw [List.mem_filter] at hq
  simp only [Bool.and_eq_true,decide_eq_true_eq] at hq
  exact ⟨hq.1,hq.2.2⟩
 refine Dq.2 ⟨A9.2 (Gz hw),Nat.le_trans (List.length_filter_le _ _) h2,fun q hq=>?_,?_⟩
 ·obtain ⟨a,c⟩:=hin q hq
  have ho:=Eb.1 (h3 q a)
  exact Eb.2 ⟨ho.n,c,ho.s0,ho.s1,ho.u0,ho.u1,ho.t0,ho.t1⟩
 ·have h5:(Dz l w).Pairwise fun a b'=>gp b a.Ae < gp b b'.Ae:=h4.sublist List.filter_sublist
  refine h5.imp_of_mem fun ha hb h=>?_
  rw [key _ (hin _ ha).1 (hin _ ha).2,key _ (hin _ hb).1 (hin _ hb).2];omega
theorem Mq {l:List A4} {w:An}:∀q∈Dz l w,Hh w q.Ae=false:=fun q hq=>by
 unfold Dz at hq
 rw [List.mem_filter] at hq
 simp only [Bool.and_eq_true,Bool.not_eq_true',Bool.or_eq_false_iff] at hq
 exact hq.2.1.2
theorem N9 {w:An} {k:Nat} (hk:k≤8) {n:Int} (h:n∈L6 w k):B9 n=true∧gp w.next n < 8∧Hh w n=false:=by
 unfold L6 Od at h
 obtain ⟨h1,h2⟩:=List.mem_filter.1 h
 obtain ⟨i,hi,rfl⟩:=List.mem_map.1 h1
 rw [List.mem_range] at hi
 refine ⟨Mx _ _,?_,by simpa using h2⟩
 unfold gp Cg;omega
theorem N3 {w:An} {u:Int} (u0:0≤u) (u1:u≤10007):∀(ns:List Int) (l:List A4),(∀n∈ns,B9 n=true∧Hh w n=false)→Jq l w.next=true→(∀q∈l,Hh w q.Ae=false)→Jq (I2 w.next u l ns) w.next=true∧∀q∈I2 w.next u l ns,Hh w q.Ae=false
 | [],l,_,h2,h3=>⟨h2,h3⟩
 | n::ns,l,h1,h2,h3=>by
  obtain ⟨a,b⟩:=h1 n (by simp)
  refine N3 u0 u1 ns (Qf w.next l n u) (fun n hn=>h1 n (by simp [hn])) (Ahu h2 a u0 u1) fun q hq=>?_
  rcases Aln hq with h|h
  ·exact h3 q h
  ·rw [h];exact b
theorem W9 {base u:Int} {l:List A4} {ns:List Int} {k:Nat} (h:k < ns.length):I2 base u l (ns.take (k+1))=Qf base (I2 base u l (ns.take k)) ns[k] u:=by
 unfold I2
 rw [List.take_add_one,List.getElem?_eq_getElem h,List.foldl_append];rfl
theorem O2 (w:An) (t:Int):T6 w t≤8:=by unfold T6;omega
theorem Ti {r:Bb} {p:Av} {d:Int} (hg:Kk r) (hp:Bp p=true) (d0:1≤d) (d1:d≤8) (hk:r.Ai+d≤10007):C6 (Cm r p)=true∧Jq (Dz r.Ar (Cm r p)) (Cm r p).next=true∧Kk (I1 r p d)∧(Km r p).length≤24:=by
 obtain ⟨a1,a2⟩:=Pp hg hp
 obtain ⟨b1,⟨m,hm,em⟩,b3⟩:=Ru hg hp
 have htr:B9 p.Al=true:=by unfold Bp at hp;simp only [Bool.and_eq_true] at hp;exact hp.1.1.1.1.2
 obtain ⟨c1,⟨k,hk2,ek⟩,c3⟩:=Ajl b1 htr
 have hk0:=hg.k0
 have hq:Jq (Dz r.Ar (Cm r p)) (Cm r p).next=true:=by
  cases hs:r.Bh
  ·rw [(hg.z hs).2]
   exact (Dq (l:=[])).2 ⟨A9.2 (Gz c1),Nat.zero_le 8,fun r hr=>(by cases hr),List.Pairwise.nil⟩
  ·refine Xm (m:=m+k) (by omega) hg.q c1 ?_
   show (Cm r p).next=_
   rw [show (Cm r p).next=Cg (Et r p).next k from ek,em,a2 hs,Agr]
 have hn:Cm r p=L7 (Et r p) p.Al:=rfl
 refine ⟨c1,hq,⟨hg.k0,hg.k1,c1,?_,?_,fun h=>by cases h⟩,by unfold Km;rw [List.length_append];omega⟩
 ·show Jq (M2 (Cm r p) (Dz r.Ar (Cm r p)) p.Ec (r.Ai+d)) (Cm r p).next=true
  unfold M2
  split
  ·exact (N3 (by omega) (by omega) _ _ (fun n hn=>⟨(N9 (O2 _ _) hn).1,(N9 (O2 _ _) hn).2.2⟩) hq Mq).1
  ·exact hq
 ·show ∀q∈M2 (Cm r p) (Dz r.Ar (Cm r p)) p.Ec (r.Ai+d),Hh (Cm r p) q.Ae=false
  unfold M2
  split
  ·exact (N3 (by omega) (by omega) _ _ (fun n hn=>⟨(N9 (O2 _ _) hn).1,(N9 (O2 _ _) hn).2.2⟩) hq Mq).2
  ·exact Mq
theorem Qn {r:Bb} {p:Av} {d:Int} (hg:Kk r) (hp:Bp p=true) (d0:1≤d) (d1:d≤8):Kk (De r p d)∧(Gw r p).length≤24:=by
 have hk1:=hg.k1
 have hk0:=hg.k0
 unfold De Gw
 split
 ·exact ⟨(Ti hg hp d0 d1 (by omega)).2.2.1,(Ti hg hp d0 d1 (by omega)).2.2.2⟩
 ·refine ⟨?_,by simp⟩
  split
  ·rename_i h
   simp only [Bool.and_eq_true,decide_eq_true_eq] at h
   refine ⟨hk0,hk1,hg.w,Afi hg.q (by omega) (by omega),fun q hq=>?_,fun hs=>?_⟩
   ·obtain ⟨r',hr,e⟩:=Ai4 hq
    show Hh r.Aa q.Ae=false
    rw [←e];exact hg.f r' hr
   ·have:r.Bh=false:=hs
    rw [h.2] at this;cases this
  ·exact hg
section
variable {c:Cx} {fr:Fr} {H:List Pc} {Φ:Gl}
theorem Hv {a:Option Addr} {n cp:Nat} {xs:List A4} {F:List Nat} (i:Nat) (h:∀(hi:i < xs.length) (b o:Nat),a=some ⟨b,o,none⟩→T c fr (.cel b (o+i * 4) [.int .i64 xs[i].Ae,.int .i64 xs[i].Gj,.int .i64 xs[i].Ca,.int .i64 xs[i].Dn]::H) Φ) (hm:.sl Ay (.slice a n cp) xs F∈H:=by exact B8) (hi:i < xs.length:=by omega):T c fr H Φ:=.mk fun ac w s g=>by
 obtain ⟨b,o,cs,G,ha,hrep,hG,hb,hne,hr⟩:=Tw (s.get hm) i hi
 obtain ⟨rfl,rfl⟩:=hrep
 exact (h hi b o  ha  ).h ac w (s.ro hm rfl rfl ⟨hne,hr⟩ (by intro x hx;simp [Pc.F] at hx;subst hx;exact hb)) g
theorem Yy {t:TypeId} {a:Option Addr} {n cp:Nat} {xs:List A4} {F:List Nat} {S:List Pc} (i:Nat) (h:∀(_:i < xs.length) g A B,a=some ⟨g,0,none⟩→F=[g]→Aj8 Ay t g (.slice (some ⟨g,0,none⟩) n cp) xs i A B→T c fr (.row g t (0+i * 4) A [.int .i64 xs[i].Ae,.int .i64 xs[i].Gj,.int .i64 xs[i].Ca,.int .i64 xs[i].Dn] B::S) Φ) (hp:C0 H (.ow Ay t (.slice a n cp) xs F) S:=by exact D0) (hi:i < xs.length:=by omega):T c fr H Φ :=
 N6 Ds i (fun hi g A cs B ha hF hr hh=>by obtain ⟨rfl, -⟩:=hr default;exact h hi g A B ha hF  hh) hp rfl hi
theorem Lk (x:A4)  (w:World):Cw Ay w [.int .i64 x.Ae,.int .i64 x.Gj,.int .i64 x.Ca,.int .i64 x.Dn] [x] []:=⟨_,[],[],[],by simp,by simp,⟨rfl,rfl⟩,rfl,rfl⟩
end
theorem Amx {P:Program} {f:FuncId} {α:Type} {E:Bv α} {v:Value} {xs:List α} {F:List Nat} {rest:List Value} {A M:List Pc} {σ:Type} {C:σ→Prop} {w:σ→Value} {N:σ→List Pc} (h:∀a c,Fn P f (.slice a xs.length c::rest) (.sl E (.slice a xs.length c) xs F::A) M C w N):Fn P f (v::rest) (.sl E v xs F::A) M C w N:=fun w0 hH hS=>by
 obtain ⟨-,hs⟩:=hH (.sl E v xs F) (by simp)
 obtain ⟨a,c,rfl⟩:=hs.slice
 exact h a c w0 hH hS
theorem Aik (d:Int):Fn prog 303 [.int .i64 d] [] [] (fun (_:Unit)=>True) (fun _=>.bool (Ala d)) (fun _=>[]):=by
 refine enter func303 rfl ntmps303 fun w0=>?_
 refine go ?_;intros
 refine ce (fun w s=>Ie _ _ _ _) ?_
 refine go ?_;intros
 refine ret () trivial rfl
theorem Sq (r:A4) (base:Int) (b0:0≤base) (b1:base≤65535):Fn prog 226 [.agg #[.int .i64 r.Ae,.int .i64 r.Gj,.int .i64 r.Ca,.int .i64 r.Dn],.int .i64 base] [] [] (fun (_:Unit)=>True) (fun _=>.bool (Kn base r)) (fun _=>[]):=by
 refine enter func226 rfl ntmps226 fun w0=>?_
 refine go ?_;intros
 refine ce (fun w s=>Ih _ _) ?_
 cases g1:B9 r.Ae
 ·refine go ?_;intros
  refine ret () trivial ?_
  simp [Kn,g1,Pv]
 obtain ⟨n0,n1⟩:=A9.1 g1
 refine go ?_;intros
 refine ce (fun w s=>Mo _ _ _ (by omega) (by omega) (by omega) (by omega)) ?_
 refine go ?_;intros
 refine Dc rfl rfl (fun g2=>?_) (fun g2=>?_)
 rotate_left
 ·refine go ?_;intros
  refine ret () trivial ?_
  simp [Kn,g2,Pv]
 refine go ?_;intros
 refine ce (fun w s=>Ie _ _ _ _) ?_
 cases g3:Ig 1 r.Gj 3
 ·refine go ?_;intros
  refine ret () trivial ?_
  simp [Kn,g3,Pv]
 refine go ?_;intros
 refine ce (fun w s=>Ie _ _ _ _) ?_
 cases g4:Ig 0 r.Ca 10007
 ·refine go ?_;intros
  refine ret () trivial ?_
  simp [Kn,g4,Pv]
 refine go ?_;intros
 refine ce (fun w s=>Ie _ _ _ _) ?_
 refine go ?_;intros
 refine ret () trivial ?_
 simp [Kn,g1,g2,g3,g4,Pv]
theorem Ny (l:List A4) (base:Int) (v:Value) (F:List Nat):Fn prog 170 [v,.int .i64 base] [.sl Ay v l F] [] (fun (_:Unit)=>True) (fun _=>.bool (Jq l base)) (fun _=>[]):=by
 refine Amx (fun a c=>?_)
 refine enter func170 rfl ntmps170 fun w0=>?_
 refine go ?_;intros
 refine ce (fun w s=>Ih _ _) ?_
 cases g1:B9 base
 ·refine go ?_;intros
  refine ret () trivial ?_
  simp [Jq,g1,Pv]
 obtain ⟨b0,b1⟩:=A9.1 g1
 refine go ?_;intros
 refine Bg rfl (fun g2=>?_) (fun g2=>?_)
 ·refine go ?_;intros
  refine ret () trivial ?_
  rw [show Jq l base=false by unfold Jq;rw [decide_eq_false (by omega)];simp];rfl
 refine go ?_;intros
 refine Dv [0,1,4,15,16] (fun k:Nat=>[(17,.int .i64 (k:Nat))]) (fun k=>k≤l.length∧∀j,j < k→Aae l base j=true) (fun k=>l.length - k) 0 ⟨Nat.zero_le _,fun j h=>by omega⟩ fun k hk=>?_
 obtain ⟨hk1,hk2⟩:=hk
 refine go ?_;intros
 refine Bg rfl (fun h3=>?_) (fun h3=>?_)
 ·have hk3:k < l.length:=by omega
  have bad:Aae l base k=false→Jq l base=false:=fun h=>Agt hk3 h
  have hck:=Q7 (base:=base) hk3
  refine Hv (xs:=l) k ?_
  rintro hi b o e
  rw [e]
  have p4:0 < k→∃h:k - 1 < l.length,Ake base l[k - 1]:=fun h0=>by
   have hk4:k - 1 < l.length:=by omega
   have hp:=hk2 (k - 1) (by omega)
   rw [Q7 hk4] at hp
   simp only [Bool.and_eq_true] at hp
   exact ⟨hk4,Eb.1 hp.1⟩
  refine go ?_;intros
  cases g4:Kn base l[k]
  ·skip
   refine As [0] [] ?_
   refine dt 0 ?_
   refine dt 1 ?_
   refine dO 2 (by kernel_rfl) (by rw [List.getElem?_toArray];rfl) ?_
   apply At;rfl;kernel_rfl;exact Bf
   refine cf (Sq l[k] base b0 b1) fun _ _=>?_
   refine Ap ?_
   rw [g4]
   refine dk ?_
   refine dt 3 ?_
   refine dt 4 ?_
   refine ds 5 ?_
   refine ds 6 ?_
   refine ds 7 ?_
   refine Ut 8 ?_
   refine Ut 9 ?_
   refine Ut 10 ?_
   refine Ut 11 ?_
   refine Ut 12 ?_
   refine Ut 13 ?_
   refine Ut 14 ?_
   refine Ut 15 ?_
   refine Ut 16 ?_
   refine Ut 17 ?_
   refine Ut 18 ?_
   refine Ut 19 ?_
   refine Ut 20 ?_
   refine ds 21 ?_
   refine dt 22 ?_
   refine dd ?_
   refine go ?_;intros
   refine ret () trivial ?_
   rw [bad (by rw [hck,g4];rfl)];rfl
  obtain ⟨q0,q1⟩:=A9.1 (Eb.1 g4).n
  by_cases hk0:0 < k
  ·obtain ⟨hk4,p5⟩:=p4 hk0
   obtain ⟨p0,p1⟩:=A9.1 p5.n
   rw [←e]
   refine Hv (xs:=l) (k - 1) ?_
   rintro hi5 b5 o5 e5
   rw [e5]
   refine As [0,1] [] ?_
   refine dt 0 ?_
   refine dt 1 ?_
   refine dO 2 (by kernel_rfl) (by rw [List.getElem?_toArray];rfl) ?_
   apply At;rfl;kernel_rfl;exact Bf
   refine cf (Sq l[k] base b0 b1) fun _ _=>?_
   refine Ap ?_
   rw [g4]
   refine dk ?_
   refine dt 3 ?_
   refine dt 4 ?_
   refine Dh 5 ?_
   refine Dh 6 ?_
   rw [decide_eq_true (show (0:Int) < k by omega)]
   refine Dh 7 ?_
   refine Dh 8 ?_
   refine Dh 9 ?_
   refine Dh 10 ?_
   refine Dh 11 ?_
   rw [show (k:Int) - 1=((k - 1:Nat):Int) by omega]
   refine Dh 12 ?_
   refine Dh 13 ?_
   refine Dh 14 ?_
   refine Dh 16 ?_
   refine Dh 17 ?_
   refine Dh 18 ?_
   refine d1g 15 ?_
   apply On.h
   apply At;rfl;kernel_rfl;exact Bf
   refine ce (fun w s=>Mo _ _ _ (by omega) (by omega) (by omega) (by omega)) ?_
   refine dk ?_
   refine d1g 19 ?_
   apply On.h
   apply At;rfl;kernel_rfl;exact Bf
   refine ce (fun w s=>Mo _ _ _ (by omega) (by omega) (by omega) (by omega)) ?_
   refine dk ?_
   refine Dh 20 ?_
   refine Dh 21 ?_
   refine dt 22 ?_
   refine dd ?_
   refine go ?_;intros
   refine Bg rfl (fun h6=>?_) (fun h6=>?_)
   ·refine go ?_;intros
    refine ret () trivial ?_
    rw [bad (by rw [hck,decide_eq_true h6,decide_eq_false (show ¬k=0 by omega)];simp)];rfl
   ·refine go ?_;intros
    refine Ck (k+1) ⟨by omega,fun j hj=>?_⟩ (by omega)
    rcases Nat.lt_or_eq_of_le (Nat.lt_succ_iff.1 hj) with h|rfl
    ·exact hk2 j h
    ·rw [hck,g4,decide_eq_false h6];simp
  ·have hz:k=0:=by omega
   refine As [0] [] ?_
   refine dt 0 ?_
   refine dt 1 ?_
   refine dO 2 (by kernel_rfl) (by rw [List.getElem?_toArray];rfl) ?_
   apply At;rfl;kernel_rfl;exact Bf
   refine cf (Sq l[k] base b0 b1) fun _ _=>?_
   refine Ap ?_
   rw [g4]
   refine dk ?_
   refine dt 3 ?_
   refine dt 4 ?_
   refine Dh 5 ?_
   refine Dh 6 ?_
   rw [decide_eq_false (show ¬(0:Int) < k by omega)]
   refine Dh 7 ?_
   refine ds 8 ?_
   refine ds 9 ?_
   refine ds 10 ?_
   refine ds 11 ?_
   refine ds 12 ?_
   refine ds 13 ?_
   refine ds 14 ?_
   refine ds 15 ?_
   refine ds 16 ?_
   refine ds 17 ?_
   refine ds 18 ?_
   refine ds 19 ?_
   refine ds 20 ?_
   refine Dh 21 ?_
   refine dt 22 ?_
   refine dd ?_
   refine go ?_;intros
   refine Ck (k+1) ⟨by omega,fun j hj=>?_⟩ (by omega)
   rcases Nat.lt_or_eq_of_le (Nat.lt_succ_iff.1 hj) with h|rfl
   ·exact hk2 j h
   ·rw [hck,g4,decide_eq_true hz];simp
 have hkl:k=l.length:=by omega
 refine go ?_;intros
 refine ret () trivial ?_
 rw [Adm g1 (by omega) (hkl▸hk2)];rfl
theorem Ait (l:List A4) (base:Int) (v:Value) (F:List Nat):Fn prog 211 [v,.int .i64 base] [.sl Ay v l F] [] (fun (_:Unit)=>True) (fun _=>.bool (Jq l base)) (fun _=>[]):=by
 refine Amx (fun a c=>?_)
 refine enter func211 rfl ntmps211 fun w0=>?_
 refine go ?_;intros
 refine ce (fun w s=>Lp _ _) ?_
 cases g1:B9 base
 ·refine go ?_;intros
  refine ret () trivial ?_
  simp [Jq,g1,Pv]
 obtain ⟨b0,b1⟩:=A9.1 g1
 refine go ?_;intros
 refine Bg rfl (fun g2=>?_) (fun g2=>?_)
 ·refine go ?_;intros
  refine ret () trivial ?_
  rw [show Jq l base=false by unfold Jq;rw [decide_eq_false (by omega)];simp];rfl
 refine go ?_;intros
 refine Dv [0,1,4] (fun k:Nat=>[(5,.int .i64 (k:Nat))]) (fun k=>k≤l.length∧∀j,j < k→Aae l base j=true) (fun k=>l.length - k) 0 ⟨Nat.zero_le _,fun j h=>by omega⟩ fun k hk=>?_
 obtain ⟨hk1,hk2⟩:=hk
 refine go ?_;intros
 refine Bg rfl (fun h3=>?_) (fun h3=>?_)
 ·have hk3:k < l.length:=by omega
  have bad:Aae l base k=false→Jq l base=false:=fun h=>Agt hk3 h
  have hck:=Q7 (base:=base) hk3
  refine Hv (xs:=l) k ?_
  rintro hi b o e
  rw [e]
  have p4:0 < k→∃h:k - 1 < l.length,Ake base l[k - 1]:=fun h0=>by
   have hk4:k - 1 < l.length:=by omega
   have hp:=hk2 (k - 1) (by omega)
   rw [Q7 hk4] at hp
   simp only [Bool.and_eq_true] at hp
   exact ⟨hk4,Eb.1 hp.1⟩
  refine go ?_;intros
  refine ce (fun w s=>Lp _ _) ?_
  cases g5:B9 l[k].Ae
  ·refine go ?_;intros
   refine ret () trivial ?_
   rw [bad (by rw [hck,show Kn base l[k]=false by unfold Kn;simp [g5]];rfl)];rfl
  obtain ⟨q0,q1⟩:=A9.1 g5
  refine go ?_;intros
  refine ce (fun w s=>H8 _ _ _ (by omega) (by omega)) ?_
  refine go ?_;intros
  refine Dc rfl rfl (fun g6=>?_) (fun g6=>?_)
  ·refine go ?_;intros
   refine ret () trivial ?_
   rw [bad (by rw [hck,show Kn base l[k]=false by unfold Kn;rw [decide_eq_false (by omega)];simp];rfl)];rfl
  refine go ?_;intros
  refine ce (fun w s=>Kg _ _ _ _) ?_
  cases g7:Ig 1 l[k].Gj 3
  ·refine go ?_;intros
   refine ret () trivial ?_
   rw [bad (by rw [hck,show Kn base l[k]=false by unfold Kn;simp [g7]];rfl)];rfl
  refine go ?_;intros
  refine ce (fun w s=>Kg _ _ _ _) ?_
  cases g8:Ig 0 l[k].Ca 10007
  ·refine go ?_;intros
   refine ret () trivial ?_
   rw [bad (by rw [hck,show Kn base l[k]=false by unfold Kn;simp [g8]];rfl)];rfl
  refine go ?_;intros
  refine ce (fun w s=>Kg _ _ _ _) ?_
  cases g9:Ig 0 l[k].Dn 3
  ·refine go ?_;intros
   refine ret () trivial ?_
   rw [bad (by rw [hck,show Kn base l[k]=false by unfold Kn;simp [g9]];rfl)];rfl
  refine go ?_;intros
  have g4:Kn base l[k]=true:=by unfold Kn;rw [g5,g7,g8,g9,decide_eq_true (by omega)];rfl
  by_cases hk0:0 < k
  ·obtain ⟨hk4,p5⟩:=p4 hk0
   obtain ⟨p0,p1⟩:=A9.1 p5.n
   rw [←e]
   refine Hv (xs:=l) (k - 1) ?_
   rintro hi5 b5 o5 e5
   rw [e5]
   refine As [1,0] [] ?_
   refine dt 0 ?_
   refine dt 1 ?_
   rw [decide_eq_true (show (0:Int) < k by omega)]
   refine dt 2 ?_
   refine Dh 3 ?_
   refine Dh 4 ?_
   refine Dh 5 ?_
   refine Dh 6 ?_
   rw [show (k:Int) - 1=((k - 1:Nat):Int) by omega]
   refine Dh 7 ?_
   refine Dh 8 ?_
   refine Dh 9 ?_
   refine Dh 11 ?_
   refine Dh 12 ?_
   refine Dh 13 ?_
   refine d1g 10 ?_
   apply On.h
   apply At;rfl;kernel_rfl;exact Bf
   refine ce (fun w s=>H8 _ _ _ (by omega) (by omega)) ?_
   refine dk ?_
   refine d1g 14 ?_
   apply On.h
   apply At;rfl;kernel_rfl;exact Bf
   refine ce (fun w s=>H8 _ _ _ (by omega) (by omega)) ?_
   refine dk ?_
   refine Dh 15 ?_
   refine dt 16 ?_
   refine dd ?_
   refine go ?_;intros
   refine Bg rfl (fun h6=>?_) (fun h6=>?_)
   ·refine go ?_;intros
    refine ret () trivial ?_
    rw [bad (by rw [hck,decide_eq_true h6,decide_eq_false (show ¬k=0 by omega)];simp)];rfl
   ·refine go ?_;intros
    refine Ck (k+1) ⟨by omega,fun j hj=>?_⟩ (by omega)
    rcases Nat.lt_or_eq_of_le (Nat.lt_succ_iff.1 hj) with h|rfl
    ·exact hk2 j h
    ·rw [hck,g4,decide_eq_false h6];simp
  ·have hz:k=0:=by omega
   refine As [0] [] ?_
   refine dt 0 ?_
   refine dt 1 ?_
   rw [decide_eq_false (show ¬(0:Int) < k by omega)]
   refine dt 2 ?_
   refine ds 3 ?_
   refine ds 4 ?_
   refine ds 5 ?_
   refine ds 6 ?_
   refine ds 7 ?_
   refine ds 8 ?_
   refine ds 9 ?_
   refine ds 10 ?_
   refine ds 11 ?_
   refine ds 12 ?_
   refine ds 13 ?_
   refine ds 14 ?_
   refine ds 15 ?_
   refine dt 16 ?_
   refine dd ?_
   refine go ?_;intros
   refine Ck (k+1) ⟨by omega,fun j hj=>?_⟩ (by omega)
   rcases Nat.lt_or_eq_of_le (Nat.lt_succ_iff.1 hj) with h|rfl
   ·exact hk2 j h
   ·rw [hck,g4,decide_eq_true hz];simp
 have hkl:k=l.length:=by omega
 refine go ?_;intros
 refine ret () trivial ?_
 rw [Adm g1 (by omega) (hkl▸hk2)];rfl
theorem Ac5 {P:Program} {n:Nat} {fr:Fr} {H:List Pc} {ty t':TypeId} {x:Operand} {t e m:Nat} [hS:SlC P t e m] {a:Option Addr} {l c:Nat} (hx:ev fr x=some (.slice a l c)):Yd P n fr H (.binOp .eql t x (.const (.slice none 0 0)) t') ty (.bool a.isNone):=.mk fun ac w d pos Cg gd hA _=>by
 have he:ac.eval (.const (.slice none 0 0))=.slice none 0 0:=rfl
 have eg:eqGuard .eql t x (.const (.slice none 0 0)) (.slice a l c) (.slice none 0 0)=pure ():=by unfold eqGuard;simp
 simp only [execOp,hA.ev hx,he,eg,Sem.run_bind,Sem.run_pure,Result.andThen_ok,Lib.run_eql_slice_nil w t e a l c 0 0 hS.u]
theorem Amy {c:Cx} {fr:Fr} {H:List Pc} {Φ:Gl} {α:Type} {E:Bv α} {n cp:Nat} {xs:List α} {F:List Nat} (h:xs=[]→T c fr H Φ) (hm:.sl E (.slice none n cp) xs F∈H:=by exact B8):T c fr H Φ:=.mk fun ac w s g=>by
 obtain ⟨-,a,cap,hv, -,⟨rfl, -, -⟩|⟨b,off,F',rfl, -⟩⟩:=s.get hm
 ·exact (h rfl).h ac w s g
 ·cases hv
theorem Pw (xs:List A4) (a:Option Addr) (c:Nat) (F:List Nat) (hl:xs.length≤1000000000) :
  Fn prog 137 [.slice a xs.length c] [.sl Ay (.slice a xs.length c) xs F] [] (fun (_:Option Addr × Nat × List Nat)=>True) (fun z=>.slice z.1 xs.length z.2.1) (fun z=>[.ow Ay 165 (.slice z.1 xs.length z.2.1) xs z.2.2]):=by
 refine enter func137 rfl ntmps137 fun w0=>?_
 refine go ?_;intros
 cases a with
 | none =>
  refine Amy (xs:=xs) fun h0=>?_
  subst h0
  apply wO;apply oc;rfl;exact Ac5 rfl
  refine Cb Ay 165 ?_
  refine go ?_;intros
  refine ret (none,0,[]) trivial rfl
 | some ad =>
  apply wO;apply oc;rfl;exact Ac5 rfl
  refine go ?_;intros
  refine C9 Ay ?_
  apply wO
  refine Lx C2 Ds fun a2 c2 F2=>?_
  rw [List.nil_append]
  refine go ?_;intros
  refine ret (a2,c2,F2) trivial rfl
section
variable {c:Cx} {fr:Fr} {H:List Pc} {Φ:Gl}
theorem E8 {v:Value} {x:Bb} {F:List Nat} (h:∀(a1:Option Addr) (c1:Nat) (F1:List Nat) (a2:Option Addr) (c2:Nat) (F2:List Nat),v=.agg #[.bool x.Bh,.int .i64 x.Ai,.int .i64 x.Aa.next,.slice a1 x.Aa.Ao.length c1,.slice a2 x.Ar.length c2]→x.Aa.Ao.length≤maxLen→x.Ar.length≤maxLen→T c fr (.sl Ci (.slice a1 x.Aa.Ao.length c1) x.Aa.Ao F1::.sl Ay (.slice a2 x.Ar.length c2) x.Ar F2::H) Φ) (hm:.isv B4 v x F∈H:=by exact B8):T c fr H Φ:=.mk fun a w s g=>by
 obtain ⟨cs,rfl,v1,v2,G1,G2,rfl,h1,h2,rfl⟩:=s.get hm
 obtain ⟨a1,c1,rfl⟩:=h1.slice;have l1:=h1.len
 obtain ⟨a2,c2,rfl⟩:=h2.slice;have l2:=h2.len
 have t2:=s.ro (p:=.sl Ay (.slice a2 x.Ar.length c2) x.Ar G2) hm rfl rfl ⟨by decide,h2⟩ (by intro b hb;simp only [Pc.F] at hb ⊢;simp [hb])
 have t1:=t2.ro (p:=.sl Ci (.slice a1 x.Aa.Ao.length c1) x.Aa.Ao G1) (List.mem_cons_of_mem _ hm) rfl rfl ⟨by decide,h1⟩ (by intro b hb;simp only [Pc.F] at hb ⊢;simp [hb])
 exact (h a1 c1 G1 a2 c2 G2 rfl  l1 l2).h a w t1 g
theorem Em (x:Bb) {a1:Option Addr} {c1:Nat} {F1:List Nat} {a2:Option Addr} {c2:Nat} {F2:List Nat}  (h:T c fr (.isv B4 (.agg #[.bool x.Bh,.int .i64 x.Ai,.int .i64 x.Aa.next,.slice a1 x.Aa.Ao.length c1,.slice a2 x.Ar.length c2]) x (F1++F2)::H) Φ) (m1:.sl Ci (.slice a1 x.Aa.Ao.length c1) x.Aa.Ao F1∈H:=by exact B8) (m2:.sl Ay (.slice a2 x.Ar.length c2) x.Ar F2∈H:=by exact B8):T c fr H Φ:=.mk fun a w s g=>by
 have hP:Pt B4 w (.agg #[.bool x.Bh,.int .i64 x.Ai,.int .i64 x.Aa.next,.slice a1 x.Aa.Ao.length c1,.slice a2 x.Ar.length c2]) x (F1++F2):=⟨_,rfl,_,_,_,_,rfl,(s.get m1).2,(s.get m2).2,rfl⟩
 refine h.h a w (s.add (N:=[.isv B4 (.agg #[.bool x.Bh,.int .i64 x.Ai,.int .i64 x.Aa.next,.slice a1 x.Aa.Ao.length c1,.slice a2 x.Ar.length c2]) x (F1++F2)]) (Below.refl _ _) (by intro q hq;simp at hq;subst hq;exact hP) ⟨by simp,trivial⟩ fun q hq b hb=>?_) g
 simp at hq;subst hq
 simp only [Pc.F,List.mem_append] at hb
 rcases hb with hb|hb
 ·exact .inr ⟨rfl,_,m1,rfl,hb⟩
 ·exact .inr ⟨rfl,_,m2,rfl,hb⟩
theorem H9 {v:Value} {x:Bb} {F:List Nat} {S:List Pc} (h:∀(a1:Option Addr) (c1:Nat) (F1:List Nat) (a2:Option Addr) (c2:Nat) (F2:List Nat),v=.agg #[.bool x.Bh,.int .i64 x.Ai,.int .i64 x.Aa.next,.slice a1 x.Aa.Ao.length c1,.slice a2 x.Ar.length c2]→x.Aa.Ao.length≤maxLen→x.Ar.length≤maxLen→T c fr (.ow Ci 188 (.slice a1 x.Aa.Ao.length c1) x.Aa.Ao F1::.ow Ay 165 (.slice a2 x.Ar.length c2) x.Ar F2::S) Φ) (hp:C0 H (.own Bk v x F) S:=by exact D0):T c fr H Φ:=.mk fun a w s g=>by
 have z1:=s.pick hp
 obtain ⟨hn,cs,rfl,v1,v2,G1,G2,rfl,h1,h2,rfl⟩:=z1.on (.own Bk v x F) (by simp)
 obtain ⟨a1,c1,rfl⟩:=h1.slice;have l1:=h1.len
 obtain ⟨a2,c2,rfl⟩:=h2.slice;have l2:=h2.len
 have hn2:=hn;simp only [List.nodup_append,List.mem_append] at hn2
 refine (h a1 c1 G1 a2 c2 G2 rfl  l1 l2).h a w (St.turn (M:=[.own Bk (.agg #[.bool x.Bh,.int .i64 x.Ai,.int .i64 x.Aa.next,.slice a1 x.Aa.Ao.length c1,.slice a2 x.Ar.length c2]) x _]) (N:=[.ow Ci 188 (.slice a1 x.Aa.Ao.length c1) x.Aa.Ao G1,.ow Ay 165 (.slice a2 x.Ar.length c2) x.Ar G2]) z1 (Dy.refl _ w) ?_ ?_ ?_) g
 ·intro q hq;simp only [List.mem_cons,List.not_mem_nil,or_false] at hq
  rcases hq with rfl|rfl
  ·exact ⟨(List.nodup_append.1 hn).1,h1⟩
  ·exact ⟨(List.nodup_append.1 hn).2.1,h2⟩
 ·refine ⟨?_,⟨?_,trivial⟩⟩
  ·intro q hq _ b hb hb2;simp only [List.mem_cons,List.not_mem_nil,or_false] at hq;rcases hq with rfl <;> simp only [Pc.F] at hb hb2 <;> exact Ea hn hb hb2
  ·intro q hq _ b hb hb2;simp at hq
 ·intro q hq b hb;refine .inr (.inl ⟨_,List.mem_singleton.2 rfl,rfl,?_⟩);simp only [List.mem_cons,List.not_mem_nil,or_false] at hq;rcases hq with rfl|rfl <;> simp only [Pc.F] at hb ⊢ <;> simp [hb]
theorem Js (x:Bb) {a1:Option Addr} {c1:Nat} {F1:List Nat} {a2:Option Addr} {c2:Nat} {F2:List Nat} {S1 S2:List Pc}  (h:T c fr (.own Bk (.agg #[.bool x.Bh,.int .i64 x.Ai,.int .i64 x.Aa.next,.slice a1 x.Aa.Ao.length c1,.slice a2 x.Ar.length c2]) x (F1++F2)::S2) Φ) (m1:C0 H (.ow Ci 188 (.slice a1 x.Aa.Ao.length c1) x.Aa.Ao F1) S1:=by exact D0) (m2:C0 S1 (.ow Ay 165 (.slice a2 x.Ar.length c2) x.Ar F2) S2:=by exact D0)  : T c fr H Φ:=.mk fun a w s g=>by
 have z1:St c.G c.D c.w0 ([.ow Ci 188 (.slice a1 x.Aa.Ao.length c1) x.Aa.Ao F1,.ow Ay 165 (.slice a2 x.Ar.length c2) x.Ar F2]++S2) w:=by simpa using (show Fc H [.ow Ci 188 (.slice a1 x.Aa.Ao.length c1) x.Aa.Ao F1,.ow Ay 165 (.slice a2 x.Ar.length c2) x.Ar F2] S2 from Fc.cons m1 (Fc.cons m2 (Fc.nil))).st (X:=[]) (by simpa using s)
 obtain ⟨n1,k1⟩:=z1.on (.ow Ci 188 (.slice a1 x.Aa.Ao.length c1) x.Aa.Ao F1) (by simp)
 obtain ⟨n2,k2⟩:=z1.on (.ow Ay 165 (.slice a2 x.Ar.length c2) x.Ar F2) (by simp)
 have hsp:=z1.Zr
 have p1_2:∀b∈F1,b ∉ F2:=hsp.1 (.ow Ay 165 (.slice a2 x.Ar.length c2) x.Ar F2) (by simp) rfl
 have hN:(F1++F2).Nodup:=by
  simp only [List.nodup_append,List.mem_append]
  grind
 refine h.h a w (St.turn (M:=[.ow Ci 188 (.slice a1 x.Aa.Ao.length c1) x.Aa.Ao F1,.ow Ay 165 (.slice a2 x.Ar.length c2) x.Ar F2]) (N:=[.own Bk (.agg #[.bool x.Bh,.int .i64 x.Ai,.int .i64 x.Aa.next,.slice a1 x.Aa.Ao.length c1,.slice a2 x.Ar.length c2]) x (F1++F2)]) z1 (Dy.refl _ w) (by intro q hq;simp at hq;subst hq;exact ⟨hN,_,rfl,_,_,_,_,rfl,k1,k2,rfl⟩) ⟨by simp,trivial⟩ fun q hq b hb=>?_) g
 simp at hq;subst hq
 simp only [Pc.F,List.mem_append] at hb
 rcases hb with hb|hb
 ·exact .inr (.inl ⟨.ow Ci 188 (.slice a1 x.Aa.Ao.length c1) x.Aa.Ao F1,by simp,rfl,hb⟩)
 ·exact .inr (.inl ⟨.ow Ay 165 (.slice a2 x.Ar.length c2) x.Ar F2,by simp,rfl,hb⟩)
theorem Lj {a:Option Addr} {n cp:Nat} {xs:List Bb} {F:List Nat} (i:Nat) (h:∀(hi:i < xs.length) (b o:Nat) (a1:Option Addr) (c1:Nat) (F1:List Nat) (a2:Option Addr) (c2:Nat) (F2:List Nat),a=some ⟨b,o,none⟩→xs[i].Aa.Ao.length≤maxLen→xs[i].Ar.length≤maxLen→T c fr (.cel b (o+i * 5) [.bool xs[i].Bh,.int .i64 xs[i].Ai,.int .i64 xs[i].Aa.next,.slice a1 xs[i].Aa.Ao.length c1,.slice a2 xs[i].Ar.length c2]::.sl Ci (.slice a1 xs[i].Aa.Ao.length c1) xs[i].Aa.Ao F1::.sl Ay (.slice a2 xs[i].Ar.length c2) xs[i].Ar F2::H) Φ) (hm:.sl B4 (.slice a n cp) xs F∈H:=by exact B8) (hi:i < xs.length:=by omega):T c fr H Φ:=.mk fun ac w s g=>by
 obtain ⟨b,o,cs,G,ha,hrep,hG,hb,hne,hr⟩:=Tw (s.get hm) i hi
 obtain ⟨v1,v2,G1,G2,rfl,h1,h2,rfl⟩:=hrep
 obtain ⟨a1,c1,rfl⟩:=h1.slice;have l1:=h1.len
 obtain ⟨a2,c2,rfl⟩:=h2.slice;have l2:=h2.len
 have t2:=s.ro (p:=.sl Ay (.slice a2 xs[i].Ar.length c2) xs[i].Ar G2) hm rfl rfl ⟨by decide,h2⟩ (by intro b hb;simp only [Pc.F] at hb ⊢;exact hG b (by simp [hb]))
 have t1:=t2.ro (p:=.sl Ci (.slice a1 xs[i].Aa.Ao.length c1) xs[i].Aa.Ao G1) (List.mem_cons_of_mem _ hm) rfl rfl ⟨by decide,h1⟩ (by intro b hb;simp only [Pc.F] at hb ⊢;exact hG b (by simp [hb]))
 exact (h hi b o a1 c1 G1 a2 c2 G2 ha  l1 l2).h ac w (t1.ro (List.mem_cons_of_mem _ (List.mem_cons_of_mem _ hm)) rfl rfl ⟨hne,hr⟩ (by intro x hx;simp [Pc.F] at hx;subst hx;exact hb)) g
end
theorem Adc (fid:FuncId) (bd caps:List Value) (A:List Pc) (hA:A.all (fun p=>!p.mu)=true) (xs:List A4) (a:Option Addr) (c:Nat) (F:List Nat) (p:A4→Bool) (hb:Om prog fid=true) (hl:xs.length≤1000000000)
  (hp:∀x∈xs,∀w,Nf A w→Calls prog fid (bd++[(.agg #[.int .i64 (x).Ae,.int .i64 (x).Gj,.int .i64 (x).Ca,.int .i64 (x).Dn]:Value)]++caps).toArray w fun e w'=>e=.returned (.bool (p x))∧Below w.heap.size w w') :
  Fn prog 227 [.slice a xs.length c,.func (.func fid) bd.toArray caps.toArray] (.sl Ay (.slice a xs.length c) xs F::A) [] (fun (_:Unit)=>True) (fun _=>.int .i64 (Ox p xs)) (fun _=>[]):=by
 refine enter func227 rfl ntmps227 (fun w0=>?_) rfl (by simpa [Pc.mu] using hA) .nil
 refine go ?_;intros
 refine Dv [0,1,4,7] (fun k:Nat=>[(8,.int .i64 (k:Nat))]) (fun k=>k≤xs.length∧∀j (_:j < k) (hj:j < xs.length),p xs[j]=false) (fun k=>xs.length - k) 0 ⟨Nat.zero_le _,fun j h=>by omega⟩ fun k hk=>?_
 obtain ⟨hk1,hk2⟩:=hk
 refine go ?_;intros
 refine Bg rfl (fun h5=>?_) (fun h5=>?_)
 ·have hh:k < xs.length:=by omega
  refine go ?_;intros
  refine Hv (xs:=xs) k ?_
  rintro hi b o e
  rw [e]
  refine go ?_;intros
  apply wO
  refine Vf rfl rfl hb Bf ?_
  refine cb (fun w st=>hp xs[k] (List.getElem_mem hh) w (fun q hq=>st.on q (by simp [hq]))) ?_
  cases hpk:p xs[k]
  ·refine go ?_;intros
   refine Rs ?_
   refine Ck (hH:=I6 _) (k+1) ⟨hh,fun j hj h=>?_⟩ (by omega)
   rcases Nat.lt_or_eq_of_le (Nat.lt_succ_iff.1 hj) with h2|rfl
   ·exact hk2 j h2 h
   ·exact hpk
  ·refine go ?_;intros
   refine ret () trivial ?_
   rw [M4 hh hk2 hpk];rfl
 ·obtain rfl:k=xs.length:=by omega
  refine go ?_;intros
  refine ret () trivial ?_
  rw [Ly (fun j hj=>hk2 j hj hj)];rfl
structure Aj5 where
 i:Nat
 j:Nat
 zs:List A4
theorem Ada (fid:FuncId) (bd caps:List Value) (A:List Pc) (hA:A.all (fun p=>!p.mu)=true) (xs:List A4) (a:Option Addr) (c:Nat) (F:List Nat) (p:A4→Bool) (hb:Om prog fid=true) (hl:xs.length≤1000000000)
  (hp:∀x∈xs,∀w,Nf A w→Calls prog fid (bd++[(.agg #[.int .i64 (x).Ae,.int .i64 (x).Gj,.int .i64 (x).Ca,.int .i64 (x).Dn]:Value)]++caps).toArray w fun e w'=>e=.returned (.bool (p x))∧Below w.heap.size w w') :
  Fn prog 237 [.slice a xs.length c,.func (.func fid) bd.toArray caps.toArray] A [.ow Ay 165 (.slice a xs.length c) xs F] (fun (_:Option Addr × Nat × List Nat)=>True)
   (fun z=>.slice z.1 (xs.filter fun x=>!p x).length z.2.1) (fun z=>[.ow Ay 165 (.slice z.1 (xs.filter fun x=>!p x).length z.2.1) (xs.filter fun x=>!p x) z.2.2]):=by
 refine enter func237 rfl ntmps237 (fun w0=>?_) rfl (by simpa [Pc.mu] using hA) (.cons .nil)
 refine go ?_;intros
 refine cb (fun w st=>by
  obtain ⟨Fw, -,hw⟩:=(st.get (p:=.ow Ay 165 (.slice a xs.length c) xs F) (by simp)).2.read
  refine (Adc fid bd caps A hA xs a c Fw p hb hl hp).val w ?_ (by simpa [Pc.mu] using hA)
  intro q hq
  rcases List.mem_cons.1 hq with rfl|hq
  ·exact ⟨by decide,hw⟩
  ·exact st.on q (by simp [hq])) ?_
 by_cases hany:xs.any p=true
 ·obtain ⟨i0,hi0,hfx,hpi,hfl⟩:=Td hany
  rw [hfx]
  refine Acz (xs:=xs) Ds (by rintro rfl;simp at hi0) ?_
  rintro g rfl rfl - hc1 hc2
  refine go ?_;intros
  refine Cp [0,1,4] (fun s:Aj5=>[(5,.int .i64 (s.i:Nat)),(6,.int .i64 (s.j:Nat))]) (fun s=>[.ow Ay 165 (.slice (some ⟨g,0,none⟩) xs.length c) s.zs [g]]) (fun s=>s.zs.length=xs.length∧s.j≤xs.length∧s.i < s.j∧s.zs.take s.i=(xs.take s.j).filter (fun x=>!p x)∧s.zs.drop s.j=xs.drop s.j) (fun s=>xs.length - s.j) ⟨i0,i0+1,xs⟩ ⟨rfl,hi0,Nat.lt_succ_self _,by rw [C1 hi0 (by simp [hpi]),hfl],rfl⟩ fun s hs=>?_
  obtain ⟨i,j,zs⟩:=s
  obtain ⟨h1,h2,h3,h4,h5⟩:=hs
  dsimp only at h1 h2 h3 h4 h5 ⊢
  refine go ?_;intros
  refine Bg rfl (fun h6=>?_) (fun h6=>?_)
  ·have hj:j < xs.length:=by omega
   have hjz:j < zs.length:=by omega
   have hx:zs[j]=xs[j]:=by
    have a1:=List.drop_eq_getElem_cons hjz
    have a2:=List.drop_eq_getElem_cons hj
    rw [h5,a2] at a1
    exact (List.cons.inj a1).1.symm
   have hdz:zs.drop (j+1)=xs.drop (j+1):=by
    rw [←List.drop_drop,h5,List.drop_drop]
   refine go ?_;intros
   refine N6 (m:=4) Ds j ?_ (by repeat (first|exact .here|apply C0.there)) rfl hjz
   rintro _ g2 A2 cs2 B2 e1 e2 hc3 hh
   cases e1
   obtain ⟨rfl, -⟩:=hc3 w0
   refine go ?_;intros
   refine Nd zs[j] hh hc3 ?_
   rw [List.set_getElem_self,hx]
   apply wO
   refine Vf rfl rfl hb Bf ?_
   refine cb (fun w st=>hp xs[j] (List.getElem_mem hj) w (fun q hq=>st.on q (by simp [hq]))) ?_
   cases hpj:p xs[j]
   ·refine go ?_;intros
    refine N6 (m:=4) Ds i ?_ (by repeat (first|exact .here|apply C0.there)) rfl (by omega)
    rintro _ g3 A3 cs3 B3 e1 e2 hc4 hh3
    cases e1
    obtain ⟨rfl, -⟩:=hc4 w0
    refine go ?_;intros
    refine Nd xs[j] hh3 (fun w=>⟨rfl,rfl⟩) ?_
    refine Ck (hH:=.cons .here (Wa _)) (⟨i+1,j+1,zs.set i xs[j]⟩:Aj5) ⟨by simp [h1],hj,Nat.succ_lt_succ h3,?_,?_⟩ (by dsimp only;omega)
    ·dsimp only
     rw [E5 hj (by simp [hpj]),←h4,List.take_add_one,List.getElem?_set_self (by omega),List.take_set_of_le (Nat.le_refl _)]
     rfl
    ·dsimp only
     rw [List.drop_set_of_lt (by omega),hdz]
   ·refine go ?_;intros
    refine Ck (hH:=.cons .here (Wa _)) (⟨i,j+1,zs⟩:Aj5) ⟨h1,hj,Nat.lt_succ_of_lt h3,?_,hdz⟩ (by dsimp only;omega)
    dsimp only
    rw [C1 hj (by simp [hpj]),h4]
  ·obtain rfl:j=xs.length:=by omega
   have h4':zs.take i=xs.filter fun x=>!p x:=by rw [h4,List.take_length]
   have hil:(xs.filter fun x=>!p x).length=i:=by rw [←h4',List.length_take];omega
   refine go ?_;intros
   apply wO;apply oc;rfl;exact Iz (i:=i) rfl rfl rfl (by omega) (by omega) (by omega)
   refine go ?_;intros
   apply wO
   refine Ag6 (z0:=⟨0,0,0,0⟩) (n:=xs.length) (cp:=c) (i:=i) (g:=g) Ds (fun w=>⟨rfl,rfl⟩) (by decide) rfl rfl h3 h1.symm (by repeat (first|exact .here|apply C0.there)) ?_
   refine go ?_;intros
   refine Z3 (xs:=zs.take i++List.replicate (xs.length - i) ⟨0,0,0,0⟩) i (fun F2=>?_) (by rw [List.length_append,List.length_take,List.length_replicate];omega)
   rw [List.take_left' (by rw [List.length_take];omega),h4']
   apply wO;apply oc;rfl;exact Mc (i:=i) rfl rfl rfl (by omega) (by omega)
   refine go ?_;intros
   subst hil
   refine ret (_,c,F2) trivial rfl
 ·obtain ⟨hfx,hfl⟩:=U7 hany
  rw [hfx,hfl]
  refine go ?_;intros
  refine ret (a,c,F) trivial rfl
theorem Aj3 (fid:FuncId) (bd caps:List Value) (A:List Pc) (hA:A.all (fun p=>!p.mu)=true) (xs:List A4) (a:Option Addr) (c:Nat) (F:List Nat) (p:A4→Bool) (hb:Om prog fid=true) (hl:xs.length≤1000000000)
  (hp:∀x∈xs,∀w,Nf A w→Calls prog fid (bd++[(.agg #[.int .i64 (x).Ae,.int .i64 (x).Gj,.int .i64 (x).Ca,.int .i64 (x).Dn]:Value)]++caps).toArray w fun e w'=>e=.returned (.bool (p x))∧Below w.heap.size w w') :
  Fn prog 171 [.slice a xs.length c,.func (.func fid) bd.toArray caps.toArray] (.sl Ay (.slice a xs.length c) xs F::A) [] (fun (_:Unit)=>True) (fun _=>.bool (xs.any p)) (fun _=>[]):=by
 refine enter func171 rfl ntmps171 (fun w0=>?_) rfl (by simpa [Pc.mu] using hA) .nil
 refine go ?_;intros
 refine cb (fun w st=>(Adc fid bd caps A hA xs a c F p hb hl hp).val w (fun q hq=>st.on q (by simpa using hq)) (by simpa [Pc.mu] using hA)) ?_
 refine go ?_;intros
 refine ret () trivial ?_
 rw [Qk];rfl
theorem Aou (x:An) (r:A4) (g:Nat) (b:Bool) (ck:Int) (q:Value) (a1:Option Addr) (c1:Nat) (F:List Nat) (h0:0≤x.next) (h1:x.next≤65535) (n0:0≤r.Ae) (n1:r.Ae≤65535):Fn prog 172 [.agg #[.int .i64 r.Ae,.int .i64 r.Gj,.int .i64 r.Ca,.int .i64 r.Dn],Ez g 0 0] [.cel g 0 [.bool b,.int .i64 ck,.int .i64 x.next,.slice a1 x.Ao.length c1,q],.isv Bo (.agg #[.int .i64 x.next,.slice a1 x.Ao.length c1]) x F] [] (fun (_:Unit)=>True) (fun _=>.bool (Hh x r.Ae)) (fun _=>[]):=by
 refine enter func172 rfl ntmps172 fun w0=>?_
 refine go ?_;intros
 refine cf (U0 x r.Ae _ F h0 h1 n0 n1) fun _ _=>?_
 refine Ap ?_
 refine go ?_;intros
 refine ret () trivial rfl
theorem Uy (x:Bb) (v:Value) (F:List Nat):Fn prog 109 [v] [.isv B4 v x F] [] (fun (_:Unit)=>True) (fun _=>.bool (Dg x)) (fun _=>[]):=by
 refine enter func109 rfl ntmps109 fun w0=>?_
 refine E8 ?_
 rintro a1 c1 F1 a2 c2 F2 rfl l1 l2
 unfold maxLen at l1 l2
 refine Cf x.Aa ?_
 generalize F1=F3
 refine go ?_;intros
 refine ce (fun w s=>O3 _ _) ?_
 cases g1:Iy x.Ai
 ·refine go ?_;intros
  refine ret () trivial ?_
  simp [Dg,g1,Pv]
 refine go ?_;intros
 cases hs:x.Bh
 ·have nog:Mk x=false→Dg x=false:=fun h=>by unfold Dg;rw [g1,hs];simpa using h
  refine go ?_;intros
  refine Dc rfl rfl (fun h1=>?_) (fun h1=>?_)
  rotate_left
  ·refine go ?_;intros
   refine ret () trivial ?_
   rw [nog (by unfold Mk;rw [decide_eq_false h1];rfl)];rfl
  refine go ?_;intros
  refine Dc rfl rfl (fun h2=>?_) (fun h2=>?_)
  rotate_left
  ·refine go ?_;intros
   refine ret () trivial ?_
   rw [nog (by unfold Mk;rw [decide_eq_false (show ¬x.Aa.Ao.length=0 by omega)];simp)];rfl
  refine go ?_;intros
  refine ret () trivial ?_
  rw [show Dg x=decide ((x.Ar.length:Int)=0) by unfold Dg;rw [g1,hs];unfold Mk;rw [decide_eq_true h1,decide_eq_true (show x.Aa.Ao.length=0 by omega)];simp];rfl
 rename_i g
 refine Ac0 (cs:=[.bool true,.int .i64 x.Ai,.int .i64 x.Aa.next,.slice a1 x.Aa.Ao.length c1,.slice a2 x.Ar.length c2]) ?_ (by simp)
 refine go ?_;intros
 refine cf (Akf x.Aa _ F3) fun _ _=>?_
 refine Ap ?_
 cases g2:C6 x.Aa
 ·refine go ?_;intros
  refine ret () trivial ?_
  simp [Dg,g1,g2,hs,Pv]
 obtain ⟨w0_,w1_⟩:=Gz g2
 refine go ?_;intros
 refine cf (Ny x.Ar x.Aa.next _ F2) fun _ _=>?_
 refine Ap ?_
 cases g3:Jq x.Ar x.Aa.next
 ·refine go ?_;intros
  refine ret () trivial ?_
  simp [Dg,g1,g2,g3,hs,Pv]
 obtain ⟨-,q1,q2, -⟩:=Dq.1 g3
 refine go ?_;intros
 refine cb (fun w st=>(Aj3 172 [] [Ez g 0 0] [.cel g 0 [.bool true,.int .i64 x.Ai,.int .i64 x.Aa.next,.slice a1 x.Aa.Ao.length c1,.slice a2 x.Ar.length c2],.isv Bo (.agg #[.int .i64 x.Aa.next,.slice a1 x.Aa.Ao.length c1]) x.Aa F3] rfl x.Ar a2 c2 F2 (fun z=>Hh x.Aa z.Ae) (by kernel_rfl) (by omega) (fun z hz w hA=>by
  obtain ⟨n0,n1⟩:=A9.1 (Eb.1 (q2 z hz)).n
  exact (Aou x.Aa z g true x.Ai _ a1 c1 F3 w0_ w1_ n0 n1).val w hA)).val w (fun q hq=>by
   simp only [List.mem_cons,List.not_mem_nil,or_false] at hq
   rcases hq with rfl|rfl|rfl <;> exact st.get (by exact B8))) ?_
 refine go ?_;intros
 refine ret () trivial ?_
 rw [show Dg x = !(x.Ar.any fun z=>Hh x.Aa z.Ae) by unfold Dg Aaz;rw [g1,g2,g3,hs,List.not_any_eq_all_not];simp];rfl
theorem Ak4 {x:Bb} {k:Nat} (h:k < x.Ar.length) (hh:Hh x.Aa x.Ar[k].Ae=true):Aaz x=false:=List.all_eq_false.2 ⟨_,List.getElem_mem h,by simp [hh]⟩
theorem Ak7 {w:An} {n:Int} (hw:C6 w=true) (hn:B9 n=true) (h8:gp w.next n < 8):(Pu n w.next || Hh w n)=Hh w n:=by
 obtain ⟨w0,w1⟩:=Gz hw
 obtain ⟨n0,n1⟩:=A9.1 hn
 have:Pu n w.next=false:=by
  have:¬(1≤gp n w.next∧gp n w.next≤32767):=by unfold gp at *;omega
  unfold Pu Ig
  simpa using this
 rw [this];rfl
theorem Aiv (x:Bb) (v:Value) (F:List Nat):Fn prog 155 [v] [.isv B4 v x F] [] (fun (_:Unit)=>True) (fun _=>.bool (Dg x)) (fun _=>[]):=by
 refine enter func155 rfl ntmps155 fun w0=>?_
 refine E8 ?_
 rintro a1 c1 F1 a2 c2 F2 rfl l1 l2
 unfold maxLen at l1 l2
 refine Cf x.Aa ?_
 generalize F1=F3
 refine go ?_;intros
 refine ce (fun w s=>Pj _ _) ?_
 cases g1:Iy x.Ai
 ·refine go ?_;intros
  refine ret () trivial ?_
  simp [Dg,g1,Pv]
 refine go ?_;intros
 refine cf (Ain x.Aa _ F3) fun _ _=>?_
 refine Ap ?_
 cases g2:C6 x.Aa
 ·refine go ?_;intros
  refine ret () trivial ?_
  cases hg:Dg x
  ·rfl
  ·rw [(Gg.1 hg).w] at g2;cases g2
 obtain ⟨w0_,w1_⟩:=Gz g2
 refine go ?_;intros
 refine cf (Ait x.Ar x.Aa.next _ F2) fun _ _=>?_
 refine Ap ?_
 cases g3:Jq x.Ar x.Aa.next
 ·refine go ?_;intros
  refine ret () trivial ?_
  cases hg:Dg x
  ·rfl
  ·rw [(Gg.1 hg).q] at g3;cases g3
 obtain ⟨-,q1,q2, -⟩:=Dq.1 g3
 refine go ?_;intros
 cases hs:x.Bh
 ·have nog:Mk x=false→Dg x=false:=fun h=>by unfold Dg;rw [g1,hs];simpa using h
  refine go ?_;intros
  refine Dc rfl rfl (fun h1=>?_) (fun h1=>?_)
  rotate_left
  ·refine go ?_;intros
   refine ret () trivial ?_
   rw [nog (by unfold Mk;rw [decide_eq_false h1];rfl)];rfl
  refine go ?_;intros
  refine Dc rfl rfl (fun h2=>?_) (fun h2=>?_)
  rotate_left
  ·refine go ?_;intros
   refine ret () trivial ?_
   rw [nog (by unfold Mk;rw [decide_eq_false (show ¬x.Aa.Ao.length=0 by omega)];simp)];rfl
  refine go ?_;intros
  refine ret () trivial ?_
  rw [show Dg x=decide ((x.Ar.length:Int)=0) by unfold Dg;rw [g1,hs];unfold Mk;rw [decide_eq_true h1,decide_eq_true (show x.Aa.Ao.length=0 by omega)];simp];rfl
 refine go ?_;intros
 refine Dv [1,2] (fun k:Nat=>[(3,.int .i64 (k:Nat))]) (fun k=>k≤x.Ar.length∧∀j (_:j < k) (h:j < x.Ar.length),Hh x.Aa x.Ar[j].Ae=false) (fun k=>x.Ar.length - k) 0 ⟨Nat.zero_le _,fun j h=>by omega⟩ fun k hk=>?_
 obtain ⟨hk1,hk2⟩:=hk
 refine go ?_;intros
 refine Bg rfl (fun h3=>?_) (fun h3=>?_)
 ·have hk3:k < x.Ar.length:=by omega
  have hq:=Eb.1 (q2 _ (List.getElem_mem hk3))
  obtain ⟨n0,n1⟩:=A9.1 hq.n
  refine Hv (xs:=x.Ar) k ?_
  rintro hi b o e
  rw [e]
  refine go ?_;intros
  refine As [0,1] [] ?_
  refine dt 0 ?_
  refine dt 1 ?_
  refine dt 2 ?_
  refine dt 3 ?_
  refine dt 4 ?_
  refine dt 5 ?_
  refine dt 6 ?_
  refine dt 7 ?_
  refine dO 8 (by kernel_rfl) (by rw [List.getElem?_toArray];rfl) ?_
  apply At;rfl;kernel_rfl;exact Bf
  refine cf (Wd x.Aa x.Ar[k].Ae _ F3 w0_ w1_ n0 n1) fun _ _=>?_
  refine Ap ?_
  refine dk ?_
  refine dd ?_
  rw [show E4 x.Aa x.Ar[k].Ae=Hh x.Aa x.Ar[k].Ae from Ak7 g2 hq.n hq.g]
  cases g5:Hh x.Aa x.Ar[k].Ae
  ·refine go ?_;intros
   refine Ck (k+1) ⟨by omega,fun j hj h=>?_⟩ (by omega)
   rcases Nat.lt_or_eq_of_le (Nat.lt_succ_iff.1 hj) with h'|rfl
   ·exact hk2 j h' h
   ·exact g5
  ·refine go ?_;intros
   refine ret () trivial ?_
   rw [show Dg x=false by unfold Dg;rw [g1,g2,g3,hs,Ak4 hk3 g5];rfl];rfl
 have hkl:k=x.Ar.length:=by omega
 refine go ?_;intros
 refine ret () trivial ?_
 rw [show Dg x=true by
  unfold Dg Aaz;rw [g1,g2,g3,hs,List.all_eq_true.2 fun z hz=>?_];rfl
  obtain ⟨i,hi,rfl⟩:=List.getElem_of_mem hz
  rw [hk2 i (by omega) hi];rfl];rfl
theorem Gk {α β:Type} {f:α→Option β} {l:List α} {k:Nat} (h:k < l.length):(l.take (k+1)).filterMap f=(l.take k).filterMap f++(f l[k]).toList:=by
 rw [List.take_add_one,List.getElem?_eq_getElem h,List.filterMap_append]
 cases hf:f l[k] <;> simp [hf]
theorem V4 {α β:Type} (f:α→Option β) (l:List α) (k:Nat):((l.take k).filterMap f).length≤k:=by
 have:=List.length_filterMap_le f (l.take k)
 rw [List.length_take] at this;omega
structure TkS where
 k:Nat
 a:Option Addr
 c:Nat
 F:List Nat
 a2:Option Addr
 c2:Nat
 F2:List Nat
 a3:Option Addr
 c3:Nat
 F3:List Nat
theorem Z5 (l:List A4) (c d:Int) (a0:Option Addr) (c0:Nat) (F:List Nat) (hl:l.length≤1000000) (ht:∀r∈l,0≤r.Dn∧r.Dn≤3) (c0_:0≤c) (c1_:c≤1000000) (d0_:-1000000≤d) (d1_:d≤1000000) :
  Fn prog 200 [.slice a0 l.length c0,.int .i64 c,.int .i64 d] [.sl Ay (.slice a0 l.length c0) l F] [] (fun (_:TkS)=>True) (fun s=>.tuple #[.slice s.a (l.filterMap (P5 c d)).length s.c,.slice s.a2 (l.filterMap (Nk c)).length s.c2,.slice s.a3 (l.filterMap (Qc c)).length s.c3]) (fun s=>[.ow Ay 165 (.slice s.a (l.filterMap (P5 c d)).length s.c) (l.filterMap (P5 c d)) s.F,.ow Bd 3 (.slice s.a2 (l.filterMap (Nk c)).length s.c2) (l.filterMap (Nk c)) s.F2,.ow Bd 3 (.slice s.a3 (l.filterMap (Qc c)).length s.c3) (l.filterMap (Qc c)) s.F3]):=by
 refine enter func200 rfl ntmps200 fun w0=>?_
 refine go ?_;intros
 refine Cb Ay 165 ?_
 refine Cb Bd 3 ?_
 refine Cb Bd 3 ?_
 refine Cp [1,2,6,7,8,14,15] (fun s:TkS=>[(16,.int .i64 (s.k:Nat)),(9,.slice s.a ((l.take s.k).filterMap (P5 c d)).length s.c),(10,.slice s.a2 ((l.take s.k).filterMap (Nk c)).length s.c2),(11,.slice s.a3 ((l.take s.k).filterMap (Qc c)).length s.c3)]) (fun s=>[.ow Ay 165 (.slice s.a ((l.take s.k).filterMap (P5 c d)).length s.c) ((l.take s.k).filterMap (P5 c d)) s.F,.ow Bd 3 (.slice s.a2 ((l.take s.k).filterMap (Nk c)).length s.c2) ((l.take s.k).filterMap (Nk c)) s.F2,.ow Bd 3 (.slice s.a3 ((l.take s.k).filterMap (Qc c)).length s.c3) ((l.take s.k).filterMap (Qc c)) s.F3]) (fun s=>s.k≤l.length) (fun s=>l.length - s.k) ⟨0,_,_,_,_,_,_,_,_,_⟩ (Nat.zero_le _) fun s hs=>?_
 obtain ⟨k,a4,c4,F4,a5,c5,F5,a6,c6,F6⟩:=s
 dsimp only at hs ⊢
 have h1:=V4 (P5 c d) l k
 have h2:=V4 (Nk c) l k
 have h3:=V4 (Qc c) l k
 refine go ?_;intros
 refine Bg rfl (fun h4=>?_) (fun h4=>?_)
 ·have hk:k < l.length:=by omega
  obtain ⟨t0,t1⟩:=ht _ (List.getElem_mem hk)
  refine Hv (xs:=l) k ?_
  rintro hi b o e
  rw [e]
  refine go ?_;intros
  refine Bg rfl (fun h5=>?_) (fun h5=>?_)
  ·have h5':c < l[k].Ca:=by omega
   refine go ?_;intros
   have eo:((l.take (k+1)).filterMap (P5 c d))=((l.take k).filterMap (P5 c d))++[l[k]]:=by rw [Gk hk];simp [P5,h5']
   have es:((l.take (k+1)).filterMap (Nk c))=((l.take k).filterMap (Nk c)):=by rw [Gk hk];simp [Nk,h5']
   have el:((l.take (k+1)).filterMap (Qc c))=((l.take k).filterMap (Qc c)):=by rw [Gk hk];simp [Qc,h5']
   apply wO
   refine Mf (ys:=[l[k]]) (Lk l[k]) C2 fun a7 c7 F7=>?_
   refine go ?_;intros
   rw [←eo,←es,←el]
   refine Ck (⟨k+1,_,_,_,_,_,_,_,_,_⟩:TkS) (by show k+1≤l.length;omega) (by show l.length - (k+1) < l.length - k;omega)
  refine go ?_;intros
  refine Bg rfl (fun h6=>?_) (fun h6=>?_)
  ·refine go ?_;intros
   have eo:((l.take (k+1)).filterMap (P5 c d))=((l.take k).filterMap (P5 c d)):=by rw [Gk hk];simp [P5,h5,h6]
   have es:((l.take (k+1)).filterMap (Nk c))=((l.take k).filterMap (Nk c)):=by rw [Gk hk];simp [Nk,h5,h6]
   have el:((l.take (k+1)).filterMap (Qc c))=((l.take k).filterMap (Qc c))++[l[k].Ae]:=by rw [Gk hk];simp [Qc,h5,h6]
   apply wO
   refine Mf (ys:=[l[k].Ae]) (Rm _) C8 fun a8 c8 F8=>?_
   refine go ?_;intros
   rw [←eo,←es,←el]
   refine Ck (⟨k+1,_,_,_,_,_,_,_,_,_⟩:TkS) (by show k+1≤l.length;omega) (by show l.length - (k+1) < l.length - k;omega)
  refine go ?_;intros
  refine Bg rfl (fun h7=>?_) (fun h7=>?_)
  ·refine go ?_;intros
   have eo:((l.take (k+1)).filterMap (P5 c d))=((l.take k).filterMap (P5 c d))++[(⟨l[k].Ae,2,c+3,l[k].Dn+1⟩:A4)]:=by rw [Gk hk];simp [P5,h5,h6,h7]
   have es:((l.take (k+1)).filterMap (Nk c))=((l.take k).filterMap (Nk c))++[l[k].Ae]:=by rw [Gk hk];simp [Nk,h5,h6,h7]
   have el:((l.take (k+1)).filterMap (Qc c))=((l.take k).filterMap (Qc c)):=by rw [Gk hk];simp [Qc,h5,h6,h7]
   apply wO
   refine Mf (ys:=[l[k].Ae]) (Rm _) C8 fun a8 c8 F8=>?_
   refine go ?_;intros
   apply wO
   refine Mf (ys:=[(⟨l[k].Ae,2,c+3,l[k].Dn+1⟩:A4)]) (Lk (⟨l[k].Ae,2,c+3,l[k].Dn+1⟩:A4)) C2 fun a7 c7 F7=>?_
   refine go ?_;intros
   rw [←eo,←es,←el]
   refine Ck (⟨k+1,_,_,_,_,_,_,_,_,_⟩:TkS) (by show k+1≤l.length;omega) (by show l.length - (k+1) < l.length - k;omega)
  ·refine go ?_;intros
   have eo:((l.take (k+1)).filterMap (P5 c d))=((l.take k).filterMap (P5 c d))++[(⟨l[k].Ae,1,c+d,l[k].Dn⟩:A4)]:=by rw [Gk hk];simp [P5,h5,h6,h7]
   have es:((l.take (k+1)).filterMap (Nk c))=((l.take k).filterMap (Nk c)):=by rw [Gk hk];simp [Nk,h5,h6,h7]
   have el:((l.take (k+1)).filterMap (Qc c))=((l.take k).filterMap (Qc c)):=by rw [Gk hk];simp [Qc,h5,h6,h7]
   apply wO
   refine Mf (ys:=[(⟨l[k].Ae,1,c+d,l[k].Dn⟩:A4)]) (Lk (⟨l[k].Ae,1,c+d,l[k].Dn⟩:A4)) C2 fun a7 c7 F7=>?_
   refine go ?_;intros
   rw [←eo,←es,←el]
   refine Ck (⟨k+1,_,_,_,_,_,_,_,_,_⟩:TkS) (by show k+1≤l.length;omega) (by show l.length - (k+1) < l.length - k;omega)
 ·obtain rfl:k=l.length:=by omega
  rw [List.take_length]
  refine go ?_;intros
  refine ret ⟨0,_,_,_,_,_,_,_,_,_⟩ trivial rfl
theorem Aiu (l:List A4) (c d:Int) (a0:Option Addr) (c0:Nat) (F:List Nat) (hl:l.length≤1000000) (ht:∀r∈l,0≤r.Dn∧r.Dn≤3) (c0_:0≤c) (c1_:c≤1000000) (d0_:-1000000≤d) (d1_:d≤1000000) :
  Fn prog 214 [.slice a0 l.length c0,.int .i64 c,.int .i64 d] [.sl Ay (.slice a0 l.length c0) l F] [] (fun (_:TkS)=>True) (fun s=>.tuple #[.slice s.a (l.filterMap (P5 c d)).length s.c,.slice s.a2 (l.filterMap (Nk c)).length s.c2,.slice s.a3 (l.filterMap (Qc c)).length s.c3]) (fun s=>[.ow Ay 165 (.slice s.a (l.filterMap (P5 c d)).length s.c) (l.filterMap (P5 c d)) s.F,.ow Bd 3 (.slice s.a2 (l.filterMap (Nk c)).length s.c2) (l.filterMap (Nk c)) s.F2,.ow Bd 3 (.slice s.a3 (l.filterMap (Qc c)).length s.c3) (l.filterMap (Qc c)) s.F3]):=by
 refine enter func214 rfl ntmps214 fun w0=>?_
 refine go ?_;intros
 refine C9 Bd ?_
 refine C9 Bd ?_
 refine C9 Ay ?_
 refine Cp [0,1,2,6,7,8] (fun s:TkS=>[(12,.int .i64 (s.k:Nat)),(9,.slice s.a ((l.take s.k).filterMap (P5 c d)).length s.c),(10,.slice s.a2 ((l.take s.k).filterMap (Nk c)).length s.c2),(11,.slice s.a3 ((l.take s.k).filterMap (Qc c)).length s.c3)]) (fun s=>[.ow Ay 165 (.slice s.a ((l.take s.k).filterMap (P5 c d)).length s.c) ((l.take s.k).filterMap (P5 c d)) s.F,.ow Bd 3 (.slice s.a2 ((l.take s.k).filterMap (Nk c)).length s.c2) ((l.take s.k).filterMap (Nk c)) s.F2,.ow Bd 3 (.slice s.a3 ((l.take s.k).filterMap (Qc c)).length s.c3) ((l.take s.k).filterMap (Qc c)) s.F3]) (fun s=>s.k≤l.length) (fun s=>l.length - s.k) ⟨0,_,_,_,_,_,_,_,_,_⟩ (Nat.zero_le _) fun s hs=>?_
 obtain ⟨k,a4,c4,F4,a5,c5,F5,a6,c6,F6⟩:=s
 dsimp only at hs ⊢
 have h1:=V4 (P5 c d) l k
 have h2:=V4 (Nk c) l k
 have h3:=V4 (Qc c) l k
 refine go ?_;intros
 refine Bg rfl (fun h4=>?_) (fun h4=>?_)
 ·have hk:k < l.length:=by omega
  obtain ⟨t0,t1⟩:=ht _ (List.getElem_mem hk)
  refine Hv (xs:=l) k ?_
  rintro hi b o e
  rw [e]
  refine go ?_;intros
  refine Bg rfl (fun h5=>?_) (fun h5=>?_)
  ·have h5':c < l[k].Ca:=by omega
   refine go ?_;intros
   have eo:((l.take (k+1)).filterMap (P5 c d))=((l.take k).filterMap (P5 c d))++[l[k]]:=by rw [Gk hk];simp [P5,h5']
   have es:((l.take (k+1)).filterMap (Nk c))=((l.take k).filterMap (Nk c)):=by rw [Gk hk];simp [Nk,h5']
   have el:((l.take (k+1)).filterMap (Qc c))=((l.take k).filterMap (Qc c)):=by rw [Gk hk];simp [Qc,h5']
   apply wO
   refine Mf (ys:=[l[k]]) (Lk l[k]) C2 fun a7 c7 F7=>?_
   refine go ?_;intros
   rw [←eo,←es,←el]
   refine Ck (⟨k+1,_,_,_,_,_,_,_,_,_⟩:TkS) (by show k+1≤l.length;omega) (by show l.length - (k+1) < l.length - k;omega)
  refine go ?_;intros
  refine Bg rfl (fun h6=>?_) (fun h6=>?_)
  ·refine go ?_;intros
   have eo:((l.take (k+1)).filterMap (P5 c d))=((l.take k).filterMap (P5 c d)):=by rw [Gk hk];simp [P5,h5,h6]
   have es:((l.take (k+1)).filterMap (Nk c))=((l.take k).filterMap (Nk c)):=by rw [Gk hk];simp [Nk,h5,h6]
   have el:((l.take (k+1)).filterMap (Qc c))=((l.take k).filterMap (Qc c))++[l[k].Ae]:=by rw [Gk hk];simp [Qc,h5,h6]
   apply wO
   refine Mf (ys:=[l[k].Ae]) (Rm _) C8 fun a8 c8 F8=>?_
   refine go ?_;intros
   rw [←eo,←es,←el]
   refine Ck (⟨k+1,_,_,_,_,_,_,_,_,_⟩:TkS) (by show k+1≤l.length;omega) (by show l.length - (k+1) < l.length - k;omega)
  refine go ?_;intros
  refine Bg rfl (fun h7=>?_) (fun h7=>?_)
  ·refine go ?_;intros
   have eo:((l.take (k+1)).filterMap (P5 c d))=((l.take k).filterMap (P5 c d))++[(⟨l[k].Ae,2,c+3,l[k].Dn+1⟩:A4)]:=by rw [Gk hk];simp [P5,h5,h6,h7]
   have es:((l.take (k+1)).filterMap (Nk c))=((l.take k).filterMap (Nk c))++[l[k].Ae]:=by rw [Gk hk];simp [Nk,h5,h6,h7]
   have el:((l.take (k+1)).filterMap (Qc c))=((l.take k).filterMap (Qc c)):=by rw [Gk hk];simp [Qc,h5,h6,h7]
   apply wO
   refine Mf (ys:=[l[k].Ae]) (Rm _) C8 fun a8 c8 F8=>?_
   refine go ?_;intros
   apply wO
   refine Mf (ys:=[(⟨l[k].Ae,2,c+3,l[k].Dn+1⟩:A4)]) (Lk (⟨l[k].Ae,2,c+3,l[k].Dn+1⟩:A4)) C2 fun a7 c7 F7=>?_
   refine go ?_;intros
   rw [←eo,←es,←el]
   refine Ck (⟨k+1,_,_,_,_,_,_,_,_,_⟩:TkS) (by show k+1≤l.length;omega) (by show l.length - (k+1) < l.length - k;omega)
  ·refine go ?_;intros
   have eo:((l.take (k+1)).filterMap (P5 c d))=((l.take k).filterMap (P5 c d))++[(⟨l[k].Ae,1,c+d,l[k].Dn⟩:A4)]:=by rw [Gk hk];simp [P5,h5,h6,h7]
   have es:((l.take (k+1)).filterMap (Nk c))=((l.take k).filterMap (Nk c)):=by rw [Gk hk];simp [Nk,h5,h6,h7]
   have el:((l.take (k+1)).filterMap (Qc c))=((l.take k).filterMap (Qc c)):=by rw [Gk hk];simp [Qc,h5,h6,h7]
   apply wO
   refine Mf (ys:=[(⟨l[k].Ae,1,c+d,l[k].Dn⟩:A4)]) (Lk (⟨l[k].Ae,1,c+d,l[k].Dn⟩:A4)) C2 fun a7 c7 F7=>?_
   refine go ?_;intros
   rw [←eo,←es,←el]
   refine Ck (⟨k+1,_,_,_,_,_,_,_,_,_⟩:TkS) (by show k+1≤l.length;omega) (by show l.length - (k+1) < l.length - k;omega)
 ·obtain rfl:k=l.length:=by omega
  rw [List.take_length]
  refine go ?_;intros
  refine ret ⟨0,_,_,_,_,_,_,_,_,_⟩ trivial rfl
section
variable {c:Cx} {fr:Fr} {H:List Pc} {Φ:Gl}
theorem Mg {a:Option Addr} {n cp:Nat} {xs:List Av} {F:List Nat} (i:Nat) (h:∀(hi:i < xs.length) (b o:Nat),a=some ⟨b,o,none⟩→xs[i].data.size≤maxLen→T c fr (.cel b (o+i * 5) [.int .i64 xs[i].Df,.int .i64 xs[i].Ae,.int .i64 xs[i].Al,.int .i64 xs[i].Ec,.string xs[i].data]::H) Φ) (hm:.sl Ak (.slice a n cp) xs F∈H:=by exact B8) (hi:i < xs.length:=by omega):T c fr H Φ:=.mk fun ac w s g=>by
 obtain ⟨b,o,cs,G,ha,hrep,hG,hb,hne,hr⟩:=Tw (s.get hm) i hi
 obtain ⟨rfl,s1,rfl⟩:=hrep
 exact (h hi b o  ha s1 ).h ac w (s.ro hm rfl rfl ⟨hne,hr⟩ (by intro x hx;simp [Pc.F] at hx;subst hx;exact hb)) g
theorem Ah5 {t:TypeId} {a:Option Addr} {n cp:Nat} {xs:List Av} {F:List Nat} {S:List Pc} (i:Nat) (h:∀(_:i < xs.length) g A B,a=some ⟨g,0,none⟩→F=[g]→xs[i].data.size≤maxLen→Aj8 Ak t g (.slice (some ⟨g,0,none⟩) n cp) xs i A B→T c fr (.row g t (0+i * 5) A [.int .i64 xs[i].Df,.int .i64 xs[i].Ae,.int .i64 xs[i].Al,.int .i64 xs[i].Ec,.string xs[i].data] B::S) Φ) (hp:C0 H (.ow Ak t (.slice a n cp) xs F) S:=by exact D0) (hi:i < xs.length:=by omega):T c fr H Φ :=
 N6 Jh i (fun hi g A cs B ha hF hr hh=>by obtain ⟨rfl,s1, -⟩:=hr default;exact h hi g A B ha hF s1 hh) hp rfl hi
theorem C5 (x:Av) (s1:x.data.size≤maxLen) (w:World):Cw Ak w [.int .i64 x.Df,.int .i64 x.Ae,.int .i64 x.Al,.int .i64 x.Ec,.string x.data] [x] []:=⟨_,[],[],[],by simp,by simp,⟨rfl,s1,rfl⟩,rfl,rfl⟩
end
theorem Aki (x:Bb) (v:Value) (F:List Nat) (hl:x.Aa.Ao.length≤1000000000) (hl2:x.Ar.length≤1000000000):Fn prog 78 [v] [.isv B4 v x F] [] (fun (_:Value × List Nat)=>True) (fun s=>s.1) (fun s=>[.own Bk s.1 x s.2]):=by
 refine enter func78 rfl ntmps78 fun w0=>?_
 refine E8 ?_
 rintro a1 c1 F1 a2 c2 F2 rfl l1 l2
 refine Cf x.Aa ?_
 generalize F1=F3
 refine go ?_;intros
 refine cf (Ahs x.Aa _ F3 (by omega)) fun z _=>?_
 refine Ap ?_
 refine go ?_;intros
 refine cf (Pw x.Ar a2 c2 F2 hl2) fun q _=>?_
 refine Ap ?_
 refine go ?_;intros
 refine Js x ?_
 refine ret (_,_) trivial rfl
theorem Asm (r:A4) (n:Int) (gb:Nat) (h0:B9 r.Ae=true) (h1:0≤n) (h2:n≤65535):Fn prog 238 [.agg #[.int .i64 r.Ae,.int .i64 r.Gj,.int .i64 r.Ca,.int .i64 r.Dn],Ez gb 0 0] [.cel gb 0 [.int .i64 n]] [] (fun (_:Unit)=>True) (fun _=>.bool (Pu r.Ae n)) (fun _=>[]):=by
 obtain ⟨n0,n1⟩:=A9.1 h0
 refine enter func238 rfl ntmps238 fun w0=>?_
 refine go ?_;intros
 refine ce (fun w s=>Lm _ _ _ (by omega) (by omega) (by omega) (by omega)) ?_
 refine go ?_;intros
 refine ret () trivial rfl
theorem X2 (l:List A4) (n:Int) (a:Option Addr) (c:Nat) (F:List Nat) (hl:l.length≤1000000000) (hs:∀q∈l,B9 q.Ae=true) (h1:0≤n) (h2:n≤65535):Fn prog 202 [.slice a l.length c,.int .i64 n] [.sl Ay (.slice a l.length c) l F] [] (fun (_:Option Addr × Nat × List Nat)=>True) (fun z=>.slice z.1 (Tu l n).length z.2.1) (fun z=>[.ow Ay 165 (.slice z.1 (Tu l n).length z.2.1) (Tu l n) z.2.2]):=by
 refine enter func202 rfl ntmps202 fun w0=>?_
 refine go ?_;intros
 rename_i gb
 refine cf (Pw l a c F hl) fun q _=>?_
 refine Ap ?_
 refine Ac0 (cs:=[.int .i64 n]) ?_ (by simp)
 refine go ?_;intros
 refine cf (Ada 238 [] [Ez gb 0 0] [.cel gb 0 [.int .i64 n]] rfl l q.1 q.2.1 q.2.2 (fun z=>Pu z.Ae n) (by kernel_rfl) hl (fun z hz w hA=>(Asm z n gb (hs z hz) h1 h2).val w hA)) fun z _=>?_
 refine Ap ?_
 refine go ?_;intros
 refine ret (z.1,z.2.1,z.2.2) trivial rfl
theorem Wx (r:Bb) (d:Int):(Ld r d).length≤r.Ar.length:=List.length_filterMap_le _ _
theorem Z6 (r:Bb):(Cz r).length≤r.Ar.length:=List.length_filterMap_le _ _
theorem Z4 {r:Bb} {d:Int} (h:Cz r=[]):Cv r d=⟨r.Bh,r.Ai+1,r.Aa,Ld r d⟩:=if_pos h
theorem Wv {r:Bb} {d:Int} (h:Cz r≠[]):Cv r d=⟨r.Bh,r.Ai+1,Hw r.Aa (Dd (Cz r)),Tu (Ld r d) (Hw r.Aa (Dd (Cz r))).next⟩:=if_neg h
theorem Ae1 {r:Bb} (h:Cz r=[]):Fm r=[]:=if_pos h
theorem Abu {r:Bb} (h:Cz r≠[]):Fm r=Ii r.Aa (Dd (Cz r)):=if_neg h
theorem Abd {l:List Int} (h:l≠[]):Dd l=Cg (l[l.length - 1]'(by have:=List.length_pos_iff.2 h;omega)) 1:=by
 unfold Dd
 rw [List.getLastD_eq_getLast?,List.getLast?_eq_getElem?,List.getElem?_eq_getElem (by have:=List.length_pos_iff.2 h;omega)]
 rfl
theorem Ix {x:An} (hg:C6 x=true):x.Ao.length≤8∧∀s∈x.Ao,s.Dt.size≤8:=by
 have hg0:=hg
 unfold C6 at hg
 simp only [Bool.and_eq_true,decide_eq_true_eq] at hg
 refine ⟨by have:=hg.1.1.2;omega,fun s hs=>?_⟩
 have:=List.all_eq_true.1 hg.1.2 s hs
 unfold G0 at this
 simp only [Bool.and_eq_true] at this
 exact Sr this.1
structure PkS where
 k:Nat
 a:Option Addr
 c:Nat
 F:List Nat
structure TkR where
 a1:Option Addr
 c1:Nat
 F1:List Nat
 a2:Option Addr
 c2:Nat
 F2:List Nat
 a3:Option Addr
 c3:Nat
 F3:List Nat
 a4:Option Addr
 c4:Nat
 F4:List Nat
theorem Anm (r:Bb) (d:Int) (g t o:Nat) (A B:List Value) (a1:Option Addr) (c1:Nat) (F1:List Nat) (a2:Option Addr) (c2:Nat) (F2:List Nat) (hg:Kk r) (d0:0≤d) (d1:d≤100) :
  Fn prog 143 [Ez g o 0,.int .i64 d] [] [.row g t o A [.bool r.Bh,.int .i64 r.Ai,.int .i64 r.Aa.next,.slice a1 r.Aa.Ao.length c1,.slice a2 r.Ar.length c2] B,.ow Ci 188 (.slice a1 r.Aa.Ao.length c1) r.Aa.Ao F1,.ow Ay 165 (.slice a2 r.Ar.length c2) r.Ar F2] (fun (_:TkR)=>True)
   (fun s=>.tuple #[.slice s.a3 (En r).length s.c3,.slice s.a4 (Fm r).length s.c4]) (fun s=>[.row g t o A [.bool (Cv r d).Bh,.int .i64 (Cv r d).Ai,.int .i64 (Cv r d).Aa.next,.slice s.a1 (Cv r d).Aa.Ao.length s.c1,.slice s.a2 (Cv r d).Ar.length s.c2] B,.ow Ci 188 (.slice s.a1 (Cv r d).Aa.Ao.length s.c1) (Cv r d).Aa.Ao s.F1,.ow Ay 165 (.slice s.a2 (Cv r d).Ar.length s.c2) (Cv r d).Ar s.F2,.ow Ak 110 (.slice s.a3 (En r).length s.c3) (En r) s.F3,.ow Ba 9 (.slice s.a4 (Fm r).length s.c4) (Fm r) s.F4]):=by
 have k0:=hg.k0
 have k1:=hg.k1
 obtain ⟨-,q1,q2, -⟩:=Dq.1 hg.q
 obtain ⟨w0_,w1_⟩:=Gz hg.w
 obtain ⟨hw8,hit⟩:=Ix hg.w
 have hpl:(r.Ar.filterMap (Nk (r.Ai+1))).length≤8:=Nat.le_trans (List.length_filterMap_le _ _) q1
 refine enter func143 rfl ntmps143 fun w0=>?_
 refine go ?_;intros
 refine A1 (E:=Ay) fun F9=>?_
 refine As [1] [] ?_
 refine dt 0 ?_
 refine dt 1 ?_
 refine dt 2 ?_
 refine dt 3 ?_
 refine dt 4 ?_
 refine dt 5 ?_
 refine dt 6 ?_
 refine dt 7 ?_
 refine dt 8 ?_
 refine dO 9 (by kernel_rfl) (by rw [List.getElem?_toArray];rfl) ?_
 apply At;rfl;kernel_rfl;exact Bf
 refine cf (Z5 r.Ar (r.Ai+1) d a2 c2 F9 (by omega) (fun q hq=>⟨(Eb.1 (q2 q hq)).t0,(Eb.1 (q2 q hq)).t1⟩) (by omega) (by omega) (by omega) (by omega)) fun z _=>?_
 refine Ap ?_
 rw [show r.Ar.filterMap (Qc (r.Ai+1))=Cz r from rfl,show r.Ar.filterMap (P5 (r.Ai+1) d)=Ld r d from rfl]
 refine dk ?_
 refine dt 10 ?_
 refine dt 11 ?_
 refine dt 12 ?_
 refine dt 13 ?_
 refine dt 14 ?_
 refine dt 15 ?_
 refine dt 16 ?_
 refine dd ?_
 refine A1 (E:=Bd) (xs:=r.Ar.filterMap (Nk (r.Ai+1))) fun G2=>?_
 refine A1 (E:=Bd) (xs:=Cz r) fun G3=>?_
 refine Cb Ak 110 ?_
 refine go ?_;intros
 refine Cp [0,4,5,6,9,44,45] (fun s:PkS=>[(46,.int .i64 (s.k:Nat)),(10,.slice s.a (((r.Ar.filterMap (Nk (r.Ai+1))).take s.k).map (pkR r.Aa.next)).length s.c)]) (fun s=>[.ow Ak 110 (.slice s.a (((r.Ar.filterMap (Nk (r.Ai+1))).take s.k).map (pkR r.Aa.next)).length s.c) (((r.Ar.filterMap (Nk (r.Ai+1))).take s.k).map (pkR r.Aa.next)) s.F]) (fun s=>s.k≤(r.Ar.filterMap (Nk (r.Ai+1))).length) (fun s=>(r.Ar.filterMap (Nk (r.Ai+1))).length - s.k) ⟨0,_,_,_⟩ (Nat.zero_le _) fun s hs=>?_
 obtain ⟨k,a4,c4,F4⟩:=s
 dsimp only at hs ⊢
 generalize hsn:r.Ar.filterMap (Nk (r.Ai+1))=sn at *
 refine go ?_;intros
 refine Bg rfl (fun h4=>?_) (fun h4=>?_)
 ·have hk:k < sn.length:=by omega
  have hkl:((sn.take k).map (pkR r.Aa.next)).length≤k:=by simp;omega
  refine In (xs:=sn) k ?_
  rintro hi b o2 e
  rw [e]
  refine go ?_;intros
  have eo:(sn.take (k+1)).map (pkR r.Aa.next)=(sn.take k).map (pkR r.Aa.next)++[pkR r.Aa.next sn[k]]:=by rw [List.take_add_one,List.getElem?_eq_getElem hk,List.map_append];rfl
  apply wO
  refine Mf (ys:=[pkR r.Aa.next sn[k]]) (C5 (pkR r.Aa.next sn[k]) (by show (0:Nat)≤maxLen;exact Nat.zero_le _)) Hk fun a7 c7 F7=>?_
  refine go ?_;intros
  rw [←eo]
  refine Ck (⟨k+1,_,_,_⟩:PkS) (by show k+1≤sn.length;omega) (by show sn.length - (k+1) < sn.length - k;omega)
 have hk:k=sn.length:=by omega
 subst hk
 rw [List.take_length]
 have ep:En r=sn.map (pkR r.Aa.next):=by unfold En;rw [hsn]
 rw [ep]
 refine go ?_;intros
 by_cases hL:Cz r=[]
 ·refine Bg rfl (fun _=>?_) (fun h=>absurd (show ((Cz r).length:Int)=0 by rw [hL];rfl) h)
  rw [Z4 hL,Ae1 hL]
  refine Cb Ba 9 ?_
  refine go ?_;intros
  refine ret ⟨_,_,_,_,_,_,_,_,_,_,_,_⟩ trivial rfl
 ·have hl0:=List.length_pos_iff.2 hL
  refine Bg rfl (fun h=>absurd h (by omega)) (fun _=>?_)
  rw [Wv hL,Abu hL]
  obtain ⟨hs8,hsr⟩:=X8 hg hL
  have hll8:=Z6 r
  obtain ⟨hs0,hs1⟩:=A9.1 hsr
  have hll:=Abd hL
  obtain ⟨l0,l1⟩:=A9.1 (Ww hg (List.getElem_mem (show (Cz r).length - 1 < (Cz r).length by omega))).1
  have hi1:((Cz r).length:Int) - 1=(((Cz r).length - 1:Nat):Int):=by omega
  refine In (xs:=Cz r) ((Cz r).length - 1) ?_
  rintro hi b o2 e
  rw [e]
  refine Ahj [.bool r.Bh,.int .i64 (r.Ai+1)] [.int .i64 r.Aa.next,.slice a1 r.Aa.Ao.length c1] [.slice z.a (Ld r d).length z.c] ?_
  refine go ?_;intros
  refine As [1] [] ?_
  refine dt 0 ?_
  refine dt 1 ?_
  refine dt 2 ?_
  refine dt 3 ?_
  refine dt 4 ?_
  refine dt 5 ?_
  refine dt 6 ?_
  rw [hi1]
  refine dt 7 ?_
  refine dt 8 ?_
  refine dO 9 (by kernel_rfl) (by rw [List.getElem?_toArray];rfl) ?_
  apply At;rfl;kernel_rfl;exact Bf
  refine ce (fun w s=>Ot _ _ _ (by omega) (by omega)) ?_
  rw [←hll]
  refine dk ?_
  refine dO 10 (by kernel_rfl) (by rw [List.getElem?_toArray];rfl) ?_
  apply At;rfl;kernel_rfl;exact Bf
  refine cf (Adf r.Aa (Dd (Cz r)) g t (o+2) (A++[.bool r.Bh,.int .i64 (r.Ai+1)]) _ a1 c1 F1 w0_ w1_ hs0 hs1 hw8 hit) fun y hy=>?_
  refine Ap ?_
  refine dk ?_
  refine dt 11 ?_
  refine dd ?_
  obtain ⟨hy1,hy2⟩:=hy
  have hmv:=Qv (t:=Dd (Cz r)) hg.w
  have hm0:0≤y.y.next:=by rw [hy1];show 0≤(Hw r.Aa (Dd (Cz r))).next;rw [hmv.1];exact (Ht _ _).1
  have hm1:y.y.next≤65535:=by rw [hy1];show (Hw r.Aa (Dd (Cz r))).next≤65535;rw [hmv.1];exact (Ht _ _).2
  refine Z0 [.bool r.Bh,.int .i64 (r.Ai+1)] [.int .i64 y.y.next,.slice y.a y.y.Ao.length y.c] [.slice z.a (Ld r d).length z.c] ?_
  refine A1 (E:=Ay) (xs:=Ld r d) fun F8=>?_
  refine go ?_;intros
  refine As [1] [13] ?_
  refine dt 0 ?_
  refine dt 1 ?_
  refine dt 2 ?_
  refine dt 3 ?_
  refine dt 4 ?_
  refine dt 5 ?_
  refine dt 6 ?_
  refine dt 7 ?_
  refine dt 8 ?_
  refine dt 9 ?_
  refine dO 10 (by kernel_rfl) (by rw [List.getElem?_toArray];rfl) ?_
  apply At;rfl;kernel_rfl;exact Bf
  refine cf (X2 (Ld r d) y.y.next z.a z.c F8 (by have:=Wx r d;omega) (fun q hq=>(Vs hg hq).1) hm0 hm1) fun u _=>?_
  refine Ap ?_
  refine dk ?_
  refine dt 11 ?_
  refine dt 12 ?_
  refine dO 13 (by kernel_rfl) (by rw [List.getElem?_toArray];rfl) ?_
  apply Cs;rfl;rfl;rfl;(first|exact AggC.s|exact OneC.s);rfl;exact Cu;exact Ct;rfl
  refine Ng ?_
  refine dd ?_
  refine go ?_;intros
  rw [show Hw r.Aa (Dd (Cz r))=y.y from hy1.symm,show Ii r.Aa (Dd (Cz r))=y.es from hy2.symm]
  refine ret ⟨_,_,_,_,_,_,_,_,_,_,_,_⟩ trivial rfl
theorem Agf {r:Bb} {d:Int} (hg:Kk r) (hk:r.Ai < 9999) (d0:1≤d) (d1:d≤8):Jq (Ld r d) r.Aa.next=true∧∀q∈Ld r d,Hh r.Aa q.Ae=false:=by
 have k0:=hg.k0
 obtain ⟨h1,h2,h3,h4⟩:=Dq.1 hg.q
 refine ⟨Dq.2 ⟨h1,Nat.le_trans (Wx r d) h2,fun q hq=>?_,?_⟩,fun q hq=>(Vs hg hq).2.2⟩
 ·obtain ⟨q',hq',h⟩:=List.mem_filterMap.1 hq
  have ho:=Eb.1 (h3 q' hq')
  unfold P5 at h
  split at h
  ·cases h;exact h3 q hq'
  ·split at h
   ·cases h
   ·rename_i hn
    have t0:=ho.t0
    have t1:=ho.t1
    split at h
    ·cases h
     exact Eb.2 ⟨ho.n,ho.g,by show (1:Int)≤2;decide,by show (2:Int)≤3;decide,by show 0≤r.Ai+1+3;omega,by show r.Ai+1+3≤10007;omega,by show 0≤q'.Dn+1;omega,by show q'.Dn+1≤3;omega⟩
    ·cases h
     exact Eb.2 ⟨ho.n,ho.g,by show (1:Int)≤1;decide,by show (1:Int)≤3;decide,by show 0≤r.Ai+1+d;omega,by show r.Ai+1+d≤10007;omega,t0,t1⟩
 ·unfold Ld
  refine List.Pairwise.filterMap _ (fun a a' h b hb b' hb'=>?_) h4
  rw [Ac2 hb,Ac2 hb'];exact h
theorem Ajq {r:Bb} {d:Int} (hg:Kk r) (hk:r.Ai < 9999) (d0:1≤d) (d1:d≤8):Kk (Cv r d):=by
 have k0:=hg.k0
 obtain ⟨hq,hf⟩:=Agf hg hk d0 d1
 by_cases hL:Cz r=[]
 ·rw [Z4 hL]
  refine ⟨by show 0≤r.Ai+1;omega,by show r.Ai+1≤9999;omega,hg.w,hq,hf,fun hs=>?_⟩
  obtain ⟨e1,e2⟩:=hg.z hs
  refine ⟨e1,?_⟩
  show Ld r d=[]
  unfold Ld;rw [e2];rfl
 ·have hst:r.Bh=true:=by
   cases hs:r.Bh
   ·exfalso;apply hL;unfold Cz;rw [(hg.z hs).2];rfl
   ·rfl
  rw [Wv hL]
  obtain ⟨e1, -,e3, -⟩:=Qv (t:=Dd (Cz r)) hg.w
  have hs8:=(X8 hg hL).1
  have hgp:=@Tl r.Aa.next (Dd (Cz r))
  have hw:C6 (Hw r.Aa (Dd (Cz r)))=true:=Xc _ _ hg.w
  rw [←Xv hg hL]
  refine ⟨by show 0≤r.Ai+1;omega,by show r.Ai+1≤9999;omega,hw,Xm (m:=(Ii r.Aa (Dd (Cz r))).length) (by omega) hq hw e1,Mq,fun hs=>?_⟩
  have:r.Bh=false:=hs
  rw [hst] at this;cases this
theorem Yn (fid:FuncId) (hbd:Tm prog fid) (caps:Array Value) (v:Value) (xs:List Gt) (F:List Nat) (p:Gt→Bool) (w:World) (h:Sl Bj w v xs F)
  (hp:∀(k:Nat) (hk:k < xs.length) (wr:World) (u:Value) (G:List Nat),Below w.heap.size w wr→Pt Bj wr u xs[k] G→Calls prog fid (#[u]++caps) wr fun e w'=>e=.returned (.bool (p xs[k]))∧Below wr.heap.size wr w') :
  Calls prog 233 #[v,.func (.func fid) #[] caps] w fun e w'=>e=.returned (.int .i64 (Ox p xs))∧Below w.heap.size w w':=by
 obtain ⟨a,cap,rfl⟩:=h.slice
 have hl:=h.len
 unfold maxLen at hl
 go_enter func233,ntmps233
 go_wp2
 go_loopw [5,8] (fun _ i wr=>∃k:Nat,k≤xs.length∧i=.int .i64 k∧Hid (∀j,j < k→∀hj:j < xs.length,p xs[j]=false)∧Below w.heap.size w wr) (fun _ i _=>xs.length - (intOf i).toNat)
 case atStart=>exact ⟨0,Nat.zero_le _,rfl,fun j hj=>by omega,Below.refl _ _⟩
 case round =>
  obtain ⟨k,hk,rfl,hz,hB⟩:=hrel
  by_cases hlt:k < xs.length
  ·have hz0:=hz;clear hz
   obtain ⟨b,off,_,F1,rfl,hx, -,ja⟩:=(h.below (by decide) hB).at k hlt
   obtain ⟨rfl,rfl⟩:=id hx
   have a0:=ja 0 (by decide)
   have a1:=ja 1 (by decide)
   simp only [show Bj.sz=2 from rfl,Nat.mul_one,Nat.add_zero,List.getElem?_cons_zero,List.getElem?_cons_succ] at a0 a1
   clear ja
   have hr:=hp k hlt wr _ _ hB ⟨_,rfl,hx⟩
   have hp:=Lib.hid hp
   cases hpk:p xs[k]
   all_goals
    rw [hpk] at hr
    have hpk:=Lib.hid hpk
    have hr:=Lib.hid hr
    go_wp2_with fail
    refine hbd.upon hr.out ?_
    rintro e w1 ⟨rfl,hb1⟩
    refine ⟨_,rfl,?_⟩
    have hB:=tr hB hb1 (Nat.le_refl _)
    clear hb1
    go_wp2_with fail
   ·exact ⟨⟨k+1,by omega,by go_num,fun j hj hl=>by rcases Nat.lt_or_eq_of_le (Nat.le_of_lt_succ hj) with h|h;exact hz0.out j h hl;subst h;exact hpk.out,hB⟩,by simp [intOf];omega⟩
   ·go_ret
    exact ⟨L4 (M4 hlt hz0.out hpk.out).symm,hB⟩
  ·go_wp2
   go_ret
   exact ⟨L4 (Ly (fun j hj=>hz.out j (by omega) hj)).symm,hB⟩
theorem Afb (v:Value) (xs:List Gt) (F:List Nat) (w:World) (h:Sl Bj w v xs F) (hm:xs.length≤4294967296) :
  Calls prog 133 #[v] w (Vz Bj 134 xs w):=by
 obtain ⟨ao,c,news,Fy,rfl,hl,hfy,hFy,hsrc⟩:=h.src
 have hFl:=hfy.lt
 have he:=fun w (a:Option Addr) (n c:Nat)=>Lib.run_eql_slice_nil (P:=prog) w 30 _ a n c 0 0 underlying30
 go_enter func133,ntmps133
 rcases hsrc with ⟨rfl,rfl,rfl⟩|⟨ad,rfl,hn⟩
 ·go_wp2
  go_ret
  exact ⟨.slice none 0 0,[],rfl,.inl ⟨rfl,rfl,rfl⟩,by simp,by simp,Below.refl _ _⟩
 ·go_wp2_with (at_builtin;refine Nx Hx (by decide) (by rfl) _ _ _ (by rfl) 134 (.agg #[.int .i64 0,.int .i64 0]) 16 underlying30 Aa4 rfl (.slice (some ⟨w.heap.size,0,none⟩) 0 0) [] [w.heap.size] (by rfl) (Ow.empty (Hm.made _ _ _)) (Hd.one _) (some ad) xs c (by rfl) news Fy (hfy.frame fun b hb=>Below.heap_alloc _ _ _ (hFl b hb)) (.inr ⟨ad,rfl,fun j u hu=>kc ((Below.refl _ _).alloc (Nat.le_refl _) _) (hn j u hu)⟩) (fun b hb e=>by have:=hFl b hb;simp [Value.ownBlock] at e;omega) (by simpa using hl) (by unfold maxLen at hl;simp;omega) ?_)
  intro v2 w2 F2 hA
  go_wp2_with fail
  go_ret
  have hB:Below w.heap.size w w2:=((Below.refl _ _).alloc (Nat.le_refl _) _).trans (hA.Ky.below (by simp) (by simp))
  have hs:∀b,v2.ownBlock=some b→w.heap.size≤b:=fun b hb=>by rcases hA.Af8 with e|e <;> rw [e] at hb <;> simp [Value.ownBlock] at hb <;> omega
  refine ⟨v2,F2,rfl,by simpa using hA.ow,hA.ow.scal Jl▸?_,fun b hb=>?_,hB⟩
  ·cases v2.ownBlock <;> simp
  ·rw [hA.ow.scal Jl] at hb;exact hs b (by simpa using hb)
theorem Rz (fid:FuncId) (hbd:Tm prog fid) (caps:Array Value) (v:Value) (xs:List Gt) (F:List Nat) (p:Gt→Bool) (w:World) (h:Ow Bj 134 w v xs F) (hn:F.Nodup)
  (hp:∀(k:Nat) (hk:k < xs.length) (wr:World) (u:Value) (G:List Nat),Dy F w wr→Pt Bj wr u xs[k] G→Calls prog fid (#[u]++caps) wr fun e w'=>e=.returned (.bool (p xs[k]))∧Below wr.heap.size wr w') :
  Calls prog 194 #[v,.func (.func fid) #[] caps] w fun e w'=>∃v' F',e=.returned v'∧Ow Bj 134 w' v' (xs.filter fun x=>!p x) F'∧F'.Nodup∧(∀b∈F',b∈F)∧Dy F w w':=by
 obtain ⟨F1,hF1,hs⟩:=h.sl (Me.refl _)
 obtain ⟨a,cap,rfl⟩:=h.slice
 have hl:=h.len
 unfold maxLen at hl
 have hp:=Lib.hid hp
 go_enter func194,ntmps194
 go_wp2_with fail
 refine (Yn fid hbd caps _ xs F1 p _ hs (fun k hk wr u G hb hu=>hp.out k hk wr u G (Dy.ofBelow hb) hu)).mono ?_
 rintro e w1 ⟨rfl,hb1⟩
 have hK1:=Dy.ofBelow (F:=F) hb1
 by_cases hany:xs.any p=true
 ·obtain ⟨k0,hk0,hfx,hpk,hfl⟩:=Td hany
  rw [hfx]
  obtain ⟨g,rfl, -,hg0⟩:=Gap.start (h.below hb1) hn (ys:=xs.take k0) (zs:=xs[k0]::xs.drop (k0+1)) (by simp) (by omega)
  obtain ⟨F0,hg0,hF0⟩:=hg0.skip
  have hG0:=Lib.hid hg0
  clear hg0
  have hk1:((k0:Int) == -1)=false:=by simp
  go_wp2_with fail
  go_loopw [5,6,7] (fun i j _ wr=>∃(q m:Nat) (F1:List Nat),q≤xs.length∧0 < m∧((xs.take q).filter fun x=>!p x).length+m=q∧i=.int .i64 ((xs.take q).filter fun x=>!p x).length∧j=.int .i64 q∧Hid (Gap Bj 134 wr g xs.length cap ((xs.take q).filter fun x=>!p x) m (xs.drop q) F1)∧(∀b∈F1,b∈F)∧Dy F w wr) (fun _ j _ _=>xs.length - (intOf j).toNat)
  case atStart=>exact ⟨k0+1,1,F0,hk0,by omega,by rw [C1 hk0 (by simp [hpk]),hfl];simp;omega,by rw [C1 hk0 (by simp [hpk]),hfl];simp;omega,by go_num,by rw [C1 hk0 (by simp [hpk]),hfl];exact hG0,hF0,hK1⟩
  case round =>
   obtain ⟨q,m,F1,hq,hm,hlen,rfl,rfl,hG,hF1,hK⟩:=hrel
   obtain ⟨-,hcap, -⟩:=hG.out.caps
   generalize hys:((xs.take q).filter fun x=>!p x)=ys at *
   by_cases hlt:q < xs.length
   ·rw [List.drop_eq_getElem_cons hlt] at hG
    obtain ⟨c,Fx,hx,hFx,hcell⟩:=hG.out.first
    obtain ⟨Fx2, -,hxe⟩:=(Me.refl _).Ka hx
    obtain ⟨rfl,rfl⟩:=id hx
    have a0:=hcell 0 (by decide)
    have a1:=hcell 1 (by decide)
    simp only [hlen,show Bj.sz=2 from rfl,Nat.mul_one,Nat.add_zero,List.getElem?_cons_zero,List.getElem?_cons_succ] at a0 a1
    have hr:=fun A=>hp.out q hlt (wr.alloc A) _ Fx2 (hK.alloc A) ⟨_,rfl,Bj.below hxe ((Below.refl wr.heap.size wr).alloc (Nat.le_refl _) A)⟩
    cases hpq:p xs[q]
    ·obtain ⟨st,c2,Fx3,hx3, -,hcell2,back⟩:=hG.out.move hm
     simp only [hpq] at hr
     obtain rfl:=Zq (Bj.len hx) (Bj.len hx3) hcell hcell2
     have st:=st
     obtain ⟨⟨x0,z0⟩,g0⟩:=st 0 (by decide)
     obtain ⟨⟨x1,z1⟩,g1⟩:=st 1 (by decide)
     simp only [show Bj.sz=2 from rfl,Nat.mul_one,Nat.add_zero] at z0 g0 z1 g1
     have hr:=Lib.hid hr;have hbk:=Lib.hid back;have hpq:=Lib.hid hpq;have hys:=Lib.hid hys;have hlen:=Lib.hid hlen
     have hyl:ys.length < xs.length:=by have:=hlen.out;omega
     clear hx hxe hcell hcell2 hx3 back st hfx hpk hfl
     go_wp2_with fail
     refine hbd.upon (hr.out _) ?_
     rintro e w2 ⟨rfl,hb2⟩
     refine ⟨_,rfl,?_⟩
     have b2:=(Hm.below (g:=wr.heap.size) (t:=134) (cs:=[.int .i64 xs[q].Ae,.int .i64 xs[q].Ca]) (by simp [Iq]) hb2).cells
     have hbb:=tr ((Below.refl wr.heap.size wr).alloc (Nat.le_refl _) _) hb2 (Nat.le_refl _)
     clear hb2
     have g0:=(kf hbb z0).trans g0;have z0:=kc hbb z0
     have g1:=(kf hbb z1).trans g1;have z1:=kc hbb z1
     obtain ⟨F2,hg2,hF2⟩:=hbk.out w2 hbb
     simp only [Ls,show Bj.sz=2 from rfl,Nat.mul_one] at hg2
     have hg2:=Lib.hid hg2
     have hgF:g∈F:=hF1 g hG.out.caps.2.2.2.2.1
     go_wp2_with fail
     exact ⟨⟨q+1,m,F2,by omega,hm,by rw [E5 hlt (by simp [hpq.out]),hys.out];have:=hlen.out;simp;omega,by rw [E5 hlt (by simp [hpq.out]),hys.out,List.length_append];go_num,by go_num,by rw [E5 hlt (by simp [hpq.out]),hys.out];exact hg2.out,fun b hb=>hF1 b (hF2 b hb),by (repeat (refine Dy.setCell ?_ hgF _));exact hK.trans (Dy.ofBelow hbb)⟩,by simp [intOf];omega⟩
    ·obtain ⟨F2,hg2,hF2⟩:=hG.out.skip
     simp only [hpq] at hr
     have hr:=Lib.hid hr;have hg2:=Lib.hid hg2;have hpq:=Lib.hid hpq;have hys:=Lib.hid hys;have hlen:=Lib.hid hlen
     clear hx hxe hcell hfx hpk hfl
     go_wp2_with fail
     refine hbd.upon (hr.out _) ?_
     rintro e w2 ⟨rfl,hb2⟩
     refine ⟨_,rfl,?_⟩
     have hbb:=tr ((Below.refl wr.heap.size wr).alloc (Nat.le_refl _) _) hb2 (Nat.le_refl _)
     clear hb2
     go_wp2_with fail
     exact ⟨⟨q+1,m+1,F2,by omega,by omega,by rw [C1 hlt (by simp [hpq.out]),hys.out];have:=hlen.out;omega,by rw [C1 hlt (by simp [hpq.out]),hys.out],by go_num,by rw [C1 hlt (by simp [hpq.out]),hys.out];exact hg2.out.below hbb,fun b hb=>hF1 b (hF2 b hb),hK.trans (Dy.ofBelow hbb)⟩,by simp [intOf];omega⟩
   ·have hqe:q=xs.length:=by omega
    subst hqe
    simp only [List.drop_length,List.take_length] at hG hys
    obtain ⟨hc,F2,ho2,hn2,hF2⟩:=hG.out.done (z:=#[.int .i64 0,.int .i64 0]) rfl
    have hmm:xs.length - ys.length=m:=by omega
    have hcl:=fun ty=>Po (P:=prog) wr 30 134 ty (.agg #[.int .i64 0,.int .i64 0]) underlying30 (Ry Aa4) (by simp [Value.cells,Value.oneCell']) g (ys.length * 2) m (cap - ys.length) hm (fun j hj=>(hc j hj).1) (fun j hj=>(hc j hj).2)
    have hyl:ys.length < xs.length:=by omega
    have hgF:g∈F:=hF1 g hG.out.caps.2.2.2.2.1
    have hO:=Lib.hid ho2;have hlen:=Lib.hid hlen;have hys:=Lib.hid hys
    clear ho2 hc hfx hpk hfl
    go_wp2_with fail
    go_ret
    refine ⟨_,F2,rfl,by rw [hys.out];exact hO.out,hn2,fun b hb=>hF1 b (hF2 b hb),hK.trans ?_⟩
    rw [←J9 wr];exact (Jk _ _ _).mono (fun b hb _=>by simp at hb;subst hb;exact hgF)
 ·obtain ⟨hfx,hfl⟩:=U7 hany
  rw [hfx]
  go_wp2_with fail
  go_ret
  exact ⟨_,F,rfl,by rw [hfl];exact h.below hb1,hn,fun b hb=>hb,hK1⟩
theorem Yp (x:Cj) (v:Value) (F:List Nat) (hl:x.Aa.Aj.length≤4294967296) (hl2:x.holds.length≤4294967296):Fn prog 75 [v] [.isv Dm v x F] [] (fun (_:Value × List Nat)=>True)
  (fun s=>s.1) (fun s=>[.own Ta s.1 x s.2]):=by
 refine enter func75 rfl ntmps75 fun w0=>?_
 refine Ex ?_
 rintro a1 c1 F1 a2 c2 F2 rfl l1 l2
 refine Ch x.Aa ?_
 generalize F1=F3
 refine go ?_;intros
 refine cv (fun w s=>T5 _ x.Aa _ w (s.get (p:=.isv Bx (.agg #[.int .i64 x.Aa.Al,.int .i64 x.Aa.size,.slice a1 x.Aa.Aj.length c1]) x.Aa F3) (by simp)) hl) fun v F'=>?_
 refine Ik ?_
 rintro a5 c5 F5 rfl l5
 refine go ?_;intros
 refine cn (fun w s=>Afb _ _ _ _ (s.get (p:=.sl Bj (.slice a2 x.holds.length c2) x.holds F2) (by simp)).2 hl2) fun a6 c6 F6=>?_
 refine go ?_;intros
 refine Ab7 x ?_
 refine ret (_,_) trivial rfl
theorem An8 (W:Az) (h:Gt) (gb g o:Nat) (u:Value) (a:Option Addr) (c:Nat) (cl q:Value) (Hs:Value) (G Fw:List Nat) (t0:0≤W.Al) (t1:W.Al≤65535) (n0:0≤h.Ae) (n1:h.Ae≤65535) :
  Fn prog 195 [u,Ez gb 0 0] [.isv Bj u h G,.cel gb 0 [Ez g o 0],.cel g o [.int .i64 W.Al,.int .i64 W.size,.slice a W.Aj.length c,cl,q,Hs],.isv Bx (.agg #[.int .i64 W.Al,.int .i64 W.size,.slice a W.Aj.length c]) W Fw] [] (fun (_:Unit)=>True) (fun _=>.bool (!Hn W h.Ae)) (fun _=>[]):=by
 refine enter func195 rfl ntmps195 fun w0=>?_
 refine Aej ?_
 rintro _ rfl
 refine go ?_;intros
 refine As [0,2,3] [] ?_
 refine dt 0 ?_
 refine dt 1 ?_
 refine dt 2 ?_
 refine dt 3 ?_
 refine dt 4 ?_
 refine dt 5 ?_
 refine dO 6 (by kernel_rfl) (by rw [List.getElem?_toArray];rfl) ?_
 apply At;rfl;kernel_rfl;exact Bf
 refine cb (fun w st=>(Sp W h.Ae _ _ t0 t1 n0 n1).val w (Il (st.get (p:=.isv Bx (.agg #[.int .i64 W.Al,.int .i64 W.size,.slice a W.Aj.length c]) W Fw) (by simp)))) ?_
 refine dk ?_
 refine dt 7 ?_
 refine dt 8 ?_
 refine dd ?_
 refine go ?_;intros
 refine ret () trivial ?_
 simp only [Hn,Pv,decide_not]
theorem Afn {P:Program} {f:FuncId} {args:List Value} {p:Pc} {R:List Pc} {σ:Type} {C:σ→Prop} {v:σ→Value} {N:σ→Pc} (hm:p.mu=true)
  (h:∀w,p.P w→Nf R w→(∀wr,Dy p.F w wr→Nf R wr)→Calls P f args.toArray w fun e w'=>∃s,C s∧e=.returned (v s)∧(N s).P w'∧(∀b∈(N s).F,b∈p.F∨w.heap.size≤b)∧Dy p.F w w'):Fn P f args [] (p::R) C v (fun s=>N s::R):=fun w hH hS=>by
 rw [List.append_nil] at hH hS
 have hR:Nf R w:=fun q hq=>hH q (by simp [hq])
 have ap:∀q∈R,∀b∈q.F,b ∉ p.F:=fun q hq b hb hp=>hS.1 q hq (by simp [hm]) b hp hb
 have hk:∀wr,Dy p.F w wr→Nf R wr:=fun wr k q hq=>q.st (hR q hq) fun b hb=>k.block b (q.lt (hR q hq) b hb) (ap q hq b hb)
 refine (h w (hH p (by simp)) hR hk).mono ?_
 rintro e w' ⟨s,hC,he,hN,hF,k⟩
 refine ⟨s,hC,he,?_,⟨fun q hq _ b hb hbq=>?_,hS.2⟩,k.mono (fun b hb _=>by simp [fp,hb]),?_⟩
 ·intro q hq
  rcases List.mem_cons.1 hq with rfl|hq
  ·exact hN
  ·exact hk w' k q hq
 ·rcases hF b hb with h|h
  ·exact ap q hq b hbq h
  ·have:=q.lt (hR q hq) b hbq;omega
 ·intro q hq b hb
  rcases List.mem_cons.1 hq with rfl|hq
  ·rcases hF b hb with h|h
   ·exact .inr (.inl ⟨p,by simp,h⟩)
   ·exact .inl h
  ·exact .inr (.inl ⟨q,by simp [hq],hb⟩)
theorem Asa {P:Program} {fn:Func} {R:Ending→World→Prop} {G D:List Nat} {w0:World} {n:Nat} {fr:Fr} {H:List Pc} (h:T ⟨P,G,D,w0,n,bodyPost P fn R⟩ fr H (.fin .ret)):T ⟨P,G,D,w0,n,bodyPost P fn R⟩ fr H (.norm []):=.mk fun a w s g=>h.h a w s g
def Ln (W:Az) (hs:List Gt):List Gt:=hs.filter fun h=>Hn W h.Ae
theorem An9 (W:Az) (hs:List Gt) (gb tb g t o:Nat) (A B:List Value) (a a2:Option Addr) (c c2:Nat) (cl q:Int) (F F2:List Nat) (t0:0≤W.Al) (t1:W.Al≤65535) (hn:∀h∈hs,B9 h.Ae=true) :
  Fn prog 194 [.slice a2 hs.length c2,.func (.func 195) #[] #[Ez gb 0 0]] [] [.ow Bj 134 (.slice a2 hs.length c2) hs F2,.row gb tb 0 [] [Ez g o 0] [],.row g t o A [.int .i64 W.Al,.int .i64 W.size,.slice a W.Aj.length c,.int .i64 cl,.int .i64 q,.slice a2 hs.length c2] B,.ow Ba 9 (.slice a W.Aj.length c) W.Aj F] (fun (_:Option Addr × Nat × List Nat)=>True)
   (fun z=>.slice z.1 (Ln W hs).length z.2.1) (fun z=>[.ow Bj 134 (.slice z.1 (Ln W hs).length z.2.1) (Ln W hs) z.2.2,.row gb tb 0 [] [Ez g o 0] [],.row g t o A [.int .i64 W.Al,.int .i64 W.size,.slice a W.Aj.length c,.int .i64 cl,.int .i64 q,.slice a2 hs.length c2] B,.ow Ba 9 (.slice a W.Aj.length c) W.Aj F]):=by
 refine Afn rfl fun w ⟨hnd,ho⟩ _ hk=>?_
 refine (Rz _ (Q6 (by kernel_rfl)) #[Ez gb 0 0] _ hs F2 (fun h=>!Hn W h.Ae) w ho hnd fun k hk2 wr u G hK hu=>?_).mono ?_
 ·have hr:=hk wr hK
  have r1:=hr (.row gb tb 0 [] [Ez g o 0] []) (by simp)
  have r2:=hr (.row g t o A [.int .i64 W.Al,.int .i64 W.size,.slice a W.Aj.length c,.int .i64 cl,.int .i64 q,.slice a2 hs.length c2] B) (by simp)
  obtain ⟨Fw, -,hw⟩:=(hr (.ow Ba 9 (.slice a W.Aj.length c) W.Aj F) (by simp)).2.read
  obtain ⟨n0,n1⟩:=A9.1 (hn hs[k] (List.getElem_mem hk2))
  refine (An8 W hs[k] gb g o u a c (.int .i64 cl) (.int .i64 q) (.slice a2 hs.length c2) G Fw t0 t1 n0 n1).val wr ?_
  intro p hp
  simp only [List.mem_cons,List.not_mem_nil,or_false] at hp
  rcases hp with rfl|rfl|rfl|rfl
  ·exact hu
  ·exact ⟨by simp,Gh r1⟩
  ·exact ⟨by simp,Gh r2⟩
  ·exact ⟨_,rfl,_,rfl,hw⟩
 ·rintro e w' ⟨v',F',rfl,h1,h2,h3,h4⟩
  have e:(hs.filter fun x=>!(fun h:Gt=>!Hn W h.Ae) x)=Ln W hs:=by simp [Ln]
  rw [e] at h1
  obtain ⟨a',c',rfl⟩:=h1.slice
  exact ⟨(a',c',F'),trivial,rfl,⟨h2,h1⟩,fun b hb=>.inl (h3 b hb),h4⟩
theorem Ad5 (W:Az) (hs:List Gt) (g t o:Nat) (A B:List Value) (a a2:Option Addr) (c c2:Nat) (cl q:Int) (F F2:List Nat) (t0:0≤W.Al) (t1:W.Al≤65535) (hn:∀h∈hs,B9 h.Ae=true) :
  Fn prog 140 [Ez g o 0] [] [.row g t o A [.int .i64 W.Al,.int .i64 W.size,.slice a W.Aj.length c,.int .i64 cl,.int .i64 q,.slice a2 hs.length c2] B,.ow Bj 134 (.slice a2 hs.length c2) hs F2,.ow Ba 9 (.slice a W.Aj.length c) W.Aj F] (fun (_:Option Addr × Nat × List Nat)=>True)
   (fun _=>.tuple #[]) (fun z=>[.row g t o A [.int .i64 W.Al,.int .i64 W.size,.slice a W.Aj.length c,.int .i64 cl,.int .i64 q,.slice z.1 (Ln W hs).length z.2.1] B,.ow Bj 134 (.slice z.1 (Ln W hs).length z.2.1) (Ln W hs) z.2.2,.ow Ba 9 (.slice a W.Aj.length c) W.Aj F]):=by
 refine enter func140 rfl ntmps140 fun w0=>?_
 refine go ?_;intros
 refine As [0,1] [9] ?_
 refine dt 0 ?_
 refine dt 1 ?_
 refine dt 2 ?_
 refine dt 3 ?_
 refine dt 4 ?_
 refine dt 5 ?_
 refine dO 6 (by kernel_rfl) (by rw [List.getElem?_toArray];rfl) ?_
 apply At;rfl;kernel_rfl;exact Bf
 refine cf (An9 W hs _ _ g t o A B a a2 c c2 cl q F F2 t0 t1 hn) fun z _=>?_
 refine Ap ?_
 refine dk ?_
 refine dt 7 ?_
 refine dt 8 ?_
 refine dO 9 (by kernel_rfl) (by rw [List.getElem?_toArray];rfl) ?_
 apply Cs;rfl;rfl;rfl;(first|exact AggC.s|exact OneC.s);rfl;exact Cu;exact Ct;rfl
 refine Ng ?_
 refine dd ?_
 refine Asa ?_
 refine ret (_,_,_) trivial rfl
structure Ab1 where
 a:Option Addr
 c:Nat
 a2:Option Addr
 c2:Nat
 F:List Nat
def Ae5 (x:Cj) (W:Az):Cj:=⟨W,x.Ai,x.quiet,Ln W x.holds⟩
structure Ary (x:Cj):Prop where
 w:Dw x.Aa=true
 l:x.Aa.Aj.length≤6
 t0:0≤x.Aa.Al
 t1:x.Aa.Al≤65535
 k0:0≤x.Ai
 k1:x.Ai≤9999
 m:x.holds.length≤6
 n:∀h∈x.holds,B9 h.Ae=true
 u:∀h∈x.holds,x.Ai+1≤h.Ca
 b:∀h∈x.holds,h.Ca≤x.Ai+3
theorem Ll {x:Cj} (h:Cc x=true):Ary x:=by
 unfold Cc at h
 simp only [Bool.and_eq_true] at h
 obtain ⟨⟨⟨h1,h2⟩,h3⟩,h4⟩:=h
 obtain ⟨⟨t0,t1⟩,⟨s0,s1⟩,s2, -⟩:=D6.1 h1
 obtain ⟨k0,k1⟩:=Ab6 h2
 have hc:∀h∈x.holds,B9 h.Ae=true∧x.Ai+1≤h.Ca∧h.Ca≤x.Ai+3:=fun h hh=>by
  obtain ⟨i,hi,rfl⟩:=List.getElem_of_mem hh
  have:=List.all_eq_true.1 h4 i (by simpa using hi)
  rw [M3 hi] at this
  simp only [Bool.and_eq_true,Ig,decide_eq_true_eq] at this
  exact ⟨this.1.1.1,this.1.2.1,this.1.2.2⟩
 have hg:∀i,(hi:i < x.holds.length)→(i:Int)≤gp x.Aa.Al x.holds[i].Ae∧gp x.Aa.Al x.holds[i].Ae < 6:=by
  intro i
  induction i with
  | zero =>
   intro hi
   have:=List.all_eq_true.1 h4 0 (by simpa using hi)
   rw [M3 hi] at this
   simp only [Bool.and_eq_true,Hn,decide_eq_true_eq] at this
   have b:=Jb x.Aa.Al x.holds[0].Ae
   exact ⟨by omega,by have:=this.1.1.2;omega⟩
  | succ i ih =>
   intro hi
   have p:=ih (by omega)
   have:=List.all_eq_true.1 h4 (i+1) (by simpa using hi)
   rw [M3 hi] at this
   simp only [Bool.and_eq_true,Hn,decide_eq_true_eq,Bool.or_eq_true,Bool.not_eq_true',decide_eq_false_iff_not] at this
   have q:=this.2
   have q2:=this.1.1.2
   simp only [Nat.add_sub_cancel] at q
   rcases q with q|q
   ·omega
   ·exact ⟨by omega,by omega⟩
 have hm:x.holds.length≤6:=by
  by_cases h0:x.holds.length≤6
  ·exact h0
  ·have:=hg 6 (by omega);omega
 exact ⟨h1,by omega,t0,t1,k0,k1,hm,fun h hh=>(hc h hh).1,fun h hh=>(hc h hh).2.1,fun h hh=>(hc h hh).2.2⟩
def Ty (hs:List Gt):Prop:=∀h∈hs, -1≤h.Ae∧h.Ae≤65536
theorem Yg {hs:List Gt} (hn:∀h∈hs,B9 h.Ae=true):Ty hs:=fun h hh=>by have:=A9.1 (hn h hh);omega
def Gp (W:Az) (cl:Int) (hs:List Gt):List Gt:=hs.filter fun h=>Hn W h.Ae && decide (cl < h.Ca)
theorem Ss {W:Az} {cl:Int} {hs:List Gt} (h:∀z∈hs,cl+1≤z.Ca):Gp W cl hs=Ln W hs:=by
 unfold Gp Ln
 refine List.filter_congr fun z hz=>?_
 rw [decide_eq_true (show cl < z.Ca by have:=h z hz;omega),Bool.and_true]
theorem Amb (h:Gt) (w:World):Cw Bj w [.int .i64 h.Ae,.int .i64 h.Ca] [h] []:=⟨_,[],[],[],by simp,by simp,⟨rfl,rfl⟩,rfl,rfl⟩
structure HoS where
 k:Nat
 a:Option Addr
 c:Nat
 F:List Nat
theorem Xi (W:Az) (hs:List Gt) (cl:Int) (v:Value) (a2:Option Addr) (c2:Nat) (F G:List Nat) (t0:0≤W.Al) (t1:W.Al≤65535) (hl:hs.length≤1000) (hn:Ty hs) :
  Fn prog 178 [.slice a2 hs.length c2,v,.int .i64 cl] [.isv Bx v W F,.sl Bj (.slice a2 hs.length c2) hs G] [] (fun (_:Option Addr × Nat × List Nat)=>True)
   (fun z=>.slice z.1 (Gp W cl hs).length z.2.1) (fun z=>[.ow Bj 134 (.slice z.1 (Gp W cl hs).length z.2.1) (Gp W cl hs) z.2.2]):=by
 refine enter func178 rfl ntmps178 fun w0=>?_
 refine El ?_
 rintro a1 c1 F1 rfl l1
 refine go ?_;intros
 refine C9 Bj ?_
 refine Cp [0,2,4,6] (fun s:HoS=>[(7,.slice s.a (Gp W cl (hs.take s.k)).length s.c),(8,.int .i64 s.k)]) (fun s=>[.ow Bj 134 (.slice s.a (Gp W cl (hs.take s.k)).length s.c) (Gp W cl (hs.take s.k)) s.F]) (fun s=>s.k≤hs.length) (fun s=>hs.length - s.k) ⟨0,_,0,_⟩ (Nat.zero_le _) fun s hk=>?_
 obtain ⟨k,a5,c5,F5⟩:=s
 dsimp only at hk ⊢
 refine go ?_;intros
 refine Bg rfl (fun h3=>?_) (fun h3=>?_)
 ·have hk3:k < hs.length:=by omega
  obtain ⟨n0,n1⟩:=hn hs[k] (List.getElem_mem hk3)
  have hkl:(Gp W cl (hs.take k)).length≤1000:=by have:=List.length_filter_le (fun h:Gt=>Hn W h.Ae && decide (cl < h.Ca)) (hs.take k);unfold Gp;simp only [List.length_take] at this;omega
  refine P8 (xs:=hs) k ?_
  rintro hi b o e
  rw [e]
  cases g5:Hn W hs[k].Ae
  ·refine Jm ?_;intros
   refine As [0,2] [] ?_
   refine dt 0 ?_
   refine dt 1 ?_
   refine dt 2 ?_
   refine dt 3 ?_
   refine dt 4 ?_
   refine dt 5 ?_
   refine dO 6 (by kernel_rfl) (by rw [List.getElem?_toArray];rfl) ?_
   apply At;rfl;kernel_rfl;exact Bf
   refine cb (fun w st=>(Th W hs[k].Ae _ _ t0 t1 n0 n1).val w (Il (st.get (p:=.isv Bx (.agg #[.int .i64 W.Al,.int .i64 W.size,.slice a1 W.Aj.length c1]) W F) (by simp)))) ?_
   rw [g5]
   refine dk ?_
   refine dt 7 ?_
   refine ds 8 ?_
   refine ds 9 ?_
   refine ds 10 ?_
   refine ds 11 ?_
   refine ds 12 ?_
   refine ds 13 ?_
   refine ds 14 ?_
   refine dt 15 ?_
   refine dd ?_
   refine go ?_;intros
   have hf:Gp W cl (hs.take (k+1))=Gp W cl (hs.take k):=C1 hk3 (by rw [g5];rfl)
   rw [←hf]
   refine Ck ⟨k+1,a5,c5,F5⟩ hk3 (by show hs.length - (k+1) < _;omega)
  ·refine Jm ?_;intros
   refine As [0,2] [] ?_
   refine dt 0 ?_
   refine dt 1 ?_
   refine dt 2 ?_
   refine dt 3 ?_
   refine dt 4 ?_
   refine dt 5 ?_
   refine dO 6 (by kernel_rfl) (by rw [List.getElem?_toArray];rfl) ?_
   apply At;rfl;kernel_rfl;exact Bf
   refine cb (fun w st=>(Th W hs[k].Ae _ _ t0 t1 n0 n1).val w (Il (st.get (p:=.isv Bx (.agg #[.int .i64 W.Al,.int .i64 W.size,.slice a1 W.Aj.length c1]) W F) (by simp)))) ?_
   rw [g5]
   refine dk ?_
   refine dt 7 ?_
   refine Dh 8 ?_
   refine Dh 9 ?_
   refine Dh 10 ?_
   refine Dh 11 ?_
   refine Dh 12 ?_
   refine Dh 13 ?_
   refine Dh 14 ?_
   refine dt 15 ?_
   refine dd ?_
   refine go ?_;intros
   refine Bg rfl (fun h5=>?_) (fun h5=>?_)
   ·refine go ?_;intros
    apply wO
    refine Mf (Amb hs[k]) Hx fun a6 c6 F6=>?_
    have hf:Gp W cl (hs.take (k+1))=Gp W cl (hs.take k)++[hs[k]]:=E5 hk3 (by rw [g5,decide_eq_true h5];rfl)
    rw [←hf]
    refine go ?_;intros
    refine Ck ⟨k+1,a6,c6,F6⟩ hk3 (by show hs.length - (k+1) < _;omega)
   ·refine go ?_;intros
    have hf:Gp W cl (hs.take (k+1))=Gp W cl (hs.take k):=C1 hk3 (by rw [g5,decide_eq_false h5];rfl)
    rw [←hf]
    refine Ck ⟨k+1,a5,c5,F5⟩ hk3 (by show hs.length - (k+1) < _;omega)
 ·have hkl:k=hs.length:=by omega
  subst hkl
  rw [List.take_length]
  refine go ?_;intros
  refine ret (a5,c5,F5) trivial rfl
def S8 (x:Cj) (W:Az):Cj:=⟨W,x.Ai,x.quiet,Gp W x.Ai x.holds⟩
theorem Anb {x:Cj} {W:Az} (h:∀z∈x.holds,x.Ai+1≤z.Ca):S8 x W=Ae5 x W:=by unfold S8 Ae5;rw [Ss h]
theorem Pk (x:Cj) (W:Az) (v vw:Value) (F Fw:List Nat) (y0:0≤W.Al) (y1:W.Al≤65535) (hl:x.holds.length≤1000) (hn:Ty x.holds) :
  Fn prog 116 [v,vw] [.isv Dm v x F,.isv Bx vw W Fw] [] (fun (_:Ab1)=>True) (fun s=>.agg #[.int .i64 W.Al,.int .i64 W.size,.slice s.a W.Aj.length s.c,.int .i64 x.Ai,.int .i64 x.quiet,.slice s.a2 (Gp W x.Ai x.holds).length s.c2])
   (fun s=>[.isv Dm (.agg #[.int .i64 W.Al,.int .i64 W.size,.slice s.a W.Aj.length s.c,.int .i64 x.Ai,.int .i64 x.quiet,.slice s.a2 (Gp W x.Ai x.holds).length s.c2]) (S8 x W) s.F]):=by
 refine enter func116 rfl ntmps116 fun w0=>?_
 refine Ex ?_
 rintro a1 c1 F1 a2 c2 F2 rfl l1 l2
 refine El (x:=W) (F:=Fw) ?_
 rintro a3 c3 F3 rfl l3
 refine go ?_;intros
 refine As [1,2] [] ?_
 refine dt 0 ?_
 refine dt 1 ?_
 refine dt 2 ?_
 refine dt 3 ?_
 refine dt 4 ?_
 refine dt 5 ?_
 refine dt 6 ?_
 refine dt 7 ?_
 refine dt 8 ?_
 refine dt 9 ?_
 refine dO 10 (by kernel_rfl) (by rw [List.getElem?_toArray];rfl) ?_
 apply At;rfl;kernel_rfl;exact Bf
 refine cf (Xi W x.holds x.Ai _ a2 c2 Fw F2 y0 y1 (by omega) hn) fun z _=>?_
 refine Ap ?_
 refine dk ?_
 refine dt 11 ?_
 refine dO 12 (by kernel_rfl) (by rw [List.getElem?_toArray];rfl) ?_
 apply Cs;rfl;rfl;rfl;(first|exact AggC.s|exact OneC.s);rfl;exact Cu;exact Ct;rfl
 refine dk ?_
 refine dd ?_
 refine go ?_;intros
 refine A1 (E:=Bj) fun F9=>?_
 refine Dr (S8 x W) ?_
 refine ret ⟨_,_,_,_,_⟩ trivial rfl
theorem Ais (x:Cj) (W:Az) (v vw:Value) (F Fw:List Nat) (y0:0≤W.Al) (y1:W.Al≤65535) (hl:x.holds.length≤1000) (hn:∀h∈x.holds,B9 h.Ae=true) (hu:∀h∈x.holds,x.Ai+1≤h.Ca) :
  Fn prog 116 [v,vw] [.isv Dm v x F,.isv Bx vw W Fw] [] (fun (_:Ab1)=>True) (fun s=>.agg #[.int .i64 W.Al,.int .i64 W.size,.slice s.a W.Aj.length s.c,.int .i64 x.Ai,.int .i64 x.quiet,.slice s.a2 (Ln W x.holds).length s.c2])
   (fun s=>[.isv Dm (.agg #[.int .i64 W.Al,.int .i64 W.size,.slice s.a W.Aj.length s.c,.int .i64 x.Ai,.int .i64 x.quiet,.slice s.a2 (Ln W x.holds).length s.c2]) (Ae5 x W) s.F]):=by
 have h:=Pk x W v vw F Fw y0 y1 hl (Yg hn)
 rw [Anb hu,Ss hu] at h
 exact h
end Go.Proofs.YtaemjogbahcbcaaGreatDoor
namespace Go.Proofs.YtaemjogbahcbcaaGreatDoor

open Go.RowKit Go.Shelf
end Go.Proofs.YtaemjogbahcbcaaGreatDoor
namespace Go.Proofs.YtaemjogbahcbcaaGreatDoor
open Go.RowKit
theorem Pt.frame {α:Type} {E:Bv α} {w w':World} {v x F} (h:Pt E w v x F) (hF:∀b∈F,w'.heap[b]?=w.heap[b]?):Pt E w' v x F:=by
 obtain ⟨cs,hv,h⟩:=h;exact ⟨cs,hv,E.frame h hF⟩
theorem Ags (t n:Int):Cg (Cg t 1) (n - 1)=Cg t n:=by unfold Cg;omega
def Dk (x:Az):Az:=if (x.Aj.length:Int)=x.size then ⟨Cg x.Al 1,x.size,x.Aj.drop 1⟩ else x
def Db (x:Az) (s:ByteArray):Az:=⟨(Dk x).Al,x.size,(Dk x).Aj++[s]⟩
def Dp (x:Az) (s:ByteArray):Av:=⟨1,Cg x.Al x.Aj.length,(Dk x).Al,Cg (Dk x).Al ((Dk x).Aj.length+1),s⟩
theorem If (t z:Int) (a:Option Addr) (n c:Nat) (w:World) (h0:0≤t) (h1:t≤65535) (hn:n≤4294967296) :
  Calls prog 59 #[.agg #[.int .i64 t,.int .i64 z,.slice a n c]] w fun e w'=>e=.returned (.int .i64 (Cg t n))∧Below w.heap.size w w':=by
 go_enter func59,ntmps59
 go_wp2_with fail
 refine (Ot _ _ _ (by omega) (by omega)).mono ?_
 rintro e w' ⟨rfl,rfl⟩
 go_wp2_with fail
 go_ret
 exact ⟨rfl,(Below.refl _ _).alloc (Nat.le_refl _) _⟩
theorem Qt (t z:Int) (a:Option Addr) (n c:Nat) (w:World) (h0:0≤t) (h1:t≤65535) (hn:n≤4294967296) :
  Calls prog 61 #[.agg #[.int .i64 t,.int .i64 z,.slice a n c]] w fun e w'=>e=.returned (.int .i64 (Cg t n))∧Below w.heap.size w w':=by
 go_enter func61,ntmps61
 go_wp2_with fail
 refine (Fh _ _ _ (by omega) (by omega)).mono ?_
 rintro e w' ⟨rfl,rfl⟩
 go_wp2_with fail
 go_ret
 exact ⟨rfl,(Below.refl _ _).alloc (Nat.le_refl _) _⟩
structure As1 where
 Apz:List ByteArray
 Apu:ByteArray
 Asl:Int
end Go.Proofs.YtaemjogbahcbcaaGreatDoor
namespace Go.Proofs.YtaemjogbahcbcaaGreatDoor

open Go.RowKit Go.Shelf
end Go.Proofs.YtaemjogbahcbcaaGreatDoor
namespace Go.Proofs.YtaemjogbahcbcaaGreatDoor
open Go.RowKit
structure Ati (x:As1):Prop where
 l:x.Apz.length≤8
 q:∀s∈x.Apz,s.size≤60
 f:x.Apu.size≤40
 u0:0≤x.Asl
 u1:x.Asl≤x.Apu.size
end Go.Proofs.YtaemjogbahcbcaaGreatDoor
namespace Go.Proofs.YtaemjogbahcbcaaGreatDoor

open Go.RowKit Go.Shelf
end Go.Proofs.YtaemjogbahcbcaaGreatDoor
namespace Go.Proofs.YtaemjogbahcbcaaGreatDoor
open Go.RowKit
section
variable {c:Cx} {fr:Fr} {H:List Pc} {Φ:Gl}
end
end Go.Proofs.YtaemjogbahcbcaaGreatDoor
namespace Go.Proofs.YtaemjogbahcbcaaGreatDoor

open Go.RowKit
end Go.Proofs.YtaemjogbahcbcaaGreatDoor
namespace Go.Proofs.YtaemjogbahcbcaaGreatDoor
open Go.RowKit
structure PuS where
 a:Option Addr
 c:Nat
 F:List Nat
theorem Nt {x:Az} (t0:0≤x.Al) (t1:x.Al≤65535):0≤(Dk x).Al∧(Dk x).Al≤65535:=by
 unfold Dk
 split
 ·exact Ht _ _
 ·exact ⟨t0,t1⟩
theorem Anp (x:Az) (k:Nat) (g t o:Nat) (A B:List Value) (r1 r2 r3:Value) (a:Option Addr) (c:Nat) (F:List Nat) (hl:x.Aj.length≤6) (hk:k≤x.Aj.length) (t0:0≤x.Al) (t1:x.Al≤65535) :
  Fn prog 193 [Ez g o 0,.int .i64 (k:Nat)] [] [.row g t o A [.int .i64 x.Al,.int .i64 x.size,.slice a x.Aj.length c,r1,r2,r3] B,.ow Ba 9 (.slice a x.Aj.length c) x.Aj F] (fun (_:PuS)=>True) (fun _=>.tuple #[]) (fun z=>[.row g t o A [.int .i64 (Cg x.Al k),.int .i64 x.size,.slice z.a (x.Aj.drop k).length z.c,r1,r2,r3] B,.ow Ba 9 (.slice z.a (x.Aj.drop k).length z.c) (x.Aj.drop k) z.F]):=by
 refine enter func193 rfl ntmps193 fun w0=>?_
 refine A1 (E:=Ba) (xs:=x.Aj) fun Fr=>?_
 refine go ?_;intros
 apply wO
 refine sld k fun a2 c2 F2=>?_
 refine go ?_;intros
 refine cn (fun w st=>Uw _ _ _ _ (st.get (p:=.sl Ba (.slice a2 (x.Aj.drop k).length c2) (x.Aj.drop k) F2) (by exact B8)).2 (by rw [List.length_drop];omega)) fun a6 c6 F6=>?_
 refine go ?_;intros
 refine ce (fun w st=>Ot x.Al k w (by omega) (by omega)) ?_
 refine go ?_;intros
 refine Rt ?_
 refine ret ⟨a6,c6,F6⟩ trivial rfl
theorem Aqu (x:Az) (s:ByteArray) (g t o:Nat) (A B:List Value) (r1 r2 r3:Value) (a:Option Addr) (c:Nat) (F:List Nat) (hl:x.Aj.length≤6) (ht:B9 x.Al=true) (hs:s.size≤maxLen) (hz:1≤x.size) :
  Fn prog 139 [Ez g o 0,.string s] [] [.row g t o A [.int .i64 x.Al,.int .i64 x.size,.slice a x.Aj.length c,r1,r2,r3] B,.ow Ba 9 (.slice a x.Aj.length c) x.Aj F] (fun (_:PuS)=>True) (fun _=>.agg #[.int .i64 1,.int .i64 (Dp x s).Ae,.int .i64 (Dp x s).Al,.int .i64 (Dp x s).Ec,.string s])
   (fun z=>[.row g t o A [.int .i64 (Db x s).Al,.int .i64 (Db x s).size,.slice z.a (Db x s).Aj.length z.c,r1,r2,r3] B,.ow Ba 9 (.slice z.a (Db x s).Aj.length z.c) (Db x s).Aj z.F]):=by
 obtain ⟨t0,t1⟩:=A9.1 ht
 obtain ⟨R,hR⟩:∃R,Dk x=R:=⟨_,rfl⟩
 have hb:=Nt t0 t1
 have hRl:R.Aj.length≤6:=by
  rw [←hR];unfold Dk
  split
  ·show (x.Aj.drop 1).length≤6;rw [List.length_drop];omega
  ·exact hl
 have hnum:Cg R.Al R.Aj.length=Cg x.Al x.Aj.length:=by
  rw [←hR];unfold Dk
  split
  ·rename_i h
   show Cg (Cg x.Al 1) ((x.Aj.drop 1).length:Nat)=_
   rw [List.length_drop,show ((x.Aj.length - 1:Nat):Int)=(x.Aj.length:Int) - 1 by omega,Ags]
  ·rfl
 rw [show Db x s=⟨R.Al,x.size,R.Aj++[s]⟩ by unfold Db;rw [hR],show Dp x s=⟨1,Cg x.Al x.Aj.length,R.Al,Cg R.Al (R.Aj.length+1),s⟩ by unfold Dp;rw [hR]]
 dsimp only
 rw [hR] at hb
 refine enter func139 rfl ntmps139 fun w0=>?_
 refine go ?_;intros
 refine cb (fun w st=>If _ _ _ _ _ w t0 t1 (by omega)) ?_
 refine go ?_;intros
 refine As [1] [] ?_
 refine dt 0 ?_
 refine dt 1 ?_
 refine dt 2 ?_
 refine dt 3 ?_
 refine dt 4 ?_
 refine dt 5 ?_
 refine dt 6 ?_
 refine dt 7 ?_
 refine dt 8 ?_
 refine dt 9 ?_
 refine dd ?_
 refine go ?_;intros
 refine E6 [0,1,4,5] [0] (fun _:PuS=>[]) (fun z=>[.row g t o A [.int .i64 R.Al,.int .i64 x.size,.slice z.a R.Aj.length z.c,r1,r2,r3] B,.ow Ba 9 (.slice z.a R.Aj.length z.c) R.Aj z.F]) (fun _=>True) ?_ fun z _=>?_
 ·refine Bg rfl (fun h1=>?_) (fun h1=>?_)
  ·have e:R=⟨Cg x.Al 1,x.size,x.Aj.drop 1⟩:=by rw [←hR];unfold Dk;rw [if_pos h1]
   rw [e]
   refine go ?_;intros
   refine cf (Anp x 1 g t o A B _ _ _ a c F hl (by omega) t0 t1) fun z _=>?_
   refine Ap ?_
   refine go ?_;intros
   refine Cd z trivial
  ·have e:R=x:=by rw [←hR];unfold Dk;rw [if_neg h1]
   rw [e]
   refine go ?_;intros
   refine Cd ⟨a,c,F⟩ trivial
 refine go ?_;intros
 apply wO
 refine Mf (E:=Ba) (ys:=[s]) (fun w=>⟨[.string s],[],[],[],rfl,rfl,⟨rfl,hs,rfl⟩,rfl,rfl⟩) Ed fun a7 c7 F7=>?_
 have hla:((R.Aj++[s]).length:Int)=R.Aj.length+1:=by simp
 refine go ?_;intros
 dsimp only [List.append]
 refine As [1] [] ?_
 refine dt 0 ?_
 refine dt 1 ?_
 refine dt 2 ?_
 refine dt 3 ?_
 refine dt 4 ?_
 refine dt 5 ?_
 refine dt 6 ?_
 refine dt 7 ?_
 refine dt 9 ?_
 refine dO 8 (by kernel_rfl) (by rw [List.getElem?_toArray];rfl) ?_
 apply At;rfl;kernel_rfl;exact Bf
 refine cb (fun w st=>If _ _ _ _ _ w hb.1 hb.2 (by omega)) ?_
 refine dk ?_
 refine dt 10 ?_
 refine dO 11 (by kernel_rfl) (by rw [List.getElem?_toArray];rfl) ?_
 apply Cs;rfl;rfl;rfl;(first|exact AggC.s|exact OneC.s);rfl;exact Cu;exact Ct;rfl
 refine dk ?_
 refine dd ?_
 refine go ?_;intros
 refine ret ⟨a7,c7,F7⟩ trivial ?_
 rw [hla];rfl
theorem Wh (x:Az) (k:Nat) (v:Value) (F:List Nat) (hl:x.Aj.length≤4294967296) (hk:k≤x.Aj.length) (t0:0≤x.Al) (t1:x.Al≤65535) :
  Fn prog 117 [v,.int .i64 (k:Nat)] [.isv Bx v x F] [] (fun (_:PuS)=>True) (fun z=>.agg #[.int .i64 (Cg x.Al k),.int .i64 x.size,.slice z.a (x.Aj.drop k).length z.c]) (fun z=>[.ow Ba 9 (.slice z.a (x.Aj.drop k).length z.c) (x.Aj.drop k) z.F]):=by
 refine enter func117 rfl ntmps117 fun w0=>?_
 refine El ?_
 rintro a1 c1 F1 rfl l1
 have hdk:(x.Aj.drop k).length=x.Aj.length - k:=List.length_drop
 refine go ?_;intros
 refine As [1,2] [] ?_
 refine dt 0 ?_
 refine dt 1 ?_
 refine dt 2 ?_
 refine dt 4 ?_
 refine dt 5 ?_
 refine dt 7 ?_
 refine dt 8 ?_
 refine dt 9 ?_
 refine Afl 10 k fun a5 c5 F5=>?_
 refine Ov 3 6 (by kernel_rfl) (by rw [List.getElem?_toArray];rfl) (by rw [List.getElem?_toArray];rfl) ?_ ?_
 ·apply At;rfl;kernel_rfl;exact Bf
  refine ce (fun w st=>Fh x.Al k w (by omega) (by omega)) ?_
  refine dk ?_
  refine dO 6 (by kernel_rfl) (by rw [List.getElem?_toArray];rfl) ?_
  apply Jw;rfl;intro _
  refine C9 Ba ?_
  refine dk ?_
  refine dO 11 (by kernel_rfl) (by rw [List.getElem?_toArray];rfl) ?_
  refine Lx (E:=Ba) (xs:=[]) (ys:=x.Aj.drop k) Ed Hf fun a7 c7 F7=>?_
  rw [List.nil_append]
  refine dk ?_
  refine dt 12 ?_
  refine dO 13 (by kernel_rfl) (by rw [List.getElem?_toArray];rfl) ?_
  apply Cs;rfl;rfl;rfl;(first|exact AggC.s|exact OneC.s);rfl;exact Cu;exact Ct;rfl
  refine dk ?_
  refine dd ?_
  refine go ?_;intros
  refine ret ⟨a7,c7,F7⟩ trivial rfl
 ·apply Jw;rfl;intro _
  refine C9 Ba ?_
  refine dk ?_
  refine dO 3 (by kernel_rfl) (by rw [List.getElem?_toArray];rfl) ?_
  apply At;rfl;kernel_rfl;exact Bf
  refine ce (fun w st=>Fh x.Al k w (by omega) (by omega)) ?_
  refine dk ?_
  refine dO 11 (by kernel_rfl) (by rw [List.getElem?_toArray];rfl) ?_
  refine Lx (E:=Ba) (xs:=[]) (ys:=x.Aj.drop k) Ed Hf fun a7 c7 F7=>?_
  rw [List.nil_append]
  refine dk ?_
  refine dt 12 ?_
  refine dO 13 (by kernel_rfl) (by rw [List.getElem?_toArray];rfl) ?_
  apply Cs;rfl;rfl;rfl;(first|exact AggC.s|exact OneC.s);rfl;exact Cu;exact Ct;rfl
  refine dk ?_
  refine dd ?_
  refine go ?_;intros
  refine ret ⟨a7,c7,F7⟩ trivial rfl
theorem Ale (x:Az) (s:ByteArray) (v:Value) (F:List Nat) (hl:x.Aj.length≤6) (t0:0≤x.Al) (t1:x.Al≤65535) (hs:s.size≤maxLen) (hz:1≤x.size) :
  Fn prog 157 [v,.string s] [.isv Bx v x F] [] (fun (_:Value × List Nat)=>True) (fun z=>.tuple #[z.1,.agg #[.int .i64 1,.int .i64 (Dp x s).Ae,.int .i64 (Dp x s).Al,.int .i64 (Dp x s).Ec,.string s]]) (fun z=>[.isv Bx z.1 (Db x s) z.2]):=by
 have e0:Cg x.Al ((0:Nat):Int)=x.Al:=by unfold Cg;omega
 obtain ⟨R,hR⟩:∃R,Dk x=R:=⟨_,rfl⟩
 have hb:=Nt t0 t1
 have hRl:R.Aj.length≤6:=by
  rw [←hR];unfold Dk
  split
  ·show (x.Aj.drop 1).length≤6;rw [List.length_drop];omega
  ·exact hl
 have hnum:Cg R.Al R.Aj.length=Cg x.Al x.Aj.length:=by
  rw [←hR];unfold Dk
  split
  ·rename_i h
   show Cg (Cg x.Al 1) ((x.Aj.drop 1).length:Nat)=_
   rw [List.length_drop,show ((x.Aj.length - 1:Nat):Int)=(x.Aj.length:Int) - 1 by omega,Ags]
  ·rfl
 rw [show Db x s=⟨R.Al,x.size,R.Aj++[s]⟩ by unfold Db;rw [hR],show Dp x s=⟨1,Cg x.Al x.Aj.length,R.Al,Cg R.Al (R.Aj.length+1),s⟩ by unfold Dp;rw [hR]]
 dsimp only
 rw [hR] at hb
 refine enter func157 rfl ntmps157 fun w0=>?_
 refine El ?_
 rintro a1 c1 F1 rfl l1
 refine go ?_;intros
 refine cf (Wh x 0 _ F (by omega) (Nat.zero_le _) t0 t1) fun y _=>?_
 refine Ap ?_
 rw [e0,List.drop_zero]
 refine go ?_;intros
 rename_i g
 refine E6 [1,2,4,5,6] [2,3,4,5,6] (fun _:PuS=>[]) (fun z=>[.row g 29 0 [] [.int .i64 R.Al,.int .i64 x.size,.slice z.a R.Aj.length z.c] [],.ow Ba 9 (.slice z.a R.Aj.length z.c) R.Aj z.F]) (fun _=>True) ?_ fun z _=>?_
 ·refine Bg rfl (fun h1=>?_) (fun h1=>?_)
  ·have e:R=⟨Cg x.Al 1,x.size,x.Aj.drop 1⟩:=by rw [←hR];unfold Dk;rw [if_pos h1]
   rw [e]
   refine go ?_;intros
   refine cf (Wh x 1 _ F (by omega) (by omega) t0 t1) fun z _=>?_
   refine Ap ?_
   refine go ?_;intros
   refine Cd z trivial
  ·have e:R=x:=by rw [←hR];unfold Dk;rw [if_neg h1]
   rw [e]
   refine go ?_;intros
   refine Cd ⟨y.a,y.c,y.F⟩ trivial
 refine go ?_;intros
 refine cb (fun w st=>Qt _ _ _ _ _ w hb.1 hb.2 (by omega)) ?_
 rw [hnum]
 refine go ?_;intros
 apply wO
 refine Mf (E:=Ba) (ys:=[s]) (fun w=>⟨[.string s],[],[],[],rfl,rfl,⟨rfl,hs,rfl⟩,rfl,rfl⟩) Ed fun a7 c7 F7=>?_
 have hla:((R.Aj++[s]).length:Int)=R.Aj.length+1:=by simp
 refine go ?_;intros
 dsimp only [List.append]
 refine As [1] [] ?_
 refine dt 0 ?_
 refine dt 1 ?_
 refine dt 2 ?_
 refine dt 3 ?_
 refine dt 4 ?_
 refine dt 6 ?_
 refine dO 5 (by kernel_rfl) (by rw [List.getElem?_toArray];rfl) ?_
 apply At;rfl;kernel_rfl;exact Bf
 refine cb (fun w st=>Qt _ _ _ _ _ w hb.1 hb.2 (by omega)) ?_
 refine dk ?_
 refine dt 7 ?_
 refine dO 8 (by kernel_rfl) (by rw [List.getElem?_toArray];rfl) ?_
 apply Cs;rfl;rfl;rfl;(first|exact AggC.s|exact OneC.s);rfl;exact Cu;exact Ct;rfl
 refine dk ?_
 refine dO 9 (by kernel_rfl) (by rw [List.getElem?_toArray];rfl) ?_
 apply Cs;rfl;rfl;rfl;(first|exact AggC.s|exact OneC.s);rfl;exact Cu;exact Ct;rfl
 refine dk ?_
 refine dd ?_
 refine A1 (E:=Ba) (xs:=R.Aj++[s]) fun F8=>?_
 refine Ch ⟨R.Al,x.size,R.Aj++[s]⟩ ?_
 refine go ?_;intros
 refine ret (_,_) trivial ?_
 rw [hla];rfl
structure SeS where
 a:Option Addr
 c:Nat
 F:List Nat
 a2:Option Addr
 c2:Nat
 F2:List Nat
theorem Ann (x:Az) (s:ByteArray) (hs:List Gt) (g t o:Nat) (A B:List Value) (a a2:Option Addr) (c c2:Nat) (cl q:Int) (F F2:List Nat) (hl:x.Aj.length≤6) (t0:0≤x.Al) (t1:x.Al≤65535) (hss:s.size≤maxLen) (hz:1≤x.size) (hn:∀h∈hs,B9 h.Ae=true) :
  Fn prog 81 [Ez g o 0,.string s] [] [.row g t o A [.int .i64 x.Al,.int .i64 x.size,.slice a x.Aj.length c,.int .i64 cl,.int .i64 q,.slice a2 hs.length c2] B,.ow Bj 134 (.slice a2 hs.length c2) hs F2,.ow Ba 9 (.slice a x.Aj.length c) x.Aj F] (fun (_:SeS)=>True) (fun _=>.agg #[.int .i64 1,.int .i64 (Dp x s).Ae,.int .i64 (Dp x s).Al,.int .i64 (Dp x s).Ec,.string s])
   (fun z=>[.row g t o A [.int .i64 (Db x s).Al,.int .i64 (Db x s).size,.slice z.a (Db x s).Aj.length z.c,.int .i64 cl,.int .i64 0,.slice z.a2 (Ln (Db x s) hs).length z.c2] B,.ow Bj 134 (.slice z.a2 (Ln (Db x s) hs).length z.c2) (Ln (Db x s) hs) z.F2,.ow Ba 9 (.slice z.a (Db x s).Aj.length z.c) (Db x s).Aj z.F]):=by
 have hb:=Nt t0 t1
 refine enter func81 rfl ntmps81 fun w0=>?_
 refine go ?_;intros
 refine cf (Aqu x s g t o A B _ _ _ a c F hl (A9.2 ⟨t0,t1⟩) hss hz) fun z _=>?_
 refine Ap ?_
 refine go ?_;intros
 refine cf (Ad5 (Db x s) hs g t o A B z.a a2 z.c c2 cl 0 z.F F2 hb.1 hb.2 hn) fun y _=>?_
 refine Ap ?_
 refine go ?_;intros
 refine ret ⟨z.a,z.c,z.F,y.1,y.2.1,y.2.2⟩ trivial rfl
def Oc (x:Cj) (s:ByteArray):Cj:=⟨Db x.Aa s,x.Ai,0,Ln (Db x.Aa s) x.holds⟩
def zPk:Av:=⟨0,0,0,0,⟨#[]⟩⟩
def Uj (x:Az) (s:ByteArray):Bool:=Dw x && Oh s
end Go.Proofs.YtaemjogbahcbcaaGreatDoor
namespace Go.Proofs.YtaemjogbahcbcaaGreatDoor

open Go.RowKit
end Go.Proofs.YtaemjogbahcbcaaGreatDoor
namespace Go.Proofs.YtaemjogbahcbcaaGreatDoor
open Go.RowKit
def Lq (x:Az):Int:=Cg x.Al x.Aj.length
def Ud (x:Az) (n:Int):ByteArray:=x.Aj.getD (gp x.Al n).toNat ⟨#[]⟩
def Alv (x:Az) (n:Int):Bool:=Dw x && B9 n && Hn x n
def Oo (x:Az):Av:=⟨5,x.Al,x.Al,Lq x,⟨#[]⟩⟩
def Im (x:Az) (p:Av):Bool:=Dw x && Bp p && decide (p.Df=3) && Hn x p.Ae
def Adj (x:Az) (n:Int):Av:=⟨2,n,x.Al,Lq x,Ud x n⟩
def Dj (x:Az) (p:Av):Av × Bool:=if Im x p then (Adj x p.Ae,true) else (zPk,false)
theorem Alh (x:Az):0≤Lq x∧Lq x≤65535:=Ht _ _
theorem Aev {x:Az} (h1:1≤x.size):Lq (Dk x)=Lq x:=by
 unfold Dk
 split
 ·rename_i h
  unfold Lq
  simp only [List.length_drop]
  unfold Cg
  omega
 ·rfl
theorem Af0 {x:Az} {s:ByteArray} (h:Uj x s=true):Dw x=true∧Dw (Db x s)=true∧Alv (Db x s) (Dp x s).Ae=true∧Ud (Db x s) (Dp x s).Ae=s∧(Dp x s).Ae=Lq x∧gp (Lq x) (Lq (Db x s))=1∧(Dp x s).Ec=Lq (Db x s)∧(Dp x s).Al=(Db x s).Al:=by
 unfold Uj at h
 simp only [Bool.and_eq_true] at h
 obtain ⟨hg,hs⟩:=h
 obtain ⟨⟨t0,t1⟩,⟨z0,z1⟩,hl,hi⟩:=D6.1 hg
 have hr:0≤(Dk x).Al∧(Dk x).Al≤65535:=Nt t0 t1
 have hn:((Dk x).Aj.length:Int)+1≤x.size∧(Dk x).Aj.all Oh=true:=by
  unfold Dk
  split
  ·rename_i h
   refine ⟨by simp only [List.length_drop];omega,?_⟩
   rw [List.all_eq_true] at hi ⊢
   exact fun z hz=>hi z (List.mem_of_mem_drop hz)
  ·exact ⟨by omega,hi⟩
 have hlead:=Aev (x:=x) z0
 have hgo:Dw (Db x s)=true:=by
  refine D6.2 ⟨hr,⟨z0,z1⟩,?_,?_⟩
  ·show (((Dk x).Aj++[s]).length:Int)≤x.size
   simp only [List.length_append,List.length_cons,List.length_nil];omega
  ·show ((Dk x).Aj++[s]).all Oh=true
   simp [hn.2,hs]
 have hnum:(Dp x s).Ae=Lq x:=rfl
 have hgap:gp (Db x s).Al (Lq x)=((Dk x).Aj.length:Nat):=by
  rw [←hlead]
  show gp (Dk x).Al (Lq (Dk x))=_
  unfold Lq gp Cg
  omega
 have b:=Alh x
 refine ⟨hg,hgo,?_,?_,rfl,?_,?_,rfl⟩
 ·unfold Alv
  rw [hgo,hnum,A9.2 b,Hn,hgap]
  show decide (((Dk x).Aj.length:Int) < (((Dk x).Aj++[s]).length:Nat))=true
  simp only [List.length_append,List.length_cons,List.length_nil,decide_eq_true_eq]
  omega
 ·unfold Ud
  rw [hnum,hgap]
  show ((Dk x).Aj++[s]).getD _ _=s
  simp
 ·rw [←hlead]
  show gp (Lq (Dk x)) (Cg (Dk x).Al (((Dk x).Aj++[s]).length:Nat))=1
  unfold Lq gp Cg
  simp only [List.length_append,List.length_cons,List.length_nil]
  omega
 ·show Cg (Dk x).Al (((Dk x).Aj.length:Nat)+1)=Cg (Dk x).Al ((((Dk x).Aj++[s]).length:Nat))
  simp
theorem Aex (t z:Int) (a:Option Addr) (n c:Nat) (h0:0≤t) (h1:t≤65535) (hn:n≤4294967296):Fn prog 197 [.agg #[.int .i64 t,.int .i64 z,.slice a n c]] [] [] (fun (_:Unit)=>True) (fun _=>.agg #[.int .i64 5,.int .i64 t,.int .i64 t,.int .i64 (Cg t n),.string ⟨#[]⟩]) (fun _=>[]):=by
 refine enter func197 rfl ntmps197 fun w0=>?_
 refine go ?_;intros
 refine As [1] [7] ?_
 refine dt 0 ?_
 refine dt 1 ?_
 refine dt 2 ?_
 refine dt 3 ?_
 refine dt 4 ?_
 refine dO 5 (by kernel_rfl) (by rw [List.getElem?_toArray];rfl) ?_
 apply At;rfl;kernel_rfl;exact Bf
 refine cb (fun w _=>If t z a n c w h0 h1 hn) ?_
 refine dk ?_
 refine dt 6 ?_
 refine dO 7 (by kernel_rfl) (by rw [List.getElem?_toArray];rfl) ?_
 apply Cs;rfl;rfl;rfl;(first|exact AggC.s|exact OneC.s);rfl;exact Cu;exact Ct;rfl
 refine Ng ?_
 refine dd ?_
 refine go ?_;intros
 refine ret () trivial rfl
theorem Uh (t z:Int) (a:Option Addr) (n c:Nat) (h0:0≤t) (h1:t≤65535) (hn:n≤4294967296):Fn prog 186 [.agg #[.int .i64 t,.int .i64 z,.slice a n c]] [] [] (fun (_:Unit)=>True) (fun _=>.agg #[.int .i64 5,.int .i64 t,.int .i64 t,.int .i64 (Cg t n),.string ⟨#[]⟩]) (fun _=>[]):=by
 refine enter func186 rfl ntmps186 fun w0=>?_
 refine go ?_;intros
 refine As [1] [7] ?_
 refine dt 0 ?_
 refine dt 1 ?_
 refine dt 2 ?_
 refine dt 3 ?_
 refine dt 4 ?_
 refine dO 5 (by kernel_rfl) (by rw [List.getElem?_toArray];rfl) ?_
 apply At;rfl;kernel_rfl;exact Bf
 refine cb (fun w _=>Qt t z a n c w h0 h1 hn) ?_
 refine dk ?_
 refine dt 6 ?_
 refine dO 7 (by kernel_rfl) (by rw [List.getElem?_toArray];rfl) ?_
 apply Cs;rfl;rfl;rfl;(first|exact AggC.s|exact OneC.s);rfl;exact Cu;exact Ct;rfl
 refine Ng ?_
 refine dd ?_
 refine go ?_;intros
 refine ret () trivial rfl
def Qq (cl:Int) (hs:List Gt):List Gt:=hs.filter fun h=>!decide (h.Ca≤cl)
def Oq (q:Int):Int:=if q+1 < 4 then q+1 else 0
def Lc (x:Az) (q:Int):List Av:=if q+1 < 4 then [] else [Oo x]
def Kb (x:Cj):Cj:=⟨x.Aa,x.Ai+1,Oq x.quiet,Qq (x.Ai+1) x.holds⟩
theorem Aer {x:Cj} (h:Cc x=true):0≤x.quiet∧x.quiet≤3:=by
 unfold Cc Ig at h
 simp only [Bool.and_eq_true,decide_eq_true_eq] at h
 exact h.1.2
theorem Aia {x:Cj} (h:Cc x=true):∀z∈x.holds,Hn x.Aa z.Ae=true:=fun z hz=>by
 unfold Cc at h
 simp only [Bool.and_eq_true] at h
 obtain ⟨i,hi,rfl⟩:=List.getElem_of_mem hz
 have:=List.all_eq_true.1 h.2 i (by simpa using hi)
 rw [M3 hi] at this
 simp only [Bool.and_eq_true] at this
 exact this.1.1.2
structure TiS where
 a:Option Addr
 c:Nat
 a2:Option Addr
 c2:Nat
 F:List Nat
 ae:Option Addr
 ce:Nat
 Fe:List Nat
theorem Ao5 (h:Gt) (gb g o:Nat) (u v0 v1 v2 q Hs:Value) (cl:Int) (G:List Nat) :
  Fn prog 196 [u,Ez gb 0 0] [.isv Bj u h G,.cel gb 0 [Ez g o 0],.cel g o [v0,v1,v2,.int .i64 cl,q,Hs]] [] (fun (_:Unit)=>True) (fun _=>.bool (decide (h.Ca≤cl))) (fun _=>[]):=by
 refine enter func196 rfl ntmps196 fun w0=>?_
 refine Aej ?_
 rintro _ rfl
 refine go ?_;intros
 refine As [0,2,3] [] ?_
 refine dt 0 ?_
 refine dt 1 ?_
 refine dt 2 ?_
 refine dt 3 ?_
 refine dt 4 ?_
 refine dt 5 ?_
 refine dt 6 ?_
 refine dt 7 ?_
 refine dd ?_
 refine go ?_;intros
 refine ret () trivial rfl
theorem Ao6 (hs:List Gt) (gb tb g t o:Nat) (A B:List Value) (v0 v1 v2:Value) (v3:Value) (a2:Option Addr) (c2:Nat) (cl q:Int) (F2:List Nat) :
  Fn prog 194 [.slice a2 hs.length c2,.func (.func 196) #[] #[Ez gb 0 0]] [] [.ow Bj 134 (.slice a2 hs.length c2) hs F2,.row gb tb 0 [] [Ez g o 0] [],.row g t o A [v0,v1,v2,.int .i64 cl,.int .i64 q,v3] B] (fun (_:Option Addr × Nat × List Nat)=>True)
   (fun z=>.slice z.1 (Qq cl hs).length z.2.1) (fun z=>[.ow Bj 134 (.slice z.1 (Qq cl hs).length z.2.1) (Qq cl hs) z.2.2,.row gb tb 0 [] [Ez g o 0] [],.row g t o A [v0,v1,v2,.int .i64 cl,.int .i64 q,v3] B]):=by
 refine Afn rfl fun w ⟨hnd,ho⟩ _ hk=>?_
 refine (Rz _ (Q6 (by kernel_rfl)) #[Ez gb 0 0] _ hs F2 (fun h=>decide (h.Ca≤cl)) w ho hnd fun k hk2 wr u G hK hu=>?_).mono ?_
 ·have hr:=hk wr hK
  have r1:=hr (.row gb tb 0 [] [Ez g o 0] []) (by simp)
  have r2:=hr (.row g t o A [v0,v1,v2,.int .i64 cl,.int .i64 q,v3] B) (by simp)
  refine (Ao5 hs[k] gb g o u v0 v1 v2 (.int .i64 q) v3 cl G).val wr ?_
  intro p hp
  simp only [List.mem_cons,List.not_mem_nil,or_false] at hp
  rcases hp with rfl|rfl|rfl
  ·exact hu
  ·exact ⟨by simp,Gh r1⟩
  ·exact ⟨by simp,Gh r2⟩
 ·rintro e w' ⟨v',F',rfl,h1,h2,h3,h4⟩
  have e:(hs.filter fun x=>!(fun h:Gt=>decide (h.Ca≤cl)) x)=Qq cl hs:=rfl
  rw [e] at h1
  obtain ⟨a',c',rfl⟩:=h1.slice
  exact ⟨(a',c',F'),trivial,rfl,⟨h2,h1⟩,fun b hb=>.inl (h3 b hb),h4⟩
theorem Ano (W:Az) (hs:List Gt) (g t o:Nat) (A B:List Value) (a a2:Option Addr) (c c2:Nat) (cl q:Int) (F2:List Nat) (t0:0≤W.Al) (t1:W.Al≤65535) (hl:W.Aj.length≤6) (k0:0≤cl) (k1:cl≤9999) (q0:0≤q) (q3:q≤3) :
  Fn prog 141 [Ez g o 0] [] [.row g t o A [.int .i64 W.Al,.int .i64 W.size,.slice a W.Aj.length c,.int .i64 cl,.int .i64 q,.slice a2 hs.length c2] B,.ow Bj 134 (.slice a2 hs.length c2) hs F2] (fun (_:TiS)=>True)
   (fun z=>.slice z.ae (Lc W q).length z.ce) (fun z=>[.row g t o A [.int .i64 W.Al,.int .i64 W.size,.slice a W.Aj.length c,.int .i64 (cl+1),.int .i64 (Oq q),.slice z.a2 (Qq (cl+1) hs).length z.c2] B,.ow Bj 134 (.slice z.a2 (Qq (cl+1) hs).length z.c2) (Qq (cl+1) hs) z.F,.ow Ak 110 (.slice z.ae (Lc W q).length z.ce) (Lc W q) z.Fe]):=by
 refine enter func141 rfl ntmps141 fun w0=>?_
 refine go ?_;intros
 refine As [0,1] [9] ?_
 refine dt 0 ?_
 refine dt 1 ?_
 refine dt 2 ?_
 refine dt 3 ?_
 refine dt 4 ?_
 refine dt 5 ?_
 refine dO 6 (by kernel_rfl) (by rw [List.getElem?_toArray];rfl) ?_
 apply At;rfl;kernel_rfl;exact Bf
 refine cf (Ao6 hs _ _ g t o A B _ _ _ _ a2 c2 (cl+1) q F2) fun z _=>?_
 refine Ap ?_
 refine dk ?_
 refine dt 7 ?_
 refine dt 8 ?_
 refine dO 9 (by kernel_rfl) (by rw [List.getElem?_toArray];rfl) ?_
 apply Cs;rfl;rfl;rfl;(first|exact AggC.s|exact OneC.s);rfl;exact Cu;exact Ct;rfl
 refine Ng ?_
 refine dd ?_
 refine go ?_;intros
 refine Bg rfl (fun h1=>?_) (fun h1=>?_)
 ·refine Cb Ak 110 ?_
  refine go ?_;intros
  rw [show Oq q=q+1 from if_pos h1,show Lc W q=[] from if_pos h1]
  refine ret ⟨none,0,z.1,z.2.1,z.2.2,none,0,[]⟩ trivial rfl
 ·refine go ?_;intros
  refine cf (Aex W.Al W.size a W.Aj.length c t0 t1 (by omega)) fun _ _=>?_
  refine Ap ?_
  refine go ?_;intros
  refine Ei (xs:=[Oo W]) (C5 _ (by show (⟨#[]⟩:ByteArray).size≤maxLen;decide)) ?_ (by simp)
  rw [show Oq q=0 from if_neg h1,show Lc W q=[Oo W] from if_neg h1]
  refine ret ⟨none,0,z.1,z.2.1,z.2.2,_,_,_⟩ trivial rfl
theorem O6 (x:Az) (v:Value) (F:List Nat) (t0:0≤x.Al) (t1:x.Al≤65535) (hl:x.Aj.length≤4294967296):Fn prog 117 [v,.int .i64 0] [.isv Bx v x F] [] (fun (_:Value × List Nat)=>True) (fun s=>s.1) (fun s=>[.own N2 s.1 x s.2]):=by
 have e0:Cg x.Al ((0:Nat):Int)=x.Al:=by unfold Cg;omega
 have h:=Wh x 0 v F hl (Nat.zero_le _) t0 t1
 rw [e0,List.drop_zero] at h
 refine An3 fun w hA=>(h.made w hA (fun _=>rfl)).mono ?_
 rintro e w' ⟨z, -,he,hh,hn,hF,hB⟩
 obtain ⟨h1,h2⟩:=hh (.ow Ba 9 (.slice z.a x.Aj.length z.c) x.Aj z.F) (by simp)
 exact ⟨(_,z.F),trivial,he,⟨h1,_,rfl,_,rfl,h2⟩,fun b hb=>hF b (by simpa [fp,Pc.F,Pc.mu] using hb),hB⟩
theorem Aoa {W:Az} {cl:Int} {hs:List Gt} (h:∀z∈hs,Hn W z.Ae=true):Gp W cl hs=Qq cl hs:=by
 unfold Gp Qq
 refine List.filter_congr fun z hz=>?_
 rw [h z hz,Bool.true_and]
 by_cases hc:cl < z.Ca
 ·rw [decide_eq_true hc,decide_eq_false (by omega)];rfl
 ·rw [decide_eq_false hc,decide_eq_true (by omega)];rfl
def Kq (x:Cj):Cj:=⟨x.Aa,x.Ai+1,Oq x.quiet,Gp x.Aa (x.Ai+1) x.holds⟩
theorem Y6 (x:Cj) (v:Value) (F:List Nat) (t0:0≤x.Aa.Al) (t1:x.Aa.Al≤65535) (hl:x.Aa.Aj.length≤6) (k0:0≤x.Ai) (k1:x.Ai≤99999) (q0:0≤x.quiet) (q3:x.quiet≤3) (hm:x.holds.length≤1000) (hn:Ty x.holds) :
  Fn prog 127 [v] [.isv Dm v x F] [] (fun (_:TiS)=>True) (fun s=>.tuple #[.agg #[.int .i64 (Kq x).Aa.Al,.int .i64 (Kq x).Aa.size,.slice s.a (Kq x).Aa.Aj.length s.c,.int .i64 (Kq x).Ai,.int .i64 (Kq x).quiet,.slice s.a2 (Kq x).holds.length s.c2],.slice s.ae (Lc x.Aa x.quiet).length s.ce])
   (fun s=>[.isv Dm (.agg #[.int .i64 (Kq x).Aa.Al,.int .i64 (Kq x).Aa.size,.slice s.a (Kq x).Aa.Aj.length s.c,.int .i64 (Kq x).Ai,.int .i64 (Kq x).quiet,.slice s.a2 (Kq x).holds.length s.c2]) (Kq x) s.F,.ow Ak 110 (.slice s.ae (Lc x.Aa x.quiet).length s.ce) (Lc x.Aa x.quiet) s.Fe]):=by
 refine enter func127 rfl ntmps127 fun w0=>?_
 refine Ex ?_
 rintro a1 c1 F1 a2 c2 F2 rfl l1 l2
 refine Ch x.Aa (a1:=a1) ?_
 refine go ?_;intros
 refine cf (O6 x.Aa _ F1 t0 t1 (by omega)) fun y _=>?_
 refine Ap ?_
 refine Ik ?_
 rintro a5 c5 F5 e5 l5
 rw [e5]
 have hH:=fun v a c F G=>Xi x.Aa x.holds (x.Ai+1) v a c F G t0 t1 (by omega) hn
 refine go ?_;intros
 refine A1 (xs:=x.Aa.Aj) fun F8=>?_
 refine Ch x.Aa (a1:=a5) ?_
 refine As [2,4] [] ?_
 refine dt 0 ?_
 refine dt 1 ?_
 refine dt 2 ?_
 refine dt 3 ?_
 refine dt 4 ?_
 refine dt 5 ?_
 refine dt 6 ?_
 refine dt 7 ?_
 refine dt 8 ?_
 refine dt 9 ?_
 refine dt 10 ?_
 refine dt 11 ?_
 refine dt 12 ?_
 refine Ov 13 15 (by kernel_rfl) (by rw [List.getElem?_toArray];rfl) (by rw [List.getElem?_toArray];rfl) ?_ ?_
 ·apply At;rfl;kernel_rfl;exact Bf
  refine cf (hH _ a2 c2 _ _) fun z _=>?_
  refine Ap ?_
  refine dk ?_
  refine dt 14 ?_
  refine dO 15 (by kernel_rfl) (by rw [List.getElem?_toArray];rfl) ?_
  apply Ce;rfl;intro _
  refine dk ?_
  refine dO 16 (by kernel_rfl) (by rw [List.getElem?_toArray];rfl) ?_
  apply Cs;rfl;rfl;rfl;(first|exact AggC.s|exact OneC.s);rfl;exact Cu;exact Ct;rfl
  refine dk ?_
  refine dd ?_
  refine go ?_;intros
  refine Bg rfl (fun h1=>?_) (fun h1=>?_)
  ·rw [show Kq x=⟨x.Aa,x.Ai+1,0,Gp x.Aa (x.Ai+1) x.holds⟩ from by unfold Kq Oq;rw [if_neg (by omega)],show Lc x.Aa x.quiet=[Oo x.Aa] from if_neg (by omega)]
   refine go ?_;intros
   refine A1 (E:=Bj) fun F9=>?_
   refine Dr ⟨x.Aa,x.Ai+1,0,Gp x.Aa (x.Ai+1) x.holds⟩ (a1:=a5) ?_
   refine As [2,5] [] ?_
   refine dt 0 ?_
   refine dt 1 ?_
   refine dO 2 (by kernel_rfl) (by rw [List.getElem?_toArray];rfl) ?_
   apply At;rfl;kernel_rfl;exact Bf
   refine cf (Uh x.Aa.Al x.Aa.size _ x.Aa.Aj.length _ t0 t1 (by omega)) fun _ _=>?_
   refine Ap ?_
   refine dk ?_
   refine Ov 3 4 (by kernel_rfl) (by rw [List.getElem?_toArray];rfl) (by rw [List.getElem?_toArray];rfl) ?_ ?_
   ·apply Ho;rfl;rfl;rfl;rfl;exact Hl;exact Hg;intro _
    refine dk ?_
    refine dO 4 (by kernel_rfl) (by rw [List.getElem?_toArray];rfl) ?_
    apply Cs;rfl;rfl;rfl;(first|exact AggC.s|exact OneC.s);rfl;exact Cu;exact Ct;rfl
    refine dk ?_
    refine dt 5 ?_
    refine dd ?_
    refine go ?_;intros
    refine Ei (xs:=[Oo x.Aa]) (C5 _ (by show (⟨#[]⟩:ByteArray).size≤maxLen;decide)) ?_ (by simp)
    refine ret ⟨_,_,_,_,_,_,_,_⟩ trivial rfl
   ·apply Cs;rfl;rfl;rfl;(first|exact AggC.s|exact OneC.s);rfl;exact Cu;exact Ct;rfl
    refine dk ?_
    refine dO 3 (by kernel_rfl) (by rw [List.getElem?_toArray];rfl) ?_
    apply Ho;rfl;rfl;rfl;rfl;exact Hl;exact Hg;intro _
    refine dk ?_
    refine dt 5 ?_
    refine dd ?_
    refine go ?_;intros
    refine Ei (xs:=[Oo x.Aa]) (C5 _ (by show (⟨#[]⟩:ByteArray).size≤maxLen;decide)) ?_ (by simp)
    refine ret ⟨_,_,_,_,_,_,_,_⟩ trivial rfl
  ·rw [show Kq x=⟨x.Aa,x.Ai+1,x.quiet+1,Gp x.Aa (x.Ai+1) x.holds⟩ from by unfold Kq Oq;rw [if_pos (by omega)],show Lc x.Aa x.quiet=[] from if_pos (by omega)]
   refine go ?_;intros
   refine C9 Ak ?_
   refine A1 (E:=Bj) fun F9=>?_
   refine Dr ⟨x.Aa,x.Ai+1,x.quiet+1,Gp x.Aa (x.Ai+1) x.holds⟩ (a1:=a5) ?_
   refine ret ⟨_,_,_,_,_,_,_,_⟩ trivial rfl
 ·apply Ce;rfl;intro _
  refine dk ?_
  refine dO 13 (by kernel_rfl) (by rw [List.getElem?_toArray];rfl) ?_
  apply At;rfl;kernel_rfl;exact Bf
  refine cf (hH _ a2 c2 _ _) fun z _=>?_
  refine Ap ?_
  refine dk ?_
  refine dt 14 ?_
  refine dO 16 (by kernel_rfl) (by rw [List.getElem?_toArray];rfl) ?_
  apply Cs;rfl;rfl;rfl;(first|exact AggC.s|exact OneC.s);rfl;exact Cu;exact Ct;rfl
  refine dk ?_
  refine dd ?_
  refine go ?_;intros
  refine Bg rfl (fun h1=>?_) (fun h1=>?_)
  ·rw [show Kq x=⟨x.Aa,x.Ai+1,0,Gp x.Aa (x.Ai+1) x.holds⟩ from by unfold Kq Oq;rw [if_neg (by omega)],show Lc x.Aa x.quiet=[Oo x.Aa] from if_neg (by omega)]
   refine go ?_;intros
   refine A1 (E:=Bj) fun F9=>?_
   refine Dr ⟨x.Aa,x.Ai+1,0,Gp x.Aa (x.Ai+1) x.holds⟩ (a1:=a5) ?_
   refine As [2,5] [] ?_
   refine dt 0 ?_
   refine dt 1 ?_
   refine dO 2 (by kernel_rfl) (by rw [List.getElem?_toArray];rfl) ?_
   apply At;rfl;kernel_rfl;exact Bf
   refine cf (Uh x.Aa.Al x.Aa.size _ x.Aa.Aj.length _ t0 t1 (by omega)) fun _ _=>?_
   refine Ap ?_
   refine dk ?_
   refine Ov 3 4 (by kernel_rfl) (by rw [List.getElem?_toArray];rfl) (by rw [List.getElem?_toArray];rfl) ?_ ?_
   ·apply Ho;rfl;rfl;rfl;rfl;exact Hl;exact Hg;intro _
    refine dk ?_
    refine dO 4 (by kernel_rfl) (by rw [List.getElem?_toArray];rfl) ?_
    apply Cs;rfl;rfl;rfl;(first|exact AggC.s|exact OneC.s);rfl;exact Cu;exact Ct;rfl
    refine dk ?_
    refine dt 5 ?_
    refine dd ?_
    refine go ?_;intros
    refine Ei (xs:=[Oo x.Aa]) (C5 _ (by show (⟨#[]⟩:ByteArray).size≤maxLen;decide)) ?_ (by simp)
    refine ret ⟨_,_,_,_,_,_,_,_⟩ trivial rfl
   ·apply Cs;rfl;rfl;rfl;(first|exact AggC.s|exact OneC.s);rfl;exact Cu;exact Ct;rfl
    refine dk ?_
    refine dO 3 (by kernel_rfl) (by rw [List.getElem?_toArray];rfl) ?_
    apply Ho;rfl;rfl;rfl;rfl;exact Hl;exact Hg;intro _
    refine dk ?_
    refine dt 5 ?_
    refine dd ?_
    refine go ?_;intros
    refine Ei (xs:=[Oo x.Aa]) (C5 _ (by show (⟨#[]⟩:ByteArray).size≤maxLen;decide)) ?_ (by simp)
    refine ret ⟨_,_,_,_,_,_,_,_⟩ trivial rfl
  ·rw [show Kq x=⟨x.Aa,x.Ai+1,x.quiet+1,Gp x.Aa (x.Ai+1) x.holds⟩ from by unfold Kq Oq;rw [if_pos (by omega)],show Lc x.Aa x.quiet=[] from if_pos (by omega)]
   refine go ?_;intros
   refine C9 Ak ?_
   refine A1 (E:=Bj) fun F9=>?_
   refine Dr ⟨x.Aa,x.Ai+1,x.quiet+1,Gp x.Aa (x.Ai+1) x.holds⟩ (a1:=a5) ?_
   refine ret ⟨_,_,_,_,_,_,_,_⟩ trivial rfl
theorem Am1 {x:Cj} (hg:Cc x=true):Kq x=Kb x:=by unfold Kq Kb;rw [Aoa (Aia hg)]
theorem Air (x:Cj) (v:Value) (F:List Nat) (hg:Cc x=true) :
  Fn prog 127 [v] [.isv Dm v x F] [] (fun (_:TiS)=>True) (fun s=>.tuple #[.agg #[.int .i64 (Kb x).Aa.Al,.int .i64 (Kb x).Aa.size,.slice s.a (Kb x).Aa.Aj.length s.c,.int .i64 (Kb x).Ai,.int .i64 (Kb x).quiet,.slice s.a2 (Kb x).holds.length s.c2],.slice s.ae (Lc x.Aa x.quiet).length s.ce])
   (fun s=>[.isv Dm (.agg #[.int .i64 (Kb x).Aa.Al,.int .i64 (Kb x).Aa.size,.slice s.a (Kb x).Aa.Aj.length s.c,.int .i64 (Kb x).Ai,.int .i64 (Kb x).quiet,.slice s.a2 (Kb x).holds.length s.c2]) (Kb x) s.F,.ow Ak 110 (.slice s.ae (Lc x.Aa x.quiet).length s.ce) (Lc x.Aa x.quiet) s.Fe]):=by
 obtain ⟨gw,hl,t0,t1,k0,k1,hm,hn,hu,hb⟩:=Ll hg
 obtain ⟨q0,q3⟩:=Aer hg
 have h:=Y6 x v F t0 t1 hl k0 (by omega) q0 q3 (by omega) (Yg hn)
 rw [Am1 hg] at h
 exact h
theorem R8 (p:Av) (hs:p.data.size≤maxLen):Fn prog 166 [.agg #[.int .i64 p.Df,.int .i64 p.Ae,.int .i64 p.Al,.int .i64 p.Ec,.string p.data]] [] [] (fun (_:Unit)=>True) (fun _=>.bool (Bp p)) (fun _=>[]):=by
 refine enter func166 rfl ntmps166 fun w0=>?_
 refine go ?_;intros
 refine ce (fun w s=>Ie _ _ _ _) ?_
 cases g1:Ig 1 p.Df 5
 ·refine go ?_;intros
  refine ret () trivial ?_
  show Value.bool _=Value.bool _;congr 1;unfold Bp;simp [g1]
 refine go ?_;intros
 refine ce (fun w s=>Ih _ _) ?_
 cases g2:B9 p.Ae
 ·refine go ?_;intros
  refine ret () trivial ?_
  show Value.bool _=Value.bool _;congr 1;unfold Bp;simp [g2]
 refine go ?_;intros
 refine ce (fun w s=>Ih _ _) ?_
 cases g3:B9 p.Al
 ·refine go ?_;intros
  refine ret () trivial ?_
  show Value.bool _=Value.bool _;congr 1;unfold Bp;simp [g3]
 refine go ?_;intros
 refine ce (fun w s=>Ih _ _) ?_
 cases g4:B9 p.Ec
 ·refine go ?_;intros
  refine ret () trivial ?_
  show Value.bool _=Value.bool _;congr 1;unfold Bp;simp [g4]
 refine go ?_;intros
 refine cb (fun w s=>Y4 _ _ hs) ?_
 cases g5:Oh p.data
 ·refine go ?_;intros
  refine ret () trivial ?_
  show Value.bool _=Value.bool _;congr 1;unfold Bp;simp [g5]
 obtain ⟨t0,t1⟩:=A9.1 g3
 obtain ⟨l0,l1⟩:=A9.1 g4
 refine go ?_;intros
 refine ce (fun w s=>Mo _ _ _ (by omega) (by omega) (by omega) (by omega)) ?_
 refine go ?_;intros
 refine Dc rfl rfl (fun h6=>?_) (fun h6=>?_)
 ·refine go ?_;intros
  refine Dc rfl rfl (fun h7=>?_) (fun h7=>?_)
  ·refine go ?_;intros
   refine ret () trivial ?_
   show Value.bool _=Value.bool _;congr 1;unfold Bp;rw [g1,g2,g3,g4,g5,decide_eq_true h6,decide_eq_true h7];rfl
  refine go ?_;intros
  refine Dc rfl rfl (fun h8=>?_) (fun h8=>?_)
  ·refine go ?_;intros
   refine ret () trivial ?_
   show Value.bool _=Value.bool _;congr 1;unfold Bp;rw [g1,g2,g3,g4,g5,decide_eq_true h6,decide_eq_true h8];simp
  ·refine go ?_;intros
   refine ret () trivial ?_
   show Value.bool _=Value.bool _;congr 1;unfold Bp;rw [g1,g2,g3,g4,g5,decide_eq_true h6,decide_eq_false h7,decide_eq_false h8];rfl
 ·refine go ?_;intros
  refine ret () trivial ?_
  show Value.bool _=Value.bool _;congr 1;unfold Bp;simp [h6]
theorem Aea (p:Av) (hs:p.data.size≤maxLen):Fn prog 213 [.agg #[.int .i64 p.Df,.int .i64 p.Ae,.int .i64 p.Al,.int .i64 p.Ec,.string p.data]] [] [] (fun (_:Unit)=>True) (fun _=>.bool (Bp p)) (fun _=>[]):=by
 refine enter func213 rfl ntmps213 fun w0=>?_
 refine go ?_;intros
 refine ce (fun w s=>Kg _ _ _ _) ?_
 cases g1:Ig 1 p.Df 5
 ·refine go ?_;intros
  refine ret () trivial ?_
  show Value.bool _=Value.bool _;congr 1;unfold Bp;simp [g1]
 refine go ?_;intros
 refine ce (fun w s=>Lp _ _) ?_
 cases g2:B9 p.Ae
 ·refine go ?_;intros
  refine ret () trivial ?_
  show Value.bool _=Value.bool _;congr 1;unfold Bp;simp [g2]
 refine go ?_;intros
 refine ce (fun w s=>Lp _ _) ?_
 cases g3:B9 p.Al
 ·refine go ?_;intros
  refine ret () trivial ?_
  show Value.bool _=Value.bool _;congr 1;unfold Bp;simp [g3]
 refine go ?_;intros
 refine ce (fun w s=>Lp _ _) ?_
 cases g4:B9 p.Ec
 ·refine go ?_;intros
  refine ret () trivial ?_
  show Value.bool _=Value.bool _;congr 1;unfold Bp;simp [g4]
 obtain ⟨t0,t1⟩:=A9.1 g3
 obtain ⟨l0,l1⟩:=A9.1 g4
 refine go ?_;intros
 refine ce (fun w s=>H8 _ _ _ (by omega) (by omega)) ?_
 refine go ?_;intros
 refine Dc rfl rfl (fun h6=>?_) (fun h6=>?_)
 ·refine go ?_;intros
  refine ret () trivial ?_
  have h6:¬gp p.Al p.Ec≤32767:=by omega
  show Value.bool _=Value.bool _;congr 1;unfold Bp;simp [h6]
 have h6:gp p.Al p.Ec≤32767:=by omega
 refine go ?_;intros
 refine ce (fun w s=>P2 _ _ _ hs) ?_
 rw [show (decide ((p.data.size:Int)≤8) && Rf p.data.data.toList)=Oh p.data from rfl]
 cases g5:Oh p.data
 ·refine go ?_;intros
  refine ret () trivial ?_
  show Value.bool _=Value.bool _;congr 1;unfold Bp;simp [g5]
 refine go ?_;intros
 refine Dc rfl rfl (fun h7=>?_) (fun h7=>?_)
 ·refine go ?_;intros
  refine ret () trivial ?_
  show Value.bool _=Value.bool _;congr 1;unfold Bp;rw [g1,g2,g3,g4,g5,decide_eq_true h6,decide_eq_true h7];rfl
 refine go ?_;intros
 refine Dc rfl rfl (fun h8=>?_) (fun h8=>?_)
 ·refine go ?_;intros
  refine ret () trivial ?_
  show Value.bool _=Value.bool _;congr 1;unfold Bp;rw [g1,g2,g3,g4,g5,decide_eq_true h6,decide_eq_true h8];simp
 ·refine go ?_;intros
  refine ret () trivial ?_
  show Value.bool _=Value.bool _;congr 1;unfold Bp;rw [g1,g2,g3,g4,g5,decide_eq_true h6,decide_eq_false h7,decide_eq_false h8];rfl
theorem Jg {x:Az} {p:Av} (h:Im x p=false):Dj x p=(zPk,false):=by unfold Dj;rw [h];rfl
theorem Tv {x:Az} {p:Av} (h:Im x p=true):Dj x p=(Adj x p.Ae,true):=by unfold Dj;rw [h];rfl
theorem Va {x:Az} {n:Int} (h:Hn x n=true):(gp x.Al n).toNat < x.Aj.length:=by
 have b:=Jb x.Al n
 unfold Hn at h
 simp only [decide_eq_true_eq] at h
 omega
theorem Qp {x:Az} {n:Int} (h:(gp x.Al n).toNat < x.Aj.length):Ud x n=x.Aj[(gp x.Al n).toNat]:=by
 unfold Ud
 rw [List.getD_eq_getElem?_getD,List.getElem?_eq_getElem h];rfl
theorem Yh (x:Az) (p:Av) (v:Value) (F:List Nat) (hs:p.data.size≤maxLen):Fn prog 248 [v,.agg #[.int .i64 p.Df,.int .i64 p.Ae,.int .i64 p.Al,.int .i64 p.Ec,.string p.data]] [.isv Bx v x F] [] (fun (_:Unit)=>True) (fun _=>.tuple #[.agg #[.int .i64 (Dj x p).1.Df,.int .i64 (Dj x p).1.Ae,.int .i64 (Dj x p).1.Al,.int .i64 (Dj x p).1.Ec,.string (Dj x p).1.data],.bool (Dj x p).2]) (fun _=>[]):=by
 refine enter func248 rfl ntmps248 fun w0=>?_
 refine El ?_
 rintro a1 c1 F1 rfl l1
 refine go ?_;intros
 refine cb (fun w st=>Ol _ x _ w (st.get (p:=.isv Bx (.agg #[.int .i64 x.Al,.int .i64 x.size,.slice a1 x.Aj.length c1]) x F) (by simp))) ?_
 cases g1:Dw x
 ·refine go ?_;intros
  rw [Jg (by unfold Im;rw [g1];rfl)]
  refine ret () trivial rfl
 obtain ⟨⟨t0,t1⟩,⟨z0,z1⟩,hl,hi⟩:=D6.1 g1
 have hl6:x.Aj.length≤6:=by omega
 refine go ?_;intros
 refine cf (R8 p hs) fun _ _=>?_
 refine Ap ?_
 cases g2:Bp p
 ·refine go ?_;intros
  rw [Jg (by unfold Im;rw [g1,g2];rfl)]
  refine ret () trivial rfl
 obtain ⟨n0,n1⟩:=Iv g2
 refine go ?_;intros
 refine Dc rfl rfl (fun h3=>?_) (fun h3=>?_)
 ·refine go ?_;intros
  rw [Jg (by unfold Im;rw [g1,g2,decide_eq_false h3];rfl)]
  refine ret () trivial rfl
 have h3:=Decidable.not_not.1 h3
 refine go ?_;intros
 refine cb (fun w st=>(Sp x p.Ae _ F t0 t1 n0 n1).val w (Il (st.get (p:=.isv Bx (.agg #[.int .i64 x.Al,.int .i64 x.size,.slice a1 x.Aj.length c1]) x F) (by simp)))) ?_
 cases g3:Hn x p.Ae
 ·refine go ?_;intros
  rw [Jg (by unfold Im;rw [g1,g2,g3];simp)]
  refine ret () trivial rfl
 rw [Tv (by unfold Im;rw [g1,g2,g3,decide_eq_true h3];rfl)]
 have b:=Jb x.Al p.Ae
 have hk3:=Va g3
 rw [show Adj x p.Ae=⟨2,p.Ae,x.Al,Lq x,x.Aj[(gp x.Al p.Ae).toNat]⟩ by unfold Adj;rw [Qp hk3]]
 refine V1 (xs:=x.Aj) (gp x.Al p.Ae).toNat ?_
 rintro hi b2 o2 e s1
 rw [e]
 refine Jm ?_;intros
 refine As [0,2,3] [] ?_
 refine dt 0 ?_
 refine dt 1 ?_
 refine dt 2 ?_
 refine dt 3 ?_
 refine dt 4 ?_
 refine dt 6 ?_
 refine dt 7 ?_
 refine dt 8 ?_
 refine dt 9 ?_
 refine dt 10 ?_
 refine dt 11 ?_
 refine dO 5 (by kernel_rfl) (by rw [List.getElem?_toArray];rfl) ?_
 apply At;rfl;kernel_rfl;exact Bf
 refine cb (fun w _=>If _ _ _ _ _ w t0 t1 (by omega)) ?_
 refine dk ?_
 refine dO 12 (by kernel_rfl) (by rw [List.getElem?_toArray];rfl) ?_
 apply At;rfl;kernel_rfl;exact Bf
 refine ce (fun w s=>Mo _ _ _ (by omega) (by omega) (by omega) (by omega)) ?_
 refine dk ?_
 refine dt 13 ?_
 refine dt 14 ?_
 refine dt 15 ?_
 refine dO 16 (by kernel_rfl) (by rw [List.getElem?_toArray];rfl) ?_
 apply Cs;rfl;rfl;rfl;(first|exact AggC.s|exact OneC.s);rfl;exact Cu;exact Ct;rfl
 refine dk ?_
 refine dt 17 ?_
 refine dd ?_
 refine go ?_;intros
 refine ret () trivial rfl
theorem Zu (x:Az) (p:Av) (v:Value) (F:List Nat) (hs:p.data.size≤maxLen):Fn prog 188 [v,.agg #[.int .i64 p.Df,.int .i64 p.Ae,.int .i64 p.Al,.int .i64 p.Ec,.string p.data]] [.isv Bx v x F] [] (fun (_:Unit)=>True) (fun _=>.tuple #[.agg #[.int .i64 (Dj x p).1.Df,.int .i64 (Dj x p).1.Ae,.int .i64 (Dj x p).1.Al,.int .i64 (Dj x p).1.Ec,.string (Dj x p).1.data],.bool (Dj x p).2]) (fun _=>[]):=by
 refine enter func188 rfl ntmps188 fun w0=>?_
 refine El ?_
 rintro a1 c1 F1 rfl l1
 refine go ?_;intros
 refine cb (fun w st=>Aeb _ x _ w (st.get (p:=.isv Bx (.agg #[.int .i64 x.Al,.int .i64 x.size,.slice a1 x.Aj.length c1]) x F) (by simp))) ?_
 cases g1:Dw x
 ·refine go ?_;intros
  rw [Jg (by unfold Im;rw [g1];rfl)]
  refine ret () trivial rfl
 obtain ⟨⟨t0,t1⟩,⟨z0,z1⟩,hl,hi⟩:=D6.1 g1
 have hl6:x.Aj.length≤6:=by omega
 refine go ?_;intros
 refine cf (Aea p hs) fun _ _=>?_
 refine Ap ?_
 cases g2:Bp p
 ·refine go ?_;intros
  rw [Jg (by unfold Im;rw [g1,g2];rfl)]
  refine ret () trivial rfl
 obtain ⟨n0,n1⟩:=Iv g2
 refine go ?_;intros
 refine Dc rfl rfl (fun h3=>?_) (fun h3=>?_)
 ·refine go ?_;intros
  rw [Jg (by unfold Im;rw [g1,g2,decide_eq_false h3];rfl)]
  refine ret () trivial rfl
 have h3:=Decidable.not_not.1 h3
 refine go ?_;intros
 refine cb (fun w st=>(Aec x p.Ae _ F t0 t1 n0 n1).val w (Il (st.get (p:=.isv Bx (.agg #[.int .i64 x.Al,.int .i64 x.size,.slice a1 x.Aj.length c1]) x F) (by simp)))) ?_
 cases g3:Hn x p.Ae
 ·refine go ?_;intros
  rw [Jg (by unfold Im;rw [g1,g2,g3];simp)]
  refine ret () trivial rfl
 rw [Tv (by unfold Im;rw [g1,g2,g3,decide_eq_true h3];rfl)]
 have b:=Jb x.Al p.Ae
 have hk3:=Va g3
 rw [show Adj x p.Ae=⟨2,p.Ae,x.Al,Lq x,x.Aj[(gp x.Al p.Ae).toNat]⟩ by unfold Adj;rw [Qp hk3]]
 refine V1 (xs:=x.Aj) (gp x.Al p.Ae).toNat ?_
 rintro hi b2 o2 e s1
 rw [e]
 refine Jm ?_;intros
 refine As [0,2,3] [] ?_
 refine dt 0 ?_
 refine dt 1 ?_
 refine dt 2 ?_
 refine dt 3 ?_
 refine dt 4 ?_
 refine dt 6 ?_
 refine dt 7 ?_
 refine dt 8 ?_
 refine dt 9 ?_
 refine dt 10 ?_
 refine dt 11 ?_
 refine dO 5 (by kernel_rfl) (by rw [List.getElem?_toArray];rfl) ?_
 apply At;rfl;kernel_rfl;exact Bf
 refine cb (fun w _=>Qt _ _ _ _ _ w t0 t1 (by omega)) ?_
 refine dk ?_
 refine dO 12 (by kernel_rfl) (by rw [List.getElem?_toArray];rfl) ?_
 apply At;rfl;kernel_rfl;exact Bf
 refine ce (fun w s=>H8 _ _ _ (by omega) (by omega)) ?_
 refine dk ?_
 refine dt 13 ?_
 refine dt 14 ?_
 refine dt 15 ?_
 refine dO 16 (by kernel_rfl) (by rw [List.getElem?_toArray];rfl) ?_
 apply Cs;rfl;rfl;rfl;(first|exact AggC.s|exact OneC.s);rfl;exact Cu;exact Ct;rfl
 refine dk ?_
 refine dt 17 ?_
 refine dd ?_
 refine go ?_;intros
 refine ret () trivial rfl
end Go.Proofs.YtaemjogbahcbcaaGreatDoor
