/- Part 5 of the proof: 48 texts, one behind the other. -/
import Derived.ArgAppend
import Derived.Lib.SliceRun
import Derived.Test.YtaemjogbahcbcaaGreatDoorShelf
import Derived.Lib.RowBridge
import Derived.Test.YtaemjogbahcbcaaGreatDoorM4
open _root_.Go.Proofs.Tryz
set_option maxRecDepth 100000
set_option maxHeartbeats 8000000
set_option linter.all false
set_option linter.unusedVariables false
set_option linter.unusedSimpArgs false
namespace Go.Proofs.YtaemjogbahcbcaaGreatDoor
open Go.RowKit
def P6 (q:List Aw) (p:Aw):List Aw:=if q.length < 6 then q++[p] else q
def E5 (q ps:List Aw):List Aw:=q++ps.take (6 - q.length)
theorem Acz (q:List Aw):E5 q []=q:=by unfold E5;simp
theorem Ahc (q:List Aw) (p:Aw) (ps:List Aw):E5 (P6 q p) ps=E5 q (p::ps):=by
 unfold E5 P6
 by_cases h:q.length < 6
 ·rw [if_pos h,show 6 - q.length=(6 - (q.length+1))+1 by omega,List.take_succ_cons]
  simp
 ·rw [if_neg h,show 6 - q.length=0 by omega];simp
theorem Ajv (q:List Aw) (p:Aw):E5 q [p]=P6 q p:=by rw [←Ahc,Acz]
theorem Aju (q ps:List Aw):(E5 q ps).length≤q.length+ps.length∧(q.length≤6→(E5 q ps).length≤6):=by
 unfold E5
 rw [List.length_append,List.length_take]
 omega
theorem Vh {q ps:List Aw} (hq:D9 q=true) (hp:∀p∈ps,Bk p=true):D9 (E5 q ps)=true:=by
 unfold D9 at *
 simp only [Bool.and_eq_true,decide_eq_true_eq] at hq ⊢
 refine ⟨(Aju q ps).2 hq.1,?_⟩
 unfold E5
 rw [List.all_append,hq.2,Bool.true_and,List.all_eq_true]
 exact fun p h=>hp p (List.mem_of_mem_take h)
def Dk (d:List (List Aw)) (nodes:List Int) (ps:List Aw):List (List Aw):=nodes.foldl (fun d x=>d.modify x.toNat fun q=>E5 q ps) d
theorem Tr (ps:List Aw):∀(nodes:List Int) (d:List (List Aw)),(Dk d nodes ps).length=d.length
 | [],_=>rfl
 | x::r,d=>by
  show (Dk (d.modify x.toNat fun q=>E5 q ps) r ps).length=d.length
  rw [Tr ps r,List.length_modify]
theorem Ac7 (d:List (List Aw)) (nodes:List Int) (x:Int) (ps:List Aw):Dk d (nodes++[x]) ps=(Dk d nodes ps).modify x.toNat fun q=>E5 q ps:=by
 unfold Dk
 rw [List.foldl_append];rfl
def Aom (f:Nat→Nat):Nat→List (List Aw)→Nat
 | _,[]=>0
 | k,x::r=>x.length * f k+Aom f (k+1) r
theorem Hf {l:List (List Aw)} {i:Nat} {g:List Aw→List Aw} (h:i < l.length):l.modify i g=l.set i (g l[i]):=by
 refine List.ext_getElem? fun j=>?_
 rw [List.getElem?_modify,List.getElem?_set]
 by_cases e:i=j
 ·subst e;simp [h]
 ·simp [e]
theorem X5 {l:List (List Aw)} {i:Nat} {g:List Aw→List Aw} (h:¬i < l.length):l.modify i g=l:=by
 refine List.ext_getElem? fun j=>?_
 rw [List.getElem?_modify]
 by_cases e:i=j
 ·subst e;simp [List.getElem?_eq_none (show l.length≤i by omega)]
 ·simp [e]
theorem Jj {l:List Int} (hg:Mu l) {i:Nat} {x:Int} (h:x∈Gb l (i:Int)):i < x.toNat∧x.toNat < l.length∧0≤x:=by
 obtain ⟨j,hj,rfl,e⟩:=Acg h
 rcases Nat.eq_zero_or_pos j with rfl|h0
 ·have:=hg.z hj;omega
 ·have:=(hg.p j hj h0).2;simp only [Int.toNat_natCast];omega
theorem P0 (l:List Int) (node:Int):(Gb l node).length≤l.length:=Xu l node l.length
theorem Alm (x:Es) (gb:Nat) (n:Int) (u:Value) (G:List Nat):Fn prog 271 [u,Eo gb 0 0] [.isv C3 u x G,.cel gb 0 [.int .i64 n]] [] (fun (_:Unit)=>True) (fun _=>.bool (x.Ac == n)) (fun _=>[]):=by
 refine enter func271 rfl ntmps271 fun w0=>?_
 refine Z3 ?_
 rintro a1 c1 F1 rfl l1
 refine go ?_;intros
 refine ret () trivial ?_
 rfl
theorem Aeu (e:Bl) (n:Int) (v:Value) (F:List Nat):Fn prog 242 [v,.int .i64 n] [.isv Bh v e F] [] (fun (_:Unit)=>True) (fun _=>.int .i64 (N2 (fun x=>x.Ac == n) e.Af)) (fun _=>[]):=by
 refine enter func242 rfl ntmps242 fun w0=>?_
 refine Eb ?_
 rintro a1 c1 F1 rfl l1
 refine go ?_;intros
 rename_i gb
 refine cb (fun w st=>N1 _ (Qe (by kernel_rfl)) #[Eo gb 0 0] _ e.Af _ (fun x=>x.Ac == n) w (st.get (p:=.sl C3 (.slice a1 e.Af.length c1) e.Af F1) (by simp)).2 (fun k hk wr u G hB hu=>(Alm e.Af[k] gb n u G).val wr (Q9 hu ⟨by simp,Fb ((st.below hB).get (p:=.row gb 3 0 [] [.int .i64 n] []) (by simp))⟩))) ?_
 refine go ?_;intros
 refine ret () trivial rfl
theorem Zw (e:Bl) (n:Int) (v:Value) (F:List Nat):Fn prog 189 [v,.int .i64 n] [.isv Bh v e F] [] (fun (_:Unit)=>True) (fun _=>.int .i64 (N2 (fun x=>x.Ac == n) e.Af)) (fun _=>[]):=by
 refine enter func189 rfl ntmps189 fun w0=>?_
 refine Eb ?_
 rintro a1 c1 F1 rfl l1
 unfold maxLen at l1
 refine go ?_;intros
 refine Ds [1,2,4] (fun k:Nat=>[(5,.int .i64 (k:Nat))]) (fun k=>k≤e.Af.length∧∀j (_:j < k) (hj:j < e.Af.length),(e.Af[j].Ac == n)=false) (fun k=>e.Af.length - k) 0 ⟨Nat.zero_le _,fun j h=>by omega⟩ fun k hk=>?_
 obtain ⟨hk1,hk2⟩:=hk
 refine go ?_;intros
 refine Bd rfl (fun h1=>?_) (fun h1=>?_)
 ·have hh:k < e.Af.length:=by omega
  refine go ?_;intros
  refine T2 (xs:=e.Af) k ?_
  rintro hi b o a3 c3 F3 e1 l3
  rw [e1]
  refine go ?_;intros
  refine Bd rfl (fun h2=>?_) (fun h2=>?_)
  ·refine go ?_;intros
   refine ret () trivial ?_
   rw [Lk hh hk2 (by simpa using h2)];rfl
  ·refine go ?_;intros
   refine Co (k+1) ⟨hh,fun j hj hl=>?_⟩ (by omega)
   rcases Nat.lt_or_eq_of_le (Nat.lt_succ_iff.1 hj) with h|rfl
   ·exact hk2 j h hl
   ·simpa using h2
 ·obtain rfl:k=e.Af.length:=by omega
  refine go ?_;intros
  refine ret () trivial ?_
  rw [J3 (fun j hj=>hk2 j hj hj)];rfl
theorem Alx (l:List Int) (n:Int) (a:Option Addr) (c:Nat) (F:List Nat):Fn prog 220 [.slice a l.length c,.int .i64 n] [.sl Be (.slice a l.length c) l F] [] (fun (_:Unit)=>True) (fun _=>.bool (decide (n∈l))) (fun _=>[]):=by
 refine enter func220 rfl ntmps220 fun w0=>?_
 refine Qw (xs:=l) ?_
 rintro _ _ _ l2 l3
 refine go ?_;intros
 refine Ds [0,1,4] (fun k:Nat=>[(5,.int .i64 (k:Nat))]) (fun k=>k≤l.length∧n ∉ l.take k) (fun k=>l.length - k) 0 ⟨Nat.zero_le _,by simp⟩ fun k hk=>?_
 obtain ⟨hk1,hk2⟩:=hk
 refine go ?_;intros
 refine Bd rfl (fun h1=>?_) (fun h1=>?_)
 ·have hh:k < l.length:=by omega
  refine go ?_;intros
  refine Il (xs:=l) k ?_
  rintro hi b o e1
  rw [e1]
  refine go ?_;intros
  refine Bd rfl (fun h2=>?_) (fun h2=>?_)
  ·refine go ?_;intros
   refine ret () trivial ?_
   rw [decide_eq_true (h2▸List.getElem_mem hh:n∈l)];rfl
  ·refine go ?_;intros
   refine Co (k+1) ⟨hh,fun hm=>?_⟩ (by omega)
   rw [List.take_add_one,List.getElem?_eq_getElem hh] at hm
   rcases List.mem_append.1 hm with h|h
   ·exact hk2 h
   ·simp at h;exact h2 h.symm
 ·obtain rfl:k=l.length:=by omega
  rw [List.take_length] at hk2
  refine go ?_;intros
  refine ret () trivial ?_
  rw [decide_eq_false hk2];rfl
theorem Mo (n:Int) (w:World):Cp Be w [.int .i64 n] [n] []:=⟨_,[],[],[],by simp,by simp,⟨rfl,rfl⟩,rfl,rfl⟩
theorem Ag9 (l:List Int) (n:Int):Im l n≤l.length:=(Nj (p:=fun x=>decide (x < n)) (xs:=l)).1
structure Aqd where
 a:Option Addr
 c:Nat
 F:List Nat
theorem Alz (l:List Int) (n:Int) (a:Option Addr) (c:Nat) (F:List Nat) (hl:l.length≤1000000):Fn prog 190 [.slice a l.length c,.int .i64 n] [] [.ow Be 3 (.slice a l.length c) l F] (fun (_:Aqd)=>True) (fun s=>.slice s.a (N5 l n).length s.c) (fun s=>[.ow Be 3 (.slice s.a (N5 l n).length s.c) (N5 l n) s.F]):=by
 refine enter func190 rfl ntmps190 fun w0=>?_
 refine go ?_;intros
 refine Ds [0,1,4] (fun k:Nat=>[(5,.int .i64 (k:Nat))]) (fun k=>k≤l.length∧∀j (_:j < k) (hj:j < l.length),l[j] < n) (fun k=>l.length - k) 0 ⟨Nat.zero_le _,fun j h=>by omega⟩ fun k hk=>?_
 obtain ⟨hk1,hk2⟩:=hk
 refine go ?_;intros
 refine Cw rfl rfl (fun h1=>?_) (fun h1=>?_)
 ·have hh:k < l.length:=by omega
  refine go ?_;intros
  refine Ob (m:=1) Dp k ?_ (by repeat (first|exact .here|apply Cu.there)) rfl hh
  rintro _ g A cs B rfl rfl hr hH
  obtain ⟨rfl, -⟩:=hr w0
  refine go ?_;intros
  refine Nc l[k] hH hr ?_
  rw [List.set_getElem_self]
  refine Bd rfl (fun h2=>?_) (fun h2=>?_)
  ·refine go ?_;intros
   refine Co (k+1) ⟨hh,fun j hj hl=>?_⟩ (by omega)
   rcases Nat.lt_or_eq_of_le (Nat.lt_succ_iff.1 hj) with h|rfl
   ·exact hk2 j h hl
   ·exact h2
  ·have hp:Im l n=k:=Vg hk1 hk2 (fun _=>h2)
   refine go ?_;intros
   refine Cw rfl rfl (fun h4=>?_) (fun h4=>absurd h1 h4)
   refine go ?_;intros
   refine Ob (m:=1) Dp k ?_ (by repeat (first|exact .here|apply Cu.there)) rfl hh
   rintro _ g A cs B e1 - hr hH
   cases e1
   obtain ⟨rfl, -⟩:=hr w0
   refine go ?_;intros
   refine Nc l[k] hH hr ?_
   rw [List.set_getElem_self]
   refine Bd rfl (fun h3=>?_) (fun h3=>?_)
   ·have e:N5 l n=l:=by unfold N5;rw [hp,List.getElem?_eq_getElem hh,if_pos (by rw [h3])]
    rw [e]
    refine go ?_;intros
    refine ret ⟨_,_,_⟩ trivial rfl
   ·have e:N5 l n=l.take k++[n]++l.drop k:=by unfold N5;rw [hp,List.getElem?_eq_getElem hh,if_neg (by simpa using h3)];simp
    refine go ?_;intros
    refine Ax fun F5=>?_
    refine Ako k (by omega) fun F6 hc1 hc2=>?_
    refine Av [] [] ?_
    refine dt 1 ?_
    refine dt 2 ?_
    refine dt 3 ?_ (hy:=Lt (i:=k) rfl rfl rfl (by omega) (by omega))
    refine dt 5 ?_
    refine dt 8 ?_
    refine dt 9 ?_
    refine Adt 10 k fun a6 c6 F6=>?_
    refine Nn 0 6 (by kernel_rfl) (by rw [List.getElem?_toArray];rfl) (by rw [List.getElem?_toArray];rfl) ?_ ?_
    ·apply Ja;rfl;intro _
     refine C1 Be ?_
     refine dk ?_
     refine Nn 4 6 (by kernel_rfl) (by rw [List.getElem?_toArray];rfl) (by rw [List.getElem?_toArray];rfl) ?_ ?_
     ·refine Kx C8 Dp (fun a2 c2 F2=>?_) (hn:=by rw [List.length_take];omega) (h63:=by exact Ii) (hby:=by exact Ii)
      refine dk ?_
      refine dO 6 (by kernel_rfl) (by rw [List.getElem?_toArray];rfl) ?_
      apply Hh;rfl;rfl;rfl;rfl;exact Gz;exact Gp;intro _
      refine dk ?_
      refine dO 7 (by kernel_rfl) (by rw [List.getElem?_toArray];rfl) ?_
      refine Lh (Mo n) C8 (fun a3 c3 F3=>?_) (h63:=by exact Ii) (hby:=by exact Ii)
      refine dk ?_
      refine dO 11 (by kernel_rfl) (by rw [List.getElem?_toArray];rfl) ?_
      refine Kx C8 Dp (fun a4 c4 F4=>?_) (h63:=by exact Ii) (hby:=by exact Ii)
      refine dk ?_
      refine dt 12 ?_
      refine dd ?_
      rw [e]
      refine go ?_;intros
      refine ret ⟨_,_,_⟩ trivial rfl
     ·apply Hh;rfl;rfl;rfl;rfl;exact Gz;exact Gp;intro _
      refine dk ?_
      refine dO 4 (by kernel_rfl) (by rw [List.getElem?_toArray];rfl) ?_
      refine Kx C8 Dp (fun a2 c2 F2=>?_) (hn:=by rw [List.length_take];omega) (h63:=by exact Ii) (hby:=by exact Ii)
      refine dk ?_
      refine dO 7 (by kernel_rfl) (by rw [List.getElem?_toArray];rfl) ?_
      refine Lh (Mo n) C8 (fun a3 c3 F3=>?_) (h63:=by exact Ii) (hby:=by exact Ii)
      refine dk ?_
      refine dO 11 (by kernel_rfl) (by rw [List.getElem?_toArray];rfl) ?_
      refine Kx C8 Dp (fun a4 c4 F4=>?_) (h63:=by exact Ii) (hby:=by exact Ii)
      refine dk ?_
      refine dt 12 ?_
      refine dd ?_
      rw [e]
      refine go ?_;intros
      refine ret ⟨_,_,_⟩ trivial rfl
    ·apply Hh;rfl;rfl;rfl;rfl;exact Gz;exact Gp;intro _
     refine dk ?_
     refine dO 0 (by kernel_rfl) (by rw [List.getElem?_toArray];rfl) ?_
     apply Ja;rfl;intro _
     refine C1 Be ?_
     refine dk ?_
     refine dO 4 (by kernel_rfl) (by rw [List.getElem?_toArray];rfl) ?_
     refine Kx C8 Dp (fun a2 c2 F2=>?_) (hn:=by rw [List.length_take];omega) (h63:=by exact Ii) (hby:=by exact Ii)
     refine dk ?_
     refine dO 7 (by kernel_rfl) (by rw [List.getElem?_toArray];rfl) ?_
     refine Lh (Mo n) C8 (fun a3 c3 F3=>?_) (h63:=by exact Ii) (hby:=by exact Ii)
     refine dk ?_
     refine dO 11 (by kernel_rfl) (by rw [List.getElem?_toArray];rfl) ?_
     refine Kx C8 Dp (fun a4 c4 F4=>?_) (h63:=by exact Ii) (hby:=by exact Ii)
     refine dk ?_
     refine dt 12 ?_
     refine dd ?_
     rw [e]
     refine go ?_;intros
     refine ret ⟨_,_,_⟩ trivial rfl
 ·have hp:Im l n=k:=Vg hk1 hk2 (fun h=>by omega)
  have e:N5 l n=l.take k++[n]++l.drop k:=by unfold N5;rw [hp,List.getElem?_eq_none (by omega)];simp
  refine go ?_;intros
  refine Cw rfl rfl (fun h4=>absurd h4 h1) (fun h4=>?_)
  refine go ?_;intros
  refine Ax fun F5=>?_
  refine Ako k (by omega) fun F6 hc1 hc2=>?_
  refine Av [] [] ?_
  refine dt 1 ?_
  refine dt 2 ?_
  refine dt 3 ?_ (hy:=Lt (i:=k) rfl rfl rfl (by omega) (by omega))
  refine dt 5 ?_
  refine dt 8 ?_
  refine dt 9 ?_
  refine Adt 10 k fun a6 c6 F6=>?_
  refine Nn 0 6 (by kernel_rfl) (by rw [List.getElem?_toArray];rfl) (by rw [List.getElem?_toArray];rfl) ?_ ?_
  ·apply Ja;rfl;intro _
   refine C1 Be ?_
   refine dk ?_
   refine Nn 4 6 (by kernel_rfl) (by rw [List.getElem?_toArray];rfl) (by rw [List.getElem?_toArray];rfl) ?_ ?_
   ·refine Kx C8 Dp (fun a2 c2 F2=>?_) (hn:=by rw [List.length_take];omega) (h63:=by exact Ii) (hby:=by exact Ii)
    refine dk ?_
    refine dO 6 (by kernel_rfl) (by rw [List.getElem?_toArray];rfl) ?_
    apply Hh;rfl;rfl;rfl;rfl;exact Gz;exact Gp;intro _
    refine dk ?_
    refine dO 7 (by kernel_rfl) (by rw [List.getElem?_toArray];rfl) ?_
    refine Lh (Mo n) C8 (fun a3 c3 F3=>?_) (h63:=by exact Ii) (hby:=by exact Ii)
    refine dk ?_
    refine dO 11 (by kernel_rfl) (by rw [List.getElem?_toArray];rfl) ?_
    refine Kx C8 Dp (fun a4 c4 F4=>?_) (h63:=by exact Ii) (hby:=by exact Ii)
    refine dk ?_
    refine dt 12 ?_
    refine dd ?_
    rw [e]
    refine go ?_;intros
    refine ret ⟨_,_,_⟩ trivial rfl
   ·apply Hh;rfl;rfl;rfl;rfl;exact Gz;exact Gp;intro _
    refine dk ?_
    refine dO 4 (by kernel_rfl) (by rw [List.getElem?_toArray];rfl) ?_
    refine Kx C8 Dp (fun a2 c2 F2=>?_) (hn:=by rw [List.length_take];omega) (h63:=by exact Ii) (hby:=by exact Ii)
    refine dk ?_
    refine dO 7 (by kernel_rfl) (by rw [List.getElem?_toArray];rfl) ?_
    refine Lh (Mo n) C8 (fun a3 c3 F3=>?_) (h63:=by exact Ii) (hby:=by exact Ii)
    refine dk ?_
    refine dO 11 (by kernel_rfl) (by rw [List.getElem?_toArray];rfl) ?_
    refine Kx C8 Dp (fun a4 c4 F4=>?_) (h63:=by exact Ii) (hby:=by exact Ii)
    refine dk ?_
    refine dt 12 ?_
    refine dd ?_
    rw [e]
    refine go ?_;intros
    refine ret ⟨_,_,_⟩ trivial rfl
  ·apply Hh;rfl;rfl;rfl;rfl;exact Gz;exact Gp;intro _
   refine dk ?_
   refine dO 0 (by kernel_rfl) (by rw [List.getElem?_toArray];rfl) ?_
   apply Ja;rfl;intro _
   refine C1 Be ?_
   refine dk ?_
   refine dO 4 (by kernel_rfl) (by rw [List.getElem?_toArray];rfl) ?_
   refine Kx C8 Dp (fun a2 c2 F2=>?_) (hn:=by rw [List.length_take];omega) (h63:=by exact Ii) (hby:=by exact Ii)
   refine dk ?_
   refine dO 7 (by kernel_rfl) (by rw [List.getElem?_toArray];rfl) ?_
   refine Lh (Mo n) C8 (fun a3 c3 F3=>?_) (h63:=by exact Ii) (hby:=by exact Ii)
   refine dk ?_
   refine dO 11 (by kernel_rfl) (by rw [List.getElem?_toArray];rfl) ?_
   refine Kx C8 Dp (fun a4 c4 F4=>?_) (h63:=by exact Ii) (hby:=by exact Ii)
   refine dk ?_
   refine dt 12 ?_
   refine dd ?_
   rw [e]
   refine go ?_;intros
   refine ret ⟨_,_,_⟩ trivial rfl
theorem Afw {c:Cx} {fr:Fr} {H S:List Pc} {Φ:Gl} (x:Bl) {a:Option Addr} {n cp:Nat} {F:List Nat} (hn:n=x.Af.length) (h:T c fr (.own B4 (.agg #[.int .i64 x.Ai,.slice a n cp]) x F::S) Φ) (hp:Cu H (.ow Dz 136 (.slice a n cp) x.Af F) S:=by exact Dv):T c fr H Φ:=by
 subst hn;exact Ey x h hp
theorem Yg {e:Bl} {n f:Int} (h:Jp e n < e.Af.length):Ki e n f=⟨e.Ai,e.Af.set (Jp e n) ⟨e.Af[Jp e n].Ac,N5 e.Af[Jp e n].Bg f,e.Af[Jp e n].By⟩⟩:=by unfold Ki;rw [List.getElem?_eq_getElem h]
theorem Yf {e:Bl} {n f:Int} (h:e.Af[Jp e n]?=none) (hl:e.Af.length < 5):Ki e n f=⟨e.Ai,e.Af++[⟨n,[f],e.Ai+6⟩]⟩:=by unfold Ki;rw [h];simp [hl]
theorem Vi {e:Bl} {n f:Int} (h:e.Af[Jp e n]?=none) (hl:¬e.Af.length < 5):Ki e n f=e:=by unfold Ki;rw [h];simp [hl]
theorem Ql (e:Bl) (n f:Int) (v:Value) (F:List Nat) (hl:e.Af.length≤1000000) (hf:∀x∈e.Af,x.Bg.length≤1000000) (hc0:-1000000≤e.Ai) (hc1:e.Ai≤1000000):Fn prog 131 [v,.int .i64 n,.int .i64 f] [.isv Bh v e F] [] (fun (_:Value × List Nat)=>True) (fun s=>.tuple #[s.1,.bool (Wi e n)]) (fun s=>[.own B4 s.1 (Ki e n f) s.2]):=by
 refine enter func131 rfl ntmps131 fun w0=>?_
 refine Eb ?_
 rintro a1 c1 F1 rfl l1
 refine go ?_;intros
 refine cv (fun w st=>Uc _ e _ w (st.get (p:=.isv Bh (.agg #[.int .i64 e.Ai,.slice a1 e.Af.length c1]) e F) (by simp)) (by omega) (fun x hx=>Nat.le_trans (hf x hx) (by decide))) fun u FU=>?_
 refine Gg ?_
 rintro a2 c2 F2 rfl l2
 refine go ?_;intros
 refine cf (Zw e n _ F) fun _ _=>?_
 refine Ao ?_
 rcases Pv e n with ⟨h,e1,e2,e3⟩|⟨e1,e2,e3,e4⟩
 ·rw [e1,e3,Yg h]
  have hfx:=hf e.Af[Jp e n] (List.getElem_mem h)
  refine go ?_;intros
  refine Y6 (m:=3) (Jp e n) ?_ rfl h
  rintro _ g A cs B k1 k2 G1 Gi G2 rfl - hc hH
  refine Tm ?_
  rintro a5 c5 F5 ev l5
  obtain rfl:cs=[.int .i64 e.Af[Jp e n].Ac,.slice a5 e.Af[Jp e n].Bg.length c5,.int .i64 e.Af[Jp e n].By]:=by simpa using ev
  refine go ?_;intros
  refine cf (Alz _ f a5 c5 F5 hfx) fun z _=>?_
  refine Ao ?_
  refine go ?_;intros
  refine Lu ⟨e.Af[Jp e n].Ac,N5 e.Af[Jp e n].Bg f,e.Af[Jp e n].By⟩ ?_
  refine Vt _ hH rfl fun F6=>?_
  refine Afw ⟨e.Ai,_⟩ List.length_set.symm ?_
  refine ret (_,_) trivial rfl
 ·rw [e1,e3]
  refine go ?_;intros
  refine Bd rfl (fun h5=>?_) (fun h5=>?_)
  ·rw [Yf e2 (by omega)]
   refine go ?_;intros
   refine Ee (E:=Be) (xs:=[f]) (Mo f) ?_ (by simp)
   refine Lu ⟨n,[f],e.Ai+6⟩ ?_
   apply wO
   refine Aal O1 ⟨n,[f],e.Ai+6⟩ rfl fun a3 c3 F3=>?_
   refine go ?_;intros
   refine Afw ⟨e.Ai,_⟩ rfl ?_
   refine ret (_,_) trivial rfl
  ·rw [Vi e2 (by omega)]
   refine go ?_;intros
   refine Afw e rfl ?_
   refine ret (_,_) trivial rfl
def T6 (e:Bl) (n:Int) (below:List Int):List Int:=match e.Af[Jp e n]? with
 | some x=>below.filter fun f=>decide (f∈x.Bg)
 | none=>if e.Af.length=5 then below else []
theorem Yc {e:Bl} {n:Int} (h:Jp e n < e.Af.length):Mn e n=⟨e.Ai,e.Af.take (Jp e n)++e.Af.drop (Jp e n+1)⟩:=by unfold Mn;rw [List.getElem?_eq_getElem h]
theorem Aa7 {e:Bl} {n:Int} (h:e.Af[Jp e n]?=none):Mn e n=e:=by unfold Mn;rw [h]
theorem Aiv {e:Bl} {n:Int} {l:List Int} (h:Jp e n < e.Af.length):T6 e n l=l.filter fun f=>decide (f∈e.Af[Jp e n].Bg):=by unfold T6;rw [List.getElem?_eq_getElem h]
theorem All {e:Bl} {n:Int} {l:List Int} (h:e.Af[Jp e n]?=none):T6 e n l=if e.Af.length=5 then l else []:=by unfold T6;rw [h]
structure Ank where
 k:Nat
 a:Option Addr
 c:Nat
 F:List Nat
structure Aqe where
 v:Value
 F:List Nat
 a:Option Addr
 c:Nat
 G:List Nat
theorem V4 (e:Bl) (n:Int) (below:List Int) (v:Value) (F:List Nat) (a0:Option Addr) (c0:Nat) (F0:List Nat) (hl:e.Af.length≤1000000) (hf:∀x∈e.Af,x.Bg.length≤1000000) (hb:below.length≤1000000):Fn prog 163 [v,.int .i64 n,.slice a0 below.length c0] [.isv Bh v e F,.sl Be (.slice a0 below.length c0) below F0] [] (fun (_:Aqe)=>True) (fun s=>.tuple #[s.v,.slice s.a (T6 e n below).length s.c]) (fun s=>[.own B4 s.v (Mn e n) s.F,.ow Be 3 (.slice s.a (T6 e n below).length s.c) (T6 e n below) s.G]):=by
 refine enter func163 rfl ntmps163 fun w0=>?_
 refine Eb ?_
 rintro a1 c1 F1 rfl l1
 refine go ?_;intros
 refine cv (fun w st=>Uc _ e _ w (st.get (p:=.isv Bh (.agg #[.int .i64 e.Ai,.slice a1 e.Af.length c1]) e F) (by simp)) (by omega) (fun x hx=>Nat.le_trans (hf x hx) (by decide))) fun u FU=>?_
 refine Gg ?_
 rintro a2 c2 F2 rfl l2
 refine go ?_;intros
 refine cf (Zw e n _ F) fun _ _=>?_
 refine Ao ?_
 refine C1 Be ?_
 rcases Pv e n with ⟨h,e1,e2,e3⟩|⟨e1,e2,e3,e4⟩
 ·rw [e1,Yc h,Aiv h]
  have hfx:=hf e.Af[Jp e n] (List.getElem_mem h)
  refine go ?_;intros
  refine T2 (xs:=e.Af) (Jp e n) ?_
  rintro hi b o a5 c5 F5 e6 l5
  generalize Jp e n=i at *
  generalize hx:e.Af[i]=x at *
  rw [e6]
  refine go ?_;intros
  refine Cq [2,3,6,7,8,10] (fun s:Ank=>[(11,.int .i64 (s.k:Nat)),(9,.slice s.a ((below.take s.k).filter fun f=>decide (f∈x.Bg)).length s.c)]) (fun s=>[.ow Be 3 (.slice s.a ((below.take s.k).filter fun f=>decide (f∈x.Bg)).length s.c) ((below.take s.k).filter fun f=>decide (f∈x.Bg)) s.F]) (fun s=>s.k≤below.length) (fun s=>below.length - s.k) ⟨0,_,_,_⟩ (Nat.zero_le _) fun s hs=>?_
  obtain ⟨k,a3,c3,F3⟩:=s
  dsimp only at hs ⊢
  refine go ?_;intros
  refine Bd rfl (fun h6=>?_) (fun h6=>?_)
  ·have hk:k < below.length:=by omega
   refine Il (xs:=below) k ?_
   rintro hi2 b2 o2 e7
   rw [e7]
   have ht:below.take (k+1)=below.take k++[below[k]]:=by rw [List.take_add_one,List.getElem?_eq_getElem hk];rfl
   have hle:((below.take k).filter fun f=>decide (f∈x.Bg)).length≤k:=Nat.le_trans (List.length_filter_le _ _) (by simp;omega)
   refine go ?_;intros
   refine Av [0,2,7] [] ?_
   refine dt 0 ?_
   refine dt 1 ?_
   refine dt 2 ?_
   refine dt 3 ?_
   refine dt 4 ?_
   refine dt 5 ?_
   refine dt 6 ?_
   refine dt 7 ?_
   refine dt 8 ?_
   refine dt 9 ?_
   refine dO 10 (by kernel_rfl) (by rw [List.getElem?_toArray];rfl) ?_
   apply At;rfl;kernel_rfl;exact Bb
   refine cf (Alx x.Bg below[k] a5 c5 F5) fun _ _=>?_
   refine Ao ?_
   refine dk ?_
   refine dd ?_
   refine go ?_;intros
   refine Bd rfl (fun h7=>?_) (fun h7=>?_)
   ·have e8:(below.take (k+1)).filter (fun f=>decide (f∈x.Bg))=((below.take k).filter fun f=>decide (f∈x.Bg))++[below[k]]:=by rw [ht,List.filter_append];simp [h7]
    refine go ?_;intros
    apply wO
    refine Lh (Mo _) C8 fun a6 c6 F6=>?_
    rw [←e8]
    refine go ?_;intros
    refine Co (⟨k+1,_,_,_⟩:Ank) hk (by dsimp only;omega)
   ·have e8:(below.take (k+1)).filter (fun f=>decide (f∈x.Bg))=((below.take k).filter fun f=>decide (f∈x.Bg)):=by rw [ht,List.filter_append];simp [h7]
    refine go ?_;intros
    rw [←e8]
    refine Co (⟨k+1,_,_,_⟩:Ank) hk (by dsimp only;omega)
  ·have hk:below.take k=below:=List.take_of_length_le (by omega)
   rw [hk]
   refine go ?_;intros
   refine Vo O1 rfl fun ys Fy Gy hyl hym=>?_
   refine Akl i hi hyl hym fun G1 Gi G2=>?_
   refine Ax (E:=EC 3) (xs:=ys) fun Fr=>?_
   refine Ako (E:=EC 3) (xs:=ys) i (by omega) fun F6 hc1 hc2=>?_
   refine Av [8] [13] ?_
   refine dt 1 ?_
   refine dt 2 ?_
   refine dt 3 ?_
   refine dt 4 ?_ (hy:=Lt (i:=i) rfl rfl rfl (by omega) (by omega))
   refine dt 6 ?_
   refine dt 7 ?_
   refine dt 8 ?_
   refine dt 9 ?_
   refine Adt 10 (i+1) fun a7 c7 F7=>?_
   refine dO 0 (by kernel_rfl) (by rw [List.getElem?_toArray];rfl) ?_
   apply Ja;rfl;intro _
   refine C1 (EC 3) ?_
   refine dk ?_
   refine dO 5 (by kernel_rfl) (by rw [List.getElem?_toArray];rfl) ?_
   refine Kx (Mm 3) (E7 3) (fun a6 c6 F6=>?_) (hn:=by rw [List.length_take];omega) (h63:=by exact Ii) (hby:=by exact Ii)
   refine dk ?_
   refine dO 11 (by kernel_rfl) (by rw [List.getElem?_toArray];rfl) ?_
   refine Kx (Mm 3) (E7 3) (fun a8 c8 F8=>?_) (h63:=by exact Ii) (hby:=by exact Ii)
   refine dk ?_
   refine dt 12 ?_
   refine dO 13 (by kernel_rfl) (by rw [List.getElem?_toArray];rfl) ?_
   apply Cf;rfl;rfl;rfl;(first|exact AggC.s|exact OneC.s);rfl;exact Ci;exact Cg;rfl
   refine Lv ?_
   refine dd ?_
   refine Afj (E:=Dz) ?_
   refine Akj (E:=Dz) (m:=3) (ys:=([]++ys.take i)++ys.drop (i+1)) (cs:=(ys.take i).flatten++(ys.drop (i+1)).flatten) (xs:=e.Af.take i++e.Af.drop (i+1)) ?_ rfl (by simp) (by simp [hyl])
   refine go ?_;intros
   refine Afw (n:=(([]++ys.take i)++ys.drop (i+1)).length) ⟨e.Ai,e.Af.take i++e.Af.drop (i+1)⟩ (by simp [hyl]) ?_
   refine ret ⟨_,_,_,_,_⟩ trivial rfl
 ·rw [e1,Aa7 e2,All e2]
  refine go ?_;intros
  refine Bd rfl (fun h5=>?_) (fun h5=>?_)
  ·rw [if_pos (by omega)]
   refine go ?_;intros
   apply wO
   refine Kx C8 Dp fun a4 c4 F4=>?_
   refine go ?_;intros
   refine Afw e rfl ?_
   refine ret ⟨_,_,_,_,_⟩ trivial rfl
  ·rw [if_neg (by omega)]
   refine go ?_;intros
   refine Afw e rfl ?_
   refine ret ⟨_,_,_,_,_⟩ trivial rfl
section
variable {P:Program} {n:Nat} {fr:Fr} {H:List Pc} {ty:TypeId} {x y z u:Operand}
theorem Akx {t e m i g o len cp:Nat} {kd:IntKind} {q:Int} [hS:SlC P t e m] (hx:ev fr x=some (.slice (some ⟨g,o,none⟩) len cp)) (hy:ev fr y=some (.int kd q)) (hq:q=(i:Int)) (hi:i≤len) (hlc:len≤cp):Yd P n fr H (.slice t x (some y) none none) ty (.slice (some ⟨g,if cp=i then o else o+i * m,none⟩) (len - i) (cp - i)):=.mk fun ac w d pos Ca gd hA _=>by
 subst hq
 have he2:P.elem t=e:=by simp [Program.elem,hS.u]
 have h3:(Instr.sliceAt t (.slice (some ⟨g,o,none⟩) len cp) (some (.int kd (i:Int))) none none).run P w=.ok (.slice (some ⟨g,if cp=i then o else o+i * m,none⟩) (len - i) (cp - i)) w:=by
  rw [run_sliceAt_slice (h:=by rw [he2];exact hS.u),run_slice_l (ht:=by rw [he2];exact hS.u) (h0:=by omega) (h1:=by omega),he2,Js hS.s]
  simp only [Result.andThen,sliced,Option.map_some,Addr.add_lit,Int.toNat_natCast]
  split <;> rfl
 simp only [execOp,Option.map_none,Option.map_some,hA.ev hx,hA.ev hy,Sem.run_bind,h3,Result.andThen_ok,Sem.run_pure]
theorem Afn {t e m i j g o len cp:Nat} {kd kd2:IntKind} {q r:Int} [hS:SlC P t e m] (hx:ev fr x=some (.slice (some ⟨g,o,none⟩) len cp)) (hy:ev fr y=some (.int kd q)) (hz:ev fr z=some (.int kd2 r)) (hq:q=(i:Int)) (hr:r=(j:Int)) (hi:i < cp) (hij:i≤j) (hj:j≤cp):Yd P n fr H (.slice t x (some y) (some z) none) ty (.slice (some ⟨g,o+i * m,none⟩) (j - i) (cp - i)):=.mk fun ac w d pos Ca gd hA _=>by
 subst hq hr
 have he2:P.elem t=e:=by simp [Program.elem,hS.u]
 have h3:(Instr.sliceAt t (.slice (some ⟨g,o,none⟩) len cp) (some (.int kd (i:Int))) (some (.int kd2 (j:Int))) none).run P w=.ok (.slice (some ⟨g,o+i * m,none⟩) (j - i) (cp - i)) w:=by
  rw [run_sliceAt_slice (h:=by rw [he2];exact hS.u),run_slice_lh (ht:=by rw [he2];exact hS.u) (h0:=by omega) (h1:=by omega) (h2:=by omega),he2,Js hS.s]
  simp only [Result.andThen,sliced,Option.map_some,Addr.add_lit,Int.toNat_natCast]
  rw [if_neg (by omega)]
 simp only [execOp,Option.map_none,Option.map_some,hA.ev hx,hA.ev hy,hA.ev hz,Sem.run_bind,h3,Result.andThen_ok,Sem.run_pure]
end
section
variable {c:Cx} {fr:Fr} {H:List Pc} {k:List It} {Φ:Gl} {d:Nat} {ty:TypeId} {x y z u:Operand}
theorem Acr {t e m n cp i j l:Nat} {a:Option Addr} {q r s:Int} [hS:SlC c.P t e m] (hd:Nat.blt d c.n=true) (hx:ev fr x=some (.slice a n cp)) (hy:ev fr y=some (.int .i64 q)) (hz:ev fr z=some (.int .i64 r)) (hu:ev fr u=some (.int .i64 s)) (hq:q=(i:Int)) (hr:r=(j:Int)) (hs:s=(l:Int)) (hij:i≤j) (hjl:j≤l) (hl:l≤cp) (h:∀v,T c ((d,v)::fr) H Φ):On c fr H (some d) (.slice t x (some y) (some z) (some u)) ty Φ:=⟨fun _ _ _=>Mw fun Q ac w st g=>by
 subst hq hr hs
 have he2:=Wn hS
 obtain ⟨v,h3⟩:∃v,(Instr.sliceAt t (.slice a n cp) (some (.int .i64 (i:Int))) (some (.int .i64 (j:Int))) (some (.int .i64 (l:Int)))).run c.P w=.ok v w:=by
  rw [run_sliceAt_slice (h:=by rw [he2];exact hS.u),run_slice_lhm (ht:=by rw [he2];exact hS.u) (h0:=by omega) (h1:=by omega) (h2:=by omega) (h3:=by omega),he2,Js hS.s]
  exact ⟨_,rfl⟩
 have e1:∀pos Ca gd,(execOp ac.eval ⟨some d,.slice t x (some y) (some z) (some u),ty,pos,Ca,gd⟩).run c.P w=.ok (.value v) w:=by
  intro pos Ca gd
  simp only [execOp,Option.map_none,Option.map_some,g.ev hx,g.ev hy,g.ev hz,g.ev hu,Sem.run_bind,h3,Result.andThen_ok,Sem.run_pure]
 rw [e1]
 exact (h v).h _ w st (g.put hd)⟩
theorem Ajh {α:Type} {E:Bp α} (sc:T0 E) (one:Us E) {t e m b g n cp i j q c2:Nat} {zv:Value} [hS:SlC c.P t e m] [hE:ElT c.P e zv m b] (hm:E.sz=m) {xs:List α} {F:List Nat} {S:List Pc}
  (hd:Nat.blt d c.n=true) (hx:ev fr x=some (.slice (some ⟨g,0,none⟩) i cp)) (hy:ev fr y=some (.slice (some ⟨g,q,none⟩) (n - j) c2)) (hq:j < n→q=j * m) (hij:i≤j) (hj:j≤n) (hn:n=xs.length)
  (hp:Cu H (.ow E e (.slice (some ⟨g,0,none⟩) n cp) xs F) S) (h:T c ((d,.slice (some ⟨g,0,none⟩) (i+(n - j)) cp)::fr) (.ow E e (.slice (some ⟨g,0,none⟩) n cp) (xs.take i++xs.drop j++xs.drop (i+(n - j))) F::S) Φ) :
  On c fr H (some d) (.call { callee:=.builtin .append,args:=#[x,y],argTypes:=#[t,t] }) ty Φ:=⟨fun _ _ _=>Mw fun Q a w s ag=>by
 subst hm hn
 have s1:=s.pick hp
 obtain ⟨hnd,ho⟩:=s1.on (.ow E e (.slice (some ⟨g,0,none⟩) xs.length cp) xs F) (by simp)
 have hF:=ho.scal sc
 rcases ho with ⟨h1, -, -⟩|⟨g2,cap,cs,rest,G,h1,h2,h3,h4,h5,h6,h7⟩
 ·cases h1
 cases h1
 have hG:G=[]:=by rw [h7] at hF;simpa [Value.ownBlock] using hF
 subst hG h7
 obtain ⟨ti,hi,hiz⟩:=Option.map_eq_some_iff.1 hE.i
 simp only [Prod.mk.injEq] at hiz
 obtain ⟨-,i2, -⟩:=hiz
 have hl:=h6.len
 have hle:i+(xs.length - j)≤xs.length:=by omega
 have fi:=(h6.cutL i (by omega)).1
 have fj:=(h6.cutL j hj).2
 have fk:=(h6.cutL (i+(xs.length - j)) hle).2
 have hd1:(cs.take (i * E.sz)).length=i * E.sz:=by have:=fi.len;rw [List.length_take (l:=xs),Nat.min_eq_left (by omega)] at this;exact this
 have hd2:(cs.drop (j * E.sz)).length=(xs.length - j) * E.sz:=by have:=fj.len;rwa [List.length_drop (l:=xs)] at this
 have h1c:=h6.one' one
 have hsm:(i+(xs.length - j)) * E.sz≤xs.length * E.sz:=Nat.mul_le_mul_right _ hle
 have hadd:(i+(xs.length - j)) * E.sz=i * E.sz+(xs.length - j) * E.sz:=Nat.add_mul _ _ _
 have hsrc:∀r u,(cs.drop (j * E.sz))[r]?=some u→w.cell? ((⟨g,q,none⟩:Addr).add r)=some u:=fun r u hu=>by
  have hr:r < (cs.drop (j * E.sz)).length:=(List.getElem?_eq_some_iff.1 hu).1
  have hlt:j < xs.length:=by
   rcases Nat.lt_or_ge j xs.length with h|h
   ·exact h
   ·rw [hd2,show xs.length - j=0 by omega] at hr;simp at hr
  rw [hq hlt,Addr.add_lit,h2.cell,List.getElem?_append_left (by rw [List.length_drop] at hr;omega)]
  rw [List.getElem?_drop] at hu;exact hu
 have hr:=fun ty=>run_append_room_cells (P:=c.P) w t ty e ti hS.u hi g 0 i cp ⟨g,q,none⟩ (xs.length - j) c2 (cs.drop (j * E.sz)) (by rw [hd2,i2]) hsrc (fun u hu=>h1c u (List.mem_of_mem_drop hu)) (by omega)
  (fun r hr=>by rw [i2,h2.cell,List.getElem?_eq_getElem (by rw [List.length_append];omega)];rfl) (fun r _=>h2.frozen _)
 have e1:∀pos Ca gd,(execOp a.eval ⟨some d,.call { callee:=.builtin .append,args:=#[x,y],argTypes:=#[t,t] },ty,pos,Ca,gd⟩).run c.P w=.ok (.value (.slice (some ⟨g,0,none⟩) (i+(xs.length - j)) cp)) (w.setCells g (0+i * E.sz) (cs.drop (j * E.sz))):=by
  intro pos Ca gd
  simp only [execOp,resolve,invoke,builtin,Sem.run_bind,Sem.run_pure,Result.andThen_ok,List.map_toArray,List.map_cons,List.map_nil,ag.ev hx,ag.ev hy,hr,i2]
 rw [e1]
 have R0:Gt w g e (cs.take (i * E.sz)++(cs.drop (i * E.sz)).take ((xs.length - j) * E.sz)++(cs.drop ((i+(xs.length - j)) * E.sz)++rest)):=by
  rw [hadd,←List.drop_drop,List.append_assoc,←List.append_assoc _ _ rest,List.take_append_drop,←List.append_assoc,List.take_append_drop];exact h2
 have R1:=Gt.put (cs.drop (j * E.sz)) _ R0 (p:=0+i * E.sz) (by omega) (by rw [hd2,List.length_take,List.length_drop];omega)
 have hk:=I3 (g:=g) (cs.drop (j * E.sz)) w (0+i * E.sz)
 rw [Jl w g] at R1 hk
 have hW:(Pc.ow E e (.slice (some ⟨g,0,none⟩) xs.length cp) (xs.take i++xs.drop j++xs.drop (i+(xs.length - j))) [g]).P (w.setCells g (0+i * E.sz) (cs.drop (j * E.sz))):=by
  have hll:(xs.take i++xs.drop j++xs.drop (i+(xs.length - j))).length=xs.length:=by simp only [List.length_append,List.length_take,List.length_drop];omega
  refine ⟨by simp,.inr ⟨g,cp,cs.take (i * E.sz)++cs.drop (j * E.sz)++cs.drop ((i+(xs.length - j)) * E.sz),rest,[],by rw [hll],by simpa [List.append_assoc] using R1,by rw [hll];exact h3,h4,?_,?_,rfl⟩⟩
  ·rw [List.length_append,List.length_append,hd1,hd2,List.length_drop,hl,←h5];omega
  ·have:=((fi.all (w.setCells g (0+i * E.sz) (cs.drop (j * E.sz)))).append (fj.all _)).append (fk.all _)
   simpa using this
 exact h.h _ _ (St.turn (M:=[.ow E e (.slice (some ⟨g,0,none⟩) xs.length cp) xs [g]]) (N:=[.ow E e (.slice (some ⟨g,0,none⟩) xs.length cp) (xs.take i++xs.drop j++xs.drop (i+(xs.length - j))) [g]]) s1 (by simpa [List.filter,Pc.mu,fp,Pc.F] using hk) (by intro q hq;rw [List.mem_singleton] at hq;subst hq;exact hW) ⟨by simp,trivial⟩ (by
   intro q hq b hb
   rw [List.mem_singleton] at hq;subst hq
   exact .inr (.inl ⟨_,List.mem_singleton.2 rfl,rfl,hb⟩))) (ag.put hd)⟩
end
theorem Ani (xs:List (List Value)) (n i:Nat) (j:Int) (a:Option Addr) (c:Nat) (F:List Nat) (hn:n=xs.length) (hi:i < xs.length) (hj:j=(i:Int)+1) (hl:xs.length≤1000000) :
  Fn prog 245 [.slice a n c,.int .i64 i,.int .i64 j] [] [.ow (EC 3) 136 (.slice a n c) xs F] (fun (_:Option Addr × Nat × List Nat)=>True)
   (fun z=>.slice z.1 (xs.take i++xs.drop (i+1)).length z.2.1) (fun z=>[.ow (EC 3) 136 (.slice z.1 (xs.take i++xs.drop (i+1)).length z.2.1) (xs.take i++xs.drop (i+1)) z.2.2]):=by
 subst hn
 refine enter func245 rfl ntmps245 fun w0=>?_
 refine Abd (xs:=xs) (E7 3) (by rintro rfl;simp at hi) ?_
 rintro g rfl rfl - hc1 hc2
 refine go ?_;intros
 apply wO
 refine Acr (i:=i) (j:=i+1) (l:=xs.length) rfl rfl rfl rfl rfl rfl (by omega) rfl (by omega) (by omega) hc1 (fun _=>?_)
 refine go ?_;intros
 refine Bd rfl (fun h=>absurd h (by omega)) (fun _=>?_)
 refine go ?_;intros
 refine Av [] [] ?_
 refine dt 0 ?_
 refine dt 1 ?_
 refine dt 2 ?_ (hy:=Lt (i:=i) rfl rfl rfl (by omega) (by omega))
 refine dt 3 ?_
 refine dt 4 ?_
 refine dt 5 ?_ (hy:=Akx (i:=i+1) rfl rfl (by omega) (by omega) hc1)
 refine dO 6 (by kernel_rfl) (by rw [List.getElem?_toArray];rfl) ?_
 refine Ajh (m:=3) (i:=i) (j:=i+1) (q:=if c=i+1 then 0 else 0+(i+1) * 3) (g:=g) (cp:=c) (n:=xs.length) (E7 3) (Mm 3) rfl rfl rfl rfl (fun h=>by rw [if_neg (by omega)];omega) (by omega) (by omega) rfl (by repeat (first|exact .here|apply Cu.there)) ?_
 refine dk ?_
 refine dt 7 ?_
 refine dd ?_
 refine go ?_;intros
 apply wO;apply oc;rfl;exact Afn (i:=i+(xs.length - (i+1))) (j:=xs.length) rfl rfl rfl rfl rfl (by omega) (by omega) hc1
 refine go ?_;intros
 apply wO
 refine Ae8 (xs:=xs.take i++xs.drop (i+1)++xs.drop (i+(xs.length - (i+1)))) (z0:=[.int .i64 0,.slice none 0 0,.int .i64 0]) (n:=xs.length) (cp:=c) (i:=i+(xs.length - (i+1))) (g:=g) (E7 3) (fun w=>⟨rfl,⟨rfl,by simp [Value.oneCell']⟩,rfl⟩) (by decide) rfl rfl (by omega) (by exact Ii) (by repeat (first|exact .here|apply Cu.there)) ?_
 have hk:(xs.take i++xs.drop (i+1)).length=i+(xs.length - (i+1)):=by exact Ii
 refine Abg (xs:=(xs.take i++xs.drop (i+1)++xs.drop (i+(xs.length - (i+1)))).take (i+(xs.length - (i+1)))++List.replicate (xs.length - (i+(xs.length - (i+1)))) [.int .i64 0,.slice none 0 0,.int .i64 0]) (i+(xs.length - (i+1))) (fun F2=>?_) (by exact Ii)
 rw [List.take_left' (by rw [List.take_left' hk,hk]),List.take_left' hk,←hk]
 refine go ?_;intros
 refine ret (_,c,F2) trivial rfl
theorem Abe {c:Cx} {fr:Fr} {H S:List Pc} {Φ:Gl} {g t:Nat} {cs:List Value} (h:T c fr (.cel g 0 cs::S) Φ) (h0:cs≠[]) (hp:Cu H (.row g t 0 [] cs []) S:=by exact Dv):T c fr H Φ:=.mk fun ac w s ag=>by
 have s1:=s.pick hp
 exact h.h ac w (s1.conv rfl ⟨h0,Fb (s1.on (.row g t 0 [] cs []) (by simp))⟩ (fun b hb=>hb)) ag
theorem Afk {c:Cx} {fr:Fr} {H S:List Pc} {Φ:Gl} {g t o k:Nat} {A B L:List Value} (X cs Y:List Value) (h:T c fr (.row g t (o+k) (A++X) cs (Y++B)::S) Φ) (hL:L=X++cs++Y:=by rfl) (hk:X.length=k:=by rfl) (hp:Cu H (.row g t o A L B) S:=by exact Dv):T c fr H Φ:=.mk fun ac w s ag=>by
 subst hL hk
 have s1:=s.pick hp
 obtain ⟨hA,hr⟩:=s1.on (.row g t o A (X++cs++Y) B) (by simp)
 exact h.h ac w (s1.conv rfl ⟨by simp [hA],by simpa [List.append_assoc] using hr⟩ (fun b hb=>hb)) ag
theorem Ys {c:Cx} {fr:Fr} {H S:List Pc} {Φ:Gl} {g t o k:Nat} {A B L:List Value} (X cs Y:List Value) (h:T c fr (.row g t o A L B::S) Φ) (hL:L=X++cs++Y:=by rfl) (hk:X.length=k:=by rfl) (hp:Cu H (.row g t (o+k) (A++X) cs (Y++B)) S:=by exact Dv):T c fr H Φ:=.mk fun ac w s ag=>by
 subst hL hk
 have s1:=s.pick hp
 obtain ⟨hA,hr⟩:=s1.on (.row g t (o+X.length) (A++X) cs (Y++B)) (by simp)
 exact h.h ac w (s1.conv rfl ⟨by simpa using hA,by simpa [List.append_assoc] using hr⟩ (fun b hb=>hb)) ag
theorem U1 {p:Pc}:∀(A:List Pc),Ip (p::A) A
 | []=>.nil
 | _::r=>.cons (.there .here) (U1 r)
theorem Adm (e:Bl) (n f:Int) (g t o:Nat) (A B:List Value) (a:Option Addr) (c:Nat) (F:List Nat) (hl:e.Af.length≤1000000) (hf:∀x∈e.Af,x.Bg.length≤1000000∧x.Bg.Pairwise (· < ·)) (hc0:-1000000≤e.Ai) (hc1:e.Ai≤1000000) :
  Fn prog 208 [Eo g o 0,.int .i64 n,.int .i64 f] [] [.row g t o A [.int .i64 e.Ai,.slice a e.Af.length c] B,.ow Dz 136 (.slice a e.Af.length c) e.Af F] (fun (_:Option Addr × Nat × List Nat)=>True) (fun _=>.bool (Wi e n)) (fun s=>[.row g t o A [.int .i64 (Ki e n f).Ai,.slice s.1 (Ki e n f).Af.length s.2.1] B,.ow Dz 136 (.slice s.1 (Ki e n f).Af.length s.2.1) (Ki e n f).Af s.2.2]):=by
 refine enter func208 rfl ntmps208 fun w0=>?_
 refine go ?_;intros
 refine cb (fun w st=>by
  obtain ⟨F', -,hs⟩:=(st.get (p:=.ow Dz 136 (.slice a e.Af.length c) e.Af F) (by simp)).2.sl Nf
  exact (Aeu e n _ F').val w (Ia ⟨_,rfl,_,rfl,hs⟩)) ?_
 rcases Pv e n with ⟨h,e1,e2,e3⟩|⟨e1,e2,e3,e4⟩
 ·rw [e1,e3,Yg h]
  obtain ⟨hfx,hpw⟩:=hf e.Af[Jp e n] (List.getElem_mem h)
  have hsl:∀y,(e.Af.set (Jp e n) y).length=e.Af.length:=fun y=>List.length_set
  refine go ?_;intros
  refine Y6 (m:=3) (Jp e n) ?_ rfl h
  rintro _ g2 A2 cs B2 k1 k2 G1 Gi G2 rfl - hc hH
  refine Tm ?_
  rintro a5 c5 F5 ev l5
  obtain rfl:cs=[.int .i64 e.Af[Jp e n].Ac,.slice a5 e.Af[Jp e n].Bg.length c5,.int .i64 e.Af[Jp e n].By]:=by simpa using ev
  refine go ?_;intros
  refine cb (fun w st=>by
   obtain ⟨F', -,hs⟩:=(st.get (p:=.ow Be 3 (.slice a5 e.Af[Jp e n].Bg.length c5) e.Af[Jp e n].Bg F5) (by simp)).2.read
   exact (Alg _ f a5 c5 F' hpw hfx).val w (Ia ⟨by decide,hs⟩)) ?_
  cases hq:Aik e.Af[Jp e n].Bg f
  ·have ep:N5 e.Af[Jp e n].Bg f=e.Af[Jp e n].Bg.take (Im e.Af[Jp e n].Bg f)++f::e.Af[Jp e n].Bg.drop (Im e.Af[Jp e n].Bg f):=by unfold N5;rw [if_neg (by simpa [Aik] using hq)]
   refine go ?_;intros
   refine cf (Ah7 e.Af[Jp e n].Bg f (Im e.Af[Jp e n].Bg f) a5 c5 _ F5 (Ag9 _ _) hfx) fun z _=>?_
   refine Ao ?_
   rw [←ep]
   refine go ?_;intros
   refine Lu ⟨e.Af[Jp e n].Ac,N5 e.Af[Jp e n].Bg f,e.Af[Jp e n].By⟩ ?_
   refine Vt _ hH rfl fun F6=>?_
   dsimp only
   rw [←hsl ⟨e.Af[Jp e n].Ac,N5 e.Af[Jp e n].Bg f,e.Af[Jp e n].By⟩]
   refine ret (_,_,_) trivial rfl
  ·have ep:N5 e.Af[Jp e n].Bg f=e.Af[Jp e n].Bg:=by unfold N5;rw [if_pos (by simpa [Aik] using hq)]
   rw [ep]
   refine go ?_;intros
   refine Lu ⟨e.Af[Jp e n].Ac,e.Af[Jp e n].Bg,e.Af[Jp e n].By⟩ ?_
   refine Vt _ hH rfl fun F6=>?_
   dsimp only
   rw [←hsl ⟨e.Af[Jp e n].Ac,e.Af[Jp e n].Bg,e.Af[Jp e n].By⟩]
   refine ret (_,_,_) trivial rfl
 ·rw [e1,e3]
  refine go ?_;intros
  refine Bd rfl (fun h5=>?_) (fun h5=>?_)
  ·rw [Yf e2 (by omega)]
   refine go ?_;intros
   refine Av [0] [18] ?_
   refine dt 0 ?_
   refine dt 1 ?_
   refine dt 2 ?_
   refine dt 3 ?_
   refine dt 4 ?_
   refine dt 5 ?_
   refine dt 6 ?_
   refine dt 8 ?_
   refine dt 9 ?_
   refine dt 10 ?_
   refine dt 11 ?_
   refine dt 12 ?_
   refine dO 7 (by kernel_rfl) (by rw [List.getElem?_toArray];rfl) ?_
   apply Hh;rfl;rfl;rfl;rfl;exact Gz;exact Gp;intro _
   refine dk ?_
   refine dt 13 ?_
   refine dO 14 (by kernel_rfl) (by rw [List.getElem?_toArray];rfl) ?_
   apply Hh;rfl;rfl;rfl;rfl;exact Gz;exact Gp;intro _
   refine Ee (E:=Be) (xs:=[f]) (Mo f) ?_ (by simp)
   refine Lu ⟨n,[f],e.Ai+6⟩ ?_
   refine dk ?_
   refine dO 15 (by kernel_rfl) (by rw [List.getElem?_toArray];rfl) ?_
   refine Aal O1 ⟨n,[f],e.Ai+6⟩ rfl fun a3 c3 F3=>?_
   refine dk ?_
   refine dt 16 ?_
   refine dt 17 ?_
   refine dO 18 (by kernel_rfl) (by rw [List.getElem?_toArray];rfl) ?_
   apply Cf;rfl;rfl;rfl;(first|exact AggC.s|exact OneC.s);rfl;exact Ci;exact Cg;rfl
   refine Lv ?_
   refine dd ?_
   refine go ?_;intros
   refine ret (_,_,_) trivial rfl
  ·rw [Vi e2 (by omega)]
   refine go ?_;intros
   refine ret (_,_,_) trivial rfl
theorem Aiu {e:Bl} {n:Int} {l:List Int} (h:Jp e n < e.Af.length):Q8 e n l=e.Af[Jp e n].Bg.filter fun f=>decide (f∈l):=by unfold Q8;rw [List.getElem?_eq_getElem h]
theorem Alk {e:Bl} {n:Int} {l:List Int} (h:e.Af[Jp e n]?=none):Q8 e n l=if e.Af.length=5 then l else []:=by unfold Q8;rw [h]
theorem Ahf (x:Int) (gb:Nat) (l:List Int) (a:Option Addr) (c:Nat) (F:List Nat):Fn prog 244 [.int .i64 x,Eo gb 0 0] [.cel gb 0 [.slice a l.length c],.sl Be (.slice a l.length c) l F] [] (fun (_:Unit)=>True) (fun _=>.bool (!decide (x∈l))) (fun _=>[]):=by
 refine enter func244 rfl ntmps244 fun w0=>?_
 refine go ?_;intros
 refine cf (Aio l x _ _ F) fun _ _=>?_
 refine Ao ?_
 refine go ?_;intros
 refine ret () trivial ?_
 rw [decide_not];rfl
structure Aqf where
 a:Option Addr
 c:Nat
 F:List Nat
 a2:Option Addr
 c2:Nat
 F2:List Nat
theorem Afp (e:Bl) (n:Int) (below:List Int) (g t o:Nat) (A B:List Value) (a:Option Addr) (c:Nat) (F:List Nat) (a0:Option Addr) (c0:Nat) (F0:List Nat) (hl:e.Af.length≤1000000) (hf:∀x∈e.Af,x.Bg.length≤1000000) (hb:below.length≤1000000) :
  Fn prog 206 [Eo g o 0,.int .i64 n,.slice a0 below.length c0] [.sl Be (.slice a0 below.length c0) below F0] [.row g t o A [.int .i64 e.Ai,.slice a e.Af.length c] B,.ow Dz 136 (.slice a e.Af.length c) e.Af F] (fun (_:Aqf)=>True) (fun s=>.slice s.a2 (Q8 e n below).length s.c2) (fun s=>[.row g t o A [.int .i64 (Mn e n).Ai,.slice s.a (Mn e n).Af.length s.c] B,.ow Dz 136 (.slice s.a (Mn e n).Af.length s.c) (Mn e n).Af s.F,.ow Be 3 (.slice s.a2 (Q8 e n below).length s.c2) (Q8 e n below) s.F2]):=by
 refine enter func206 rfl ntmps206 fun w0=>?_
 refine go ?_;intros
 rename_i gb
 refine cb (fun w st=>by
  obtain ⟨F', -,hs⟩:=(st.get (p:=.ow Dz 136 (.slice a e.Af.length c) e.Af F) (by simp)).2.sl Nf
  exact (Aeu e n _ F').val w (Ia ⟨_,rfl,_,rfl,hs⟩)) ?_
 refine Abe (cs:=[.slice a0 below.length c0]) ?_ (by simp)
 rcases Pv e n with ⟨h,e1,e2,e3⟩|⟨e1,e2,e3,e4⟩
 ·rw [e1,Yc h,Aiu h]
  have hfx:=hf e.Af[Jp e n] (List.getElem_mem h)
  refine go ?_;intros
  refine Vo O1 rfl fun ys Fy Gy hyl hym=>?_
  generalize Jp e n=i at *
  generalize hx:e.Af[i]=x at *
  refine Akl i h hyl hym fun G1 Gi G2=>?_
  rw [hx]
  refine Tm ?_
  rintro a5 c5 F5 ev l5
  have hyi:ys[i]=[.int .i64 x.Ac,.slice a5 x.Bg.length c5,.int .i64 x.By]:=by simpa using ev
  refine Ob (m:=3) (E7 3) i ?_ (by repeat (first|exact .here|apply Cu.there)) rfl (by omega)
  rintro _ g2 A2 cs B2 rfl rfl hr hH
  obtain ⟨rfl, -⟩:=hr w0
  rw [hyi]
  refine go ?_;intros
  refine cf (Abo 244 [] [Eo gb 0 0] [.cel gb 0 [.slice a0 below.length c0],.sl Be (.slice a0 below.length c0) below F0] rfl x.Bg a5 c5 F5 (fun z=>!decide (z∈below)) (by kernel_rfl) (by omega) (fun z _ w hA=>(Ahf z gb below a0 c0 F0).val w hA)) fun z _=>?_
  refine Ao ?_
  have e9:(x.Bg.filter fun z=>!!decide (z∈below))=x.Bg.filter fun z=>decide (z∈below):=by simp only [Bool.not_not]
  rw [e9]
  rw [←hyi]
  refine Nc ys[i] hH hr ?_
  rw [List.set_getElem_self]
  refine go ?_;intros
  refine cf (Ani ys e.Af.length i _ _ _ _ hyl.symm (by omega) rfl (by omega)) fun q _=>?_
  refine Ao ?_
  refine go ?_;intros
  refine Afj (E:=Dz) ?_
  refine Akj (E:=Dz) (m:=3) (ys:=ys.take i++ys.drop (i+1)) (cs:=(ys.take i).flatten++(ys.drop (i+1)).flatten) (xs:=e.Af.take i++e.Af.drop (i+1)) ?_ rfl (by simp) (by simp [hyl])
  rw [show (ys.take i++ys.drop (i+1)).length=(e.Af.take i++e.Af.drop (i+1)).length by simp [hyl]]
  refine ret ⟨_,_,_,_,_,_⟩ trivial rfl
 ·rw [e1,Aa7 e2,Alk e2]
  refine go ?_;intros
  refine Bd rfl (fun h5=>?_) (fun h5=>?_)
  ·rw [if_pos (by omega)]
   refine go ?_;intros
   refine cn (fun w st=>Rz _ below F0 w (st.get (p:=.sl Be (.slice a0 below.length c0) below F0) (by simp)).2 (by omega)) fun a6 c6 F6=>?_
   refine go ?_;intros
   refine ret ⟨_,_,_,_,_,_⟩ trivial rfl
  ·rw [if_neg (by omega)]
   refine B7 Be 3 ?_
   refine go ?_;intros
   refine ret ⟨_,_,_,_,_,_⟩ trivial rfl
theorem Ab5 {e:Bl} (h:Bc e=true) {x:Es} (hx:x∈e.Af):x.Bg.Pairwise (· < ·):=by
 unfold Bc at h
 simp only [Bool.and_eq_true] at h
 obtain ⟨i,hi,rfl⟩:=List.getElem_of_mem hx
 have:=Hn h.2 i hi
 rw [Ie hi] at this
 simp only [Ix,Bool.and_eq_true] at this
 exact (Vj this.1.2.2.1).1
theorem Aez {e:Bl} {n:Int} {l:List Int} (h:Bc e=true) (h2:M9 1 7 l=true):T6 e n l=Q8 e n l:=by
 unfold T6 Q8
 cases hx:e.Af[Jp e n]? with
 | none=>rfl
 | some x=>exact (Ab6 (Ab5 h (List.mem_of_getElem? hx)) (Vj h2).1).symm
theorem Abi (v v2:Value) (xs:List Int) (F F2:List Nat):Fn prog 38 [v,v2] [.sl Be v xs F,.sl Be v2 xs F2] [] (fun (_:Unit)=>True) (fun _=>.bool true) (fun _=>[]):=by
 refine enter func38 rfl ntmps38 fun w0=>?_
 refine Qw (v:=v) (xs:=xs) (F:=F) ?_
 rintro a c rfl l1 l2
 refine Qw (v:=v2) (xs:=xs) (F:=F2) ?_
 rintro a2 c2 rfl l3 l4
 refine go ?_;intros
 refine Bd rfl (fun h=>?_) (fun h=>?_)
 ·exact absurd rfl h
 refine go ?_;intros
 refine Ds [0,1,4] (fun k:Nat=>[(5,.int .i64 k)]) (fun k=>k≤xs.length) (fun k=>xs.length - k) 0 (Nat.zero_le _) fun k hk=>?_
 refine go ?_;intros
 refine Bd rfl (fun h3=>?_) (fun h3=>?_)
 ·have hk3:k < xs.length:=by omega
  refine Il (a:=a) (xs:=xs) k ?_
  rintro hi b o e
  rw [e]
  refine Il (a:=a2) (xs:=xs) k ?_
  rintro hi2 b2 o2 e2
  rw [e2]
  refine Jq ?_;intros
  refine Av [0,1] [] ?_
  refine dt 0 ?_
  refine dt 1 ?_
  refine dt 2 ?_
  refine dt 3 ?_
  refine dt 4 ?_
  refine dt 5 ?_
  refine dt 6 ?_
  refine dt 7 ?_
  refine dt 8 ?_
  refine dd ?_
  refine go ?_;intros
  refine Bd rfl (fun h4=>?_) (fun h4=>?_)
  ·exact absurd rfl h4
  refine go ?_;intros
  refine Co (k+1) hk3 (by omega)
 ·refine go ?_;intros
  refine ret () trivial rfl
theorem Aeo (v v2:Value) (e:Bl) (F F2:List Nat):Fn prog 40 [v,v2] [.isv Bh v e F,.isv Bh v2 e F2] [] (fun (_:Unit)=>True) (fun _=>.bool true) (fun _=>[]):=by
 refine enter func40 rfl ntmps40 fun w0=>?_
 refine Eb (v:=v) (x:=e) (F:=F) ?_
 rintro a1 c1 F3 rfl l1
 unfold maxLen at l1
 refine Eb (v:=v2) (x:=e) (F:=F2) ?_
 rintro a2 c2 F4 rfl l2
 refine go ?_;intros
 refine Cw rfl rfl (fun h1=>?_) (fun h1=>?_)
 ·exact absurd rfl h1
 refine go ?_;intros
 refine Bd rfl (fun h2=>?_) (fun h2=>?_)
 ·exact absurd rfl h2
 refine go ?_;intros
 refine Ds [2,3,4] (fun k:Nat=>[(5,.int .i64 (k:Nat))]) (fun k=>k≤e.Af.length) (fun k=>e.Af.length - k) 0 (Nat.zero_le _) fun k hk=>?_
 refine go ?_;intros
 refine Bd rfl (fun h3=>?_) (fun h3=>?_)
 ·have hk3:k < e.Af.length:=by omega
  refine T2 (a:=a1) (xs:=e.Af) k ?_
  rintro hi b o a5 c5 F5 e6 l5
  rw [e6]
  refine T2 (a:=a2) (xs:=e.Af) k ?_
  rintro hi2 b2 o2 a7 c7 F7 e8 l7
  rw [e8]
  refine go ?_;intros
  refine Av [0,2,4,5] [] ?_
  refine dt 0 ?_
  refine dt 1 ?_
  refine dt 2 ?_
  refine dt 3 ?_
  refine dt 4 ?_
  refine dt 5 ?_
  refine dt 6 ?_
  refine dt 7 ?_
  refine dt 8 ?_
  refine dt 9 ?_
  refine Nn 10 11 (by kernel_rfl) (by rw [List.getElem?_toArray];rfl) (by rw [List.getElem?_toArray];rfl) ?_ ?_
  ·apply Bv;rfl;intro _
   refine dk ?_
   refine dO 11 (by kernel_rfl) (by rw [List.getElem?_toArray];rfl) ?_
   apply Bv;rfl;intro _
   refine dk ?_
   refine dO 12 (by kernel_rfl) (by rw [List.getElem?_toArray];rfl) ?_
   apply Cf;rfl;rfl;rfl;(first|exact AggC.s|exact OneC.s);rfl;exact Ci;exact Cg;rfl
   refine dk ?_
   refine dO 13 (by kernel_rfl) (by rw [List.getElem?_toArray];rfl) ?_
   apply Cf;rfl;rfl;rfl;(first|exact AggC.s|exact OneC.s);rfl;exact Ci;exact Cg;rfl
   refine dk ?_
   refine dd ?_
   refine go ?_;intros
   refine Cw rfl rfl (fun h4=>?_) (fun h4=>?_)
   ·exact absurd rfl h4
   refine go ?_;intros
   refine Cw rfl rfl (fun h5=>?_) (fun h5=>?_)
   ·exact absurd rfl h5
   refine go ?_;intros
   refine cf (Abi _ _ e.Af[k].Bg F5 F7) fun _ _=>?_
   refine Ao ?_
   refine go ?_;intros
   refine Co (k+1) (by omega) (by omega)
  ·apply Bv;rfl;intro _
   refine dk ?_
   refine dO 10 (by kernel_rfl) (by rw [List.getElem?_toArray];rfl) ?_
   apply Bv;rfl;intro _
   refine dk ?_
   refine dO 12 (by kernel_rfl) (by rw [List.getElem?_toArray];rfl) ?_
   apply Cf;rfl;rfl;rfl;(first|exact AggC.s|exact OneC.s);rfl;exact Ci;exact Cg;rfl
   refine dk ?_
   refine dO 13 (by kernel_rfl) (by rw [List.getElem?_toArray];rfl) ?_
   apply Cf;rfl;rfl;rfl;(first|exact AggC.s|exact OneC.s);rfl;exact Ci;exact Cg;rfl
   refine dk ?_
   refine dd ?_
   refine go ?_;intros
   refine Cw rfl rfl (fun h4=>?_) (fun h4=>?_)
   ·exact absurd rfl h4
   refine go ?_;intros
   refine Cw rfl rfl (fun h5=>?_) (fun h5=>?_)
   ·exact absurd rfl h5
   refine go ?_;intros
   refine cf (Abi _ _ e.Af[k].Bg F5 F7) fun _ _=>?_
   refine Ao ?_
   refine go ?_;intros
   refine Co (k+1) (by omega) (by omega)
 ·refine go ?_;intros
  refine ret () trivial rfl
theorem Ajs (l:List Int) (n:Int):(N5 l n).length≤l.length+1:=by
 unfold N5
 split
 ·omega
 ·simp only [List.length_append,List.length_take,List.length_cons,List.length_drop];omega
theorem Ew {e:Bl}:Bc e=true↔Ig e.Ai=true∧e.Af.length≤5∧(∀x∈e.Af,Ix e.Ai x=true)∧e.Af.Pairwise fun a b=>a.Ac≠b.Ac:=by
 unfold Bc
 simp only [Bool.and_eq_true,decide_eq_true_eq]
 constructor
 ·rintro ⟨⟨h1,h2⟩,h3⟩
  refine ⟨h1,h2,fun x hx=>?_,List.pairwise_iff_getElem.2 fun i j hi hj hij=>?_⟩
  ·obtain ⟨i,hi,rfl⟩:=List.getElem_of_mem hx
   have:=Hn h3 i hi
   rw [Ie hi,Bool.and_eq_true] at this
   exact this.1
  ·have:=Hn h3 j hj
   rw [Ie hj,Bool.and_eq_true,Bool.not_eq_true',List.any_eq_false] at this
   have:=this.2 e.Af[i] (List.mem_take_iff_getElem.2 ⟨i,by omega,rfl⟩)
   simpa using this
 ·rintro ⟨h1,h2,h3,h4⟩
  refine ⟨⟨h1,h2⟩,H8 fun i hi=>?_⟩
  rw [Ie hi,h3 _ (List.getElem_mem hi),Bool.true_and,Bool.not_eq_true',List.any_eq_false]
  intro x hx
  obtain ⟨j,hj,rfl⟩:=List.mem_take_iff_getElem.1 hx
  have:=List.pairwise_iff_getElem.1 h4 j i (by omega) hi (by omega)
  simpa using this
theorem L5 {c:Int} {x:Es}:Ix c x=true↔Bx x.Ac=true∧0 < x.Bg.length∧(x.Bg.Pairwise (· < ·)∧∀z∈x.Bg,1≤z∧z≤7)∧c+1≤x.By∧x.By≤c+6:=by
 unfold Ix Gs
 simp only [Bool.and_eq_true,decide_eq_true_eq]
 exact ⟨fun ⟨a,b,c,d⟩=>⟨a,b,Vj c,d⟩,fun ⟨a,b,c,d⟩=>⟨a,b,Z8 c.1 c.2,d⟩⟩
theorem Acw (l:List Int) (n:Int):(∀j (_:j < Im l n) (h:j < l.length),l[j] < n)∧∀h:Im l n < l.length,¬l[Im l n] < n:=by
 have:=Nj (p:=fun x=>decide (x < n)) (xs:=l)
 exact ⟨fun j hj h=>of_decide_eq_true (this.2.1 j hj h),fun h=>of_decide_eq_false (this.2.2 h)⟩
theorem Acx {l:List Int} {n x:Int}:x∈N5 l n↔x=n∨x∈l:=by
 unfold N5
 split
 ·rename_i h
  have:=List.mem_of_getElem? h
  exact ⟨fun h=>.inr h,fun h=>by rcases h with rfl|h;exact this;exact h⟩
 ·rw [List.mem_append,List.mem_cons]
  constructor
  ·rintro (h|h|h)
   ·exact .inr (List.mem_of_mem_take h)
   ·exact .inl h
   ·exact .inr (List.mem_of_mem_drop h)
  ·rintro (h|h)
   ·exact .inr (.inl h)
   ·rw [←List.take_append_drop (Im l n) l,List.mem_append] at h
    rcases h with h|h
    ·exact .inl h
    ·exact .inr (.inr h)
theorem Al9 {l:List Int} {n:Int} (h:l.Pairwise (· < ·)):(N5 l n).Pairwise (· < ·):=by
 obtain ⟨s1,s2⟩:=Acw l n
 have hp:=List.pairwise_iff_getElem.1 h
 unfold N5
 split
 ·exact h
 ·rename_i hne
  refine List.pairwise_append.2 ⟨h.sublist (List.take_sublist _ _),List.pairwise_cons.2 ⟨fun z hz=>?_,h.sublist (List.drop_sublist _ _)⟩,fun a ha b hb=>?_⟩
  ·obtain ⟨j,hj,rfl⟩:=List.mem_drop_iff_getElem.1 hz
   have hk:Im l n < l.length:=by omega
   have h1:=s2 hk
   have h2:l[Im l n]≠n:=fun e=>hne (by rw [List.getElem?_eq_getElem hk,e])
   rcases Nat.eq_zero_or_pos j with rfl|hj0
   ·simp only [Nat.add_zero];omega
   ·have:=hp (Im l n) (Im l n+j) hk (by omega) (by omega)
    omega
  ·obtain ⟨i,hi,rfl⟩:=List.mem_take_iff_getElem.1 ha
   have h1:=s1 i (by omega) (by omega)
   rcases List.mem_cons.1 hb with rfl|hb
   ·exact h1
   ·obtain ⟨j,hj,rfl⟩:=List.mem_drop_iff_getElem.1 hb
    exact hp i (Im l n+j) (by omega) (by omega) (by omega)
theorem M5 {f:Int}:Mx f=true↔1≤f∧f≤7:=by unfold Mx Gs;simp
theorem Af9 {e:Bl} {n f:Int} (hg:Bc e=true) (hn:Bx n=true) (hf:Mx f=true):Bc (Ki e n f)=true:=by
 obtain ⟨h1,h2,h3,h4⟩:=Ew.1 hg
 obtain ⟨f1,f2⟩:=M5.1 hf
 rcases Pv e n with ⟨h, -,e2, -⟩|⟨-,e2, -,e4⟩
 ·rw [Yg h]
  have hx:=L5.1 (h3 _ (List.getElem_mem h))
  refine Ew.2 ⟨h1,by simpa using h2,fun x hx'=>?_,?_⟩
  ·rcases List.mem_or_eq_of_mem_set hx' with h'|rfl
   ·exact h3 x h'
   ·refine L5.2 ⟨hx.1,?_,⟨Al9 hx.2.2.1.1,fun z hz=>?_⟩,hx.2.2.2⟩
    ·exact List.length_pos_of_mem (Acx.2 (.inl rfl))
    ·rcases Acx.1 hz with rfl|hz
     ·exact ⟨f1,f2⟩
     ·exact hx.2.2.1.2 z hz
  ·refine List.pairwise_iff_getElem.2 fun i j hi hj hij=>?_
   have hp:=List.pairwise_iff_getElem.1 h4 i j (by simpa using hi) (by simpa using hj) hij
   simp only [List.getElem_set]
   split <;> split <;> simp_all
 ·by_cases hl:e.Af.length < 5
  ·rw [Yf e2 hl]
   refine Ew.2 ⟨h1,by simp;omega,fun x hx=>?_,?_⟩
   ·rcases List.mem_append.1 hx with h'|h'
    ·exact h3 x h'
    ·simp only [List.mem_cons,List.not_mem_nil,or_false] at h'
     subst h'
     exact L5.2 ⟨hn,by simp,⟨by simp,by simp [f1,f2]⟩,by show e.Ai+1≤e.Ai+6;omega,by show e.Ai+6≤e.Ai+6;omega⟩
   ·refine List.pairwise_append.2 ⟨h4,by simp,fun a ha b hb=>?_⟩
    simp only [List.mem_cons,List.not_mem_nil,or_false] at hb
    subst hb
    exact e4 a ha
  ·rw [Vi e2 hl];exact hg
theorem Af8 {e:Bl} {n:Int} (hg:Bc e=true):Bc (Mn e n)=true:=by
 obtain ⟨h1,h2,h3,h4⟩:=Ew.1 hg
 rcases Pv e n with ⟨h, -,e2, -⟩|⟨-,e2, -,e4⟩
 ·rw [Yc h]
  have hs:(e.Af.take (Jp e n)++e.Af.drop (Jp e n+1)).Sublist e.Af:=by
   have:=List.Sublist.append (List.Sublist.refl (e.Af.take (Jp e n))) (List.drop_sublist_drop_left e.Af (Nat.le_succ (Jp e n)))
   rwa [List.take_append_drop] at this
  exact Ew.2 ⟨h1,Nat.le_trans hs.length_le h2,fun x hx=>h3 x (hs.subset hx),h4.sublist hs⟩
 ·rw [Aa7 e2];exact hg
theorem Xj {e:Bl} {n:Int} {l:List Int}:∀z∈Q8 e n l,z∈l:=fun z hz=>by
 unfold Q8 at hz
 split at hz
 ·have:=(List.mem_filter.1 hz).2;simpa using this
 ·split at hz
  ·exact hz
  ·simp at hz
theorem Sk {a t:Int}:D0 a t≤(gp a t).toNat:=by unfold D0;split <;> omega
theorem P5 {w:Am} {t:Int} (hg:C0 w=true):(Hg w t).next=Ca w.next ((Hv w t).length:Nat)∧(Hg w t).An=w.An.drop (Hv w t).length∧(Hv w t).length≤D0 w.next t+8∧D0 w.next t≤(Hv w t).length:=by
 obtain ⟨h0,h1⟩:0≤w.next∧w.next≤65535:=by
  unfold C0 at hg
  simp only [Bool.and_eq_true] at hg
  exact A4.1 hg.1.1.1
 have hl:w.An.length≤8:=by
  unfold C0 at hg
  simp only [Bool.and_eq_true,decide_eq_true_eq] at hg
  have:=hg.1.1.2;omega
 have e1:∀k (x:Am),(Ly k x).length=k:=by
  intro k
  induction k with
  | zero=>intro x;rfl
  | succ k ih=>intro x;simp [Ly,ih]
 have h2:=Vz (D0 w.next t) w h0 h1
 have h3:=Rr (Gk (D0 w.next t) w).An (Gk (D0 w.next t) w).next
 have h4:=Qg (D0 w.next t) w
 have h5:=Afe (Gk (D0 w.next t) w)
 rw [h4,List.length_drop] at h5
 refine ⟨h2,?_,?_,?_⟩
 ·have e:(Hg w t).An=(Gk (D0 w.next t) w).An.drop (Nv (Gk (D0 w.next t) w)).length:=h3.1
  rw [e,h4,List.drop_drop]
  unfold Hv
  rw [List.length_append,e1]
 ·unfold Hv
  rw [List.length_append,e1];omega
 ·unfold Hv
  rw [List.length_append,e1];omega
theorem Ae2 (w:Am) (n:Int):Gj w n=Ho w.An (gp w.next n).toNat:=rfl
theorem Al2 {w:Am} {t n:Int} (hg:C0 w=true) (ht:gp w.next t≤8) (hn:Bx n=true) (h8:gp w.next n < 8) (hh:Gj w n=false) :
  (Pa n (Hg w t).next=true∧gp w.next n < ((Hv w t).length:Nat))∨(Pa n (Hg w t).next=false∧Gj (Hg w t) n=false∧gp w.next n=((Hv w t).length:Nat)+gp (Hg w t).next n):=by
 obtain ⟨e1,e2,e3, -⟩:=P5 (t:=t) hg
 have hs:=@Sk w.next t
 obtain ⟨n0,n1⟩:=A4.1 hn
 obtain ⟨w0,w1⟩:0≤w.next∧w.next≤65535:=by
  unfold C0 at hg
  simp only [Bool.and_eq_true] at hg
  exact A4.1 hg.1.1.1
 have hm:(Hv w t).length≤16:=by omega
 have hb:=Iu w.next n
 rw [Ae2,e1,e2,Qj]
 rw [Ae2] at hh
 generalize hM:(Hv w t).length=m at *
 clear e1 e2 e3 hs hM hg ht
 by_cases hc:gp w.next n < (m:Nat)
 ·left
  refine ⟨?_,hc⟩
  unfold Pa Gs gp Ca at *
  simp only [Bool.and_eq_true,decide_eq_true_eq]
  omega
 ·right
  have e:gp w.next n=m+gp (Ca w.next m) n:=by unfold gp Ca at *;omega
  refine ⟨?_,?_,e⟩
  ·have:¬(1≤gp n (Ca w.next m)∧gp n (Ca w.next m)≤32767):=by unfold gp Ca at *;omega
   unfold Pa Gs
   simpa using this
  ·have hb2:=Iu (Ca w.next m) n
   rw [show m+(gp (Ca w.next m) n).toNat=(gp w.next n).toNat by omega]
   exact hh
theorem Aa0 {w:Am} {t:Int} (hg:C0 w=true) (ht:gp w.next t≤8) {l:List A1} (hl:∀q∈l,Bx q.Ac=true∧gp w.next q.Ac < 8∧Gj w q.Ac=false):Do l (Hg w t)=Ss l (Hg w t).next:=by
 unfold Do Ss
 refine List.filter_congr fun q hq=>?_
 obtain ⟨a,b,c⟩:=hl q hq
 rcases Al2 hg ht a b c with ⟨h, -⟩|⟨h,h2,h3⟩
 ·simp [h]
 ·have:=Iu (Hg w t).next q.Ac
  simp [h,h2,show gp (Hg w t).next q.Ac < 8 by omega]
theorem Abh {c d:Int} {r q:A1} (h:Pj c d r=some q):q.Ac=r.Ac:=by
 unfold Pj at h
 split at h
 ·cases h;rfl
 ·split at h
  ·cases h
  ·split at h <;> cases h <;> rfl
theorem Amp {c:Int} {r:A1} {n:Int} (h:Po c r=some n):n=r.Ac:=by
 unfold Po at h
 split at h
 ·cases h
 ·split at h <;> cases h <;> rfl
theorem Yh {r:A7} (hg:Ju r) {q:A1} (hq:q∈r.Ap):Bx q.Ac=true∧gp r.Aa.next q.Ac < 8∧Gj r.Aa q.Ac=false:=by
 obtain ⟨-, -,h3, -⟩:=Di.1 hg.q
 have:=Dx.1 (h3 q hq)
 exact ⟨this.n,this.g,hg.f q hq⟩
theorem Um {r:A7} {d:Int} (hg:Ju r) {q:A1} (hq:q∈Kh r d):Bx q.Ac=true∧gp r.Aa.next q.Ac < 8∧Gj r.Aa q.Ac=false:=by
 obtain ⟨q',hq',h⟩:=List.mem_filterMap.1 hq
 rw [Abh h]
 exact Yh hg hq'
theorem Vr {r:A7} (hg:Ju r) {n:Int} (hn:n∈Cr r):Bx n=true∧gp r.Aa.next n < 8:=by
 obtain ⟨q',hq',h⟩:=List.mem_filterMap.1 hn
 rw [Amp h]
 exact ⟨(Yh hg hq').1,(Yh hg hq').2.1⟩
theorem Gc {w:Am} (hg:C0 w=true):0≤w.next∧w.next≤65535:=by
 unfold C0 at hg
 simp only [Bool.and_eq_true] at hg
 exact A4.1 hg.1.1.1
theorem Wr {r:A7} (hg:Ju r) (h:Cr r≠[]):gp r.Aa.next (C5 (Cr r))≤8∧Bx (C5 (Cr r))=true:=by
 unfold C5
 have hm:(Cr r).getLastD 0∈Cr r:=by
  rw [List.getLastD_eq_getLast?,List.getLast?_eq_some_getLast h]
  exact List.getLast_mem h
 obtain ⟨a,b⟩:=Vr hg hm
 refine ⟨?_,Me _ _⟩
 obtain ⟨n0,n1⟩:=A4.1 a
 obtain ⟨w0,w1⟩:=Gc hg.w
 unfold gp Ca at *
 omega
theorem We {r:A7} {d:Int} (hg:Ju r) (h:Cr r≠[]):Do (Kh r d) (Hg r.Aa (C5 (Cr r)))=Ss (Kh r d) (Hg r.Aa (C5 (Cr r))).next :=
 Aa0 hg.w (Wr hg h).1 fun _ hq=>Um hg hq
theorem Ane {t a b:Int} (ha:Bx a=true) (hb:Bx b=true) (h:gp t a=gp t b):a=b:=by
 obtain ⟨a0,a1⟩:=A4.1 ha
 obtain ⟨b0,b1⟩:=A4.1 hb
 unfold gp at h;omega
def Dr (base:Int) (l:List A1) (n:Int):Nat:=(l.takeWhile fun r=>decide (gp base r.Ac < gp base n)).length
def Jv (base:Int) (l:List A1) (n:Int):Bool:=match l[Dr base l n]? with|some r=>decide (r.Ac=n)|none=>false
def Apm (n u:Int):A1:=⟨n,1,u,0⟩
def Ra (base:Int) (l:List A1) (n u:Int):List A1:=l.take (Dr base l n)++Apm n u::l.drop (Dr base l n)
def Pr (base:Int) (l:List A1) (n u:Int):List A1:=if Jv base l n || !decide (gp base n < 8) then l else Ra base l n u
def Nm (base:Int) (l:List A1) (n u:Int):List A1:=match l[Dr base l n]? with|some r=>if r.Ac=n then l.set (Dr base l n) ⟨n,3,u,r.Dc⟩ else l|none=>l
theorem Ot (base:Int) (l:List A1) (n:Int):Dr base l n≤l.length:=Nj.1
theorem Ps {base:Int} {l:List A1} {n:Int} (h:Dr base l n < l.length):Jv base l n=decide (l[Dr base l n].Ac=n):=by unfold Jv;rw [List.getElem?_eq_getElem h]
theorem Zg {base:Int} {l:List A1} {n:Int} (h:¬Dr base l n < l.length):Jv base l n=false:=by unfold Jv;rw [List.getElem?_eq_none (by omega)]
theorem Pt {base:Int} {l:List A1} {n:Int} (h:Jv base l n=true):Dr base l n < l.length:=by
 by_cases h2:Dr base l n < l.length
 ·exact h2
 ·rw [Zg h2] at h;cases h
theorem Rf {base:Int} {l:List A1} {n u:Int} (h:Jv base l n=false):Nm base l n u=l:=by
 unfold Nm
 unfold Jv at h
 cases hq:l[Dr base l n]? with
 | none=>rfl
 | some r=>rw [hq] at h;dsimp only at h ⊢;rw [if_neg (by simpa using h)]
theorem Pu {base:Int} {l:List A1} {n u:Int} (h:Jv base l n=true):Nm base l n u=l.set (Dr base l n) ⟨n,3,u,(l[Dr base l n]'(Pt h)).Dc⟩:=by
 have h2:=Pt h
 rw [Ps h2] at h
 unfold Nm
 rw [List.getElem?_eq_getElem h2]
 dsimp only
 rw [if_pos (by simpa using h)]
theorem Zi (base:Int) (l:List A1) (n u:Int):(Nm base l n u).length=l.length:=by
 cases h:Jv base l n
 ·rw [Rf h]
 ·rw [Pu h,List.length_set]
theorem Ans {base n:Int} {l:List A1} (hq:I7 l base=true) (hn:Bx n=true) (h:Jv base l n=false):∀r∈l,gp base r.Ac≠gp base n:=by
 obtain ⟨-, -,h3,h4⟩:=Di.1 hq
 obtain ⟨t1,t2,t3⟩:=Nj (p:=fun r:A1=>decide (gp base r.Ac < gp base n)) (xs:=l)
 intro r hr e
 obtain ⟨i,hi,rfl⟩:=List.getElem_of_mem hr
 have e2:=Ane (Dx.1 (h3 _ hr)).n hn e
 have hk:Dr base l n=i:=Ru (by omega) (fun j hj h=>by
  have:=List.pairwise_iff_getElem.1 h4 j i h hi hj
  simp only [decide_eq_true_eq];omega) (fun h=>by simp only [decide_eq_false_iff_not];omega)
 rw [Ps (by omega)] at h
 simp only [hk] at h
 simp [e2] at h
theorem An9 {base:Int} {l:List A1} (hp:l.Pairwise fun a b=>gp base a.Ac < gp base b.Ac) (h8:∀q∈l,gp base q.Ac < 8):l.length≤8:=by
 have key:∀i (h:i < l.length),(i:Int)≤gp base l[i].Ac:=by
  intro i
  induction i with
  | zero=>intro h;exact (Iu _ _).1
  | succ i ih =>
   intro h
   have a:=ih (by omega)
   have b:=List.pairwise_iff_getElem.1 hp i (i+1) (by omega) h (by omega)
   omega
 by_cases h:l.length≤8
 ·exact h
 ·have a:=key 8 (by omega)
  have b:=h8 _ (List.getElem_mem (show 8 < l.length by omega))
  omega
theorem Ai3 (base:Int) (l:List A1) (n u:Int):(Ra base l n u).length=l.length+1:=by
 have:=Ot base l n
 unfold Ra
 rw [List.length_append,List.length_cons,List.length_take,List.length_drop];omega
theorem Zt {base n u:Int} {l:List A1} (hq:I7 l base=true) (hn:Bx n=true) (h8:gp base n < 8) (u0:0≤u) (u1:u≤10007) (h:Jv base l n=false):I7 (Ra base l n u) base=true:=by
 have hne:=Ans hq hn h
 obtain ⟨h1,h2,h3,h4⟩:=Di.1 hq
 obtain ⟨t1,t2,t3⟩:=Nj (p:=fun r:A1=>decide (gp base r.Ac < gp base n)) (xs:=l)
 have hle:=Ot base l n
 have hok:∀r∈Ra base l n u,Jx base r=true:=by
  intro r hr
  unfold Ra at hr
  rcases List.mem_append.1 hr with h|h
  ·exact h3 r (List.mem_of_mem_take h)
  ·rcases List.mem_cons.1 h with rfl|h
   ·exact Dx.2 ⟨hn,h8,by show (1:Int)≤1;decide,by show (1:Int)≤3;decide,u0,u1,by show (0:Int)≤0;decide,by show (0:Int)≤3;decide⟩
   ·exact h3 r (List.mem_of_mem_drop h)
 have hpw:(Ra base l n u).Pairwise fun a b=>gp base a.Ac < gp base b.Ac:=by
  unfold Ra
  rw [List.pairwise_append]
  refine ⟨h4.sublist (List.take_sublist _ _),?_,?_⟩
  ·rw [List.pairwise_cons]
   refine ⟨fun b hb=>?_,h4.sublist (List.drop_sublist _ _)⟩
   obtain ⟨j,hj,rfl⟩:=List.getElem_of_mem hb
   rw [List.getElem_drop]
   rw [List.length_drop] at hj
   have hk:Dr base l n < l.length:=by omega
   have h0:=t3 hk
   simp only [decide_eq_false_iff_not,Int.not_lt] at h0
   have h00:gp base n≤gp base (l[Dr base l n]'hk).Ac:=h0
   have hd:=hne _ (List.getElem_mem hk)
   show gp base n < _
   rcases Nat.eq_zero_or_pos j with e|e
   ·subst e;simp only [Nat.add_zero];omega
   ·have h5:=List.pairwise_iff_getElem.1 h4 (Dr base l n) (Dr base l n+j) hk (by omega) (by omega)
    omega
  ·intro a ha b hb
   obtain ⟨i,hi,rfl⟩:=List.getElem_of_mem ha
   rw [List.length_take] at hi
   rw [List.getElem_take]
   have ha2:=t2 i (by show i < Dr base l n;omega) (by omega)
   simp only [decide_eq_true_eq] at ha2
   rcases List.mem_cons.1 hb with rfl|hb
   ·exact ha2
   ·obtain ⟨j,hj,rfl⟩:=List.getElem_of_mem hb
    rw [List.getElem_drop]
    rw [List.length_drop] at hj
    exact List.pairwise_iff_getElem.1 h4 i (Dr base l n+j) (by omega) (by omega) (by omega)
 exact Di.2 ⟨h1,An9 hpw fun q hq=>(Dx.1 (hok q hq)).g,hok,hpw⟩
theorem Afv {base n u:Int} {l:List A1} (hq:I7 l base=true) (hn:Bx n=true) (u0:0≤u) (u1:u≤10007):I7 (Pr base l n u) base=true:=by
 unfold Pr
 split
 ·exact hq
 ·rename_i h
  simp only [Bool.or_eq_true,Bool.not_eq_true',not_or,Bool.not_eq_false,Bool.not_eq_true,decide_eq_true_eq] at h
  exact Zt hq hn h.2 u0 u1 h.1
theorem Ajd {base n u:Int} {l:List A1} {q:A1} (h:q∈Pr base l n u):q∈l∨q.Ac=n:=by
 unfold Pr Ra at h
 split at h
 ·exact .inl h
 ·rcases List.mem_append.1 h with h|h
  ·exact .inl (List.mem_of_mem_take h)
  ·rcases List.mem_cons.1 h with rfl|h
   ·exact .inr rfl
   ·exact .inl (List.mem_of_mem_drop h)
theorem Adr {base n u:Int} {l:List A1} (hq:I7 l base=true) (u0:0≤u) (u1:u≤10007):I7 (Nm base l n u) base=true:=by
 cases h:Jv base l n
 ·rw [Rf h];exact hq
 obtain ⟨h1,h2,h3,h4⟩:=Di.1 hq
 have hk:=Pt h
 have hn:l[Dr base l n].Ac=n:=by rw [Ps hk] at h;simpa using h
 have ho:=Dx.1 (h3 _ (List.getElem_mem hk))
 rw [Pu h]
 have hnum:∀i (h:i < (l.set (Dr base l n) ⟨n,3,u,l[Dr base l n].Dc⟩).length),(l.set (Dr base l n) ⟨n,3,u,l[Dr base l n].Dc⟩)[i].Ac=(l[i]'(by simpa using h)).Ac:=fun i h=>by
  rw [List.getElem_set]
  split
  ·rename_i e;subst e;exact hn.symm
  ·rfl
 refine Di.2 ⟨h1,by simpa using h2,fun r hr=>?_,?_⟩
 ·have gn:=ho.n
  have gg:=ho.g
  rw [hn] at gn gg
  rcases List.mem_or_eq_of_mem_set hr with h|rfl
  ·exact h3 r h
  ·exact Dx.2 ⟨gn,gg,by show (1:Int)≤3;decide,by show (3:Int)≤3;decide,u0,u1,ho.t0,ho.t1⟩
 ·refine List.pairwise_iff_getElem.2 fun i j hi hj hij=>?_
  rw [hnum i hi,hnum j hj]
  exact List.pairwise_iff_getElem.1 h4 i j _ _ hij
theorem Ag2 {base n u:Int} {l:List A1} {q:A1} (h:q∈Nm base l n u):∃r∈l,r.Ac=q.Ac:=by
 cases h2:Jv base l n
 ·rw [Rf h2] at h;exact ⟨q,h,rfl⟩
 have hk:=Pt h2
 have hn:l[Dr base l n].Ac=n:=by rw [Ps hk] at h2;simpa using h2
 rw [Pu h2] at h
 rcases List.mem_or_eq_of_mem_set h with h|rfl
 ·exact ⟨q,h,rfl⟩
 ·exact ⟨_,List.getElem_mem hk,hn⟩
def Dl (r:A7) (p:Aw):Am:=if r.Bf then r.Aa else ⟨if p.Cm=5 then p.Dy else p.Ac,r.Aa.An⟩
def Eg (r:A7) (p:Aw):Am:=if p.Cm=5 then Dl r p else I6 (Dl r p) p.Ac p.data
def In (r:A7) (p:Aw):List ByteArray:=if p.Cm=5 then [] else I5 (Dl r p) p.Ac p.data
def Le (w:Am) (t:Int):Am:=if Pa w.next t then (if gp w.next t≤8 then Hg w t else ⟨t,[]⟩) else w
def L6 (w:Am) (t:Int):List ByteArray:=if Pa w.next t then (if gp w.next t≤8 then Hv w t else [⟨#[33]⟩]) else []
def Ce (r:A7) (p:Aw):Am:=Le (Eg r p) p.Ak
def Jw (r:A7) (p:Aw):List ByteArray:=In r p++L6 (Eg r p) p.Ak
def Ik (base u:Int) (l:List A1) (ns:List Int):List A1:=ns.foldl (fun l n=>Pr base l n u) l
def Tb (w:Am) (Dy:Int):Nat:=(min (gp w.next Dy) 8).toNat
def Mi (w:Am) (l:List A1) (Dy u:Int):List A1:=if Pa w.next Dy then Ik w.next u l (Ld w (Tb w Dy)) else l
def Ij (r:A7) (p:Aw) (d:Int):A7:=⟨true,r.Ai,Ce r p,Mi (Ce r p) (Do r.Ap (Ce r p)) p.Dy (r.Ai+d)⟩
def Ka (p:Aw):Bool:=decide (p.Cm=1) || decide (p.Cm=2) || decide (p.Cm=5)
def Ab3 (r:A7) (p:Aw):A7:=⟨r.Bf,r.Ai,r.Aa,Nm r.Aa.next r.Ap p.Ac (r.Ai+4)⟩
def C6 (r:A7) (p:Aw) (d:Int):A7:=if Ka p then Ij r p d else if decide (p.Cm=4) && r.Bf then Ab3 r p else r
def Gm (r:A7) (p:Aw):List ByteArray:=if Ka p then Jw r p else []
theorem Aho {w:Am} {n:Int} {s:ByteArray} (hg:C0 w=true) (hn:Bx n=true) (hs:Nq s=true):C0 (I6 w n s)=true∧(∃m:Nat,m≤8∧(I6 w n s).next=Ca w.next m)∧(I5 w n s).length≤8:=by
 obtain ⟨w0,w1⟩:=Gc hg
 cases ht:Kc w n
 ·have e:(El w n || !decide (gp w.next n < 8))=true:=by unfold Kc at ht;simp only [Bool.or_eq_false_iff] at ht;rw [ht.1,ht.2];rfl
  have e1:I6 w n s=w:=by unfold I6;rw [if_pos e]
  have e2:I5 w n s=[]:=by unfold I5;rw [if_pos e]
  rw [e1,e2]
  exact ⟨hg,⟨0,by omega,(Oe w0 w1).symm⟩,by simp⟩
 ·have hok:Qo w n s=true:=by unfold Qo;rw [hg,hn,hs,ht];rfl
  have h:=Ai9 w n s (by unfold Hp;rw [hok];rfl)
  rw [show Hp w n s=(I6 w n s,I5 w n s,true) by unfold Hp;rw [hok];rfl] at h
  obtain ⟨-, -,h3,h4, -, -,h7, -⟩:=h
  dsimp only at h3 h4 h7
  refine ⟨h3,⟨_,h7,?_⟩,h7⟩
  obtain ⟨v0,v1⟩:=Gc h3
  rw [←h4]
  unfold Ca gp at *;omega
theorem O6 {r:A7} {p:Aw} (hg:Ju r) (hp:Bk p=true):C0 (Dl r p)=true∧(r.Bf=true→Dl r p=r.Aa):=by
 unfold Dl
 unfold Bk at hp
 simp only [Bool.and_eq_true] at hp
 cases hs:r.Bf
 ·refine ⟨?_,fun h=>by cases h⟩
  rw [(hg.z hs).1]
  simp only [Bool.false_eq_true,if_false]
  unfold C0
  split
  ·rw [hp.1.1.1.2];rfl
  ·rw [hp.1.1.1.1.1.2];rfl
 ·exact ⟨hg.w,fun _=>rfl⟩
theorem Qx {r:A7} {p:Aw} (hg:Ju r) (hp:Bk p=true):C0 (Eg r p)=true∧(∃m:Nat,m≤8∧(Eg r p).next=Ca (Dl r p).next m)∧(In r p).length≤8:=by
 have h1:=(O6 hg hp).1
 obtain ⟨w0,w1⟩:=Gc h1
 unfold Eg In
 split
 ·exact ⟨h1,⟨0,by omega,(Oe w0 w1).symm⟩,by simp⟩
 ·unfold Bk at hp
  simp only [Bool.and_eq_true] at hp
  exact Aho h1 hp.1.1.1.1.1.2 hp.1.1.2
theorem Ahl {w:Am} {t:Int} (hg:C0 w=true) (ht:Bx t=true):C0 (Le w t)=true∧(∃m:Nat,m≤32767∧(Le w t).next=Ca w.next m)∧(L6 w t).length≤16:=by
 obtain ⟨w0,w1⟩:=Gc hg
 obtain ⟨t0,t1⟩:=A4.1 ht
 unfold Le L6
 cases hb:Pa w.next t
 ·exact ⟨hg,⟨0,by omega,(Oe w0 w1).symm⟩,by simp⟩
 ·simp only [if_true]
  split
  ·obtain ⟨e1,e2,e3,e4⟩:=P5 (t:=t) hg
   have:=@Sk w.next t
   exact ⟨Vy _ _ hg,⟨_,by omega,e1⟩,by omega⟩
  ·refine ⟨by unfold C0;rw [ht];rfl,⟨(gp w.next t).toNat,?_,?_⟩,by simp⟩
   ·unfold Pa Gs at hb;simp only [Bool.and_eq_true,decide_eq_true_eq] at hb;omega
   ·have:=Iu w.next t
    show t=_
    unfold Ca gp at *;omega
theorem V6 {l:List A1} {b:Int} {w:Am} {m:Nat} (hm:m≤65528) (hq:I7 l b=true) (hw:C0 w=true) (e:w.next=Ca b m):I7 (Do l w) w.next=true:=by
 obtain ⟨h1,h2,h3,h4⟩:=Di.1 hq
 obtain ⟨b0,b1⟩:=A4.1 h1
 have key:∀q∈l,gp w.next q.Ac < 8→gp w.next q.Ac=gp b q.Ac - m:=fun q hq h=>by
  have ho:=Dx.1 (h3 q hq)
  obtain ⟨n0,n1⟩:=A4.1 ho.n
  have:=ho.g
  rw [e] at h ⊢
  unfold gp Ca at *;omega
 have hin:∀q∈Do l w,q∈l∧gp w.next q.Ac < 8:=fun q hq=>by
  unfold Do at hq
  rw [List.mem_filter] at hq
  simp only [Bool.and_eq_true,decide_eq_true_eq] at hq
  exact ⟨hq.1,hq.2.2⟩
 refine Di.2 ⟨A4.2 (Gc hw),Nat.le_trans (List.length_filter_le _ _) h2,fun q hq=>?_,?_⟩
 ·obtain ⟨a,c⟩:=hin q hq
  have ho:=Dx.1 (h3 q a)
  exact Dx.2 ⟨ho.n,c,ho.s0,ho.s1,ho.u0,ho.u1,ho.t0,ho.t1⟩
 ·have h5:(Do l w).Pairwise fun a b'=>gp b a.Ac < gp b b'.Ac:=h4.sublist List.filter_sublist
  refine h5.imp_of_mem fun ha hb h=>?_
  rw [key _ (hin _ ha).1 (hin _ ha).2,key _ (hin _ hb).1 (hin _ hb).2];omega
theorem L4 {l:List A1} {w:Am}:∀q∈Do l w,Gj w q.Ac=false:=fun q hq=>by
 unfold Do at hq
 rw [List.mem_filter] at hq
 simp only [Bool.and_eq_true,Bool.not_eq_true',Bool.or_eq_false_iff] at hq
 exact hq.2.1.2
theorem Ns {w:Am} {k:Nat} (hk:k≤8) {n:Int} (h:n∈Ld w k):Bx n=true∧gp w.next n < 8∧Gj w n=false:=by
 unfold Ld Nx at h
 obtain ⟨h1,h2⟩:=List.mem_filter.1 h
 obtain ⟨i,hi,rfl⟩:=List.mem_map.1 h1
 rw [List.mem_range] at hi
 refine ⟨Me _ _,?_,by simpa using h2⟩
 unfold gp Ca;omega
theorem Nl {w:Am} {u:Int} (u0:0≤u) (u1:u≤10007):∀(ns:List Int) (l:List A1),(∀n∈ns,Bx n=true∧Gj w n=false)→I7 l w.next=true→(∀q∈l,Gj w q.Ac=false)→I7 (Ik w.next u l ns) w.next=true∧∀q∈Ik w.next u l ns,Gj w q.Ac=false
 | [],l,_,h2,h3=>⟨h2,h3⟩
 | n::ns,l,h1,h2,h3=>by
  obtain ⟨a,b⟩:=h1 n (by simp)
  refine Nl u0 u1 ns (Pr w.next l n u) (fun n hn=>h1 n (by simp [hn])) (Afv h2 a u0 u1) fun q hq=>?_
  rcases Ajd hq with h|h
  ·exact h3 q h
  ·rw [h];exact b
theorem Vw {base u:Int} {l:List A1} {ns:List Int} {k:Nat} (h:k < ns.length):Ik base u l (ns.take (k+1))=Pr base (Ik base u l (ns.take k)) ns[k] u:=by
 unfold Ik
 rw [List.take_add_one,List.getElem?_eq_getElem h,List.foldl_append];rfl
theorem Og (w:Am) (t:Int):Tb w t≤8:=by unfold Tb;omega
theorem Sh {r:A7} {p:Aw} {d:Int} (hg:Ju r) (hp:Bk p=true) (d0:1≤d) (d1:d≤8) (hk:r.Ai+d≤10007):C0 (Ce r p)=true∧I7 (Do r.Ap (Ce r p)) (Ce r p).next=true∧Ju (Ij r p d)∧(Jw r p).length≤24:=by
 obtain ⟨a1,a2⟩:=O6 hg hp
 obtain ⟨b1,⟨m,hm,em⟩,b3⟩:=Qx hg hp
 have htr:Bx p.Ak=true:=by unfold Bk at hp;simp only [Bool.and_eq_true] at hp;exact hp.1.1.1.1.2
 obtain ⟨c1,⟨k,hk2,ek⟩,c3⟩:=Ahl b1 htr
 have hk0:=hg.k0
 have hq:I7 (Do r.Ap (Ce r p)) (Ce r p).next=true:=by
  cases hs:r.Bf
  ·rw [(hg.z hs).2]
   exact (Di (l:=[])).2 ⟨A4.2 (Gc c1),Nat.zero_le 8,fun r hr=>(by cases hr),List.Pairwise.nil⟩
  ·refine V6 (m:=m+k) (by omega) hg.q c1 ?_
   show (Ce r p).next=_
   rw [show (Ce r p).next=Ca (Eg r p).next k from ek,em,a2 hs,Aev]
 have hn:Ce r p=Le (Eg r p) p.Ak:=rfl
 refine ⟨c1,hq,⟨hg.k0,hg.k1,c1,?_,?_,fun h=>by cases h⟩,by unfold Jw;rw [List.length_append];omega⟩
 ·show I7 (Mi (Ce r p) (Do r.Ap (Ce r p)) p.Dy (r.Ai+d)) (Ce r p).next=true
  unfold Mi
  split
  ·exact (Nl (by omega) (by omega) _ _ (fun n hn=>⟨(Ns (Og _ _) hn).1,(Ns (Og _ _) hn).2.2⟩) hq L4).1
  ·exact hq
 ·show ∀q∈Mi (Ce r p) (Do r.Ap (Ce r p)) p.Dy (r.Ai+d),Gj (Ce r p) q.Ac=false
  unfold Mi
  split
  ·exact (Nl (by omega) (by omega) _ _ (fun n hn=>⟨(Ns (Og _ _) hn).1,(Ns (Og _ _) hn).2.2⟩) hq L4).2
  ·exact L4
theorem Se {r:A7} {p:Aw} {d:Int} (hg:Ju r) (hp:Bk p=true) (d0:1≤d) (d1:d≤8):Ju (C6 r p d)∧(Gm r p).length≤24:=by
 have hk1:=hg.k1
 have hk0:=hg.k0
 unfold C6 Gm
 split
 ·exact ⟨(Sh hg hp d0 d1 (by omega)).2.2.1,(Sh hg hp d0 d1 (by omega)).2.2.2⟩
 ·refine ⟨?_,by simp⟩
  split
  ·rename_i h
   simp only [Bool.and_eq_true,decide_eq_true_eq] at h
   refine ⟨hk0,hk1,hg.w,Adr hg.q (by omega) (by omega),fun q hq=>?_,fun hs=>?_⟩
   ·obtain ⟨r',hr,e⟩:=Ag2 hq
    show Gj r.Aa q.Ac=false
    rw [←e];exact hg.f r' hr
   ·have:r.Bf=false:=hs
    rw [h.2] at this;cases this
  ·exact hg
section
variable {c:Cx} {fr:Fr} {H:List Pc} {Φ:Gl}
theorem Hb {a:Option Addr} {n cp:Nat} {xs:List A1} {F:List Nat} (i:Nat) (h:∀(hi:i < xs.length) (b o:Nat),a=some ⟨b,o,none⟩→T c fr (.cel b (o+i * 4) [.int .i64 xs[i].Ac,.int .i64 xs[i].Ff,.int .i64 xs[i].By,.int .i64 xs[i].Dc]::H) Φ) (hm:.sl Ay (.slice a n cp) xs F∈H:=by exact Bw) (hi:i < xs.length:=by omega):T c fr H Φ:=.mk fun ac w s g=>by
 obtain ⟨b,o,cs,G,ha,hrep,hG,hb,hne,hr⟩:=Rs (s.get hm) i hi
 obtain ⟨rfl,rfl⟩:=hrep
 exact (h hi b o  ha  ).h ac w (s.ro hm rfl rfl ⟨hne,hr⟩ (by intro x hx;simp [Pc.F] at hx;subst hx;exact hb)) g
theorem Xm {t:TypeId} {a:Option Addr} {n cp:Nat} {xs:List A1} {F:List Nat} {S:List Pc} (i:Nat) (h:∀(_:i < xs.length) g A B,a=some ⟨g,0,none⟩→F=[g]→Ah5 Ay t g (.slice (some ⟨g,0,none⟩) n cp) xs i A B→T c fr (.row g t (0+i * 4) A [.int .i64 xs[i].Ac,.int .i64 xs[i].Ff,.int .i64 xs[i].By,.int .i64 xs[i].Dc] B::S) Φ) (hp:Cu H (.ow Ay t (.slice a n cp) xs F) S:=by exact Dv) (hi:i < xs.length:=by omega):T c fr H Φ :=
 Ob De i (fun hi g A cs B ha hF hr hh=>by obtain ⟨rfl, -⟩:=hr default;exact h hi g A B ha hF  hh) hp rfl hi
theorem Kl (x:A1)  (w:World):Cp Ay w [.int .i64 x.Ac,.int .i64 x.Ff,.int .i64 x.By,.int .i64 x.Dc] [x] []:=⟨_,[],[],[],by simp,by simp,⟨rfl,rfl⟩,rfl,rfl⟩
end
theorem Akm {P:Program} {f:FuncId} {α:Type} {E:Bp α} {v:Value} {xs:List α} {F:List Nat} {rest:List Value} {A M:List Pc} {σ:Type} {C:σ→Prop} {w:σ→Value} {N:σ→List Pc} (h:∀a c,Fn P f (.slice a xs.length c::rest) (.sl E (.slice a xs.length c) xs F::A) M C w N):Fn P f (v::rest) (.sl E v xs F::A) M C w N:=fun w0 hH hS=>by
 obtain ⟨-,hs⟩:=hH (.sl E v xs F) (by simp)
 obtain ⟨a,c,rfl⟩:=hs.slice
 exact h a c w0 hH hS
theorem Agh (d:Int):Fn prog 303 [.int .i64 d] [] [] (fun (_:Unit)=>True) (fun _=>.bool (Ai4 d)) (fun _=>[]):=by
 refine enter func303 rfl ntmps303 fun w0=>?_
 refine go ?_;intros
 refine ce (fun w s=>Hy _ _ _ _) ?_
 refine go ?_;intros
 refine ret () trivial rfl
theorem Rj (r:A1) (base:Int) (b0:0≤base) (b1:base≤65535):Fn prog 226 [.agg #[.int .i64 r.Ac,.int .i64 r.Ff,.int .i64 r.By,.int .i64 r.Dc],.int .i64 base] [] [] (fun (_:Unit)=>True) (fun _=>.bool (Jx base r)) (fun _=>[]):=by
 refine enter func226 rfl ntmps226 fun w0=>?_
 refine go ?_;intros
 refine ce (fun w s=>Ht _ _) ?_
 cases g1:Bx r.Ac
 ·refine go ?_;intros
  refine ret () trivial ?_
  simp [Jx,g1,Pb]
 obtain ⟨n0,n1⟩:=A4.1 g1
 refine go ?_;intros
 refine ce (fun w s=>Lx _ _ _ (by omega) (by omega) (by omega) (by omega)) ?_
 refine go ?_;intros
 refine Cw rfl rfl (fun g2=>?_) (fun g2=>?_)
 rotate_left
 ·refine go ?_;intros
  refine ret () trivial ?_
  simp [Jx,g2,Pb]
 refine go ?_;intros
 refine ce (fun w s=>Hy _ _ _ _) ?_
 cases g3:Gs 1 r.Ff 3
 ·refine go ?_;intros
  refine ret () trivial ?_
  simp [Jx,g3,Pb]
 refine go ?_;intros
 refine ce (fun w s=>Hy _ _ _ _) ?_
 cases g4:Gs 0 r.By 10007
 ·refine go ?_;intros
  refine ret () trivial ?_
  simp [Jx,g4,Pb]
 refine go ?_;intros
 refine ce (fun w s=>Hy _ _ _ _) ?_
 refine go ?_;intros
 refine ret () trivial ?_
 simp [Jx,g1,g2,g3,g4,Pb]
theorem Nh (l:List A1) (base:Int) (v:Value) (F:List Nat):Fn prog 170 [v,.int .i64 base] [.sl Ay v l F] [] (fun (_:Unit)=>True) (fun _=>.bool (I7 l base)) (fun _=>[]):=by
 refine Akm (fun a c=>?_)
 refine enter func170 rfl ntmps170 fun w0=>?_
 refine go ?_;intros
 refine ce (fun w s=>Ht _ _) ?_
 cases g1:Bx base
 ·refine go ?_;intros
  refine ret () trivial ?_
  simp [I7,g1,Pb]
 obtain ⟨b0,b1⟩:=A4.1 g1
 refine go ?_;intros
 refine Bd rfl (fun g2=>?_) (fun g2=>?_)
 ·refine go ?_;intros
  refine ret () trivial ?_
  rw [show I7 l base=false by unfold I7;rw [decide_eq_false (by omega)];simp];rfl
 refine go ?_;intros
 refine Ds [0,1,4,15,16] (fun k:Nat=>[(17,.int .i64 (k:Nat))]) (fun k=>k≤l.length∧∀j,j < k→Y3 l base j=true) (fun k=>l.length - k) 0 ⟨Nat.zero_le _,fun j h=>by omega⟩ fun k hk=>?_
 obtain ⟨hk1,hk2⟩:=hk
 refine go ?_;intros
 refine Bd rfl (fun h3=>?_) (fun h3=>?_)
 ·have hk3:k < l.length:=by omega
  have bad:Y3 l base k=false→I7 l base=false:=fun h=>Aex hk3 h
  have hck:=Qf (base:=base) hk3
  refine Hb (xs:=l) k ?_
  rintro hi b o e
  rw [e]
  have p4:0 < k→∃h:k - 1 < l.length,Ah9 base l[k - 1]:=fun h0=>by
   have hk4:k - 1 < l.length:=by omega
   have hp:=hk2 (k - 1) (by omega)
   rw [Qf hk4] at hp
   simp only [Bool.and_eq_true] at hp
   exact ⟨hk4,Dx.1 hp.1⟩
  refine go ?_;intros
  cases g4:Jx base l[k]
  ·skip
   refine Av [0] [] ?_
   refine dt 0 ?_
   refine dt 1 ?_
   refine dO 2 (by kernel_rfl) (by rw [List.getElem?_toArray];rfl) ?_
   apply At;rfl;kernel_rfl;exact Bb
   refine cf (Rj l[k] base b0 b1) fun _ _=>?_
   refine Ao ?_
   rw [g4]
   refine dk ?_
   refine dt 3 ?_
   refine dt 4 ?_
   refine ds 5 ?_
   refine ds 6 ?_
   refine ds 7 ?_
   refine dsu 8 ?_
   refine dsu 9 ?_
   refine dsu 10 ?_
   refine dsu 11 ?_
   refine dsu 12 ?_
   refine dsu 13 ?_
   refine dsu 14 ?_
   refine dsu 15 ?_
   refine dsu 16 ?_
   refine dsu 17 ?_
   refine dsu 18 ?_
   refine dsu 19 ?_
   refine dsu 20 ?_
   refine ds 21 ?_
   refine dt 22 ?_
   refine dd ?_
   refine go ?_;intros
   refine ret () trivial ?_
   rw [bad (by rw [hck,g4];rfl)];rfl
  obtain ⟨q0,q1⟩:=A4.1 (Dx.1 g4).n
  by_cases hk0:0 < k
  ·obtain ⟨hk4,p5⟩:=p4 hk0
   obtain ⟨p0,p1⟩:=A4.1 p5.n
   rw [←e]
   refine Hb (xs:=l) (k - 1) ?_
   rintro hi5 b5 o5 e5
   rw [e5]
   refine Av [0,1] [] ?_
   refine dt 0 ?_
   refine dt 1 ?_
   refine dO 2 (by kernel_rfl) (by rw [List.getElem?_toArray];rfl) ?_
   apply At;rfl;kernel_rfl;exact Bb
   refine cf (Rj l[k] base b0 b1) fun _ _=>?_
   refine Ao ?_
   rw [g4]
   refine dk ?_
   refine dt 3 ?_
   refine dt 4 ?_
   refine Dm 5 ?_
   refine Dm 6 ?_
   rw [decide_eq_true (show (0:Int) < k by omega)]
   refine Dm 7 ?_
   refine Dm 8 ?_
   refine Dm 9 ?_
   refine Dm 10 ?_
   refine Dm 11 ?_
   rw [show (k:Int) - 1=((k - 1:Nat):Int) by omega]
   refine Dm 12 ?_
   refine Dm 13 ?_
   refine Dm 14 ?_
   refine Dm 16 ?_
   refine Dm 17 ?_
   refine Dm 18 ?_
   refine Xg 15 ?_
   apply On.h
   apply At;rfl;kernel_rfl;exact Bb
   refine ce (fun w s=>Lx _ _ _ (by omega) (by omega) (by omega) (by omega)) ?_
   refine dk ?_
   refine Xg 19 ?_
   apply On.h
   apply At;rfl;kernel_rfl;exact Bb
   refine ce (fun w s=>Lx _ _ _ (by omega) (by omega) (by omega) (by omega)) ?_
   refine dk ?_
   refine Dm 20 ?_
   refine Dm 21 ?_
   refine dt 22 ?_
   refine dd ?_
   refine go ?_;intros
   refine Bd rfl (fun h6=>?_) (fun h6=>?_)
   ·refine go ?_;intros
    refine ret () trivial ?_
    rw [bad (by rw [hck,decide_eq_true h6,decide_eq_false (show ¬k=0 by omega)];simp)];rfl
   ·refine go ?_;intros
    refine Co (k+1) ⟨by omega,fun j hj=>?_⟩ (by omega)
    rcases Nat.lt_or_eq_of_le (Nat.lt_succ_iff.1 hj) with h|rfl
    ·exact hk2 j h
    ·rw [hck,g4,decide_eq_false h6];simp
  ·have hz:k=0:=by omega
   refine Av [0] [] ?_
   refine dt 0 ?_
   refine dt 1 ?_
   refine dO 2 (by kernel_rfl) (by rw [List.getElem?_toArray];rfl) ?_
   apply At;rfl;kernel_rfl;exact Bb
   refine cf (Rj l[k] base b0 b1) fun _ _=>?_
   refine Ao ?_
   rw [g4]
   refine dk ?_
   refine dt 3 ?_
   refine dt 4 ?_
   refine Dm 5 ?_
   refine Dm 6 ?_
   rw [decide_eq_false (show ¬(0:Int) < k by omega)]
   refine Dm 7 ?_
   refine ds 8 ?_
   refine ds 9 ?_
   refine ds 10 ?_
   refine ds 11 ?_
   refine ds 12 ?_
   refine ds 13 ?_
   refine ds 14 ?_
   refine ds 15 ?_
   refine ds 16 ?_
   refine ds 17 ?_
   refine ds 18 ?_
   refine ds 19 ?_
   refine ds 20 ?_
   refine Dm 21 ?_
   refine dt 22 ?_
   refine dd ?_
   refine go ?_;intros
   refine Co (k+1) ⟨by omega,fun j hj=>?_⟩ (by omega)
   rcases Nat.lt_or_eq_of_le (Nat.lt_succ_iff.1 hj) with h|rfl
   ·exact hk2 j h
   ·rw [hck,g4,decide_eq_true hz];simp
 have hkl:k=l.length:=by omega
 refine go ?_;intros
 refine ret () trivial ?_
 rw [Ab0 g1 (by omega) (hkl▸hk2)];rfl
theorem Ags (l:List A1) (base:Int) (v:Value) (F:List Nat):Fn prog 211 [v,.int .i64 base] [.sl Ay v l F] [] (fun (_:Unit)=>True) (fun _=>.bool (I7 l base)) (fun _=>[]):=by
 refine Akm (fun a c=>?_)
 refine enter func211 rfl ntmps211 fun w0=>?_
 refine go ?_;intros
 refine ce (fun w s=>Kq _ _) ?_
 cases g1:Bx base
 ·refine go ?_;intros
  refine ret () trivial ?_
  simp [I7,g1,Pb]
 obtain ⟨b0,b1⟩:=A4.1 g1
 refine go ?_;intros
 refine Bd rfl (fun g2=>?_) (fun g2=>?_)
 ·refine go ?_;intros
  refine ret () trivial ?_
  rw [show I7 l base=false by unfold I7;rw [decide_eq_false (by omega)];simp];rfl
 refine go ?_;intros
 refine Ds [0,1,4] (fun k:Nat=>[(5,.int .i64 (k:Nat))]) (fun k=>k≤l.length∧∀j,j < k→Y3 l base j=true) (fun k=>l.length - k) 0 ⟨Nat.zero_le _,fun j h=>by omega⟩ fun k hk=>?_
 obtain ⟨hk1,hk2⟩:=hk
 refine go ?_;intros
 refine Bd rfl (fun h3=>?_) (fun h3=>?_)
 ·have hk3:k < l.length:=by omega
  have bad:Y3 l base k=false→I7 l base=false:=fun h=>Aex hk3 h
  have hck:=Qf (base:=base) hk3
  refine Hb (xs:=l) k ?_
  rintro hi b o e
  rw [e]
  have p4:0 < k→∃h:k - 1 < l.length,Ah9 base l[k - 1]:=fun h0=>by
   have hk4:k - 1 < l.length:=by omega
   have hp:=hk2 (k - 1) (by omega)
   rw [Qf hk4] at hp
   simp only [Bool.and_eq_true] at hp
   exact ⟨hk4,Dx.1 hp.1⟩
  refine go ?_;intros
  refine ce (fun w s=>Kq _ _) ?_
  cases g5:Bx l[k].Ac
  ·refine go ?_;intros
   refine ret () trivial ?_
   rw [bad (by rw [hck,show Jx base l[k]=false by unfold Jx;simp [g5]];rfl)];rfl
  obtain ⟨q0,q1⟩:=A4.1 g5
  refine go ?_;intros
  refine ce (fun w s=>Hl _ _ _ (by omega) (by omega)) ?_
  refine go ?_;intros
  refine Cw rfl rfl (fun g6=>?_) (fun g6=>?_)
  ·refine go ?_;intros
   refine ret () trivial ?_
   rw [bad (by rw [hck,show Jx base l[k]=false by unfold Jx;rw [decide_eq_false (by omega)];simp];rfl)];rfl
  refine go ?_;intros
  refine ce (fun w s=>I2 _ _ _ _) ?_
  cases g7:Gs 1 l[k].Ff 3
  ·refine go ?_;intros
   refine ret () trivial ?_
   rw [bad (by rw [hck,show Jx base l[k]=false by unfold Jx;simp [g7]];rfl)];rfl
  refine go ?_;intros
  refine ce (fun w s=>I2 _ _ _ _) ?_
  cases g8:Gs 0 l[k].By 10007
  ·refine go ?_;intros
   refine ret () trivial ?_
   rw [bad (by rw [hck,show Jx base l[k]=false by unfold Jx;simp [g8]];rfl)];rfl
  refine go ?_;intros
  refine ce (fun w s=>I2 _ _ _ _) ?_
  cases g9:Gs 0 l[k].Dc 3
  ·refine go ?_;intros
   refine ret () trivial ?_
   rw [bad (by rw [hck,show Jx base l[k]=false by unfold Jx;simp [g9]];rfl)];rfl
  refine go ?_;intros
  have g4:Jx base l[k]=true:=by unfold Jx;rw [g5,g7,g8,g9,decide_eq_true (by omega)];rfl
  by_cases hk0:0 < k
  ·obtain ⟨hk4,p5⟩:=p4 hk0
   obtain ⟨p0,p1⟩:=A4.1 p5.n
   rw [←e]
   refine Hb (xs:=l) (k - 1) ?_
   rintro hi5 b5 o5 e5
   rw [e5]
   refine Av [1,0] [] ?_
   refine dt 0 ?_
   refine dt 1 ?_
   rw [decide_eq_true (show (0:Int) < k by omega)]
   refine dt 2 ?_
   refine Dm 3 ?_
   refine Dm 4 ?_
   refine Dm 5 ?_
   refine Dm 6 ?_
   rw [show (k:Int) - 1=((k - 1:Nat):Int) by omega]
   refine Dm 7 ?_
   refine Dm 8 ?_
   refine Dm 9 ?_
   refine Dm 11 ?_
   refine Dm 12 ?_
   refine Dm 13 ?_
   refine Xg 10 ?_
   apply On.h
   apply At;rfl;kernel_rfl;exact Bb
   refine ce (fun w s=>Hl _ _ _ (by omega) (by omega)) ?_
   refine dk ?_
   refine Xg 14 ?_
   apply On.h
   apply At;rfl;kernel_rfl;exact Bb
   refine ce (fun w s=>Hl _ _ _ (by omega) (by omega)) ?_
   refine dk ?_
   refine Dm 15 ?_
   refine dt 16 ?_
   refine dd ?_
   refine go ?_;intros
   refine Bd rfl (fun h6=>?_) (fun h6=>?_)
   ·refine go ?_;intros
    refine ret () trivial ?_
    rw [bad (by rw [hck,decide_eq_true h6,decide_eq_false (show ¬k=0 by omega)];simp)];rfl
   ·refine go ?_;intros
    refine Co (k+1) ⟨by omega,fun j hj=>?_⟩ (by omega)
    rcases Nat.lt_or_eq_of_le (Nat.lt_succ_iff.1 hj) with h|rfl
    ·exact hk2 j h
    ·rw [hck,g4,decide_eq_false h6];simp
  ·have hz:k=0:=by omega
   refine Av [0] [] ?_
   refine dt 0 ?_
   refine dt 1 ?_
   rw [decide_eq_false (show ¬(0:Int) < k by omega)]
   refine dt 2 ?_
   refine ds 3 ?_
   refine ds 4 ?_
   refine ds 5 ?_
   refine ds 6 ?_
   refine ds 7 ?_
   refine ds 8 ?_
   refine ds 9 ?_
   refine ds 10 ?_
   refine ds 11 ?_
   refine ds 12 ?_
   refine ds 13 ?_
   refine ds 14 ?_
   refine ds 15 ?_
   refine dt 16 ?_
   refine dd ?_
   refine go ?_;intros
   refine Co (k+1) ⟨by omega,fun j hj=>?_⟩ (by omega)
   rcases Nat.lt_or_eq_of_le (Nat.lt_succ_iff.1 hj) with h|rfl
   ·exact hk2 j h
   ·rw [hck,g4,decide_eq_true hz];simp
 have hkl:k=l.length:=by omega
 refine go ?_;intros
 refine ret () trivial ?_
 rw [Ab0 g1 (by omega) (hkl▸hk2)];rfl
theorem Abk {P:Program} {n:Nat} {fr:Fr} {H:List Pc} {ty t':TypeId} {x:Operand} {t e m:Nat} [hS:SlC P t e m] {a:Option Addr} {l c:Nat} (hx:ev fr x=some (.slice a l c)):Yd P n fr H (.binOp .eql t x (.const (.slice none 0 0)) t') ty (.bool a.isNone):=.mk fun ac w d pos Ca gd hA _=>by
 have he:ac.eval (.const (.slice none 0 0))=.slice none 0 0:=rfl
 have eg:eqGuard .eql t x (.const (.slice none 0 0)) (.slice a l c) (.slice none 0 0)=pure ():=by unfold eqGuard;simp
 simp only [execOp,hA.ev hx,he,eg,Sem.run_bind,Sem.run_pure,Result.andThen_ok,Lib.run_eql_slice_nil w t e a l c 0 0 hS.u]
theorem Akn {c:Cx} {fr:Fr} {H:List Pc} {Φ:Gl} {α:Type} {E:Bp α} {n cp:Nat} {xs:List α} {F:List Nat} (h:xs=[]→T c fr H Φ) (hm:.sl E (.slice none n cp) xs F∈H:=by exact Bw):T c fr H Φ:=.mk fun ac w s g=>by
 obtain ⟨-,a,cap,hv, -,⟨rfl, -, -⟩|⟨b,off,F',rfl, -⟩⟩:=s.get hm
 ·exact (h rfl).h ac w s g
 ·cases hv
theorem Pd (xs:List A1) (a:Option Addr) (c:Nat) (F:List Nat) (hl:xs.length≤1000000000) :
  Fn prog 137 [.slice a xs.length c] [.sl Ay (.slice a xs.length c) xs F] [] (fun (_:Option Addr × Nat × List Nat)=>True) (fun z=>.slice z.1 xs.length z.2.1) (fun z=>[.ow Ay 165 (.slice z.1 xs.length z.2.1) xs z.2.2]):=by
 refine enter func137 rfl ntmps137 fun w0=>?_
 refine go ?_;intros
 cases a with
 | none =>
  refine Akn (xs:=xs) fun h0=>?_
  subst h0
  apply wO;apply oc;rfl;exact Abk rfl
  refine B7 Ay 165 ?_
  refine go ?_;intros
  refine ret (none,0,[]) trivial rfl
 | some ad =>
  apply wO;apply oc;rfl;exact Abk rfl
  refine go ?_;intros
  refine C1 Ay ?_
  apply wO
  refine Kx Ct De fun a2 c2 F2=>?_
  rw [List.nil_append]
  refine go ?_;intros
  refine ret (a2,c2,F2) trivial rfl
section
variable {c:Cx} {fr:Fr} {H:List Pc} {Φ:Gl}
theorem E4 {v:Value} {x:A7} {F:List Nat} (h:∀(a1:Option Addr) (c1:Nat) (F1:List Nat) (a2:Option Addr) (c2:Nat) (F2:List Nat),v=.agg #[.bool x.Bf,.int .i64 x.Ai,.int .i64 x.Aa.next,.slice a1 x.Aa.An.length c1,.slice a2 x.Ap.length c2]→x.Aa.An.length≤maxLen→x.Ap.length≤maxLen→T c fr (.sl Cc (.slice a1 x.Aa.An.length c1) x.Aa.An F1::.sl Ay (.slice a2 x.Ap.length c2) x.Ap F2::H) Φ) (hm:.isv Bn v x F∈H:=by exact Bw):T c fr H Φ:=.mk fun a w s g=>by
 obtain ⟨cs,rfl,v1,v2,G1,G2,rfl,h1,h2,rfl⟩:=s.get hm
 obtain ⟨a1,c1,rfl⟩:=h1.slice;have l1:=h1.len
 obtain ⟨a2,c2,rfl⟩:=h2.slice;have l2:=h2.len
 have t2:=s.ro (p:=.sl Ay (.slice a2 x.Ap.length c2) x.Ap G2) hm rfl rfl ⟨by decide,h2⟩ (by intro b hb;simp only [Pc.F] at hb ⊢;simp [hb])
 have t1:=t2.ro (p:=.sl Cc (.slice a1 x.Aa.An.length c1) x.Aa.An G1) (List.mem_cons_of_mem _ hm) rfl rfl ⟨by decide,h1⟩ (by intro b hb;simp only [Pc.F] at hb ⊢;simp [hb])
 exact (h a1 c1 G1 a2 c2 G2 rfl  l1 l2).h a w t1 g
theorem Eh (x:A7) {a1:Option Addr} {c1:Nat} {F1:List Nat} {a2:Option Addr} {c2:Nat} {F2:List Nat}  (h:T c fr (.isv Bn (.agg #[.bool x.Bf,.int .i64 x.Ai,.int .i64 x.Aa.next,.slice a1 x.Aa.An.length c1,.slice a2 x.Ap.length c2]) x (F1++F2)::H) Φ) (m1:.sl Cc (.slice a1 x.Aa.An.length c1) x.Aa.An F1∈H:=by exact Bw) (m2:.sl Ay (.slice a2 x.Ap.length c2) x.Ap F2∈H:=by exact Bw):T c fr H Φ:=.mk fun a w s g=>by
 have hP:O9 Bn w (.agg #[.bool x.Bf,.int .i64 x.Ai,.int .i64 x.Aa.next,.slice a1 x.Aa.An.length c1,.slice a2 x.Ap.length c2]) x (F1++F2):=⟨_,rfl,_,_,_,_,rfl,(s.get m1).2,(s.get m2).2,rfl⟩
 refine h.h a w (s.add (N:=[.isv Bn (.agg #[.bool x.Bf,.int .i64 x.Ai,.int .i64 x.Aa.next,.slice a1 x.Aa.An.length c1,.slice a2 x.Ap.length c2]) x (F1++F2)]) (Below.refl _ _) (by intro q hq;simp at hq;subst hq;exact hP) ⟨by simp,trivial⟩ fun q hq b hb=>?_) g
 simp at hq;subst hq
 simp only [Pc.F,List.mem_append] at hb
 rcases hb with hb|hb
 ·exact .inr ⟨rfl,_,m1,rfl,hb⟩
 ·exact .inr ⟨rfl,_,m2,rfl,hb⟩
theorem Hm {v:Value} {x:A7} {F:List Nat} {S:List Pc} (h:∀(a1:Option Addr) (c1:Nat) (F1:List Nat) (a2:Option Addr) (c2:Nat) (F2:List Nat),v=.agg #[.bool x.Bf,.int .i64 x.Ai,.int .i64 x.Aa.next,.slice a1 x.Aa.An.length c1,.slice a2 x.Ap.length c2]→x.Aa.An.length≤maxLen→x.Ap.length≤maxLen→T c fr (.ow Cc 188 (.slice a1 x.Aa.An.length c1) x.Aa.An F1::.ow Ay 165 (.slice a2 x.Ap.length c2) x.Ap F2::S) Φ) (hp:Cu H (.own Bt v x F) S:=by exact Dv):T c fr H Φ:=.mk fun a w s g=>by
 have z1:=s.pick hp
 obtain ⟨hn,cs,rfl,v1,v2,G1,G2,rfl,h1,h2,rfl⟩:=z1.on (.own Bt v x F) (by simp)
 obtain ⟨a1,c1,rfl⟩:=h1.slice;have l1:=h1.len
 obtain ⟨a2,c2,rfl⟩:=h2.slice;have l2:=h2.len
 have hn2:=hn;simp only [List.nodup_append,List.mem_append] at hn2
 refine (h a1 c1 G1 a2 c2 G2 rfl  l1 l2).h a w (St.turn (M:=[.own Bt (.agg #[.bool x.Bf,.int .i64 x.Ai,.int .i64 x.Aa.next,.slice a1 x.Aa.An.length c1,.slice a2 x.Ap.length c2]) x _]) (N:=[.ow Cc 188 (.slice a1 x.Aa.An.length c1) x.Aa.An G1,.ow Ay 165 (.slice a2 x.Ap.length c2) x.Ap G2]) z1 (Dn.refl _ w) ?_ ?_ ?_) g
 ·intro q hq;simp only [List.mem_cons,List.not_mem_nil,or_false] at hq
  rcases hq with rfl|rfl
  ·exact ⟨(List.nodup_append.1 hn).1,h1⟩
  ·exact ⟨(List.nodup_append.1 hn).2.1,h2⟩
 ·refine ⟨?_,⟨?_,trivial⟩⟩
  ·intro q hq _ b hb hb2;simp only [List.mem_cons,List.not_mem_nil,or_false] at hq;rcases hq with rfl <;> simp only [Pc.F] at hb hb2 <;> exact Ve hn hb hb2
  ·intro q hq _ b hb hb2;simp at hq
 ·intro q hq b hb;refine .inr (.inl ⟨_,List.mem_singleton.2 rfl,rfl,?_⟩);simp only [List.mem_cons,List.not_mem_nil,or_false] at hq;rcases hq with rfl|rfl <;> simp only [Pc.F] at hb ⊢ <;> simp [hb]
theorem I8 (x:A7) {a1:Option Addr} {c1:Nat} {F1:List Nat} {a2:Option Addr} {c2:Nat} {F2:List Nat} {S1 S2:List Pc}  (h:T c fr (.own Bt (.agg #[.bool x.Bf,.int .i64 x.Ai,.int .i64 x.Aa.next,.slice a1 x.Aa.An.length c1,.slice a2 x.Ap.length c2]) x (F1++F2)::S2) Φ) (m1:Cu H (.ow Cc 188 (.slice a1 x.Aa.An.length c1) x.Aa.An F1) S1:=by exact Dv) (m2:Cu S1 (.ow Ay 165 (.slice a2 x.Ap.length c2) x.Ap F2) S2:=by exact Dv)  : T c fr H Φ:=.mk fun a w s g=>by
 have z1:St c.G c.D c.w0 ([.ow Cc 188 (.slice a1 x.Aa.An.length c1) x.Aa.An F1,.ow Ay 165 (.slice a2 x.Ap.length c2) x.Ap F2]++S2) w:=by simpa using (show Eu H [.ow Cc 188 (.slice a1 x.Aa.An.length c1) x.Aa.An F1,.ow Ay 165 (.slice a2 x.Ap.length c2) x.Ap F2] S2 from Eu.cons m1 (Eu.cons m2 (Eu.nil))).st (X:=[]) (by simpa using s)
 obtain ⟨n1,k1⟩:=z1.on (.ow Cc 188 (.slice a1 x.Aa.An.length c1) x.Aa.An F1) (by simp)
 obtain ⟨n2,k2⟩:=z1.on (.ow Ay 165 (.slice a2 x.Ap.length c2) x.Ap F2) (by simp)
 have hsp:=z1.Yl
 have p1_2:∀b∈F1,b ∉ F2:=hsp.1 (.ow Ay 165 (.slice a2 x.Ap.length c2) x.Ap F2) (by simp) rfl
 have hN:(F1++F2).Nodup:=by
  simp only [List.nodup_append,List.mem_append]
  grind
 refine h.h a w (St.turn (M:=[.ow Cc 188 (.slice a1 x.Aa.An.length c1) x.Aa.An F1,.ow Ay 165 (.slice a2 x.Ap.length c2) x.Ap F2]) (N:=[.own Bt (.agg #[.bool x.Bf,.int .i64 x.Ai,.int .i64 x.Aa.next,.slice a1 x.Aa.An.length c1,.slice a2 x.Ap.length c2]) x (F1++F2)]) z1 (Dn.refl _ w) (by intro q hq;simp at hq;subst hq;exact ⟨hN,_,rfl,_,_,_,_,rfl,k1,k2,rfl⟩) ⟨by simp,trivial⟩ fun q hq b hb=>?_) g
 simp at hq;subst hq
 simp only [Pc.F,List.mem_append] at hb
 rcases hb with hb|hb
 ·exact .inr (.inl ⟨.ow Cc 188 (.slice a1 x.Aa.An.length c1) x.Aa.An F1,by simp,rfl,hb⟩)
 ·exact .inr (.inl ⟨.ow Ay 165 (.slice a2 x.Ap.length c2) x.Ap F2,by simp,rfl,hb⟩)
theorem Mz {a:Option Addr} {n cp:Nat} {xs:List A7} {F:List Nat} (i:Nat) (h:∀(hi:i < xs.length) (b o:Nat) (a1:Option Addr) (c1:Nat) (F1:List Nat) (a2:Option Addr) (c2:Nat) (F2:List Nat),a=some ⟨b,o,none⟩→xs[i].Aa.An.length≤maxLen→xs[i].Ap.length≤maxLen→T c fr (.cel b (o+i * 5) [.bool xs[i].Bf,.int .i64 xs[i].Ai,.int .i64 xs[i].Aa.next,.slice a1 xs[i].Aa.An.length c1,.slice a2 xs[i].Ap.length c2]::.sl Cc (.slice a1 xs[i].Aa.An.length c1) xs[i].Aa.An F1::.sl Ay (.slice a2 xs[i].Ap.length c2) xs[i].Ap F2::H) Φ) (hm:.sl Bn (.slice a n cp) xs F∈H:=by exact Bw) (hi:i < xs.length:=by omega):T c fr H Φ:=.mk fun ac w s g=>by
 obtain ⟨b,o,cs,G,ha,hrep,hG,hb,hne,hr⟩:=Rs (s.get hm) i hi
 obtain ⟨v1,v2,G1,G2,rfl,h1,h2,rfl⟩:=hrep
 obtain ⟨a1,c1,rfl⟩:=h1.slice;have l1:=h1.len
 obtain ⟨a2,c2,rfl⟩:=h2.slice;have l2:=h2.len
 have t2:=s.ro (p:=.sl Ay (.slice a2 xs[i].Ap.length c2) xs[i].Ap G2) hm rfl rfl ⟨by decide,h2⟩ (by intro b hb;simp only [Pc.F] at hb ⊢;exact hG b (by simp [hb]))
 have t1:=t2.ro (p:=.sl Cc (.slice a1 xs[i].Aa.An.length c1) xs[i].Aa.An G1) (List.mem_cons_of_mem _ hm) rfl rfl ⟨by decide,h1⟩ (by intro b hb;simp only [Pc.F] at hb ⊢;exact hG b (by simp [hb]))
 exact (h hi b o a1 c1 G1 a2 c2 G2 ha  l1 l2).h ac w (t1.ro (List.mem_cons_of_mem _ (List.mem_cons_of_mem _ hm)) rfl rfl ⟨hne,hr⟩ (by intro x hx;simp [Pc.F] at hx;subst hx;exact hb)) g
end
theorem Abr (fid:FuncId) (bd caps:List Value) (A:List Pc) (hA:A.all (fun p=>!p.mu)=true) (xs:List A1) (a:Option Addr) (c:Nat) (F:List Nat) (p:A1→Bool) (hb:Mv prog fid=true) (hl:xs.length≤1000000000)
  (hp:∀x∈xs,∀w,Mc A w→Calls prog fid (bd++[(.agg #[.int .i64 (x).Ac,.int .i64 (x).Ff,.int .i64 (x).By,.int .i64 (x).Dc]:Value)]++caps).toArray w fun e w'=>e=.returned (.bool (p x))∧Below w.heap.size w w') :
  Fn prog 227 [.slice a xs.length c,.func (.func fid) bd.toArray caps.toArray] (.sl Ay (.slice a xs.length c) xs F::A) [] (fun (_:Unit)=>True) (fun _=>.int .i64 (N2 p xs)) (fun _=>[]):=by
 refine enter func227 rfl ntmps227 (fun w0=>?_) rfl (by simpa [Pc.mu] using hA) .nil
 refine go ?_;intros
 refine Ds [0,1,4,7] (fun k:Nat=>[(8,.int .i64 (k:Nat))]) (fun k=>k≤xs.length∧∀j (_:j < k) (hj:j < xs.length),p xs[j]=false) (fun k=>xs.length - k) 0 ⟨Nat.zero_le _,fun j h=>by omega⟩ fun k hk=>?_
 obtain ⟨hk1,hk2⟩:=hk
 refine go ?_;intros
 refine Bd rfl (fun h5=>?_) (fun h5=>?_)
 ·have hh:k < xs.length:=by omega
  refine go ?_;intros
  refine Hb (xs:=xs) k ?_
  rintro hi b o e
  rw [e]
  refine go ?_;intros
  apply wO
  refine Si rfl rfl hb Bb ?_
  refine cb (fun w st=>hp xs[k] (List.getElem_mem hh) w (fun q hq=>st.on q (by simp [hq]))) ?_
  cases hpk:p xs[k]
  ·refine go ?_;intros
   refine Pn ?_
   refine Co (hH:=Ib _) (k+1) ⟨hh,fun j hj h=>?_⟩ (by omega)
   rcases Nat.lt_or_eq_of_le (Nat.lt_succ_iff.1 hj) with h2|rfl
   ·exact hk2 j h2 h
   ·exact hpk
  ·refine go ?_;intros
   refine ret () trivial ?_
   rw [Lk hh hk2 hpk];rfl
 ·obtain rfl:k=xs.length:=by omega
  refine go ?_;intros
  refine ret () trivial ?_
  rw [J3 (fun j hj=>hk2 j hj hj)];rfl
structure Ah2 where
 i:Nat
 j:Nat
 zs:List A1
theorem Abp (fid:FuncId) (bd caps:List Value) (A:List Pc) (hA:A.all (fun p=>!p.mu)=true) (xs:List A1) (a:Option Addr) (c:Nat) (F:List Nat) (p:A1→Bool) (hb:Mv prog fid=true) (hl:xs.length≤1000000000)
  (hp:∀x∈xs,∀w,Mc A w→Calls prog fid (bd++[(.agg #[.int .i64 (x).Ac,.int .i64 (x).Ff,.int .i64 (x).By,.int .i64 (x).Dc]:Value)]++caps).toArray w fun e w'=>e=.returned (.bool (p x))∧Below w.heap.size w w') :
  Fn prog 237 [.slice a xs.length c,.func (.func fid) bd.toArray caps.toArray] A [.ow Ay 165 (.slice a xs.length c) xs F] (fun (_:Option Addr × Nat × List Nat)=>True)
   (fun z=>.slice z.1 (xs.filter fun x=>!p x).length z.2.1) (fun z=>[.ow Ay 165 (.slice z.1 (xs.filter fun x=>!p x).length z.2.1) (xs.filter fun x=>!p x) z.2.2]):=by
 refine enter func237 rfl ntmps237 (fun w0=>?_) rfl (by simpa [Pc.mu] using hA) (.cons .nil)
 refine go ?_;intros
 refine cb (fun w st=>by
  obtain ⟨Fw, -,hw⟩:=(st.get (p:=.ow Ay 165 (.slice a xs.length c) xs F) (by simp)).2.read
  refine (Abr fid bd caps A hA xs a c Fw p hb hl hp).val w ?_ (by simpa [Pc.mu] using hA)
  intro q hq
  rcases List.mem_cons.1 hq with rfl|hq
  ·exact ⟨by decide,hw⟩
  ·exact st.on q (by simp [hq])) ?_
 by_cases hany:xs.any p=true
 ·obtain ⟨i0,hi0,hfx,hpi,hfl⟩:=Sb hany
  rw [hfx]
  refine Abd (xs:=xs) De (by rintro rfl;simp at hi0) ?_
  rintro g rfl rfl - hc1 hc2
  refine go ?_;intros
  refine Cq [0,1,4] (fun s:Ah2=>[(5,.int .i64 (s.i:Nat)),(6,.int .i64 (s.j:Nat))]) (fun s=>[.ow Ay 165 (.slice (some ⟨g,0,none⟩) xs.length c) s.zs [g]]) (fun s=>s.zs.length=xs.length∧s.j≤xs.length∧s.i < s.j∧s.zs.take s.i=(xs.take s.j).filter (fun x=>!p x)∧s.zs.drop s.j=xs.drop s.j) (fun s=>xs.length - s.j) ⟨i0,i0+1,xs⟩ ⟨rfl,hi0,Nat.lt_succ_self _,by rw [Cs hi0 (by simp [hpi]),hfl],rfl⟩ fun s hs=>?_
  obtain ⟨i,j,zs⟩:=s
  obtain ⟨h1,h2,h3,h4,h5⟩:=hs
  dsimp only at h1 h2 h3 h4 h5 ⊢
  refine go ?_;intros
  refine Bd rfl (fun h6=>?_) (fun h6=>?_)
  ·have hj:j < xs.length:=by omega
   have hjz:j < zs.length:=by omega
   have hx:zs[j]=xs[j]:=by
    have a1:=List.drop_eq_getElem_cons hjz
    have a2:=List.drop_eq_getElem_cons hj
    rw [h5,a2] at a1
    exact (List.cons.inj a1).1.symm
   have hdz:zs.drop (j+1)=xs.drop (j+1):=by
    rw [←List.drop_drop,h5,List.drop_drop]
   refine go ?_;intros
   refine Ob (m:=4) De j ?_ (by repeat (first|exact .here|apply Cu.there)) rfl hjz
   rintro _ g2 A2 cs2 B2 e1 e2 hc3 hh
   cases e1
   obtain ⟨rfl, -⟩:=hc3 w0
   refine go ?_;intros
   refine Nc zs[j] hh hc3 ?_
   rw [List.set_getElem_self,hx]
   apply wO
   refine Si rfl rfl hb Bb ?_
   refine cb (fun w st=>hp xs[j] (List.getElem_mem hj) w (fun q hq=>st.on q (by simp [hq]))) ?_
   cases hpj:p xs[j]
   ·refine go ?_;intros
    refine Ob (m:=4) De i ?_ (by repeat (first|exact .here|apply Cu.there)) rfl (by omega)
    rintro _ g3 A3 cs3 B3 e1 e2 hc4 hh3
    cases e1
    obtain ⟨rfl, -⟩:=hc4 w0
    refine go ?_;intros
    refine Nc xs[j] hh3 (fun w=>⟨rfl,rfl⟩) ?_
    refine Co (hH:=.cons .here (U1 _)) (⟨i+1,j+1,zs.set i xs[j]⟩:Ah2) ⟨by simp [h1],hj,Nat.succ_lt_succ h3,?_,?_⟩ (by dsimp only;omega)
    ·dsimp only
     rw [Em hj (by simp [hpj]),←h4,List.take_add_one,List.getElem?_set_self (by omega),List.take_set_of_le (Nat.le_refl _)]
     rfl
    ·dsimp only
     rw [List.drop_set_of_lt (by omega),hdz]
   ·refine go ?_;intros
    refine Co (hH:=.cons .here (U1 _)) (⟨i,j+1,zs⟩:Ah2) ⟨h1,hj,Nat.lt_succ_of_lt h3,?_,hdz⟩ (by dsimp only;omega)
    dsimp only
    rw [Cs hj (by simp [hpj]),h4]
  ·obtain rfl:j=xs.length:=by omega
   have h4':zs.take i=xs.filter fun x=>!p x:=by rw [h4,List.take_length]
   have hil:(xs.filter fun x=>!p x).length=i:=by rw [←h4',List.length_take];omega
   refine go ?_;intros
   apply wO;apply oc;rfl;exact Ih (i:=i) rfl rfl rfl (by omega) (by omega) (by omega)
   refine go ?_;intros
   apply wO
   refine Ae8 (z0:=⟨0,0,0,0⟩) (n:=xs.length) (cp:=c) (i:=i) (g:=g) De (fun w=>⟨rfl,rfl⟩) (by decide) rfl rfl h3 h1.symm (by repeat (first|exact .here|apply Cu.there)) ?_
   refine go ?_;intros
   refine Abg (xs:=zs.take i++List.replicate (xs.length - i) ⟨0,0,0,0⟩) i (fun F2=>?_) (by rw [List.length_append,List.length_take,List.length_replicate];omega)
   rw [List.take_left' (by rw [List.length_take];omega),h4']
   apply wO;apply oc;rfl;exact Lt (i:=i) rfl rfl rfl (by omega) (by omega)
   refine go ?_;intros
   subst hil
   refine ret (_,c,F2) trivial rfl
 ·obtain ⟨hfx,hfl⟩:=T7 hany
  rw [hfx,hfl]
  refine go ?_;intros
  refine ret (a,c,F) trivial rfl
theorem Ah0 (fid:FuncId) (bd caps:List Value) (A:List Pc) (hA:A.all (fun p=>!p.mu)=true) (xs:List A1) (a:Option Addr) (c:Nat) (F:List Nat) (p:A1→Bool) (hb:Mv prog fid=true) (hl:xs.length≤1000000000)
  (hp:∀x∈xs,∀w,Mc A w→Calls prog fid (bd++[(.agg #[.int .i64 (x).Ac,.int .i64 (x).Ff,.int .i64 (x).By,.int .i64 (x).Dc]:Value)]++caps).toArray w fun e w'=>e=.returned (.bool (p x))∧Below w.heap.size w w') :
  Fn prog 171 [.slice a xs.length c,.func (.func fid) bd.toArray caps.toArray] (.sl Ay (.slice a xs.length c) xs F::A) [] (fun (_:Unit)=>True) (fun _=>.bool (xs.any p)) (fun _=>[]):=by
 refine enter func171 rfl ntmps171 (fun w0=>?_) rfl (by simpa [Pc.mu] using hA) .nil
 refine go ?_;intros
 refine cb (fun w st=>(Abr fid bd caps A hA xs a c F p hb hl hp).val w (fun q hq=>st.on q (by simpa using hq)) (by simpa [Pc.mu] using hA)) ?_
 refine go ?_;intros
 refine ret () trivial ?_
 rw [Oy];rfl
theorem Amc (x:Am) (r:A1) (g:Nat) (b:Bool) (ck:Int) (q:Value) (a1:Option Addr) (c1:Nat) (F:List Nat) (h0:0≤x.next) (h1:x.next≤65535) (n0:0≤r.Ac) (n1:r.Ac≤65535):Fn prog 172 [.agg #[.int .i64 r.Ac,.int .i64 r.Ff,.int .i64 r.By,.int .i64 r.Dc],Eo g 0 0] [.cel g 0 [.bool b,.int .i64 ck,.int .i64 x.next,.slice a1 x.An.length c1,q],.isv Bj (.agg #[.int .i64 x.next,.slice a1 x.An.length c1]) x F] [] (fun (_:Unit)=>True) (fun _=>.bool (Gj x r.Ac)) (fun _=>[]):=by
 refine enter func172 rfl ntmps172 fun w0=>?_
 refine go ?_;intros
 refine cf (Tz x r.Ac _ F h0 h1 n0 n1) fun _ _=>?_
 refine Ao ?_
 refine go ?_;intros
 refine ret () trivial rfl
theorem Tx (x:A7) (v:Value) (F:List Nat):Fn prog 109 [v] [.isv Bn v x F] [] (fun (_:Unit)=>True) (fun _=>.bool (C7 x)) (fun _=>[]):=by
 refine enter func109 rfl ntmps109 fun w0=>?_
 refine E4 ?_
 rintro a1 c1 F1 a2 c2 F2 rfl l1 l2
 unfold maxLen at l1 l2
 refine B8 x.Aa ?_
 generalize F1=F3
 refine go ?_;intros
 refine ce (fun w s=>Oh _ _) ?_
 cases g1:Ig x.Ai
 ·refine go ?_;intros
  refine ret () trivial ?_
  simp [C7,g1,Pb]
 refine go ?_;intros
 cases hs:x.Bf
 ·have nog:Lq x=false→C7 x=false:=fun h=>by unfold C7;rw [g1,hs];simpa using h
  refine go ?_;intros
  refine Cw rfl rfl (fun h1=>?_) (fun h1=>?_)
  rotate_left
  ·refine go ?_;intros
   refine ret () trivial ?_
   rw [nog (by unfold Lq;rw [decide_eq_false h1];rfl)];rfl
  refine go ?_;intros
  refine Cw rfl rfl (fun h2=>?_) (fun h2=>?_)
  rotate_left
  ·refine go ?_;intros
   refine ret () trivial ?_
   rw [nog (by unfold Lq;rw [decide_eq_false (show ¬x.Aa.An.length=0 by omega)];simp)];rfl
  refine go ?_;intros
  refine ret () trivial ?_
  rw [show C7 x=decide ((x.Ap.length:Int)=0) by unfold C7;rw [g1,hs];unfold Lq;rw [decide_eq_true h1,decide_eq_true (show x.Aa.An.length=0 by omega)];simp];rfl
 rename_i g
 refine Abe (cs:=[.bool true,.int .i64 x.Ai,.int .i64 x.Aa.next,.slice a1 x.Aa.An.length c1,.slice a2 x.Ap.length c2]) ?_ (by simp)
 refine go ?_;intros
 refine cf (Aia x.Aa _ F3) fun _ _=>?_
 refine Ao ?_
 cases g2:C0 x.Aa
 ·refine go ?_;intros
  refine ret () trivial ?_
  simp [C7,g1,g2,hs,Pb]
 obtain ⟨w0_,w1_⟩:=Gc g2
 refine go ?_;intros
 refine cf (Nh x.Ap x.Aa.next _ F2) fun _ _=>?_
 refine Ao ?_
 cases g3:I7 x.Ap x.Aa.next
 ·refine go ?_;intros
  refine ret () trivial ?_
  simp [C7,g1,g2,g3,hs,Pb]
 obtain ⟨-,q1,q2, -⟩:=Di.1 g3
 refine go ?_;intros
 refine cb (fun w st=>(Ah0 172 [] [Eo g 0 0] [.cel g 0 [.bool true,.int .i64 x.Ai,.int .i64 x.Aa.next,.slice a1 x.Aa.An.length c1,.slice a2 x.Ap.length c2],.isv Bj (.agg #[.int .i64 x.Aa.next,.slice a1 x.Aa.An.length c1]) x.Aa F3] rfl x.Ap a2 c2 F2 (fun z=>Gj x.Aa z.Ac) (by kernel_rfl) (by omega) (fun z hz w hA=>by
  obtain ⟨n0,n1⟩:=A4.1 (Dx.1 (q2 z hz)).n
  exact (Amc x.Aa z g true x.Ai _ a1 c1 F3 w0_ w1_ n0 n1).val w hA)).val w (fun q hq=>by
   simp only [List.mem_cons,List.not_mem_nil,or_false] at hq
   rcases hq with rfl|rfl|rfl <;> exact st.get (by exact Bw))) ?_
 refine go ?_;intros
 refine ret () trivial ?_
 rw [show C7 x = !(x.Ap.any fun z=>Gj x.Aa z.Ac) by unfold C7 Zn;rw [g1,g2,g3,hs,List.not_any_eq_all_not];simp];rfl
theorem Aiy {x:A7} {k:Nat} (h:k < x.Ap.length) (hh:Gj x.Aa x.Ap[k].Ac=true):Zn x=false:=List.all_eq_false.2 ⟨_,List.getElem_mem h,by simp [hh]⟩
theorem Ai1 {w:Am} {n:Int} (hw:C0 w=true) (hn:Bx n=true) (h8:gp w.next n < 8):(Pa n w.next || Gj w n)=Gj w n:=by
 obtain ⟨w0,w1⟩:=Gc hw
 obtain ⟨n0,n1⟩:=A4.1 hn
 have:Pa n w.next=false:=by
  have:¬(1≤gp n w.next∧gp n w.next≤32767):=by unfold gp at *;omega
  unfold Pa Gs
  simpa using this
 rw [this];rfl
theorem Agu (x:A7) (v:Value) (F:List Nat):Fn prog 155 [v] [.isv Bn v x F] [] (fun (_:Unit)=>True) (fun _=>.bool (C7 x)) (fun _=>[]):=by
 refine enter func155 rfl ntmps155 fun w0=>?_
 refine E4 ?_
 rintro a1 c1 F1 a2 c2 F2 rfl l1 l2
 unfold maxLen at l1 l2
 refine B8 x.Aa ?_
 generalize F1=F3
 refine go ?_;intros
 refine ce (fun w s=>Oz _ _) ?_
 cases g1:Ig x.Ai
 ·refine go ?_;intros
  refine ret () trivial ?_
  simp [C7,g1,Pb]
 refine go ?_;intros
 refine cf (Agm x.Aa _ F3) fun _ _=>?_
 refine Ao ?_
 cases g2:C0 x.Aa
 ·refine go ?_;intros
  refine ret () trivial ?_
  cases hg:C7 x
  ·rfl
  ·rw [(Hc.1 hg).w] at g2;cases g2
 obtain ⟨w0_,w1_⟩:=Gc g2
 refine go ?_;intros
 refine cf (Ags x.Ap x.Aa.next _ F2) fun _ _=>?_
 refine Ao ?_
 cases g3:I7 x.Ap x.Aa.next
 ·refine go ?_;intros
  refine ret () trivial ?_
  cases hg:C7 x
  ·rfl
  ·rw [(Hc.1 hg).q] at g3;cases g3
 obtain ⟨-,q1,q2, -⟩:=Di.1 g3
 refine go ?_;intros
 cases hs:x.Bf
 ·have nog:Lq x=false→C7 x=false:=fun h=>by unfold C7;rw [g1,hs];simpa using h
  refine go ?_;intros
  refine Cw rfl rfl (fun h1=>?_) (fun h1=>?_)
  rotate_left
  ·refine go ?_;intros
   refine ret () trivial ?_
   rw [nog (by unfold Lq;rw [decide_eq_false h1];rfl)];rfl
  refine go ?_;intros
  refine Cw rfl rfl (fun h2=>?_) (fun h2=>?_)
  rotate_left
  ·refine go ?_;intros
   refine ret () trivial ?_
   rw [nog (by unfold Lq;rw [decide_eq_false (show ¬x.Aa.An.length=0 by omega)];simp)];rfl
  refine go ?_;intros
  refine ret () trivial ?_
  rw [show C7 x=decide ((x.Ap.length:Int)=0) by unfold C7;rw [g1,hs];unfold Lq;rw [decide_eq_true h1,decide_eq_true (show x.Aa.An.length=0 by omega)];simp];rfl
 refine go ?_;intros
 refine Ds [1,2] (fun k:Nat=>[(3,.int .i64 (k:Nat))]) (fun k=>k≤x.Ap.length∧∀j (_:j < k) (h:j < x.Ap.length),Gj x.Aa x.Ap[j].Ac=false) (fun k=>x.Ap.length - k) 0 ⟨Nat.zero_le _,fun j h=>by omega⟩ fun k hk=>?_
 obtain ⟨hk1,hk2⟩:=hk
 refine go ?_;intros
 refine Bd rfl (fun h3=>?_) (fun h3=>?_)
 ·have hk3:k < x.Ap.length:=by omega
  have hq:=Dx.1 (q2 _ (List.getElem_mem hk3))
  obtain ⟨n0,n1⟩:=A4.1 hq.n
  refine Hb (xs:=x.Ap) k ?_
  rintro hi b o e
  rw [e]
  refine go ?_;intros
  refine Av [0,1] [] ?_
  refine dt 0 ?_
  refine dt 1 ?_
  refine dt 2 ?_
  refine dt 3 ?_
  refine dt 4 ?_
  refine dt 5 ?_
  refine dt 6 ?_
  refine dt 7 ?_
  refine dO 8 (by kernel_rfl) (by rw [List.getElem?_toArray];rfl) ?_
  apply At;rfl;kernel_rfl;exact Bb
  refine cf (U4 x.Aa x.Ap[k].Ac _ F3 w0_ w1_ n0 n1) fun _ _=>?_
  refine Ao ?_
  refine dk ?_
  refine dd ?_
  rw [show El x.Aa x.Ap[k].Ac=Gj x.Aa x.Ap[k].Ac from Ai1 g2 hq.n hq.g]
  cases g5:Gj x.Aa x.Ap[k].Ac
  ·refine go ?_;intros
   refine Co (k+1) ⟨by omega,fun j hj h=>?_⟩ (by omega)
   rcases Nat.lt_or_eq_of_le (Nat.lt_succ_iff.1 hj) with h'|rfl
   ·exact hk2 j h' h
   ·exact g5
  ·refine go ?_;intros
   refine ret () trivial ?_
   rw [show C7 x=false by unfold C7;rw [g1,g2,g3,hs,Aiy hk3 g5];rfl];rfl
 have hkl:k=x.Ap.length:=by omega
 refine go ?_;intros
 refine ret () trivial ?_
 rw [show C7 x=true by
  unfold C7 Zn;rw [g1,g2,g3,hs,List.all_eq_true.2 fun z hz=>?_];rfl
  obtain ⟨i,hi,rfl⟩:=List.getElem_of_mem hz
  rw [hk2 i (by omega) hi];rfl];rfl
theorem Fg {α β:Type} {f:α→Option β} {l:List α} {k:Nat} (h:k < l.length):(l.take (k+1)).filterMap f=(l.take k).filterMap f++(f l[k]).toList:=by
 rw [List.take_add_one,List.getElem?_eq_getElem h,List.filterMap_append]
 cases hf:f l[k] <;> simp [hf]
theorem U0 {α β:Type} (f:α→Option β) (l:List α) (k:Nat):((l.take k).filterMap f).length≤k:=by
 have:=List.length_filterMap_le f (l.take k)
 rw [List.length_take] at this;omega
structure TkS where
 k:Nat
 a:Option Addr
 c:Nat
 F:List Nat
 a2:Option Addr
 c2:Nat
 F2:List Nat
 a3:Option Addr
 c3:Nat
 F3:List Nat
theorem Yv (l:List A1) (c d:Int) (a0:Option Addr) (c0:Nat) (F:List Nat) (hl:l.length≤1000000) (ht:∀r∈l,0≤r.Dc∧r.Dc≤3) (c0_:0≤c) (c1_:c≤1000000) (d0_:-1000000≤d) (d1_:d≤1000000) :
  Fn prog 200 [.slice a0 l.length c0,.int .i64 c,.int .i64 d] [.sl Ay (.slice a0 l.length c0) l F] [] (fun (_:TkS)=>True) (fun s=>.tuple #[.slice s.a (l.filterMap (Pj c d)).length s.c,.slice s.a2 (l.filterMap (My c)).length s.c2,.slice s.a3 (l.filterMap (Po c)).length s.c3]) (fun s=>[.ow Ay 165 (.slice s.a (l.filterMap (Pj c d)).length s.c) (l.filterMap (Pj c d)) s.F,.ow Be 3 (.slice s.a2 (l.filterMap (My c)).length s.c2) (l.filterMap (My c)) s.F2,.ow Be 3 (.slice s.a3 (l.filterMap (Po c)).length s.c3) (l.filterMap (Po c)) s.F3]):=by
 refine enter func200 rfl ntmps200 fun w0=>?_
 refine go ?_;intros
 refine B7 Ay 165 ?_
 refine B7 Be 3 ?_
 refine B7 Be 3 ?_
 refine Cq [1,2,6,7,8,14,15] (fun s:TkS=>[(16,.int .i64 (s.k:Nat)),(9,.slice s.a ((l.take s.k).filterMap (Pj c d)).length s.c),(10,.slice s.a2 ((l.take s.k).filterMap (My c)).length s.c2),(11,.slice s.a3 ((l.take s.k).filterMap (Po c)).length s.c3)]) (fun s=>[.ow Ay 165 (.slice s.a ((l.take s.k).filterMap (Pj c d)).length s.c) ((l.take s.k).filterMap (Pj c d)) s.F,.ow Be 3 (.slice s.a2 ((l.take s.k).filterMap (My c)).length s.c2) ((l.take s.k).filterMap (My c)) s.F2,.ow Be 3 (.slice s.a3 ((l.take s.k).filterMap (Po c)).length s.c3) ((l.take s.k).filterMap (Po c)) s.F3]) (fun s=>s.k≤l.length) (fun s=>l.length - s.k) ⟨0,_,_,_,_,_,_,_,_,_⟩ (Nat.zero_le _) fun s hs=>?_
 obtain ⟨k,a4,c4,F4,a5,c5,F5,a6,c6,F6⟩:=s
 dsimp only at hs ⊢
 have h1:=U0 (Pj c d) l k
 have h2:=U0 (My c) l k
 have h3:=U0 (Po c) l k
 refine go ?_;intros
 refine Bd rfl (fun h4=>?_) (fun h4=>?_)
 ·have hk:k < l.length:=by omega
  obtain ⟨t0,t1⟩:=ht _ (List.getElem_mem hk)
  refine Hb (xs:=l) k ?_
  rintro hi b o e
  rw [e]
  refine go ?_;intros
  refine Bd rfl (fun h5=>?_) (fun h5=>?_)
  ·have h5':c < l[k].By:=by omega
   refine go ?_;intros
   have eo:((l.take (k+1)).filterMap (Pj c d))=((l.take k).filterMap (Pj c d))++[l[k]]:=by rw [Fg hk];simp [Pj,h5']
   have es:((l.take (k+1)).filterMap (My c))=((l.take k).filterMap (My c)):=by rw [Fg hk];simp [My,h5']
   have el:((l.take (k+1)).filterMap (Po c))=((l.take k).filterMap (Po c)):=by rw [Fg hk];simp [Po,h5']
   apply wO
   refine Lh (ys:=[l[k]]) (Kl l[k]) Ct fun a7 c7 F7=>?_
   refine go ?_;intros
   rw [←eo,←es,←el]
   refine Co (⟨k+1,_,_,_,_,_,_,_,_,_⟩:TkS) (by show k+1≤l.length;omega) (by show l.length - (k+1) < l.length - k;omega)
  refine go ?_;intros
  refine Bd rfl (fun h6=>?_) (fun h6=>?_)
  ·refine go ?_;intros
   have eo:((l.take (k+1)).filterMap (Pj c d))=((l.take k).filterMap (Pj c d)):=by rw [Fg hk];simp [Pj,h5,h6]
   have es:((l.take (k+1)).filterMap (My c))=((l.take k).filterMap (My c)):=by rw [Fg hk];simp [My,h5,h6]
   have el:((l.take (k+1)).filterMap (Po c))=((l.take k).filterMap (Po c))++[l[k].Ac]:=by rw [Fg hk];simp [Po,h5,h6]
   apply wO
   refine Lh (ys:=[l[k].Ac]) (Qr _) C8 fun a8 c8 F8=>?_
   refine go ?_;intros
   rw [←eo,←es,←el]
   refine Co (⟨k+1,_,_,_,_,_,_,_,_,_⟩:TkS) (by show k+1≤l.length;omega) (by show l.length - (k+1) < l.length - k;omega)
  refine go ?_;intros
  refine Bd rfl (fun h7=>?_) (fun h7=>?_)
  ·refine go ?_;intros
   have eo:((l.take (k+1)).filterMap (Pj c d))=((l.take k).filterMap (Pj c d))++[(⟨l[k].Ac,2,c+3,l[k].Dc+1⟩:A1)]:=by rw [Fg hk];simp [Pj,h5,h6,h7]
   have es:((l.take (k+1)).filterMap (My c))=((l.take k).filterMap (My c))++[l[k].Ac]:=by rw [Fg hk];simp [My,h5,h6,h7]
   have el:((l.take (k+1)).filterMap (Po c))=((l.take k).filterMap (Po c)):=by rw [Fg hk];simp [Po,h5,h6,h7]
   apply wO
   refine Lh (ys:=[l[k].Ac]) (Qr _) C8 fun a8 c8 F8=>?_
   refine go ?_;intros
   apply wO
   refine Lh (ys:=[(⟨l[k].Ac,2,c+3,l[k].Dc+1⟩:A1)]) (Kl (⟨l[k].Ac,2,c+3,l[k].Dc+1⟩:A1)) Ct fun a7 c7 F7=>?_
   refine go ?_;intros
   rw [←eo,←es,←el]
   refine Co (⟨k+1,_,_,_,_,_,_,_,_,_⟩:TkS) (by show k+1≤l.length;omega) (by show l.length - (k+1) < l.length - k;omega)
  ·refine go ?_;intros
   have eo:((l.take (k+1)).filterMap (Pj c d))=((l.take k).filterMap (Pj c d))++[(⟨l[k].Ac,1,c+d,l[k].Dc⟩:A1)]:=by rw [Fg hk];simp [Pj,h5,h6,h7]
   have es:((l.take (k+1)).filterMap (My c))=((l.take k).filterMap (My c)):=by rw [Fg hk];simp [My,h5,h6,h7]
   have el:((l.take (k+1)).filterMap (Po c))=((l.take k).filterMap (Po c)):=by rw [Fg hk];simp [Po,h5,h6,h7]
   apply wO
   refine Lh (ys:=[(⟨l[k].Ac,1,c+d,l[k].Dc⟩:A1)]) (Kl (⟨l[k].Ac,1,c+d,l[k].Dc⟩:A1)) Ct fun a7 c7 F7=>?_
   refine go ?_;intros
   rw [←eo,←es,←el]
   refine Co (⟨k+1,_,_,_,_,_,_,_,_,_⟩:TkS) (by show k+1≤l.length;omega) (by show l.length - (k+1) < l.length - k;omega)
 ·obtain rfl:k=l.length:=by omega
  rw [List.take_length]
  refine go ?_;intros
  refine ret ⟨0,_,_,_,_,_,_,_,_,_⟩ trivial rfl
theorem Agt (l:List A1) (c d:Int) (a0:Option Addr) (c0:Nat) (F:List Nat) (hl:l.length≤1000000) (ht:∀r∈l,0≤r.Dc∧r.Dc≤3) (c0_:0≤c) (c1_:c≤1000000) (d0_:-1000000≤d) (d1_:d≤1000000) :
  Fn prog 214 [.slice a0 l.length c0,.int .i64 c,.int .i64 d] [.sl Ay (.slice a0 l.length c0) l F] [] (fun (_:TkS)=>True) (fun s=>.tuple #[.slice s.a (l.filterMap (Pj c d)).length s.c,.slice s.a2 (l.filterMap (My c)).length s.c2,.slice s.a3 (l.filterMap (Po c)).length s.c3]) (fun s=>[.ow Ay 165 (.slice s.a (l.filterMap (Pj c d)).length s.c) (l.filterMap (Pj c d)) s.F,.ow Be 3 (.slice s.a2 (l.filterMap (My c)).length s.c2) (l.filterMap (My c)) s.F2,.ow Be 3 (.slice s.a3 (l.filterMap (Po c)).length s.c3) (l.filterMap (Po c)) s.F3]):=by
 refine enter func214 rfl ntmps214 fun w0=>?_
 refine go ?_;intros
 refine C1 Be ?_
 refine C1 Be ?_
 refine C1 Ay ?_
 refine Cq [0,1,2,6,7,8] (fun s:TkS=>[(12,.int .i64 (s.k:Nat)),(9,.slice s.a ((l.take s.k).filterMap (Pj c d)).length s.c),(10,.slice s.a2 ((l.take s.k).filterMap (My c)).length s.c2),(11,.slice s.a3 ((l.take s.k).filterMap (Po c)).length s.c3)]) (fun s=>[.ow Ay 165 (.slice s.a ((l.take s.k).filterMap (Pj c d)).length s.c) ((l.take s.k).filterMap (Pj c d)) s.F,.ow Be 3 (.slice s.a2 ((l.take s.k).filterMap (My c)).length s.c2) ((l.take s.k).filterMap (My c)) s.F2,.ow Be 3 (.slice s.a3 ((l.take s.k).filterMap (Po c)).length s.c3) ((l.take s.k).filterMap (Po c)) s.F3]) (fun s=>s.k≤l.length) (fun s=>l.length - s.k) ⟨0,_,_,_,_,_,_,_,_,_⟩ (Nat.zero_le _) fun s hs=>?_
 obtain ⟨k,a4,c4,F4,a5,c5,F5,a6,c6,F6⟩:=s
 dsimp only at hs ⊢
 have h1:=U0 (Pj c d) l k
 have h2:=U0 (My c) l k
 have h3:=U0 (Po c) l k
 refine go ?_;intros
 refine Bd rfl (fun h4=>?_) (fun h4=>?_)
 ·have hk:k < l.length:=by omega
  obtain ⟨t0,t1⟩:=ht _ (List.getElem_mem hk)
  refine Hb (xs:=l) k ?_
  rintro hi b o e
  rw [e]
  refine go ?_;intros
  refine Bd rfl (fun h5=>?_) (fun h5=>?_)
  ·have h5':c < l[k].By:=by omega
   refine go ?_;intros
   have eo:((l.take (k+1)).filterMap (Pj c d))=((l.take k).filterMap (Pj c d))++[l[k]]:=by rw [Fg hk];simp [Pj,h5']
   have es:((l.take (k+1)).filterMap (My c))=((l.take k).filterMap (My c)):=by rw [Fg hk];simp [My,h5']
   have el:((l.take (k+1)).filterMap (Po c))=((l.take k).filterMap (Po c)):=by rw [Fg hk];simp [Po,h5']
   apply wO
   refine Lh (ys:=[l[k]]) (Kl l[k]) Ct fun a7 c7 F7=>?_
   refine go ?_;intros
   rw [←eo,←es,←el]
   refine Co (⟨k+1,_,_,_,_,_,_,_,_,_⟩:TkS) (by show k+1≤l.length;omega) (by show l.length - (k+1) < l.length - k;omega)
  refine go ?_;intros
  refine Bd rfl (fun h6=>?_) (fun h6=>?_)
  ·refine go ?_;intros
   have eo:((l.take (k+1)).filterMap (Pj c d))=((l.take k).filterMap (Pj c d)):=by rw [Fg hk];simp [Pj,h5,h6]
   have es:((l.take (k+1)).filterMap (My c))=((l.take k).filterMap (My c)):=by rw [Fg hk];simp [My,h5,h6]
   have el:((l.take (k+1)).filterMap (Po c))=((l.take k).filterMap (Po c))++[l[k].Ac]:=by rw [Fg hk];simp [Po,h5,h6]
   apply wO
   refine Lh (ys:=[l[k].Ac]) (Qr _) C8 fun a8 c8 F8=>?_
   refine go ?_;intros
   rw [←eo,←es,←el]
   refine Co (⟨k+1,_,_,_,_,_,_,_,_,_⟩:TkS) (by show k+1≤l.length;omega) (by show l.length - (k+1) < l.length - k;omega)
  refine go ?_;intros
  refine Bd rfl (fun h7=>?_) (fun h7=>?_)
  ·refine go ?_;intros
   have eo:((l.take (k+1)).filterMap (Pj c d))=((l.take k).filterMap (Pj c d))++[(⟨l[k].Ac,2,c+3,l[k].Dc+1⟩:A1)]:=by rw [Fg hk];simp [Pj,h5,h6,h7]
   have es:((l.take (k+1)).filterMap (My c))=((l.take k).filterMap (My c))++[l[k].Ac]:=by rw [Fg hk];simp [My,h5,h6,h7]
   have el:((l.take (k+1)).filterMap (Po c))=((l.take k).filterMap (Po c)):=by rw [Fg hk];simp [Po,h5,h6,h7]
   apply wO
   refine Lh (ys:=[l[k].Ac]) (Qr _) C8 fun a8 c8 F8=>?_
   refine go ?_;intros
   apply wO
   refine Lh (ys:=[(⟨l[k].Ac,2,c+3,l[k].Dc+1⟩:A1)]) (Kl (⟨l[k].Ac,2,c+3,l[k].Dc+1⟩:A1)) Ct fun a7 c7 F7=>?_
   refine go ?_;intros
   rw [←eo,←es,←el]
   refine Co (⟨k+1,_,_,_,_,_,_,_,_,_⟩:TkS) (by show k+1≤l.length;omega) (by show l.length - (k+1) < l.length - k;omega)
  ·refine go ?_;intros
   have eo:((l.take (k+1)).filterMap (Pj c d))=((l.take k).filterMap (Pj c d))++[(⟨l[k].Ac,1,c+d,l[k].Dc⟩:A1)]:=by rw [Fg hk];simp [Pj,h5,h6,h7]
   have es:((l.take (k+1)).filterMap (My c))=((l.take k).filterMap (My c)):=by rw [Fg hk];simp [My,h5,h6,h7]
   have el:((l.take (k+1)).filterMap (Po c))=((l.take k).filterMap (Po c)):=by rw [Fg hk];simp [Po,h5,h6,h7]
   apply wO
   refine Lh (ys:=[(⟨l[k].Ac,1,c+d,l[k].Dc⟩:A1)]) (Kl (⟨l[k].Ac,1,c+d,l[k].Dc⟩:A1)) Ct fun a7 c7 F7=>?_
   refine go ?_;intros
   rw [←eo,←es,←el]
   refine Co (⟨k+1,_,_,_,_,_,_,_,_,_⟩:TkS) (by show k+1≤l.length;omega) (by show l.length - (k+1) < l.length - k;omega)
 ·obtain rfl:k=l.length:=by omega
  rw [List.take_length]
  refine go ?_;intros
  refine ret ⟨0,_,_,_,_,_,_,_,_,_⟩ trivial rfl
section
variable {c:Cx} {fr:Fr} {H:List Pc} {Φ:Gl}
theorem Lj {a:Option Addr} {n cp:Nat} {xs:List Aw} {F:List Nat} (i:Nat) (h:∀(hi:i < xs.length) (b o:Nat),a=some ⟨b,o,none⟩→xs[i].data.size≤maxLen→T c fr (.cel b (o+i * 5) [.int .i64 xs[i].Cm,.int .i64 xs[i].Ac,.int .i64 xs[i].Ak,.int .i64 xs[i].Dy,.string xs[i].data]::H) Φ) (hm:.sl Al (.slice a n cp) xs F∈H:=by exact Bw) (hi:i < xs.length:=by omega):T c fr H Φ:=.mk fun ac w s g=>by
 obtain ⟨b,o,cs,G,ha,hrep,hG,hb,hne,hr⟩:=Rs (s.get hm) i hi
 obtain ⟨rfl,s1,rfl⟩:=hrep
 exact (h hi b o  ha s1 ).h ac w (s.ro hm rfl rfl ⟨hne,hr⟩ (by intro x hx;simp [Pc.F] at hx;subst hx;exact hb)) g
theorem Af2 {t:TypeId} {a:Option Addr} {n cp:Nat} {xs:List Aw} {F:List Nat} {S:List Pc} (i:Nat) (h:∀(_:i < xs.length) g A B,a=some ⟨g,0,none⟩→F=[g]→xs[i].data.size≤maxLen→Ah5 Al t g (.slice (some ⟨g,0,none⟩) n cp) xs i A B→T c fr (.row g t (0+i * 5) A [.int .i64 xs[i].Cm,.int .i64 xs[i].Ac,.int .i64 xs[i].Ak,.int .i64 xs[i].Dy,.string xs[i].data] B::S) Φ) (hp:Cu H (.ow Al t (.slice a n cp) xs F) S:=by exact Dv) (hi:i < xs.length:=by omega):T c fr H Φ :=
 Ob Iz i (fun hi g A cs B ha hF hr hh=>by obtain ⟨rfl,s1, -⟩:=hr default;exact h hi g A B ha hF s1 hh) hp rfl hi
theorem Cz (x:Aw) (s1:x.data.size≤maxLen) (w:World):Cp Al w [.int .i64 x.Cm,.int .i64 x.Ac,.int .i64 x.Ak,.int .i64 x.Dy,.string x.data] [x] []:=⟨_,[],[],[],by simp,by simp,⟨rfl,s1,rfl⟩,rfl,rfl⟩
end
theorem Aid (x:A7) (v:Value) (F:List Nat) (hl:x.Aa.An.length≤1000000000) (hl2:x.Ap.length≤1000000000):Fn prog 78 [v] [.isv Bn v x F] [] (fun (_:Value × List Nat)=>True) (fun s=>s.1) (fun s=>[.own Bt s.1 x s.2]):=by
 refine enter func78 rfl ntmps78 fun w0=>?_
 refine E4 ?_
 rintro a1 c1 F1 a2 c2 F2 rfl l1 l2
 refine B8 x.Aa ?_
 generalize F1=F3
 refine go ?_;intros
 refine cf (Aft x.Aa _ F3 (by omega)) fun z _=>?_
 refine Ao ?_
 refine go ?_;intros
 refine cf (Pd x.Ap a2 c2 F2 hl2) fun q _=>?_
 refine Ao ?_
 refine go ?_;intros
 refine I8 x ?_
 refine ret (_,_) trivial rfl
theorem Apv (r:A1) (n:Int) (gb:Nat) (h0:Bx r.Ac=true) (h1:0≤n) (h2:n≤65535):Fn prog 238 [.agg #[.int .i64 r.Ac,.int .i64 r.Ff,.int .i64 r.By,.int .i64 r.Dc],Eo gb 0 0] [.cel gb 0 [.int .i64 n]] [] (fun (_:Unit)=>True) (fun _=>.bool (Pa r.Ac n)) (fun _=>[]):=by
 obtain ⟨n0,n1⟩:=A4.1 h0
 refine enter func238 rfl ntmps238 fun w0=>?_
 refine go ?_;intros
 refine ce (fun w s=>Km _ _ _ (by omega) (by omega) (by omega) (by omega)) ?_
 refine go ?_;intros
 refine ret () trivial rfl
theorem Wl (l:List A1) (n:Int) (a:Option Addr) (c:Nat) (F:List Nat) (hl:l.length≤1000000000) (hs:∀q∈l,Bx q.Ac=true) (h1:0≤n) (h2:n≤65535):Fn prog 202 [.slice a l.length c,.int .i64 n] [.sl Ay (.slice a l.length c) l F] [] (fun (_:Option Addr × Nat × List Nat)=>True) (fun z=>.slice z.1 (Ss l n).length z.2.1) (fun z=>[.ow Ay 165 (.slice z.1 (Ss l n).length z.2.1) (Ss l n) z.2.2]):=by
 refine enter func202 rfl ntmps202 fun w0=>?_
 refine go ?_;intros
 rename_i gb
 refine cf (Pd l a c F hl) fun q _=>?_
 refine Ao ?_
 refine Abe (cs:=[.int .i64 n]) ?_ (by simp)
 refine go ?_;intros
 refine cf (Abp 238 [] [Eo gb 0 0] [.cel gb 0 [.int .i64 n]] rfl l q.1 q.2.1 q.2.2 (fun z=>Pa z.Ac n) (by kernel_rfl) hl (fun z hz w hA=>(Apv z n gb (hs z hz) h1 h2).val w hA)) fun z _=>?_
 refine Ao ?_
 refine go ?_;intros
 refine ret (z.1,z.2.1,z.2.2) trivial rfl
theorem Vs (r:A7) (d:Int):(Kh r d).length≤r.Ap.length:=List.length_filterMap_le _ _
theorem Yw (r:A7):(Cr r).length≤r.Ap.length:=List.length_filterMap_le _ _
theorem Yu {r:A7} {d:Int} (h:Cr r=[]):Cn r d=⟨r.Bf,r.Ai+1,r.Aa,Kh r d⟩:=if_pos h
theorem Vq {r:A7} {d:Int} (h:Cr r≠[]):Cn r d=⟨r.Bf,r.Ai+1,Hg r.Aa (C5 (Cr r)),Ss (Kh r d) (Hg r.Aa (C5 (Cr r))).next⟩:=if_neg h
theorem Adb {r:A7} (h:Cr r=[]):Ez r=[]:=if_pos h
theorem Aaf {r:A7} (h:Cr r≠[]):Ez r=Hv r.Aa (C5 (Cr r)):=if_neg h
theorem Zz {l:List Int} (h:l≠[]):C5 l=Ca (l[l.length - 1]'(by have:=List.length_pos_iff.2 h;omega)) 1:=by
 unfold C5
 rw [List.getLastD_eq_getLast?,List.getLast?_eq_getElem?,List.getElem?_eq_getElem (by have:=List.length_pos_iff.2 h;omega)]
 rfl
theorem I1 {x:Am} (hg:C0 x=true):x.An.length≤8∧∀s∈x.An,s.Df.size≤8:=by
 have hg0:=hg
 unfold C0 at hg
 simp only [Bool.and_eq_true,decide_eq_true_eq] at hg
 refine ⟨by have:=hg.1.1.2;omega,fun s hs=>?_⟩
 have:=List.all_eq_true.1 hg.1.2 s hs
 unfold Gf at this
 simp only [Bool.and_eq_true] at this
 exact Rk this.1
structure PkS where
 k:Nat
 a:Option Addr
 c:Nat
 F:List Nat
structure TkR where
 a1:Option Addr
 c1:Nat
 F1:List Nat
 a2:Option Addr
 c2:Nat
 F2:List Nat
 a3:Option Addr
 c3:Nat
 F3:List Nat
 a4:Option Addr
 c4:Nat
 F4:List Nat
theorem Ak9 (r:A7) (d:Int) (g t o:Nat) (A B:List Value) (a1:Option Addr) (c1:Nat) (F1:List Nat) (a2:Option Addr) (c2:Nat) (F2:List Nat) (hg:Ju r) (d0:0≤d) (d1:d≤100) :
  Fn prog 143 [Eo g o 0,.int .i64 d] [] [.row g t o A [.bool r.Bf,.int .i64 r.Ai,.int .i64 r.Aa.next,.slice a1 r.Aa.An.length c1,.slice a2 r.Ap.length c2] B,.ow Cc 188 (.slice a1 r.Aa.An.length c1) r.Aa.An F1,.ow Ay 165 (.slice a2 r.Ap.length c2) r.Ap F2] (fun (_:TkR)=>True)
   (fun s=>.tuple #[.slice s.a3 (D8 r).length s.c3,.slice s.a4 (Ez r).length s.c4]) (fun s=>[.row g t o A [.bool (Cn r d).Bf,.int .i64 (Cn r d).Ai,.int .i64 (Cn r d).Aa.next,.slice s.a1 (Cn r d).Aa.An.length s.c1,.slice s.a2 (Cn r d).Ap.length s.c2] B,.ow Cc 188 (.slice s.a1 (Cn r d).Aa.An.length s.c1) (Cn r d).Aa.An s.F1,.ow Ay 165 (.slice s.a2 (Cn r d).Ap.length s.c2) (Cn r d).Ap s.F2,.ow Al 110 (.slice s.a3 (D8 r).length s.c3) (D8 r) s.F3,.ow A6 9 (.slice s.a4 (Ez r).length s.c4) (Ez r) s.F4]):=by
 have k0:=hg.k0
 have k1:=hg.k1
 obtain ⟨-,q1,q2, -⟩:=Di.1 hg.q
 obtain ⟨w0_,w1_⟩:=Gc hg.w
 obtain ⟨hw8,hit⟩:=I1 hg.w
 have hpl:(r.Ap.filterMap (My (r.Ai+1))).length≤8:=Nat.le_trans (List.length_filterMap_le _ _) q1
 refine enter func143 rfl ntmps143 fun w0=>?_
 refine go ?_;intros
 refine Ax (E:=Ay) fun F9=>?_
 refine Av [1] [] ?_
 refine dt 0 ?_
 refine dt 1 ?_
 refine dt 2 ?_
 refine dt 3 ?_
 refine dt 4 ?_
 refine dt 5 ?_
 refine dt 6 ?_
 refine dt 7 ?_
 refine dt 8 ?_
 refine dO 9 (by kernel_rfl) (by rw [List.getElem?_toArray];rfl) ?_
 apply At;rfl;kernel_rfl;exact Bb
 refine cf (Yv r.Ap (r.Ai+1) d a2 c2 F9 (by omega) (fun q hq=>⟨(Dx.1 (q2 q hq)).t0,(Dx.1 (q2 q hq)).t1⟩) (by omega) (by omega) (by omega) (by omega)) fun z _=>?_
 refine Ao ?_
 rw [show r.Ap.filterMap (Po (r.Ai+1))=Cr r from rfl,show r.Ap.filterMap (Pj (r.Ai+1) d)=Kh r d from rfl]
 refine dk ?_
 refine dt 10 ?_
 refine dt 11 ?_
 refine dt 12 ?_
 refine dt 13 ?_
 refine dt 14 ?_
 refine dt 15 ?_
 refine dt 16 ?_
 refine dd ?_
 refine Ax (E:=Be) (xs:=r.Ap.filterMap (My (r.Ai+1))) fun G2=>?_
 refine Ax (E:=Be) (xs:=Cr r) fun G3=>?_
 refine B7 Al 110 ?_
 refine go ?_;intros
 refine Cq [0,4,5,6,9,44,45] (fun s:PkS=>[(46,.int .i64 (s.k:Nat)),(10,.slice s.a (((r.Ap.filterMap (My (r.Ai+1))).take s.k).map (Y9 r.Aa.next)).length s.c)]) (fun s=>[.ow Al 110 (.slice s.a (((r.Ap.filterMap (My (r.Ai+1))).take s.k).map (Y9 r.Aa.next)).length s.c) (((r.Ap.filterMap (My (r.Ai+1))).take s.k).map (Y9 r.Aa.next)) s.F]) (fun s=>s.k≤(r.Ap.filterMap (My (r.Ai+1))).length) (fun s=>(r.Ap.filterMap (My (r.Ai+1))).length - s.k) ⟨0,_,_,_⟩ (Nat.zero_le _) fun s hs=>?_
 obtain ⟨k,a4,c4,F4⟩:=s
 dsimp only at hs ⊢
 generalize hsn:r.Ap.filterMap (My (r.Ai+1))=sn at *
 refine go ?_;intros
 refine Bd rfl (fun h4=>?_) (fun h4=>?_)
 ·have hk:k < sn.length:=by omega
  have hkl:((sn.take k).map (Y9 r.Aa.next)).length≤k:=by simp;omega
  refine Il (xs:=sn) k ?_
  rintro hi b o2 e
  rw [e]
  refine go ?_;intros
  have eo:(sn.take (k+1)).map (Y9 r.Aa.next)=(sn.take k).map (Y9 r.Aa.next)++[Y9 r.Aa.next sn[k]]:=by rw [List.take_add_one,List.getElem?_eq_getElem hk,List.map_append];rfl
  apply wO
  refine Lh (ys:=[Y9 r.Aa.next sn[k]]) (Cz (Y9 r.Aa.next sn[k]) (by show (0:Nat)≤maxLen;exact Nat.zero_le _)) Gn fun a7 c7 F7=>?_
  refine go ?_;intros
  rw [←eo]
  refine Co (⟨k+1,_,_,_⟩:PkS) (by show k+1≤sn.length;omega) (by show sn.length - (k+1) < sn.length - k;omega)
 have hk:k=sn.length:=by omega
 subst hk
 rw [List.take_length]
 have ep:D8 r=sn.map (Y9 r.Aa.next):=by unfold D8;rw [hsn]
 rw [ep]
 refine go ?_;intros
 by_cases hL:Cr r=[]
 ·refine Bd rfl (fun _=>?_) (fun h=>absurd (show ((Cr r).length:Int)=0 by rw [hL];rfl) h)
  rw [Yu hL,Adb hL]
  refine B7 A6 9 ?_
  refine go ?_;intros
  refine ret ⟨_,_,_,_,_,_,_,_,_,_,_,_⟩ trivial rfl
 ·have hl0:=List.length_pos_iff.2 hL
  refine Bd rfl (fun h=>absurd h (by omega)) (fun _=>?_)
  rw [Vq hL,Aaf hL]
  obtain ⟨hs8,hsr⟩:=Wr hg hL
  have hll8:=Yw r
  obtain ⟨hs0,hs1⟩:=A4.1 hsr
  have hll:=Zz hL
  obtain ⟨l0,l1⟩:=A4.1 (Vr hg (List.getElem_mem (show (Cr r).length - 1 < (Cr r).length by omega))).1
  have hi1:((Cr r).length:Int) - 1=(((Cr r).length - 1:Nat):Int):=by omega
  refine Il (xs:=Cr r) ((Cr r).length - 1) ?_
  rintro hi b o2 e
  rw [e]
  refine Afk [.bool r.Bf,.int .i64 (r.Ai+1)] [.int .i64 r.Aa.next,.slice a1 r.Aa.An.length c1] [.slice z.a (Kh r d).length z.c] ?_
  refine go ?_;intros
  refine Av [1] [] ?_
  refine dt 0 ?_
  refine dt 1 ?_
  refine dt 2 ?_
  refine dt 3 ?_
  refine dt 4 ?_
  refine dt 5 ?_
  refine dt 6 ?_
  rw [hi1]
  refine dt 7 ?_
  refine dt 8 ?_
  refine dO 9 (by kernel_rfl) (by rw [List.getElem?_toArray];rfl) ?_
  apply At;rfl;kernel_rfl;exact Bb
  refine ce (fun w s=>N9 _ _ _ (by omega) (by omega)) ?_
  rw [←hll]
  refine dk ?_
  refine dO 10 (by kernel_rfl) (by rw [List.getElem?_toArray];rfl) ?_
  apply At;rfl;kernel_rfl;exact Bb
  refine cf (Abt r.Aa (C5 (Cr r)) g t (o+2) (A++[.bool r.Bf,.int .i64 (r.Ai+1)]) _ a1 c1 F1 w0_ w1_ hs0 hs1 hw8 hit) fun y hy=>?_
  refine Ao ?_
  refine dk ?_
  refine dt 11 ?_
  refine dd ?_
  obtain ⟨hy1,hy2⟩:=hy
  have hmv:=P5 (t:=C5 (Cr r)) hg.w
  have hm0:0≤y.y.next:=by rw [hy1];show 0≤(Hg r.Aa (C5 (Cr r))).next;rw [hmv.1];exact (Ha _ _).1
  have hm1:y.y.next≤65535:=by rw [hy1];show (Hg r.Aa (C5 (Cr r))).next≤65535;rw [hmv.1];exact (Ha _ _).2
  refine Ys [.bool r.Bf,.int .i64 (r.Ai+1)] [.int .i64 y.y.next,.slice y.a y.y.An.length y.c] [.slice z.a (Kh r d).length z.c] ?_
  refine Ax (E:=Ay) (xs:=Kh r d) fun F8=>?_
  refine go ?_;intros
  refine Av [1] [13] ?_
  refine dt 0 ?_
  refine dt 1 ?_
  refine dt 2 ?_
  refine dt 3 ?_
  refine dt 4 ?_
  refine dt 5 ?_
  refine dt 6 ?_
  refine dt 7 ?_
  refine dt 8 ?_
  refine dt 9 ?_
  refine dO 10 (by kernel_rfl) (by rw [List.getElem?_toArray];rfl) ?_
  apply At;rfl;kernel_rfl;exact Bb
  refine cf (Wl (Kh r d) y.y.next z.a z.c F8 (by have:=Vs r d;omega) (fun q hq=>(Um hg hq).1) hm0 hm1) fun u _=>?_
  refine Ao ?_
  refine dk ?_
  refine dt 11 ?_
  refine dt 12 ?_
  refine dO 13 (by kernel_rfl) (by rw [List.getElem?_toArray];rfl) ?_
  apply Cf;rfl;rfl;rfl;(first|exact AggC.s|exact OneC.s);rfl;exact Ci;exact Cg;rfl
  refine Lv ?_
  refine dd ?_
  refine go ?_;intros
  rw [show Hg r.Aa (C5 (Cr r))=y.y from hy1.symm,show Hv r.Aa (C5 (Cr r))=y.es from hy2.symm]
  refine ret ⟨_,_,_,_,_,_,_,_,_,_,_,_⟩ trivial rfl
theorem Ael {r:A7} {d:Int} (hg:Ju r) (hk:r.Ai < 9999) (d0:1≤d) (d1:d≤8):I7 (Kh r d) r.Aa.next=true∧∀q∈Kh r d,Gj r.Aa q.Ac=false:=by
 have k0:=hg.k0
 obtain ⟨h1,h2,h3,h4⟩:=Di.1 hg.q
 refine ⟨Di.2 ⟨h1,Nat.le_trans (Vs r d) h2,fun q hq=>?_,?_⟩,fun q hq=>(Um hg hq).2.2⟩
 ·obtain ⟨q',hq',h⟩:=List.mem_filterMap.1 hq
  have ho:=Dx.1 (h3 q' hq')
  unfold Pj at h
  split at h
  ·cases h;exact h3 q hq'
  ·split at h
   ·cases h
   ·rename_i hn
    have t0:=ho.t0
    have t1:=ho.t1
    split at h
    ·cases h
     exact Dx.2 ⟨ho.n,ho.g,by show (1:Int)≤2;decide,by show (2:Int)≤3;decide,by show 0≤r.Ai+1+3;omega,by show r.Ai+1+3≤10007;omega,by show 0≤q'.Dc+1;omega,by show q'.Dc+1≤3;omega⟩
    ·cases h
     exact Dx.2 ⟨ho.n,ho.g,by show (1:Int)≤1;decide,by show (1:Int)≤3;decide,by show 0≤r.Ai+1+d;omega,by show r.Ai+1+d≤10007;omega,t0,t1⟩
 ·unfold Kh
  refine List.Pairwise.filterMap _ (fun a a' h b hb b' hb'=>?_) h4
  rw [Abh hb,Abh hb'];exact h
theorem Ahp {r:A7} {d:Int} (hg:Ju r) (hk:r.Ai < 9999) (d0:1≤d) (d1:d≤8):Ju (Cn r d):=by
 have k0:=hg.k0
 obtain ⟨hq,hf⟩:=Ael hg hk d0 d1
 by_cases hL:Cr r=[]
 ·rw [Yu hL]
  refine ⟨by show 0≤r.Ai+1;omega,by show r.Ai+1≤9999;omega,hg.w,hq,hf,fun hs=>?_⟩
  obtain ⟨e1,e2⟩:=hg.z hs
  refine ⟨e1,?_⟩
  show Kh r d=[]
  unfold Kh;rw [e2];rfl
 ·have hst:r.Bf=true:=by
   cases hs:r.Bf
   ·exfalso;apply hL;unfold Cr;rw [(hg.z hs).2];rfl
   ·rfl
  rw [Vq hL]
  obtain ⟨e1, -,e3, -⟩:=P5 (t:=C5 (Cr r)) hg.w
  have hs8:=(Wr hg hL).1
  have hgp:=@Sk r.Aa.next (C5 (Cr r))
  have hw:C0 (Hg r.Aa (C5 (Cr r)))=true:=Vy _ _ hg.w
  rw [←We hg hL]
  refine ⟨by show 0≤r.Ai+1;omega,by show r.Ai+1≤9999;omega,hw,V6 (m:=(Hv r.Aa (C5 (Cr r))).length) (by omega) hq hw e1,L4,fun hs=>?_⟩
  have:r.Bf=false:=hs
  rw [hst] at this;cases this
theorem W6 (fid:FuncId) (hbd:Sm prog fid) (caps:Array Value) (v:Value) (xs:List Fv) (F:List Nat) (p:Fv→Bool) (w:World) (h:Sl Bi w v xs F)
  (hp:∀(k:Nat) (hk:k < xs.length) (wr:World) (u:Value) (G:List Nat),Below w.heap.size w wr→O9 Bi wr u xs[k] G→Calls prog fid (#[u]++caps) wr fun e w'=>e=.returned (.bool (p xs[k]))∧Below wr.heap.size wr w') :
  Calls prog 233 #[v,.func (.func fid) #[] caps] w fun e w'=>e=.returned (.int .i64 (N2 p xs))∧Below w.heap.size w w':=by
 obtain ⟨a,cap,rfl⟩:=h.slice
 have hl:=h.len
 unfold maxLen at hl
 go_enter func233,ntmps233
 go_wp2
 go_loopw [5,8] (fun _ i wr=>∃k:Nat,k≤xs.length∧i=.int .i64 k∧Hid (∀j,j < k→∀hj:j < xs.length,p xs[j]=false)∧Below w.heap.size w wr) (fun _ i _=>xs.length - (intOf i).toNat)
 case atStart=>exact ⟨0,Nat.zero_le _,rfl,fun j hj=>by omega,Below.refl _ _⟩
 case round =>
  obtain ⟨k,hk,rfl,hz,hB⟩:=hrel
  by_cases hlt:k < xs.length
  ·have hz0:=hz;clear hz
   obtain ⟨b,off,_,F1,rfl,hx, -,ja⟩:=(h.below (by decide) hB).at k hlt
   obtain ⟨rfl,rfl⟩:=id hx
   have a0:=ja 0 (by decide)
   have a1:=ja 1 (by decide)
   simp only [show Bi.sz=2 from rfl,Nat.mul_one,Nat.add_zero,List.getElem?_cons_zero,List.getElem?_cons_succ] at a0 a1
   clear ja
   have hr:=hp k hlt wr _ _ hB ⟨_,rfl,hx⟩
   have hp:=Lib.hid hp
   cases hpk:p xs[k]
   all_goals
    rw [hpk] at hr
    have hpk:=Lib.hid hpk
    have hr:=Lib.hid hr
    go_wp2_with fail
    refine hbd.upon hr.out ?_
    rintro e w1 ⟨rfl,hb1⟩
    refine ⟨_,rfl,?_⟩
    have hB:=tr hB hb1 (Nat.le_refl _)
    clear hb1
    go_wp2_with fail
   ·exact ⟨⟨k+1,by omega,by go_num,fun j hj hl=>by rcases Nat.lt_or_eq_of_le (Nat.le_of_lt_succ hj) with h|h;exact hz0.out j h hl;subst h;exact hpk.out,hB⟩,by simp [intOf];omega⟩
   ·go_ret
    exact ⟨K8 (Lk hlt hz0.out hpk.out).symm,hB⟩
  ·go_wp2
   go_ret
   exact ⟨K8 (J3 (fun j hj=>hz.out j (by omega) hj)).symm,hB⟩
theorem Adk (v:Value) (xs:List Fv) (F:List Nat) (w:World) (h:Sl Bi w v xs F) (hm:xs.length≤4294967296) :
  Calls prog 133 #[v] w (Uu Bi 134 xs w):=by
 obtain ⟨ao,c,news,Fy,rfl,hl,hfy,hFy,hsrc⟩:=h.src
 have hFl:=hfy.lt
 have he:=fun w (a:Option Addr) (n c:Nat)=>Lib.run_eql_slice_nil (P:=prog) w 30 _ a n c 0 0 underlying30
 go_enter func133,ntmps133
 rcases hsrc with ⟨rfl,rfl,rfl⟩|⟨ad,rfl,hn⟩
 ·go_wp2
  go_ret
  exact ⟨.slice none 0 0,[],rfl,.inl ⟨rfl,rfl,rfl⟩,by simp,by simp,Below.refl _ _⟩
 ·go_wp2_with (at_builtin;refine Ng Hi (by decide) (by rfl) _ _ _ (by rfl) 134 (.agg #[.int .i64 0,.int .i64 0]) 16 underlying30 Zs rfl (.slice (some ⟨w.heap.size,0,none⟩) 0 0) [] [w.heap.size] (by rfl) (Ow.empty (Gt.made _ _ _)) (Hd.one _) (some ad) xs c (by rfl) news Fy (hfy.frame fun b hb=>Below.heap_alloc _ _ _ (hFl b hb)) (.inr ⟨ad,rfl,fun j u hu=>kc ((Below.refl _ _).alloc (Nat.le_refl _) _) (hn j u hu)⟩) (fun b hb e=>by have:=hFl b hb;simp [Value.ownBlock] at e;omega) (by simpa using hl) (by unfold maxLen at hl;simp;omega) ?_)
  intro v2 w2 F2 hA
  go_wp2_with fail
  go_ret
  have hB:Below w.heap.size w w2:=((Below.refl _ _).alloc (Nat.le_refl _) _).trans (hA.Kb.below (by simp) (by simp))
  have hs:∀b,v2.ownBlock=some b→w.heap.size≤b:=fun b hb=>by rcases hA.Aee with e|e <;> rw [e] at hb <;> simp [Value.ownBlock] at hb <;> omega
  refine ⟨v2,F2,rfl,by simpa using hA.ow,hA.ow.scal I4▸?_,fun b hb=>?_,hB⟩
  ·cases v2.ownBlock <;> simp
  ·rw [hA.ow.scal I4] at hb;exact hs b (by simpa using hb)
theorem Q0 (fid:FuncId) (hbd:Sm prog fid) (caps:Array Value) (v:Value) (xs:List Fv) (F:List Nat) (p:Fv→Bool) (w:World) (h:Ow Bi 134 w v xs F) (hn:F.Nodup)
  (hp:∀(k:Nat) (hk:k < xs.length) (wr:World) (u:Value) (G:List Nat),Dn F w wr→O9 Bi wr u xs[k] G→Calls prog fid (#[u]++caps) wr fun e w'=>e=.returned (.bool (p xs[k]))∧Below wr.heap.size wr w') :
  Calls prog 194 #[v,.func (.func fid) #[] caps] w fun e w'=>∃v' F',e=.returned v'∧Ow Bi 134 w' v' (xs.filter fun x=>!p x) F'∧F'.Nodup∧(∀b∈F',b∈F)∧Dn F w w':=by
 obtain ⟨F1,hF1,hs⟩:=h.sl (Ls.refl _)
 obtain ⟨a,cap,rfl⟩:=h.slice
 have hl:=h.len
 unfold maxLen at hl
 have hp:=Lib.hid hp
 go_enter func194,ntmps194
 go_wp2_with fail
 refine (W6 fid hbd caps _ xs F1 p _ hs (fun k hk wr u G hb hu=>hp.out k hk wr u G (Dn.ofBelow hb) hu)).mono ?_
 rintro e w1 ⟨rfl,hb1⟩
 have hK1:=Dn.ofBelow (F:=F) hb1
 by_cases hany:xs.any p=true
 ·obtain ⟨k0,hk0,hfx,hpk,hfl⟩:=Sb hany
  rw [hfx]
  obtain ⟨g,rfl, -,hg0⟩:=Yz.start (h.below hb1) hn (ys:=xs.take k0) (zs:=xs[k0]::xs.drop (k0+1)) (by simp) (by omega)
  obtain ⟨F0,hg0,hF0⟩:=hg0.skip
  have hG0:=Lib.hid hg0
  clear hg0
  have hk1:((k0:Int) == -1)=false:=by simp
  go_wp2_with fail
  go_loopw [5,6,7] (fun i j _ wr=>∃(q m:Nat) (F1:List Nat),q≤xs.length∧0 < m∧((xs.take q).filter fun x=>!p x).length+m=q∧i=.int .i64 ((xs.take q).filter fun x=>!p x).length∧j=.int .i64 q∧Hid (Yz Bi 134 wr g xs.length cap ((xs.take q).filter fun x=>!p x) m (xs.drop q) F1)∧(∀b∈F1,b∈F)∧Dn F w wr) (fun _ j _ _=>xs.length - (intOf j).toNat)
  case atStart=>exact ⟨k0+1,1,F0,hk0,by omega,by rw [Cs hk0 (by simp [hpk]),hfl];simp;omega,by rw [Cs hk0 (by simp [hpk]),hfl];simp;omega,by go_num,by rw [Cs hk0 (by simp [hpk]),hfl];exact hG0,hF0,hK1⟩
  case round =>
   obtain ⟨q,m,F1,hq,hm,hlen,rfl,rfl,hG,hF1,hK⟩:=hrel
   obtain ⟨-,hcap, -⟩:=hG.out.caps
   generalize hys:((xs.take q).filter fun x=>!p x)=ys at *
   by_cases hlt:q < xs.length
   ·rw [List.drop_eq_getElem_cons hlt] at hG
    obtain ⟨c,Fx,hx,hFx,hcell⟩:=hG.out.first
    obtain ⟨Fx2, -,hxe⟩:=(Ls.refl _).Jg hx
    obtain ⟨rfl,rfl⟩:=id hx
    have a0:=hcell 0 (by decide)
    have a1:=hcell 1 (by decide)
    simp only [hlen,show Bi.sz=2 from rfl,Nat.mul_one,Nat.add_zero,List.getElem?_cons_zero,List.getElem?_cons_succ] at a0 a1
    have hr:=fun A=>hp.out q hlt (wr.alloc A) _ Fx2 (hK.alloc A) ⟨_,rfl,Bi.below hxe ((Below.refl wr.heap.size wr).alloc (Nat.le_refl _) A)⟩
    cases hpq:p xs[q]
    ·obtain ⟨st,c2,Fx3,hx3, -,hcell2,back⟩:=hG.out.move hm
     simp only [hpq] at hr
     obtain rfl:=Yk (Bi.len hx) (Bi.len hx3) hcell hcell2
     have st:=st
     obtain ⟨⟨x0,z0⟩,g0⟩:=st 0 (by decide)
     obtain ⟨⟨x1,z1⟩,g1⟩:=st 1 (by decide)
     simp only [show Bi.sz=2 from rfl,Nat.mul_one,Nat.add_zero] at z0 g0 z1 g1
     have hr:=Lib.hid hr;have hbk:=Lib.hid back;have hpq:=Lib.hid hpq;have hys:=Lib.hid hys;have hlen:=Lib.hid hlen
     have hyl:ys.length < xs.length:=by have:=hlen.out;omega
     clear hx hxe hcell hcell2 hx3 back st hfx hpk hfl
     go_wp2_with fail
     refine hbd.upon (hr.out _) ?_
     rintro e w2 ⟨rfl,hb2⟩
     refine ⟨_,rfl,?_⟩
     have b2:=(Gt.below (g:=wr.heap.size) (t:=134) (cs:=[.int .i64 xs[q].Ac,.int .i64 xs[q].By]) (by simp [Ic]) hb2).cells
     have hbb:=tr ((Below.refl wr.heap.size wr).alloc (Nat.le_refl _) _) hb2 (Nat.le_refl _)
     clear hb2
     have g0:=(kf hbb z0).trans g0;have z0:=kc hbb z0
     have g1:=(kf hbb z1).trans g1;have z1:=kc hbb z1
     obtain ⟨F2,hg2,hF2⟩:=hbk.out w2 hbb
     simp only [Kt,show Bi.sz=2 from rfl,Nat.mul_one] at hg2
     have hg2:=Lib.hid hg2
     have hgF:g∈F:=hF1 g hG.out.caps.2.2.2.2.1
     go_wp2_with fail
     exact ⟨⟨q+1,m,F2,by omega,hm,by rw [Em hlt (by simp [hpq.out]),hys.out];have:=hlen.out;simp;omega,by rw [Em hlt (by simp [hpq.out]),hys.out,List.length_append];go_num,by go_num,by rw [Em hlt (by simp [hpq.out]),hys.out];exact hg2.out,fun b hb=>hF1 b (hF2 b hb),by (repeat (refine Dn.setCell ?_ hgF _));exact hK.trans (Dn.ofBelow hbb)⟩,by simp [intOf];omega⟩
    ·obtain ⟨F2,hg2,hF2⟩:=hG.out.skip
     simp only [hpq] at hr
     have hr:=Lib.hid hr;have hg2:=Lib.hid hg2;have hpq:=Lib.hid hpq;have hys:=Lib.hid hys;have hlen:=Lib.hid hlen
     clear hx hxe hcell hfx hpk hfl
     go_wp2_with fail
     refine hbd.upon (hr.out _) ?_
     rintro e w2 ⟨rfl,hb2⟩
     refine ⟨_,rfl,?_⟩
     have hbb:=tr ((Below.refl wr.heap.size wr).alloc (Nat.le_refl _) _) hb2 (Nat.le_refl _)
     clear hb2
     go_wp2_with fail
     exact ⟨⟨q+1,m+1,F2,by omega,by omega,by rw [Cs hlt (by simp [hpq.out]),hys.out];have:=hlen.out;omega,by rw [Cs hlt (by simp [hpq.out]),hys.out],by go_num,by rw [Cs hlt (by simp [hpq.out]),hys.out];exact hg2.out.below hbb,fun b hb=>hF1 b (hF2 b hb),hK.trans (Dn.ofBelow hbb)⟩,by simp [intOf];omega⟩
   ·have hqe:q=xs.length:=by omega
    subst hqe
    simp only [List.drop_length,List.take_length] at hG hys
    obtain ⟨hc,F2,ho2,hn2,hF2⟩:=hG.out.done (z:=#[.int .i64 0,.int .i64 0]) rfl
    have hmm:xs.length - ys.length=m:=by omega
    have hcl:=fun ty=>O5 (P:=prog) wr 30 134 ty (.agg #[.int .i64 0,.int .i64 0]) underlying30 (Qz Zs) (by simp [Value.cells,Value.oneCell']) g (ys.length * 2) m (cap - ys.length) hm (fun j hj=>(hc j hj).1) (fun j hj=>(hc j hj).2)
    have hyl:ys.length < xs.length:=by omega
    have hgF:g∈F:=hF1 g hG.out.caps.2.2.2.2.1
    have hO:=Lib.hid ho2;have hlen:=Lib.hid hlen;have hys:=Lib.hid hys
    clear ho2 hc hfx hpk hfl
    go_wp2_with fail
    go_ret
    refine ⟨_,F2,rfl,by rw [hys.out];exact hO.out,hn2,fun b hb=>hF1 b (hF2 b hb),hK.trans ?_⟩
    rw [←Jl wr];exact (I3 _ _ _).mono (fun b hb _=>by simp at hb;subst hb;exact hgF)
 ·obtain ⟨hfx,hfl⟩:=T7 hany
  rw [hfx]
  go_wp2_with fail
  go_ret
  exact ⟨_,F,rfl,by rw [hfl];exact h.below hb1,hn,fun b hb=>hb,hK1⟩
theorem W8 (x:Cj) (v:Value) (F:List Nat) (hl:x.Aa.Aj.length≤4294967296) (hl2:x.holds.length≤4294967296):Fn prog 75 [v] [.isv Dh v x F] [] (fun (_:Value × List Nat)=>True)
  (fun s=>s.1) (fun s=>[.own R8 s.1 x s.2]):=by
 refine enter func75 rfl ntmps75 fun w0=>?_
 refine Ej ?_
 rintro a1 c1 F1 a2 c2 F2 rfl l1 l2
 refine B9 x.Aa ?_
 generalize F1=F3
 refine go ?_;intros
 refine cv (fun w s=>Ta _ x.Aa _ w (s.get (p:=.isv Br (.agg #[.int .i64 x.Aa.Ak,.int .i64 x.Aa.size,.slice a1 x.Aa.Aj.length c1]) x.Aa F3) (by simp)) hl) fun v F'=>?_
 refine Hw ?_
 rintro a5 c5 F5 rfl l5
 refine go ?_;intros
 refine cn (fun w s=>Adk _ _ _ _ (s.get (p:=.sl Bi (.slice a2 x.holds.length c2) x.holds F2) (by simp)).2 hl2) fun a6 c6 F6=>?_
 refine go ?_;intros
 refine Aap x ?_
 refine ret (_,_) trivial rfl
theorem Als (W:Az) (h:Fv) (gb g o:Nat) (u:Value) (a:Option Addr) (c:Nat) (cl q:Value) (Hs:Value) (G Fw:List Nat) (t0:0≤W.Ak) (t1:W.Ak≤65535) (n0:0≤h.Ac) (n1:h.Ac≤65535) :
  Fn prog 195 [u,Eo gb 0 0] [.isv Bi u h G,.cel gb 0 [Eo g o 0],.cel g o [.int .i64 W.Ak,.int .i64 W.size,.slice a W.Aj.length c,cl,q,Hs],.isv Br (.agg #[.int .i64 W.Ak,.int .i64 W.size,.slice a W.Aj.length c]) W Fw] [] (fun (_:Unit)=>True) (fun _=>.bool (!Gw W h.Ac)) (fun _=>[]):=by
 refine enter func195 rfl ntmps195 fun w0=>?_
 refine Acu ?_
 rintro _ rfl
 refine go ?_;intros
 refine Av [0,2,3] [] ?_
 refine dt 0 ?_
 refine dt 1 ?_
 refine dt 2 ?_
 refine dt 3 ?_
 refine dt 4 ?_
 refine dt 5 ?_
 refine dO 6 (by kernel_rfl) (by rw [List.getElem?_toArray];rfl) ?_
 apply At;rfl;kernel_rfl;exact Bb
 refine cb (fun w st=>(Ri W h.Ac _ _ t0 t1 n0 n1).val w (Ia (st.get (p:=.isv Br (.agg #[.int .i64 W.Ak,.int .i64 W.size,.slice a W.Aj.length c]) W Fw) (by simp)))) ?_
 refine dk ?_
 refine dt 7 ?_
 refine dt 8 ?_
 refine dd ?_
 refine go ?_;intros
 refine ret () trivial ?_
 simp only [Gw,Pb,decide_not]
theorem Adw {P:Program} {f:FuncId} {args:List Value} {p:Pc} {R:List Pc} {σ:Type} {C:σ→Prop} {v:σ→Value} {N:σ→Pc} (hm:p.mu=true)
  (h:∀w,p.P w→Mc R w→(∀wr,Dn p.F w wr→Mc R wr)→Calls P f args.toArray w fun e w'=>∃s,C s∧e=.returned (v s)∧(N s).P w'∧(∀b∈(N s).F,b∈p.F∨w.heap.size≤b)∧Dn p.F w w'):Fn P f args [] (p::R) C v (fun s=>N s::R):=fun w hH hS=>by
 rw [List.append_nil] at hH hS
 have hR:Mc R w:=fun q hq=>hH q (by simp [hq])
 have ap:∀q∈R,∀b∈q.F,b ∉ p.F:=fun q hq b hb hp=>hS.1 q hq (by simp [hm]) b hp hb
 have hk:∀wr,Dn p.F w wr→Mc R wr:=fun wr k q hq=>q.st (hR q hq) fun b hb=>k.block b (q.lt (hR q hq) b hb) (ap q hq b hb)
 refine (h w (hH p (by simp)) hR hk).mono ?_
 rintro e w' ⟨s,hC,he,hN,hF,k⟩
 refine ⟨s,hC,he,?_,⟨fun q hq _ b hb hbq=>?_,hS.2⟩,k.mono (fun b hb _=>by simp [fp,hb]),?_⟩
 ·intro q hq
  rcases List.mem_cons.1 hq with rfl|hq
  ·exact hN
  ·exact hk w' k q hq
 ·rcases hF b hb with h|h
  ·exact ap q hq b hbq h
  ·have:=q.lt (hR q hq) b hbq;omega
 ·intro q hq b hb
  rcases List.mem_cons.1 hq with rfl|hq
  ·rcases hF b hb with h|h
   ·exact .inr (.inl ⟨p,by simp,h⟩)
   ·exact .inl h
  ·exact .inr (.inl ⟨q,by simp [hq],hb⟩)
theorem Apl {P:Program} {fn:Func} {R:Ending→World→Prop} {G D:List Nat} {w0:World} {n:Nat} {fr:Fr} {H:List Pc} (h:T ⟨P,G,D,w0,n,bodyPost P fn R⟩ fr H (.fin .ret)):T ⟨P,G,D,w0,n,bodyPost P fn R⟩ fr H (.norm []):=.mk fun a w s g=>h.h a w s g
def Kn (W:Az) (hs:List Fv):List Fv:=hs.filter fun h=>Gw W h.Ac
theorem Alt (W:Az) (hs:List Fv) (gb tb g t o:Nat) (A B:List Value) (a a2:Option Addr) (c c2:Nat) (cl q:Int) (F F2:List Nat) (t0:0≤W.Ak) (t1:W.Ak≤65535) (hn:∀h∈hs,Bx h.Ac=true) :
  Fn prog 194 [.slice a2 hs.length c2,.func (.func 195) #[] #[Eo gb 0 0]] [] [.ow Bi 134 (.slice a2 hs.length c2) hs F2,.row gb tb 0 [] [Eo g o 0] [],.row g t o A [.int .i64 W.Ak,.int .i64 W.size,.slice a W.Aj.length c,.int .i64 cl,.int .i64 q,.slice a2 hs.length c2] B,.ow A6 9 (.slice a W.Aj.length c) W.Aj F] (fun (_:Option Addr × Nat × List Nat)=>True)
   (fun z=>.slice z.1 (Kn W hs).length z.2.1) (fun z=>[.ow Bi 134 (.slice z.1 (Kn W hs).length z.2.1) (Kn W hs) z.2.2,.row gb tb 0 [] [Eo g o 0] [],.row g t o A [.int .i64 W.Ak,.int .i64 W.size,.slice a W.Aj.length c,.int .i64 cl,.int .i64 q,.slice a2 hs.length c2] B,.ow A6 9 (.slice a W.Aj.length c) W.Aj F]):=by
 refine Adw rfl fun w ⟨hnd,ho⟩ _ hk=>?_
 refine (Q0 _ (Qe (by kernel_rfl)) #[Eo gb 0 0] _ hs F2 (fun h=>!Gw W h.Ac) w ho hnd fun k hk2 wr u G hK hu=>?_).mono ?_
 ·have hr:=hk wr hK
  have r1:=hr (.row gb tb 0 [] [Eo g o 0] []) (by simp)
  have r2:=hr (.row g t o A [.int .i64 W.Ak,.int .i64 W.size,.slice a W.Aj.length c,.int .i64 cl,.int .i64 q,.slice a2 hs.length c2] B) (by simp)
  obtain ⟨Fw, -,hw⟩:=(hr (.ow A6 9 (.slice a W.Aj.length c) W.Aj F) (by simp)).2.read
  obtain ⟨n0,n1⟩:=A4.1 (hn hs[k] (List.getElem_mem hk2))
  refine (Als W hs[k] gb g o u a c (.int .i64 cl) (.int .i64 q) (.slice a2 hs.length c2) G Fw t0 t1 n0 n1).val wr ?_
  intro p hp
  simp only [List.mem_cons,List.not_mem_nil,or_false] at hp
  rcases hp with rfl|rfl|rfl|rfl
  ·exact hu
  ·exact ⟨by simp,Fb r1⟩
  ·exact ⟨by simp,Fb r2⟩
  ·exact ⟨_,rfl,_,rfl,hw⟩
 ·rintro e w' ⟨v',F',rfl,h1,h2,h3,h4⟩
  have e:(hs.filter fun x=>!(fun h:Fv=>!Gw W h.Ac) x)=Kn W hs:=by simp [Kn]
  rw [e] at h1
  obtain ⟨a',c',rfl⟩:=h1.slice
  exact ⟨(a',c',F'),trivial,rfl,⟨h2,h1⟩,fun b hb=>.inl (h3 b hb),h4⟩
theorem Ace (W:Az) (hs:List Fv) (g t o:Nat) (A B:List Value) (a a2:Option Addr) (c c2:Nat) (cl q:Int) (F F2:List Nat) (t0:0≤W.Ak) (t1:W.Ak≤65535) (hn:∀h∈hs,Bx h.Ac=true) :
  Fn prog 140 [Eo g o 0] [] [.row g t o A [.int .i64 W.Ak,.int .i64 W.size,.slice a W.Aj.length c,.int .i64 cl,.int .i64 q,.slice a2 hs.length c2] B,.ow Bi 134 (.slice a2 hs.length c2) hs F2,.ow A6 9 (.slice a W.Aj.length c) W.Aj F] (fun (_:Option Addr × Nat × List Nat)=>True)
   (fun _=>.tuple #[]) (fun z=>[.row g t o A [.int .i64 W.Ak,.int .i64 W.size,.slice a W.Aj.length c,.int .i64 cl,.int .i64 q,.slice z.1 (Kn W hs).length z.2.1] B,.ow Bi 134 (.slice z.1 (Kn W hs).length z.2.1) (Kn W hs) z.2.2,.ow A6 9 (.slice a W.Aj.length c) W.Aj F]):=by
 refine enter func140 rfl ntmps140 fun w0=>?_
 refine go ?_;intros
 refine Av [0,1] [9] ?_
 refine dt 0 ?_
 refine dt 1 ?_
 refine dt 2 ?_
 refine dt 3 ?_
 refine dt 4 ?_
 refine dt 5 ?_
 refine dO 6 (by kernel_rfl) (by rw [List.getElem?_toArray];rfl) ?_
 apply At;rfl;kernel_rfl;exact Bb
 refine cf (Alt W hs _ _ g t o A B a a2 c c2 cl q F F2 t0 t1 hn) fun z _=>?_
 refine Ao ?_
 refine dk ?_
 refine dt 7 ?_
 refine dt 8 ?_
 refine dO 9 (by kernel_rfl) (by rw [List.getElem?_toArray];rfl) ?_
 apply Cf;rfl;rfl;rfl;(first|exact AggC.s|exact OneC.s);rfl;exact Ci;exact Cg;rfl
 refine Lv ?_
 refine dd ?_
 refine Apl ?_
 refine ret (_,_,_) trivial rfl
structure Aaj where
 a:Option Addr
 c:Nat
 a2:Option Addr
 c2:Nat
 F:List Nat
def Adg (x:Cj) (W:Az):Cj:=⟨W,x.Ai,x.quiet,Kn W x.holds⟩
structure Apa (x:Cj):Prop where
 w:Dj x.Aa=true
 l:x.Aa.Aj.length≤6
 t0:0≤x.Aa.Ak
 t1:x.Aa.Ak≤65535
 k0:0≤x.Ai
 k1:x.Ai≤9999
 m:x.holds.length≤6
 n:∀h∈x.holds,Bx h.Ac=true
 u:∀h∈x.holds,x.Ai+1≤h.By
 b:∀h∈x.holds,h.By≤x.Ai+3
theorem Mk {x:Cj} (h:Cb x=true):Apa x:=by
 unfold Cb at h
 simp only [Bool.and_eq_true] at h
 obtain ⟨⟨⟨h1,h2⟩,h3⟩,h4⟩:=h
 obtain ⟨⟨t0,t1⟩,⟨s0,s1⟩,s2, -⟩:=Ea.1 h1
 obtain ⟨k0,k1⟩:=Aao h2
 have hc:∀h∈x.holds,Bx h.Ac=true∧x.Ai+1≤h.By∧h.By≤x.Ai+3:=fun h hh=>by
  obtain ⟨i,hi,rfl⟩:=List.getElem_of_mem hh
  have:=List.all_eq_true.1 h4 i (by simpa using hi)
  rw [Mj hi] at this
  simp only [Bool.and_eq_true,Gs,decide_eq_true_eq] at this
  exact ⟨this.1.1.1,this.1.2.1,this.1.2.2⟩
 have hg:∀i,(hi:i < x.holds.length)→(i:Int)≤gp x.Aa.Ak x.holds[i].Ac∧gp x.Aa.Ak x.holds[i].Ac < 6:=by
  intro i
  induction i with
  | zero =>
   intro hi
   have:=List.all_eq_true.1 h4 0 (by simpa using hi)
   rw [Mj hi] at this
   simp only [Bool.and_eq_true,Gw,decide_eq_true_eq] at this
   have b:=Iu x.Aa.Ak x.holds[0].Ac
   exact ⟨by omega,by have:=this.1.1.2;omega⟩
  | succ i ih =>
   intro hi
   have p:=ih (by omega)
   have:=List.all_eq_true.1 h4 (i+1) (by simpa using hi)
   rw [Mj hi] at this
   simp only [Bool.and_eq_true,Gw,decide_eq_true_eq,Bool.or_eq_true,Bool.not_eq_true',decide_eq_false_iff_not] at this
   have q:=this.2
   have q2:=this.1.1.2
   simp only [Nat.add_sub_cancel] at q
   rcases q with q|q
   ·omega
   ·exact ⟨by omega,by omega⟩
 have hm:x.holds.length≤6:=by
  by_cases h0:x.holds.length≤6
  ·exact h0
  ·have:=hg 6 (by omega);omega
 exact ⟨h1,by omega,t0,t1,k0,k1,hm,fun h hh=>(hc h hh).1,fun h hh=>(hc h hh).2.1,fun h hh=>(hc h hh).2.2⟩
def Sx (hs:List Fv):Prop:=∀h∈hs, -1≤h.Ac∧h.Ac≤65536
theorem W0 {hs:List Fv} (hn:∀h∈hs,Bx h.Ac=true):Sx hs:=fun h hh=>by have:=A4.1 (hn h hh);omega
def Fj (W:Az) (cl:Int) (hs:List Fv):List Fv:=hs.filter fun h=>Gw W h.Ac && decide (cl < h.By)
theorem Rl {W:Az} {cl:Int} {hs:List Fv} (h:∀z∈hs,cl+1≤z.By):Fj W cl hs=Kn W hs:=by
 unfold Fj Kn
 refine List.filter_congr fun z hz=>?_
 rw [decide_eq_true (show cl < z.By by have:=h z hz;omega),Bool.and_true]
theorem Aj1 (h:Fv) (w:World):Cp Bi w [.int .i64 h.Ac,.int .i64 h.By] [h] []:=⟨_,[],[],[],by simp,by simp,⟨rfl,rfl⟩,rfl,rfl⟩
structure HoS where
 k:Nat
 a:Option Addr
 c:Nat
 F:List Nat
theorem V2 (W:Az) (hs:List Fv) (cl:Int) (v:Value) (a2:Option Addr) (c2:Nat) (F G:List Nat) (t0:0≤W.Ak) (t1:W.Ak≤65535) (hl:hs.length≤1000) (hn:Sx hs) :
  Fn prog 178 [.slice a2 hs.length c2,v,.int .i64 cl] [.isv Br v W F,.sl Bi (.slice a2 hs.length c2) hs G] [] (fun (_:Option Addr × Nat × List Nat)=>True)
   (fun z=>.slice z.1 (Fj W cl hs).length z.2.1) (fun z=>[.ow Bi 134 (.slice z.1 (Fj W cl hs).length z.2.1) (Fj W cl hs) z.2.2]):=by
 refine enter func178 rfl ntmps178 fun w0=>?_
 refine D6 ?_
 rintro a1 c1 F1 rfl l1
 refine go ?_;intros
 refine C1 Bi ?_
 refine Cq [0,2,4,6] (fun s:HoS=>[(7,.slice s.a (Fj W cl (hs.take s.k)).length s.c),(8,.int .i64 s.k)]) (fun s=>[.ow Bi 134 (.slice s.a (Fj W cl (hs.take s.k)).length s.c) (Fj W cl (hs.take s.k)) s.F]) (fun s=>s.k≤hs.length) (fun s=>hs.length - s.k) ⟨0,_,0,_⟩ (Nat.zero_le _) fun s hk=>?_
 obtain ⟨k,a5,c5,F5⟩:=s
 dsimp only at hk ⊢
 refine go ?_;intros
 refine Bd rfl (fun h3=>?_) (fun h3=>?_)
 ·have hk3:k < hs.length:=by omega
  obtain ⟨n0,n1⟩:=hn hs[k] (List.getElem_mem hk3)
  have hkl:(Fj W cl (hs.take k)).length≤1000:=by have:=List.length_filter_le (fun h:Fv=>Gw W h.Ac && decide (cl < h.By)) (hs.take k);unfold Fj;simp only [List.length_take] at this;omega
  refine Pl (xs:=hs) k ?_
  rintro hi b o e
  rw [e]
  cases g5:Gw W hs[k].Ac
  ·refine Jq ?_;intros
   refine Av [0,2] [] ?_
   refine dt 0 ?_
   refine dt 1 ?_
   refine dt 2 ?_
   refine dt 3 ?_
   refine dt 4 ?_
   refine dt 5 ?_
   refine dO 6 (by kernel_rfl) (by rw [List.getElem?_toArray];rfl) ?_
   apply At;rfl;kernel_rfl;exact Bb
   refine cb (fun w st=>(Sg W hs[k].Ac _ _ t0 t1 n0 n1).val w (Ia (st.get (p:=.isv Br (.agg #[.int .i64 W.Ak,.int .i64 W.size,.slice a1 W.Aj.length c1]) W F) (by simp)))) ?_
   rw [g5]
   refine dk ?_
   refine dt 7 ?_
   refine ds 8 ?_
   refine ds 9 ?_
   refine ds 10 ?_
   refine ds 11 ?_
   refine ds 12 ?_
   refine ds 13 ?_
   refine ds 14 ?_
   refine dt 15 ?_
   refine dd ?_
   refine go ?_;intros
   have hf:Fj W cl (hs.take (k+1))=Fj W cl (hs.take k):=Cs hk3 (by rw [g5];rfl)
   rw [←hf]
   refine Co ⟨k+1,a5,c5,F5⟩ hk3 (by show hs.length - (k+1) < _;omega)
  ·refine Jq ?_;intros
   refine Av [0,2] [] ?_
   refine dt 0 ?_
   refine dt 1 ?_
   refine dt 2 ?_
   refine dt 3 ?_
   refine dt 4 ?_
   refine dt 5 ?_
   refine dO 6 (by kernel_rfl) (by rw [List.getElem?_toArray];rfl) ?_
   apply At;rfl;kernel_rfl;exact Bb
   refine cb (fun w st=>(Sg W hs[k].Ac _ _ t0 t1 n0 n1).val w (Ia (st.get (p:=.isv Br (.agg #[.int .i64 W.Ak,.int .i64 W.size,.slice a1 W.Aj.length c1]) W F) (by simp)))) ?_
   rw [g5]
   refine dk ?_
   refine dt 7 ?_
   refine Dm 8 ?_
   refine Dm 9 ?_
   refine Dm 10 ?_
   refine Dm 11 ?_
   refine Dm 12 ?_
   refine Dm 13 ?_
   refine Dm 14 ?_
   refine dt 15 ?_
   refine dd ?_
   refine go ?_;intros
   refine Bd rfl (fun h5=>?_) (fun h5=>?_)
   ·refine go ?_;intros
    apply wO
    refine Lh (Aj1 hs[k]) Hi fun a6 c6 F6=>?_
    have hf:Fj W cl (hs.take (k+1))=Fj W cl (hs.take k)++[hs[k]]:=Em hk3 (by rw [g5,decide_eq_true h5];rfl)
    rw [←hf]
    refine go ?_;intros
    refine Co ⟨k+1,a6,c6,F6⟩ hk3 (by show hs.length - (k+1) < _;omega)
   ·refine go ?_;intros
    have hf:Fj W cl (hs.take (k+1))=Fj W cl (hs.take k):=Cs hk3 (by rw [g5,decide_eq_false h5];rfl)
    rw [←hf]
    refine Co ⟨k+1,a5,c5,F5⟩ hk3 (by show hs.length - (k+1) < _;omega)
 ·have hkl:k=hs.length:=by omega
  subst hkl
  rw [List.take_length]
  refine go ?_;intros
  refine ret (a5,c5,F5) trivial rfl
def Rx (x:Cj) (W:Az):Cj:=⟨W,x.Ai,x.quiet,Fj W x.Ai x.holds⟩
theorem Akw {x:Cj} {W:Az} (h:∀z∈x.holds,x.Ai+1≤z.By):Rx x W=Adg x W:=by unfold Rx Adg;rw [Rl h]
theorem O0 (x:Cj) (W:Az) (v vw:Value) (F Fw:List Nat) (y0:0≤W.Ak) (y1:W.Ak≤65535) (hl:x.holds.length≤1000) (hn:Sx x.holds) :
  Fn prog 116 [v,vw] [.isv Dh v x F,.isv Br vw W Fw] [] (fun (_:Aaj)=>True) (fun s=>.agg #[.int .i64 W.Ak,.int .i64 W.size,.slice s.a W.Aj.length s.c,.int .i64 x.Ai,.int .i64 x.quiet,.slice s.a2 (Fj W x.Ai x.holds).length s.c2])
   (fun s=>[.isv Dh (.agg #[.int .i64 W.Ak,.int .i64 W.size,.slice s.a W.Aj.length s.c,.int .i64 x.Ai,.int .i64 x.quiet,.slice s.a2 (Fj W x.Ai x.holds).length s.c2]) (Rx x W) s.F]):=by
 refine enter func116 rfl ntmps116 fun w0=>?_
 refine Ej ?_
 rintro a1 c1 F1 a2 c2 F2 rfl l1 l2
 refine D6 (x:=W) (F:=Fw) ?_
 rintro a3 c3 F3 rfl l3
 refine go ?_;intros
 refine Av [1,2] [] ?_
 refine dt 0 ?_
 refine dt 1 ?_
 refine dt 2 ?_
 refine dt 3 ?_
 refine dt 4 ?_
 refine dt 5 ?_
 refine dt 6 ?_
 refine dt 7 ?_
 refine dt 8 ?_
 refine dt 9 ?_
 refine dO 10 (by kernel_rfl) (by rw [List.getElem?_toArray];rfl) ?_
 apply At;rfl;kernel_rfl;exact Bb
 refine cf (V2 W x.holds x.Ai _ a2 c2 Fw F2 y0 y1 (by omega) hn) fun z _=>?_
 refine Ao ?_
 refine dk ?_
 refine dt 11 ?_
 refine dO 12 (by kernel_rfl) (by rw [List.getElem?_toArray];rfl) ?_
 apply Cf;rfl;rfl;rfl;(first|exact AggC.s|exact OneC.s);rfl;exact Ci;exact Cg;rfl
 refine dk ?_
 refine dd ?_
 refine go ?_;intros
 refine Ax (E:=Bi) fun F9=>?_
 refine Dt (Rx x W) ?_
 refine ret ⟨_,_,_,_,_⟩ trivial rfl
theorem Agr (x:Cj) (W:Az) (v vw:Value) (F Fw:List Nat) (y0:0≤W.Ak) (y1:W.Ak≤65535) (hl:x.holds.length≤1000) (hn:∀h∈x.holds,Bx h.Ac=true) (hu:∀h∈x.holds,x.Ai+1≤h.By) :
  Fn prog 116 [v,vw] [.isv Dh v x F,.isv Br vw W Fw] [] (fun (_:Aaj)=>True) (fun s=>.agg #[.int .i64 W.Ak,.int .i64 W.size,.slice s.a W.Aj.length s.c,.int .i64 x.Ai,.int .i64 x.quiet,.slice s.a2 (Kn W x.holds).length s.c2])
   (fun s=>[.isv Dh (.agg #[.int .i64 W.Ak,.int .i64 W.size,.slice s.a W.Aj.length s.c,.int .i64 x.Ai,.int .i64 x.quiet,.slice s.a2 (Kn W x.holds).length s.c2]) (Adg x W) s.F]):=by
 have h:=O0 x W v vw F Fw y0 y1 hl (W0 hn)
 rw [Akw hu,Rl hu] at h
 exact h
end Go.Proofs.YtaemjogbahcbcaaGreatDoor
namespace Go.Proofs.YtaemjogbahcbcaaGreatDoor

open Go.RowKit Go.Shelf
end Go.Proofs.YtaemjogbahcbcaaGreatDoor
namespace Go.Proofs.YtaemjogbahcbcaaGreatDoor
open Go.RowKit
theorem O9.frame {α:Type} {E:Bp α} {w w':World} {v x F} (h:O9 E w v x F) (hF:∀b∈F,w'.heap[b]?=w.heap[b]?):O9 E w' v x F:=by
 obtain ⟨cs,hv,h⟩:=h;exact ⟨cs,hv,E.frame h hF⟩
theorem Aew (t n:Int):Ca (Ca t 1) (n - 1)=Ca t n:=by unfold Ca;omega
def Db (x:Az):Az:=if (x.Aj.length:Int)=x.size then ⟨Ca x.Ak 1,x.size,x.Aj.drop 1⟩ else x
def C4 (x:Az) (s:ByteArray):Az:=⟨(Db x).Ak,x.size,(Db x).Aj++[s]⟩
def Dd (x:Az) (s:ByteArray):Aw:=⟨1,Ca x.Ak x.Aj.length,(Db x).Ak,Ca (Db x).Ak ((Db x).Aj.length+1),s⟩
theorem Iq (t z:Int) (a:Option Addr) (n c:Nat) (w:World) (h0:0≤t) (h1:t≤65535) (hn:n≤4294967296) :
  Calls prog 59 #[.agg #[.int .i64 t,.int .i64 z,.slice a n c]] w fun e w'=>e=.returned (.int .i64 (Ca t n))∧Below w.heap.size w w':=by
 go_enter func59,ntmps59
 go_wp2_with fail
 refine (N9 _ _ _ (by omega) (by omega)).mono ?_
 rintro e w' ⟨rfl,rfl⟩
 go_wp2_with fail
 go_ret
 exact ⟨rfl,(Below.refl _ _).alloc (Nat.le_refl _) _⟩
theorem Rm (t z:Int) (a:Option Addr) (n c:Nat) (w:World) (h0:0≤t) (h1:t≤65535) (hn:n≤4294967296) :
  Calls prog 61 #[.agg #[.int .i64 t,.int .i64 z,.slice a n c]] w fun e w'=>e=.returned (.int .i64 (Ca t n))∧Below w.heap.size w w':=by
 go_enter func61,ntmps61
 go_wp2_with fail
 refine (Ex _ _ _ (by omega) (by omega)).mono ?_
 rintro e w' ⟨rfl,rfl⟩
 go_wp2_with fail
 go_ret
 exact ⟨rfl,(Below.refl _ _).alloc (Nat.le_refl _) _⟩
structure Aqa where
 Anh:List ByteArray
 Anc:ByteArray
 Apu:Int
end Go.Proofs.YtaemjogbahcbcaaGreatDoor
namespace Go.Proofs.YtaemjogbahcbcaaGreatDoor

open Go.RowKit Go.Shelf
end Go.Proofs.YtaemjogbahcbcaaGreatDoor
namespace Go.Proofs.YtaemjogbahcbcaaGreatDoor
open Go.RowKit
structure Aqp (x:Aqa):Prop where
 l:x.Anh.length≤8
 q:∀s∈x.Anh,s.size≤60
 f:x.Anc.size≤40
 u0:0≤x.Apu
 u1:x.Apu≤x.Anc.size
end Go.Proofs.YtaemjogbahcbcaaGreatDoor
namespace Go.Proofs.YtaemjogbahcbcaaGreatDoor

open Go.RowKit Go.Shelf
end Go.Proofs.YtaemjogbahcbcaaGreatDoor
namespace Go.Proofs.YtaemjogbahcbcaaGreatDoor
open Go.RowKit
section
variable {c:Cx} {fr:Fr} {H:List Pc} {Φ:Gl}
end
end Go.Proofs.YtaemjogbahcbcaaGreatDoor
namespace Go.Proofs.YtaemjogbahcbcaaGreatDoor

open Go.RowKit
end Go.Proofs.YtaemjogbahcbcaaGreatDoor
namespace Go.Proofs.YtaemjogbahcbcaaGreatDoor
open Go.RowKit
structure PuS where
 a:Option Addr
 c:Nat
 F:List Nat
theorem Na {x:Az} (t0:0≤x.Ak) (t1:x.Ak≤65535):0≤(Db x).Ak∧(Db x).Ak≤65535:=by
 unfold Db
 split
 ·exact Ha _ _
 ·exact ⟨t0,t1⟩
theorem Alc (x:Az) (k:Nat) (g t o:Nat) (A B:List Value) (r1 r2 r3:Value) (a:Option Addr) (c:Nat) (F:List Nat) (hl:x.Aj.length≤6) (hk:k≤x.Aj.length) (t0:0≤x.Ak) (t1:x.Ak≤65535) :
  Fn prog 193 [Eo g o 0,.int .i64 (k:Nat)] [] [.row g t o A [.int .i64 x.Ak,.int .i64 x.size,.slice a x.Aj.length c,r1,r2,r3] B,.ow A6 9 (.slice a x.Aj.length c) x.Aj F] (fun (_:PuS)=>True) (fun _=>.tuple #[]) (fun z=>[.row g t o A [.int .i64 (Ca x.Ak k),.int .i64 x.size,.slice z.a (x.Aj.drop k).length z.c,r1,r2,r3] B,.ow A6 9 (.slice z.a (x.Aj.drop k).length z.c) (x.Aj.drop k) z.F]):=by
 refine enter func193 rfl ntmps193 fun w0=>?_
 refine Ax (E:=A6) (xs:=x.Aj) fun Fr=>?_
 refine go ?_;intros
 apply wO
 refine sld k fun a2 c2 F2=>?_
 refine go ?_;intros
 refine cn (fun w st=>Tv _ _ _ _ (st.get (p:=.sl A6 (.slice a2 (x.Aj.drop k).length c2) (x.Aj.drop k) F2) (by exact Bw)).2 (by rw [List.length_drop];omega)) fun a6 c6 F6=>?_
 refine go ?_;intros
 refine ce (fun w st=>N9 x.Ak k w (by omega) (by omega)) ?_
 refine go ?_;intros
 refine Qv ?_
 refine ret ⟨a6,c6,F6⟩ trivial rfl
theorem An8 (x:Az) (s:ByteArray) (g t o:Nat) (A B:List Value) (r1 r2 r3:Value) (a:Option Addr) (c:Nat) (F:List Nat) (hl:x.Aj.length≤6) (ht:Bx x.Ak=true) (hs:s.size≤maxLen) (hz:1≤x.size) :
  Fn prog 139 [Eo g o 0,.string s] [] [.row g t o A [.int .i64 x.Ak,.int .i64 x.size,.slice a x.Aj.length c,r1,r2,r3] B,.ow A6 9 (.slice a x.Aj.length c) x.Aj F] (fun (_:PuS)=>True) (fun _=>.agg #[.int .i64 1,.int .i64 (Dd x s).Ac,.int .i64 (Dd x s).Ak,.int .i64 (Dd x s).Dy,.string s])
   (fun z=>[.row g t o A [.int .i64 (C4 x s).Ak,.int .i64 (C4 x s).size,.slice z.a (C4 x s).Aj.length z.c,r1,r2,r3] B,.ow A6 9 (.slice z.a (C4 x s).Aj.length z.c) (C4 x s).Aj z.F]):=by
 obtain ⟨t0,t1⟩:=A4.1 ht
 obtain ⟨R,hR⟩:∃R,Db x=R:=⟨_,rfl⟩
 have hb:=Na t0 t1
 have hRl:R.Aj.length≤6:=by
  rw [←hR];unfold Db
  split
  ·show (x.Aj.drop 1).length≤6;rw [List.length_drop];omega
  ·exact hl
 have hnum:Ca R.Ak R.Aj.length=Ca x.Ak x.Aj.length:=by
  rw [←hR];unfold Db
  split
  ·rename_i h
   show Ca (Ca x.Ak 1) ((x.Aj.drop 1).length:Nat)=_
   rw [List.length_drop,show ((x.Aj.length - 1:Nat):Int)=(x.Aj.length:Int) - 1 by omega,Aew]
  ·rfl
 rw [show C4 x s=⟨R.Ak,x.size,R.Aj++[s]⟩ by unfold C4;rw [hR],show Dd x s=⟨1,Ca x.Ak x.Aj.length,R.Ak,Ca R.Ak (R.Aj.length+1),s⟩ by unfold Dd;rw [hR]]
 dsimp only
 rw [hR] at hb
 refine enter func139 rfl ntmps139 fun w0=>?_
 refine go ?_;intros
 refine cb (fun w st=>Iq _ _ _ _ _ w t0 t1 (by omega)) ?_
 refine go ?_;intros
 refine Av [1] [] ?_
 refine dt 0 ?_
 refine dt 1 ?_
 refine dt 2 ?_
 refine dt 3 ?_
 refine dt 4 ?_
 refine dt 5 ?_
 refine dt 6 ?_
 refine dt 7 ?_
 refine dt 8 ?_
 refine dt 9 ?_
 refine dd ?_
 refine go ?_;intros
 refine Ep [0,1,4,5] [0] (fun _:PuS=>[]) (fun z=>[.row g t o A [.int .i64 R.Ak,.int .i64 x.size,.slice z.a R.Aj.length z.c,r1,r2,r3] B,.ow A6 9 (.slice z.a R.Aj.length z.c) R.Aj z.F]) (fun _=>True) ?_ fun z _=>?_
 ·refine Bd rfl (fun h1=>?_) (fun h1=>?_)
  ·have e:R=⟨Ca x.Ak 1,x.size,x.Aj.drop 1⟩:=by rw [←hR];unfold Db;rw [if_pos h1]
   rw [e]
   refine go ?_;intros
   refine cf (Alc x 1 g t o A B _ _ _ a c F hl (by omega) t0 t1) fun z _=>?_
   refine Ao ?_
   refine go ?_;intros
   refine B6 z trivial
  ·have e:R=x:=by rw [←hR];unfold Db;rw [if_neg h1]
   rw [e]
   refine go ?_;intros
   refine B6 ⟨a,c,F⟩ trivial
 refine go ?_;intros
 apply wO
 refine Lh (E:=A6) (ys:=[s]) (fun w=>⟨[.string s],[],[],[],rfl,rfl,⟨rfl,hs,rfl⟩,rfl,rfl⟩) Du fun a7 c7 F7=>?_
 have hla:((R.Aj++[s]).length:Int)=R.Aj.length+1:=by simp
 refine go ?_;intros
 dsimp only [List.append]
 refine Av [1] [] ?_
 refine dt 0 ?_
 refine dt 1 ?_
 refine dt 2 ?_
 refine dt 3 ?_
 refine dt 4 ?_
 refine dt 5 ?_
 refine dt 6 ?_
 refine dt 7 ?_
 refine dt 9 ?_
 refine dO 8 (by kernel_rfl) (by rw [List.getElem?_toArray];rfl) ?_
 apply At;rfl;kernel_rfl;exact Bb
 refine cb (fun w st=>Iq _ _ _ _ _ w hb.1 hb.2 (by omega)) ?_
 refine dk ?_
 refine dt 10 ?_
 refine dO 11 (by kernel_rfl) (by rw [List.getElem?_toArray];rfl) ?_
 apply Cf;rfl;rfl;rfl;(first|exact AggC.s|exact OneC.s);rfl;exact Ci;exact Cg;rfl
 refine dk ?_
 refine dd ?_
 refine go ?_;intros
 refine ret ⟨a7,c7,F7⟩ trivial ?_
 rw [hla];rfl
theorem Va (x:Az) (k:Nat) (v:Value) (F:List Nat) (hl:x.Aj.length≤4294967296) (hk:k≤x.Aj.length) (t0:0≤x.Ak) (t1:x.Ak≤65535) :
  Fn prog 117 [v,.int .i64 (k:Nat)] [.isv Br v x F] [] (fun (_:PuS)=>True) (fun z=>.agg #[.int .i64 (Ca x.Ak k),.int .i64 x.size,.slice z.a (x.Aj.drop k).length z.c]) (fun z=>[.ow A6 9 (.slice z.a (x.Aj.drop k).length z.c) (x.Aj.drop k) z.F]):=by
 refine enter func117 rfl ntmps117 fun w0=>?_
 refine D6 ?_
 rintro a1 c1 F1 rfl l1
 have hdk:(x.Aj.drop k).length=x.Aj.length - k:=List.length_drop
 refine go ?_;intros
 refine Av [1,2] [] ?_
 refine dt 0 ?_
 refine dt 1 ?_
 refine dt 2 ?_
 refine dt 4 ?_
 refine dt 5 ?_
 refine dt 7 ?_
 refine dt 8 ?_
 refine dt 9 ?_
 refine Adt 10 k fun a5 c5 F5=>?_
 refine Nn 3 6 (by kernel_rfl) (by rw [List.getElem?_toArray];rfl) (by rw [List.getElem?_toArray];rfl) ?_ ?_
 ·apply At;rfl;kernel_rfl;exact Bb
  refine ce (fun w st=>Ex x.Ak k w (by omega) (by omega)) ?_
  refine dk ?_
  refine dO 6 (by kernel_rfl) (by rw [List.getElem?_toArray];rfl) ?_
  apply Ja;rfl;intro _
  refine C1 A6 ?_
  refine dk ?_
  refine dO 11 (by kernel_rfl) (by rw [List.getElem?_toArray];rfl) ?_
  refine Kx (E:=A6) (xs:=[]) (ys:=x.Aj.drop k) Du Fc fun a7 c7 F7=>?_
  rw [List.nil_append]
  refine dk ?_
  refine dt 12 ?_
  refine dO 13 (by kernel_rfl) (by rw [List.getElem?_toArray];rfl) ?_
  apply Cf;rfl;rfl;rfl;(first|exact AggC.s|exact OneC.s);rfl;exact Ci;exact Cg;rfl
  refine dk ?_
  refine dd ?_
  refine go ?_;intros
  refine ret ⟨a7,c7,F7⟩ trivial rfl
 ·apply Ja;rfl;intro _
  refine C1 A6 ?_
  refine dk ?_
  refine dO 3 (by kernel_rfl) (by rw [List.getElem?_toArray];rfl) ?_
  apply At;rfl;kernel_rfl;exact Bb
  refine ce (fun w st=>Ex x.Ak k w (by omega) (by omega)) ?_
  refine dk ?_
  refine dO 11 (by kernel_rfl) (by rw [List.getElem?_toArray];rfl) ?_
  refine Kx (E:=A6) (xs:=[]) (ys:=x.Aj.drop k) Du Fc fun a7 c7 F7=>?_
  rw [List.nil_append]
  refine dk ?_
  refine dt 12 ?_
  refine dO 13 (by kernel_rfl) (by rw [List.getElem?_toArray];rfl) ?_
  apply Cf;rfl;rfl;rfl;(first|exact AggC.s|exact OneC.s);rfl;exact Ci;exact Cg;rfl
  refine dk ?_
  refine dd ?_
  refine go ?_;intros
  refine ret ⟨a7,c7,F7⟩ trivial rfl
theorem Ai7 (x:Az) (s:ByteArray) (v:Value) (F:List Nat) (hl:x.Aj.length≤6) (t0:0≤x.Ak) (t1:x.Ak≤65535) (hs:s.size≤maxLen) (hz:1≤x.size) :
  Fn prog 157 [v,.string s] [.isv Br v x F] [] (fun (_:Value × List Nat)=>True) (fun z=>.tuple #[z.1,.agg #[.int .i64 1,.int .i64 (Dd x s).Ac,.int .i64 (Dd x s).Ak,.int .i64 (Dd x s).Dy,.string s]]) (fun z=>[.isv Br z.1 (C4 x s) z.2]):=by
 have e0:Ca x.Ak ((0:Nat):Int)=x.Ak:=by unfold Ca;omega
 obtain ⟨R,hR⟩:∃R,Db x=R:=⟨_,rfl⟩
 have hb:=Na t0 t1
 have hRl:R.Aj.length≤6:=by
  rw [←hR];unfold Db
  split
  ·show (x.Aj.drop 1).length≤6;rw [List.length_drop];omega
  ·exact hl
 have hnum:Ca R.Ak R.Aj.length=Ca x.Ak x.Aj.length:=by
  rw [←hR];unfold Db
  split
  ·rename_i h
   show Ca (Ca x.Ak 1) ((x.Aj.drop 1).length:Nat)=_
   rw [List.length_drop,show ((x.Aj.length - 1:Nat):Int)=(x.Aj.length:Int) - 1 by omega,Aew]
  ·rfl
 rw [show C4 x s=⟨R.Ak,x.size,R.Aj++[s]⟩ by unfold C4;rw [hR],show Dd x s=⟨1,Ca x.Ak x.Aj.length,R.Ak,Ca R.Ak (R.Aj.length+1),s⟩ by unfold Dd;rw [hR]]
 dsimp only
 rw [hR] at hb
 refine enter func157 rfl ntmps157 fun w0=>?_
 refine D6 ?_
 rintro a1 c1 F1 rfl l1
 refine go ?_;intros
 refine cf (Va x 0 _ F (by omega) (Nat.zero_le _) t0 t1) fun y _=>?_
 refine Ao ?_
 rw [e0,List.drop_zero]
 refine go ?_;intros
 rename_i g
 refine Ep [1,2,4,5,6] [2,3,4,5,6] (fun _:PuS=>[]) (fun z=>[.row g 29 0 [] [.int .i64 R.Ak,.int .i64 x.size,.slice z.a R.Aj.length z.c] [],.ow A6 9 (.slice z.a R.Aj.length z.c) R.Aj z.F]) (fun _=>True) ?_ fun z _=>?_
 ·refine Bd rfl (fun h1=>?_) (fun h1=>?_)
  ·have e:R=⟨Ca x.Ak 1,x.size,x.Aj.drop 1⟩:=by rw [←hR];unfold Db;rw [if_pos h1]
   rw [e]
   refine go ?_;intros
   refine cf (Va x 1 _ F (by omega) (by omega) t0 t1) fun z _=>?_
   refine Ao ?_
   refine go ?_;intros
   refine B6 z trivial
  ·have e:R=x:=by rw [←hR];unfold Db;rw [if_neg h1]
   rw [e]
   refine go ?_;intros
   refine B6 ⟨y.a,y.c,y.F⟩ trivial
 refine go ?_;intros
 refine cb (fun w st=>Rm _ _ _ _ _ w hb.1 hb.2 (by omega)) ?_
 rw [hnum]
 refine go ?_;intros
 apply wO
 refine Lh (E:=A6) (ys:=[s]) (fun w=>⟨[.string s],[],[],[],rfl,rfl,⟨rfl,hs,rfl⟩,rfl,rfl⟩) Du fun a7 c7 F7=>?_
 have hla:((R.Aj++[s]).length:Int)=R.Aj.length+1:=by simp
 refine go ?_;intros
 dsimp only [List.append]
 refine Av [1] [] ?_
 refine dt 0 ?_
 refine dt 1 ?_
 refine dt 2 ?_
 refine dt 3 ?_
 refine dt 4 ?_
 refine dt 6 ?_
 refine dO 5 (by kernel_rfl) (by rw [List.getElem?_toArray];rfl) ?_
 apply At;rfl;kernel_rfl;exact Bb
 refine cb (fun w st=>Rm _ _ _ _ _ w hb.1 hb.2 (by omega)) ?_
 refine dk ?_
 refine dt 7 ?_
 refine dO 8 (by kernel_rfl) (by rw [List.getElem?_toArray];rfl) ?_
 apply Cf;rfl;rfl;rfl;(first|exact AggC.s|exact OneC.s);rfl;exact Ci;exact Cg;rfl
 refine dk ?_
 refine dO 9 (by kernel_rfl) (by rw [List.getElem?_toArray];rfl) ?_
 apply Cf;rfl;rfl;rfl;(first|exact AggC.s|exact OneC.s);rfl;exact Ci;exact Cg;rfl
 refine dk ?_
 refine dd ?_
 refine Ax (E:=A6) (xs:=R.Aj++[s]) fun F8=>?_
 refine B9 ⟨R.Ak,x.size,R.Aj++[s]⟩ ?_
 refine go ?_;intros
 refine ret (_,_) trivial ?_
 rw [hla];rfl
structure SeS where
 a:Option Addr
 c:Nat
 F:List Nat
 a2:Option Addr
 c2:Nat
 F2:List Nat
theorem Ala (x:Az) (s:ByteArray) (hs:List Fv) (g t o:Nat) (A B:List Value) (a a2:Option Addr) (c c2:Nat) (cl q:Int) (F F2:List Nat) (hl:x.Aj.length≤6) (t0:0≤x.Ak) (t1:x.Ak≤65535) (hss:s.size≤maxLen) (hz:1≤x.size) (hn:∀h∈hs,Bx h.Ac=true) :
  Fn prog 81 [Eo g o 0,.string s] [] [.row g t o A [.int .i64 x.Ak,.int .i64 x.size,.slice a x.Aj.length c,.int .i64 cl,.int .i64 q,.slice a2 hs.length c2] B,.ow Bi 134 (.slice a2 hs.length c2) hs F2,.ow A6 9 (.slice a x.Aj.length c) x.Aj F] (fun (_:SeS)=>True) (fun _=>.agg #[.int .i64 1,.int .i64 (Dd x s).Ac,.int .i64 (Dd x s).Ak,.int .i64 (Dd x s).Dy,.string s])
   (fun z=>[.row g t o A [.int .i64 (C4 x s).Ak,.int .i64 (C4 x s).size,.slice z.a (C4 x s).Aj.length z.c,.int .i64 cl,.int .i64 0,.slice z.a2 (Kn (C4 x s) hs).length z.c2] B,.ow Bi 134 (.slice z.a2 (Kn (C4 x s) hs).length z.c2) (Kn (C4 x s) hs) z.F2,.ow A6 9 (.slice z.a (C4 x s).Aj.length z.c) (C4 x s).Aj z.F]):=by
 have hb:=Na t0 t1
 refine enter func81 rfl ntmps81 fun w0=>?_
 refine go ?_;intros
 refine cf (An8 x s g t o A B _ _ _ a c F hl (A4.2 ⟨t0,t1⟩) hss hz) fun z _=>?_
 refine Ao ?_
 refine go ?_;intros
 refine cf (Ace (C4 x s) hs g t o A B z.a a2 z.c c2 cl 0 z.F F2 hb.1 hb.2 hn) fun y _=>?_
 refine Ao ?_
 refine go ?_;intros
 refine ret ⟨z.a,z.c,z.F,y.1,y.2.1,y.2.2⟩ trivial rfl
def Nw (x:Cj) (s:ByteArray):Cj:=⟨C4 x.Aa s,x.Ai,0,Kn (C4 x.Aa s) x.holds⟩
def zPk:Aw:=⟨0,0,0,0,⟨#[]⟩⟩
def Tl (x:Az) (s:ByteArray):Bool:=Dj x && Nq s
end Go.Proofs.YtaemjogbahcbcaaGreatDoor
namespace Go.Proofs.YtaemjogbahcbcaaGreatDoor

open Go.RowKit
end Go.Proofs.YtaemjogbahcbcaaGreatDoor
namespace Go.Proofs.YtaemjogbahcbcaaGreatDoor
open Go.RowKit
def Kr (x:Az):Int:=Ca x.Ak x.Aj.length
def Tg (x:Az) (n:Int):ByteArray:=x.Aj.getD (gp x.Ak n).toNat ⟨#[]⟩
def Ajm (x:Az) (n:Int):Bool:=Dj x && Bx n && Gw x n
def N7 (x:Az):Aw:=⟨5,x.Ak,x.Ak,Kr x,⟨#[]⟩⟩
def Hx (x:Az) (p:Aw):Bool:=Dj x && Bk p && decide (p.Cm=3) && Gw x p.Ac
def Abx (x:Az) (n:Int):Aw:=⟨2,n,x.Ak,Kr x,Tg x n⟩
def Da (x:Az) (p:Aw):Aw × Bool:=if Hx x p then (Abx x p.Ac,true) else (zPk,false)
theorem Aja (x:Az):0≤Kr x∧Kr x≤65535:=Ha _ _
theorem Ac6 {x:Az} (h1:1≤x.size):Kr (Db x)=Kr x:=by
 unfold Db
 split
 ·rename_i h
  unfold Kr
  simp only [List.length_drop]
  unfold Ca
  omega
 ·rfl
theorem Ad8 {x:Az} {s:ByteArray} (h:Tl x s=true):Dj x=true∧Dj (C4 x s)=true∧Ajm (C4 x s) (Dd x s).Ac=true∧Tg (C4 x s) (Dd x s).Ac=s∧(Dd x s).Ac=Kr x∧gp (Kr x) (Kr (C4 x s))=1∧(Dd x s).Dy=Kr (C4 x s)∧(Dd x s).Ak=(C4 x s).Ak:=by
 unfold Tl at h
 simp only [Bool.and_eq_true] at h
 obtain ⟨hg,hs⟩:=h
 obtain ⟨⟨t0,t1⟩,⟨z0,z1⟩,hl,hi⟩:=Ea.1 hg
 have hr:0≤(Db x).Ak∧(Db x).Ak≤65535:=Na t0 t1
 have hn:((Db x).Aj.length:Int)+1≤x.size∧(Db x).Aj.all Nq=true:=by
  unfold Db
  split
  ·rename_i h
   refine ⟨by simp only [List.length_drop];omega,?_⟩
   rw [List.all_eq_true] at hi ⊢
   exact fun z hz=>hi z (List.mem_of_mem_drop hz)
  ·exact ⟨by omega,hi⟩
 have hlead:=Ac6 (x:=x) z0
 have hgo:Dj (C4 x s)=true:=by
  refine Ea.2 ⟨hr,⟨z0,z1⟩,?_,?_⟩
  ·show (((Db x).Aj++[s]).length:Int)≤x.size
   simp only [List.length_append,List.length_cons,List.length_nil];omega
  ·show ((Db x).Aj++[s]).all Nq=true
   simp [hn.2,hs]
 have hnum:(Dd x s).Ac=Kr x:=rfl
 have hgap:gp (C4 x s).Ak (Kr x)=((Db x).Aj.length:Nat):=by
  rw [←hlead]
  show gp (Db x).Ak (Kr (Db x))=_
  unfold Kr gp Ca
  omega
 have b:=Aja x
 refine ⟨hg,hgo,?_,?_,rfl,?_,?_,rfl⟩
 ·unfold Ajm
  rw [hgo,hnum,A4.2 b,Gw,hgap]
  show decide (((Db x).Aj.length:Int) < (((Db x).Aj++[s]).length:Nat))=true
  simp only [List.length_append,List.length_cons,List.length_nil,decide_eq_true_eq]
  omega
 ·unfold Tg
  rw [hnum,hgap]
  show ((Db x).Aj++[s]).getD _ _=s
  simp
 ·rw [←hlead]
  show gp (Kr (Db x)) (Ca (Db x).Ak (((Db x).Aj++[s]).length:Nat))=1
  unfold Kr gp Ca
  simp only [List.length_append,List.length_cons,List.length_nil]
  omega
 ·show Ca (Db x).Ak (((Db x).Aj.length:Nat)+1)=Ca (Db x).Ak ((((Db x).Aj++[s]).length:Nat))
  simp
theorem Ac8 (t z:Int) (a:Option Addr) (n c:Nat) (h0:0≤t) (h1:t≤65535) (hn:n≤4294967296):Fn prog 197 [.agg #[.int .i64 t,.int .i64 z,.slice a n c]] [] [] (fun (_:Unit)=>True) (fun _=>.agg #[.int .i64 5,.int .i64 t,.int .i64 t,.int .i64 (Ca t n),.string ⟨#[]⟩]) (fun _=>[]):=by
 refine enter func197 rfl ntmps197 fun w0=>?_
 refine go ?_;intros
 refine Av [1] [7] ?_
 refine dt 0 ?_
 refine dt 1 ?_
 refine dt 2 ?_
 refine dt 3 ?_
 refine dt 4 ?_
 refine dO 5 (by kernel_rfl) (by rw [List.getElem?_toArray];rfl) ?_
 apply At;rfl;kernel_rfl;exact Bb
 refine cb (fun w _=>Iq t z a n c w h0 h1 hn) ?_
 refine dk ?_
 refine dt 6 ?_
 refine dO 7 (by kernel_rfl) (by rw [List.getElem?_toArray];rfl) ?_
 apply Cf;rfl;rfl;rfl;(first|exact AggC.s|exact OneC.s);rfl;exact Ci;exact Cg;rfl
 refine Lv ?_
 refine dd ?_
 refine go ?_;intros
 refine ret () trivial rfl
theorem Tk (t z:Int) (a:Option Addr) (n c:Nat) (h0:0≤t) (h1:t≤65535) (hn:n≤4294967296):Fn prog 186 [.agg #[.int .i64 t,.int .i64 z,.slice a n c]] [] [] (fun (_:Unit)=>True) (fun _=>.agg #[.int .i64 5,.int .i64 t,.int .i64 t,.int .i64 (Ca t n),.string ⟨#[]⟩]) (fun _=>[]):=by
 refine enter func186 rfl ntmps186 fun w0=>?_
 refine go ?_;intros
 refine Av [1] [7] ?_
 refine dt 0 ?_
 refine dt 1 ?_
 refine dt 2 ?_
 refine dt 3 ?_
 refine dt 4 ?_
 refine dO 5 (by kernel_rfl) (by rw [List.getElem?_toArray];rfl) ?_
 apply At;rfl;kernel_rfl;exact Bb
 refine cb (fun w _=>Rm t z a n c w h0 h1 hn) ?_
 refine dk ?_
 refine dt 6 ?_
 refine dO 7 (by kernel_rfl) (by rw [List.getElem?_toArray];rfl) ?_
 apply Cf;rfl;rfl;rfl;(first|exact AggC.s|exact OneC.s);rfl;exact Ci;exact Cg;rfl
 refine Lv ?_
 refine dd ?_
 refine go ?_;intros
 refine ret () trivial rfl
def Pz (cl:Int) (hs:List Fv):List Fv:=hs.filter fun h=>!decide (h.By≤cl)
def N8 (q:Int):Int:=if q+1 < 4 then q+1 else 0
def Kg (x:Az) (q:Int):List Aw:=if q+1 < 4 then [] else [N7 x]
def Jy (x:Cj):Cj:=⟨x.Aa,x.Ai+1,N8 x.quiet,Pz (x.Ai+1) x.holds⟩
theorem Ac0 {x:Cj} (h:Cb x=true):0≤x.quiet∧x.quiet≤3:=by
 unfold Cb Gs at h
 simp only [Bool.and_eq_true,decide_eq_true_eq] at h
 exact h.1.2
theorem Af7 {x:Cj} (h:Cb x=true):∀z∈x.holds,Gw x.Aa z.Ac=true:=fun z hz=>by
 unfold Cb at h
 simp only [Bool.and_eq_true] at h
 obtain ⟨i,hi,rfl⟩:=List.getElem_of_mem hz
 have:=List.all_eq_true.1 h.2 i (by simpa using hi)
 rw [Mj hi] at this
 simp only [Bool.and_eq_true] at this
 exact this.1.1.2
structure TiS where
 a:Option Addr
 c:Nat
 a2:Option Addr
 c2:Nat
 F:List Nat
 ae:Option Addr
 ce:Nat
 Fe:List Nat
theorem Amn (h:Fv) (gb g o:Nat) (u v0 v1 v2 q Hs:Value) (cl:Int) (G:List Nat) :
  Fn prog 196 [u,Eo gb 0 0] [.isv Bi u h G,.cel gb 0 [Eo g o 0],.cel g o [v0,v1,v2,.int .i64 cl,q,Hs]] [] (fun (_:Unit)=>True) (fun _=>.bool (decide (h.By≤cl))) (fun _=>[]):=by
 refine enter func196 rfl ntmps196 fun w0=>?_
 refine Acu ?_
 rintro _ rfl
 refine go ?_;intros
 refine Av [0,2,3] [] ?_
 refine dt 0 ?_
 refine dt 1 ?_
 refine dt 2 ?_
 refine dt 3 ?_
 refine dt 4 ?_
 refine dt 5 ?_
 refine dt 6 ?_
 refine dt 7 ?_
 refine dd ?_
 refine go ?_;intros
 refine ret () trivial rfl
theorem Amo (hs:List Fv) (gb tb g t o:Nat) (A B:List Value) (v0 v1 v2:Value) (v3:Value) (a2:Option Addr) (c2:Nat) (cl q:Int) (F2:List Nat) :
  Fn prog 194 [.slice a2 hs.length c2,.func (.func 196) #[] #[Eo gb 0 0]] [] [.ow Bi 134 (.slice a2 hs.length c2) hs F2,.row gb tb 0 [] [Eo g o 0] [],.row g t o A [v0,v1,v2,.int .i64 cl,.int .i64 q,v3] B] (fun (_:Option Addr × Nat × List Nat)=>True)
   (fun z=>.slice z.1 (Pz cl hs).length z.2.1) (fun z=>[.ow Bi 134 (.slice z.1 (Pz cl hs).length z.2.1) (Pz cl hs) z.2.2,.row gb tb 0 [] [Eo g o 0] [],.row g t o A [v0,v1,v2,.int .i64 cl,.int .i64 q,v3] B]):=by
 refine Adw rfl fun w ⟨hnd,ho⟩ _ hk=>?_
 refine (Q0 _ (Qe (by kernel_rfl)) #[Eo gb 0 0] _ hs F2 (fun h=>decide (h.By≤cl)) w ho hnd fun k hk2 wr u G hK hu=>?_).mono ?_
 ·have hr:=hk wr hK
  have r1:=hr (.row gb tb 0 [] [Eo g o 0] []) (by simp)
  have r2:=hr (.row g t o A [v0,v1,v2,.int .i64 cl,.int .i64 q,v3] B) (by simp)
  refine (Amn hs[k] gb g o u v0 v1 v2 (.int .i64 q) v3 cl G).val wr ?_
  intro p hp
  simp only [List.mem_cons,List.not_mem_nil,or_false] at hp
  rcases hp with rfl|rfl|rfl
  ·exact hu
  ·exact ⟨by simp,Fb r1⟩
  ·exact ⟨by simp,Fb r2⟩
 ·rintro e w' ⟨v',F',rfl,h1,h2,h3,h4⟩
  have e:(hs.filter fun x=>!(fun h:Fv=>decide (h.By≤cl)) x)=Pz cl hs:=rfl
  rw [e] at h1
  obtain ⟨a',c',rfl⟩:=h1.slice
  exact ⟨(a',c',F'),trivial,rfl,⟨h2,h1⟩,fun b hb=>.inl (h3 b hb),h4⟩
theorem Alb (W:Az) (hs:List Fv) (g t o:Nat) (A B:List Value) (a a2:Option Addr) (c c2:Nat) (cl q:Int) (F2:List Nat) (t0:0≤W.Ak) (t1:W.Ak≤65535) (hl:W.Aj.length≤6) (k0:0≤cl) (k1:cl≤9999) (q0:0≤q) (q3:q≤3) :
  Fn prog 141 [Eo g o 0] [] [.row g t o A [.int .i64 W.Ak,.int .i64 W.size,.slice a W.Aj.length c,.int .i64 cl,.int .i64 q,.slice a2 hs.length c2] B,.ow Bi 134 (.slice a2 hs.length c2) hs F2] (fun (_:TiS)=>True)
   (fun z=>.slice z.ae (Kg W q).length z.ce) (fun z=>[.row g t o A [.int .i64 W.Ak,.int .i64 W.size,.slice a W.Aj.length c,.int .i64 (cl+1),.int .i64 (N8 q),.slice z.a2 (Pz (cl+1) hs).length z.c2] B,.ow Bi 134 (.slice z.a2 (Pz (cl+1) hs).length z.c2) (Pz (cl+1) hs) z.F,.ow Al 110 (.slice z.ae (Kg W q).length z.ce) (Kg W q) z.Fe]):=by
 refine enter func141 rfl ntmps141 fun w0=>?_
 refine go ?_;intros
 refine Av [0,1] [9] ?_
 refine dt 0 ?_
 refine dt 1 ?_
 refine dt 2 ?_
 refine dt 3 ?_
 refine dt 4 ?_
 refine dt 5 ?_
 refine dO 6 (by kernel_rfl) (by rw [List.getElem?_toArray];rfl) ?_
 apply At;rfl;kernel_rfl;exact Bb
 refine cf (Amo hs _ _ g t o A B _ _ _ _ a2 c2 (cl+1) q F2) fun z _=>?_
 refine Ao ?_
 refine dk ?_
 refine dt 7 ?_
 refine dt 8 ?_
 refine dO 9 (by kernel_rfl) (by rw [List.getElem?_toArray];rfl) ?_
 apply Cf;rfl;rfl;rfl;(first|exact AggC.s|exact OneC.s);rfl;exact Ci;exact Cg;rfl
 refine Lv ?_
 refine dd ?_
 refine go ?_;intros
 refine Bd rfl (fun h1=>?_) (fun h1=>?_)
 ·refine B7 Al 110 ?_
  refine go ?_;intros
  rw [show N8 q=q+1 from if_pos h1,show Kg W q=[] from if_pos h1]
  refine ret ⟨none,0,z.1,z.2.1,z.2.2,none,0,[]⟩ trivial rfl
 ·refine go ?_;intros
  refine cf (Ac8 W.Ak W.size a W.Aj.length c t0 t1 (by omega)) fun _ _=>?_
  refine Ao ?_
  refine go ?_;intros
  refine Ee (xs:=[N7 W]) (Cz _ (by show (⟨#[]⟩:ByteArray).size≤maxLen;decide)) ?_ (by simp)
  rw [show N8 q=0 from if_neg h1,show Kg W q=[N7 W] from if_neg h1]
  refine ret ⟨none,0,z.1,z.2.1,z.2.2,_,_,_⟩ trivial rfl
theorem Oi (x:Az) (v:Value) (F:List Nat) (t0:0≤x.Ak) (t1:x.Ak≤65535) (hl:x.Aj.length≤4294967296):Fn prog 117 [v,.int .i64 0] [.isv Br v x F] [] (fun (_:Value × List Nat)=>True) (fun s=>s.1) (fun s=>[.own Nk s.1 x s.2]):=by
 have e0:Ca x.Ak ((0:Nat):Int)=x.Ak:=by unfold Ca;omega
 have h:=Va x 0 v F hl (Nat.zero_le _) t0 t1
 rw [e0,List.drop_zero] at h
 refine Aln fun w hA=>(h.made w hA (fun _=>rfl)).mono ?_
 rintro e w' ⟨z, -,he,hh,hn,hF,hB⟩
 obtain ⟨h1,h2⟩:=hh (.ow A6 9 (.slice z.a x.Aj.length z.c) x.Aj z.F) (by simp)
 exact ⟨(_,z.F),trivial,he,⟨h1,_,rfl,_,rfl,h2⟩,fun b hb=>hF b (by simpa [fp,Pc.F,Pc.mu] using hb),hB⟩
theorem Alu {W:Az} {cl:Int} {hs:List Fv} (h:∀z∈hs,Gw W z.Ac=true):Fj W cl hs=Pz cl hs:=by
 unfold Fj Pz
 refine List.filter_congr fun z hz=>?_
 rw [h z hz,Bool.true_and]
 by_cases hc:cl < z.By
 ·rw [decide_eq_true hc,decide_eq_false (by omega)];rfl
 ·rw [decide_eq_false hc,decide_eq_true (by omega)];rfl
def Jz (x:Cj):Cj:=⟨x.Aa,x.Ai+1,N8 x.quiet,Fj x.Aa (x.Ai+1) x.holds⟩
theorem Xv (x:Cj) (v:Value) (F:List Nat) (t0:0≤x.Aa.Ak) (t1:x.Aa.Ak≤65535) (hl:x.Aa.Aj.length≤6) (k0:0≤x.Ai) (k1:x.Ai≤99999) (q0:0≤x.quiet) (q3:x.quiet≤3) (hm:x.holds.length≤1000) (hn:Sx x.holds) :
  Fn prog 127 [v] [.isv Dh v x F] [] (fun (_:TiS)=>True) (fun s=>.tuple #[.agg #[.int .i64 (Jz x).Aa.Ak,.int .i64 (Jz x).Aa.size,.slice s.a (Jz x).Aa.Aj.length s.c,.int .i64 (Jz x).Ai,.int .i64 (Jz x).quiet,.slice s.a2 (Jz x).holds.length s.c2],.slice s.ae (Kg x.Aa x.quiet).length s.ce])
   (fun s=>[.isv Dh (.agg #[.int .i64 (Jz x).Aa.Ak,.int .i64 (Jz x).Aa.size,.slice s.a (Jz x).Aa.Aj.length s.c,.int .i64 (Jz x).Ai,.int .i64 (Jz x).quiet,.slice s.a2 (Jz x).holds.length s.c2]) (Jz x) s.F,.ow Al 110 (.slice s.ae (Kg x.Aa x.quiet).length s.ce) (Kg x.Aa x.quiet) s.Fe]):=by
 refine enter func127 rfl ntmps127 fun w0=>?_
 refine Ej ?_
 rintro a1 c1 F1 a2 c2 F2 rfl l1 l2
 refine B9 x.Aa (a1:=a1) ?_
 refine go ?_;intros
 refine cf (Oi x.Aa _ F1 t0 t1 (by omega)) fun y _=>?_
 refine Ao ?_
 refine Hw ?_
 rintro a5 c5 F5 e5 l5
 rw [e5]
 have hH:=fun v a c F G=>V2 x.Aa x.holds (x.Ai+1) v a c F G t0 t1 (by omega) hn
 refine go ?_;intros
 refine Ax (xs:=x.Aa.Aj) fun F8=>?_
 refine B9 x.Aa (a1:=a5) ?_
 refine Av [2,4] [] ?_
 refine dt 0 ?_
 refine dt 1 ?_
 refine dt 2 ?_
 refine dt 3 ?_
 refine dt 4 ?_
 refine dt 5 ?_
 refine dt 6 ?_
 refine dt 7 ?_
 refine dt 8 ?_
 refine dt 9 ?_
 refine dt 10 ?_
 refine dt 11 ?_
 refine dt 12 ?_
 refine Nn 13 15 (by kernel_rfl) (by rw [List.getElem?_toArray];rfl) (by rw [List.getElem?_toArray];rfl) ?_ ?_
 ·apply At;rfl;kernel_rfl;exact Bb
  refine cf (hH _ a2 c2 _ _) fun z _=>?_
  refine Ao ?_
  refine dk ?_
  refine dt 14 ?_
  refine dO 15 (by kernel_rfl) (by rw [List.getElem?_toArray];rfl) ?_
  apply Bv;rfl;intro _
  refine dk ?_
  refine dO 16 (by kernel_rfl) (by rw [List.getElem?_toArray];rfl) ?_
  apply Cf;rfl;rfl;rfl;(first|exact AggC.s|exact OneC.s);rfl;exact Ci;exact Cg;rfl
  refine dk ?_
  refine dd ?_
  refine go ?_;intros
  refine Bd rfl (fun h1=>?_) (fun h1=>?_)
  ·rw [show Jz x=⟨x.Aa,x.Ai+1,0,Fj x.Aa (x.Ai+1) x.holds⟩ from by unfold Jz N8;rw [if_neg (by omega)],show Kg x.Aa x.quiet=[N7 x.Aa] from if_neg (by omega)]
   refine go ?_;intros
   refine Ax (E:=Bi) fun F9=>?_
   refine Dt ⟨x.Aa,x.Ai+1,0,Fj x.Aa (x.Ai+1) x.holds⟩ (a1:=a5) ?_
   refine Av [2,5] [] ?_
   refine dt 0 ?_
   refine dt 1 ?_
   refine dO 2 (by kernel_rfl) (by rw [List.getElem?_toArray];rfl) ?_
   apply At;rfl;kernel_rfl;exact Bb
   refine cf (Tk x.Aa.Ak x.Aa.size _ x.Aa.Aj.length _ t0 t1 (by omega)) fun _ _=>?_
   refine Ao ?_
   refine dk ?_
   refine Nn 3 4 (by kernel_rfl) (by rw [List.getElem?_toArray];rfl) (by rw [List.getElem?_toArray];rfl) ?_ ?_
   ·apply Hh;rfl;rfl;rfl;rfl;exact Gz;exact Gp;intro _
    refine dk ?_
    refine dO 4 (by kernel_rfl) (by rw [List.getElem?_toArray];rfl) ?_
    apply Cf;rfl;rfl;rfl;(first|exact AggC.s|exact OneC.s);rfl;exact Ci;exact Cg;rfl
    refine dk ?_
    refine dt 5 ?_
    refine dd ?_
    refine go ?_;intros
    refine Ee (xs:=[N7 x.Aa]) (Cz _ (by show (⟨#[]⟩:ByteArray).size≤maxLen;decide)) ?_ (by simp)
    refine ret ⟨_,_,_,_,_,_,_,_⟩ trivial rfl
   ·apply Cf;rfl;rfl;rfl;(first|exact AggC.s|exact OneC.s);rfl;exact Ci;exact Cg;rfl
    refine dk ?_
    refine dO 3 (by kernel_rfl) (by rw [List.getElem?_toArray];rfl) ?_
    apply Hh;rfl;rfl;rfl;rfl;exact Gz;exact Gp;intro _
    refine dk ?_
    refine dt 5 ?_
    refine dd ?_
    refine go ?_;intros
    refine Ee (xs:=[N7 x.Aa]) (Cz _ (by show (⟨#[]⟩:ByteArray).size≤maxLen;decide)) ?_ (by simp)
    refine ret ⟨_,_,_,_,_,_,_,_⟩ trivial rfl
  ·rw [show Jz x=⟨x.Aa,x.Ai+1,x.quiet+1,Fj x.Aa (x.Ai+1) x.holds⟩ from by unfold Jz N8;rw [if_pos (by omega)],show Kg x.Aa x.quiet=[] from if_pos (by omega)]
   refine go ?_;intros
   refine C1 Al ?_
   refine Ax (E:=Bi) fun F9=>?_
   refine Dt ⟨x.Aa,x.Ai+1,x.quiet+1,Fj x.Aa (x.Ai+1) x.holds⟩ (a1:=a5) ?_
   refine ret ⟨_,_,_,_,_,_,_,_⟩ trivial rfl
 ·apply Bv;rfl;intro _
  refine dk ?_
  refine dO 13 (by kernel_rfl) (by rw [List.getElem?_toArray];rfl) ?_
  apply At;rfl;kernel_rfl;exact Bb
  refine cf (hH _ a2 c2 _ _) fun z _=>?_
  refine Ao ?_
  refine dk ?_
  refine dt 14 ?_
  refine dO 16 (by kernel_rfl) (by rw [List.getElem?_toArray];rfl) ?_
  apply Cf;rfl;rfl;rfl;(first|exact AggC.s|exact OneC.s);rfl;exact Ci;exact Cg;rfl
  refine dk ?_
  refine dd ?_
  refine go ?_;intros
  refine Bd rfl (fun h1=>?_) (fun h1=>?_)
  ·rw [show Jz x=⟨x.Aa,x.Ai+1,0,Fj x.Aa (x.Ai+1) x.holds⟩ from by unfold Jz N8;rw [if_neg (by omega)],show Kg x.Aa x.quiet=[N7 x.Aa] from if_neg (by omega)]
   refine go ?_;intros
   refine Ax (E:=Bi) fun F9=>?_
   refine Dt ⟨x.Aa,x.Ai+1,0,Fj x.Aa (x.Ai+1) x.holds⟩ (a1:=a5) ?_
   refine Av [2,5] [] ?_
   refine dt 0 ?_
   refine dt 1 ?_
   refine dO 2 (by kernel_rfl) (by rw [List.getElem?_toArray];rfl) ?_
   apply At;rfl;kernel_rfl;exact Bb
   refine cf (Tk x.Aa.Ak x.Aa.size _ x.Aa.Aj.length _ t0 t1 (by omega)) fun _ _=>?_
   refine Ao ?_
   refine dk ?_
   refine Nn 3 4 (by kernel_rfl) (by rw [List.getElem?_toArray];rfl) (by rw [List.getElem?_toArray];rfl) ?_ ?_
   ·apply Hh;rfl;rfl;rfl;rfl;exact Gz;exact Gp;intro _
    refine dk ?_
    refine dO 4 (by kernel_rfl) (by rw [List.getElem?_toArray];rfl) ?_
    apply Cf;rfl;rfl;rfl;(first|exact AggC.s|exact OneC.s);rfl;exact Ci;exact Cg;rfl
    refine dk ?_
    refine dt 5 ?_
    refine dd ?_
    refine go ?_;intros
    refine Ee (xs:=[N7 x.Aa]) (Cz _ (by show (⟨#[]⟩:ByteArray).size≤maxLen;decide)) ?_ (by simp)
    refine ret ⟨_,_,_,_,_,_,_,_⟩ trivial rfl
   ·apply Cf;rfl;rfl;rfl;(first|exact AggC.s|exact OneC.s);rfl;exact Ci;exact Cg;rfl
    refine dk ?_
    refine dO 3 (by kernel_rfl) (by rw [List.getElem?_toArray];rfl) ?_
    apply Hh;rfl;rfl;rfl;rfl;exact Gz;exact Gp;intro _
    refine dk ?_
    refine dt 5 ?_
    refine dd ?_
    refine go ?_;intros
    refine Ee (xs:=[N7 x.Aa]) (Cz _ (by show (⟨#[]⟩:ByteArray).size≤maxLen;decide)) ?_ (by simp)
    refine ret ⟨_,_,_,_,_,_,_,_⟩ trivial rfl
  ·rw [show Jz x=⟨x.Aa,x.Ai+1,x.quiet+1,Fj x.Aa (x.Ai+1) x.holds⟩ from by unfold Jz N8;rw [if_pos (by omega)],show Kg x.Aa x.quiet=[] from if_pos (by omega)]
   refine go ?_;intros
   refine C1 Al ?_
   refine Ax (E:=Bi) fun F9=>?_
   refine Dt ⟨x.Aa,x.Ai+1,x.quiet+1,Fj x.Aa (x.Ai+1) x.holds⟩ (a1:=a5) ?_
   refine ret ⟨_,_,_,_,_,_,_,_⟩ trivial rfl
theorem Akq {x:Cj} (hg:Cb x=true):Jz x=Jy x:=by unfold Jz Jy;rw [Alu (Af7 hg)]
theorem Agq (x:Cj) (v:Value) (F:List Nat) (hg:Cb x=true) :
  Fn prog 127 [v] [.isv Dh v x F] [] (fun (_:TiS)=>True) (fun s=>.tuple #[.agg #[.int .i64 (Jy x).Aa.Ak,.int .i64 (Jy x).Aa.size,.slice s.a (Jy x).Aa.Aj.length s.c,.int .i64 (Jy x).Ai,.int .i64 (Jy x).quiet,.slice s.a2 (Jy x).holds.length s.c2],.slice s.ae (Kg x.Aa x.quiet).length s.ce])
   (fun s=>[.isv Dh (.agg #[.int .i64 (Jy x).Aa.Ak,.int .i64 (Jy x).Aa.size,.slice s.a (Jy x).Aa.Aj.length s.c,.int .i64 (Jy x).Ai,.int .i64 (Jy x).quiet,.slice s.a2 (Jy x).holds.length s.c2]) (Jy x) s.F,.ow Al 110 (.slice s.ae (Kg x.Aa x.quiet).length s.ce) (Kg x.Aa x.quiet) s.Fe]):=by
 obtain ⟨gw,hl,t0,t1,k0,k1,hm,hn,hu,hb⟩:=Mk hg
 obtain ⟨q0,q3⟩:=Ac0 hg
 have h:=Xv x v F t0 t1 hl k0 (by omega) q0 q3 (by omega) (W0 hn)
 rw [Akq hg] at h
 exact h
theorem Q2 (p:Aw) (hs:p.data.size≤maxLen):Fn prog 166 [.agg #[.int .i64 p.Cm,.int .i64 p.Ac,.int .i64 p.Ak,.int .i64 p.Dy,.string p.data]] [] [] (fun (_:Unit)=>True) (fun _=>.bool (Bk p)) (fun _=>[]):=by
 refine enter func166 rfl ntmps166 fun w0=>?_
 refine go ?_;intros
 refine ce (fun w s=>Hy _ _ _ _) ?_
 cases g1:Gs 1 p.Cm 5
 ·refine go ?_;intros
  refine ret () trivial ?_
  show Value.bool _=Value.bool _;congr 1;unfold Bk;simp [g1]
 refine go ?_;intros
 refine ce (fun w s=>Ht _ _) ?_
 cases g2:Bx p.Ac
 ·refine go ?_;intros
  refine ret () trivial ?_
  show Value.bool _=Value.bool _;congr 1;unfold Bk;simp [g2]
 refine go ?_;intros
 refine ce (fun w s=>Ht _ _) ?_
 cases g3:Bx p.Ak
 ·refine go ?_;intros
  refine ret () trivial ?_
  show Value.bool _=Value.bool _;congr 1;unfold Bk;simp [g3]
 refine go ?_;intros
 refine ce (fun w s=>Ht _ _) ?_
 cases g4:Bx p.Dy
 ·refine go ?_;intros
  refine ret () trivial ?_
  show Value.bool _=Value.bool _;congr 1;unfold Bk;simp [g4]
 refine go ?_;intros
 refine cb (fun w s=>Ua _ _ hs) ?_
 cases g5:Nq p.data
 ·refine go ?_;intros
  refine ret () trivial ?_
  show Value.bool _=Value.bool _;congr 1;unfold Bk;simp [g5]
 obtain ⟨t0,t1⟩:=A4.1 g3
 obtain ⟨l0,l1⟩:=A4.1 g4
 refine go ?_;intros
 refine ce (fun w s=>Lx _ _ _ (by omega) (by omega) (by omega) (by omega)) ?_
 refine go ?_;intros
 refine Cw rfl rfl (fun h6=>?_) (fun h6=>?_)
 ·refine go ?_;intros
  refine Cw rfl rfl (fun h7=>?_) (fun h7=>?_)
  ·refine go ?_;intros
   refine ret () trivial ?_
   show Value.bool _=Value.bool _;congr 1;unfold Bk;rw [g1,g2,g3,g4,g5,decide_eq_true h6,decide_eq_true h7];rfl
  refine go ?_;intros
  refine Cw rfl rfl (fun h8=>?_) (fun h8=>?_)
  ·refine go ?_;intros
   refine ret () trivial ?_
   show Value.bool _=Value.bool _;congr 1;unfold Bk;rw [g1,g2,g3,g4,g5,decide_eq_true h6,decide_eq_true h8];simp
  ·refine go ?_;intros
   refine ret () trivial ?_
   show Value.bool _=Value.bool _;congr 1;unfold Bk;rw [g1,g2,g3,g4,g5,decide_eq_true h6,decide_eq_false h7,decide_eq_false h8];rfl
 ·refine go ?_;intros
  refine ret () trivial ?_
  show Value.bool _=Value.bool _;congr 1;unfold Bk;simp [h6]
theorem Acj (p:Aw) (hs:p.data.size≤maxLen):Fn prog 213 [.agg #[.int .i64 p.Cm,.int .i64 p.Ac,.int .i64 p.Ak,.int .i64 p.Dy,.string p.data]] [] [] (fun (_:Unit)=>True) (fun _=>.bool (Bk p)) (fun _=>[]):=by
 refine enter func213 rfl ntmps213 fun w0=>?_
 refine go ?_;intros
 refine ce (fun w s=>I2 _ _ _ _) ?_
 cases g1:Gs 1 p.Cm 5
 ·refine go ?_;intros
  refine ret () trivial ?_
  show Value.bool _=Value.bool _;congr 1;unfold Bk;simp [g1]
 refine go ?_;intros
 refine ce (fun w s=>Kq _ _) ?_
 cases g2:Bx p.Ac
 ·refine go ?_;intros
  refine ret () trivial ?_
  show Value.bool _=Value.bool _;congr 1;unfold Bk;simp [g2]
 refine go ?_;intros
 refine ce (fun w s=>Kq _ _) ?_
 cases g3:Bx p.Ak
 ·refine go ?_;intros
  refine ret () trivial ?_
  show Value.bool _=Value.bool _;congr 1;unfold Bk;simp [g3]
 refine go ?_;intros
 refine ce (fun w s=>Kq _ _) ?_
 cases g4:Bx p.Dy
 ·refine go ?_;intros
  refine ret () trivial ?_
  show Value.bool _=Value.bool _;congr 1;unfold Bk;simp [g4]
 obtain ⟨t0,t1⟩:=A4.1 g3
 obtain ⟨l0,l1⟩:=A4.1 g4
 refine go ?_;intros
 refine ce (fun w s=>Hl _ _ _ (by omega) (by omega)) ?_
 refine go ?_;intros
 refine Cw rfl rfl (fun h6=>?_) (fun h6=>?_)
 ·refine go ?_;intros
  refine ret () trivial ?_
  have h6:¬gp p.Ak p.Dy≤32767:=by omega
  show Value.bool _=Value.bool _;congr 1;unfold Bk;simp [h6]
 have h6:gp p.Ak p.Dy≤32767:=by omega
 refine go ?_;intros
 refine ce (fun w s=>Nr _ _ _ hs) ?_
 rw [show (decide ((p.data.size:Int)≤8) && Qn p.data.data.toList)=Nq p.data from rfl]
 cases g5:Nq p.data
 ·refine go ?_;intros
  refine ret () trivial ?_
  show Value.bool _=Value.bool _;congr 1;unfold Bk;simp [g5]
 refine go ?_;intros
 refine Cw rfl rfl (fun h7=>?_) (fun h7=>?_)
 ·refine go ?_;intros
  refine ret () trivial ?_
  show Value.bool _=Value.bool _;congr 1;unfold Bk;rw [g1,g2,g3,g4,g5,decide_eq_true h6,decide_eq_true h7];rfl
 refine go ?_;intros
 refine Cw rfl rfl (fun h8=>?_) (fun h8=>?_)
 ·refine go ?_;intros
  refine ret () trivial ?_
  show Value.bool _=Value.bool _;congr 1;unfold Bk;rw [g1,g2,g3,g4,g5,decide_eq_true h6,decide_eq_true h8];simp
 ·refine go ?_;intros
  refine ret () trivial ?_
  show Value.bool _=Value.bool _;congr 1;unfold Bk;rw [g1,g2,g3,g4,g5,decide_eq_true h6,decide_eq_false h7,decide_eq_false h8];rfl
theorem Iy {x:Az} {p:Aw} (h:Hx x p=false):Da x p=(zPk,false):=by unfold Da;rw [h];rfl
theorem Su {x:Az} {p:Aw} (h:Hx x p=true):Da x p=(Abx x p.Ac,true):=by unfold Da;rw [h];rfl
theorem T9 {x:Az} {n:Int} (h:Gw x n=true):(gp x.Ak n).toNat < x.Aj.length:=by
 have b:=Iu x.Ak n
 unfold Gw at h
 simp only [decide_eq_true_eq] at h
 omega
theorem Py {x:Az} {n:Int} (h:(gp x.Ak n).toNat < x.Aj.length):Tg x n=x.Aj[(gp x.Ak n).toNat]:=by
 unfold Tg
 rw [List.getD_eq_getElem?_getD,List.getElem?_eq_getElem h];rfl
theorem W1 (x:Az) (p:Aw) (v:Value) (F:List Nat) (hs:p.data.size≤maxLen):Fn prog 248 [v,.agg #[.int .i64 p.Cm,.int .i64 p.Ac,.int .i64 p.Ak,.int .i64 p.Dy,.string p.data]] [.isv Br v x F] [] (fun (_:Unit)=>True) (fun _=>.tuple #[.agg #[.int .i64 (Da x p).1.Cm,.int .i64 (Da x p).1.Ac,.int .i64 (Da x p).1.Ak,.int .i64 (Da x p).1.Dy,.string (Da x p).1.data],.bool (Da x p).2]) (fun _=>[]):=by
 refine enter func248 rfl ntmps248 fun w0=>?_
 refine D6 ?_
 rintro a1 c1 F1 rfl l1
 refine go ?_;intros
 refine cb (fun w st=>N6 _ x _ w (st.get (p:=.isv Br (.agg #[.int .i64 x.Ak,.int .i64 x.size,.slice a1 x.Aj.length c1]) x F) (by simp))) ?_
 cases g1:Dj x
 ·refine go ?_;intros
  rw [Iy (by unfold Hx;rw [g1];rfl)]
  refine ret () trivial rfl
 obtain ⟨⟨t0,t1⟩,⟨z0,z1⟩,hl,hi⟩:=Ea.1 g1
 have hl6:x.Aj.length≤6:=by omega
 refine go ?_;intros
 refine cf (Q2 p hs) fun _ _=>?_
 refine Ao ?_
 cases g2:Bk p
 ·refine go ?_;intros
  rw [Iy (by unfold Hx;rw [g1,g2];rfl)]
  refine ret () trivial rfl
 obtain ⟨n0,n1⟩:=If g2
 refine go ?_;intros
 refine Cw rfl rfl (fun h3=>?_) (fun h3=>?_)
 ·refine go ?_;intros
  rw [Iy (by unfold Hx;rw [g1,g2,decide_eq_false h3];rfl)]
  refine ret () trivial rfl
 have h3:=Decidable.not_not.1 h3
 refine go ?_;intros
 refine cb (fun w st=>(Ri x p.Ac _ F t0 t1 n0 n1).val w (Ia (st.get (p:=.isv Br (.agg #[.int .i64 x.Ak,.int .i64 x.size,.slice a1 x.Aj.length c1]) x F) (by simp)))) ?_
 cases g3:Gw x p.Ac
 ·refine go ?_;intros
  rw [Iy (by unfold Hx;rw [g1,g2,g3];simp)]
  refine ret () trivial rfl
 rw [Su (by unfold Hx;rw [g1,g2,g3,decide_eq_true h3];rfl)]
 have b:=Iu x.Ak p.Ac
 have hk3:=T9 g3
 rw [show Abx x p.Ac=⟨2,p.Ac,x.Ak,Kr x,x.Aj[(gp x.Ak p.Ac).toNat]⟩ by unfold Abx;rw [Py hk3]]
 refine Ux (xs:=x.Aj) (gp x.Ak p.Ac).toNat ?_
 rintro hi b2 o2 e s1
 rw [e]
 refine Jq ?_;intros
 refine Av [0,2,3] [] ?_
 refine dt 0 ?_
 refine dt 1 ?_
 refine dt 2 ?_
 refine dt 3 ?_
 refine dt 4 ?_
 refine dt 6 ?_
 refine dt 7 ?_
 refine dt 8 ?_
 refine dt 9 ?_
 refine dt 10 ?_
 refine dt 11 ?_
 refine dO 5 (by kernel_rfl) (by rw [List.getElem?_toArray];rfl) ?_
 apply At;rfl;kernel_rfl;exact Bb
 refine cb (fun w _=>Iq _ _ _ _ _ w t0 t1 (by omega)) ?_
 refine dk ?_
 refine dO 12 (by kernel_rfl) (by rw [List.getElem?_toArray];rfl) ?_
 apply At;rfl;kernel_rfl;exact Bb
 refine ce (fun w s=>Lx _ _ _ (by omega) (by omega) (by omega) (by omega)) ?_
 refine dk ?_
 refine dt 13 ?_
 refine dt 14 ?_
 refine dt 15 ?_
 refine dO 16 (by kernel_rfl) (by rw [List.getElem?_toArray];rfl) ?_
 apply Cf;rfl;rfl;rfl;(first|exact AggC.s|exact OneC.s);rfl;exact Ci;exact Cg;rfl
 refine dk ?_
 refine dt 17 ?_
 refine dd ?_
 refine go ?_;intros
 refine ret () trivial rfl
theorem Yo (x:Az) (p:Aw) (v:Value) (F:List Nat) (hs:p.data.size≤maxLen):Fn prog 188 [v,.agg #[.int .i64 p.Cm,.int .i64 p.Ac,.int .i64 p.Ak,.int .i64 p.Dy,.string p.data]] [.isv Br v x F] [] (fun (_:Unit)=>True) (fun _=>.tuple #[.agg #[.int .i64 (Da x p).1.Cm,.int .i64 (Da x p).1.Ac,.int .i64 (Da x p).1.Ak,.int .i64 (Da x p).1.Dy,.string (Da x p).1.data],.bool (Da x p).2]) (fun _=>[]):=by
 refine enter func188 rfl ntmps188 fun w0=>?_
 refine D6 ?_
 rintro a1 c1 F1 rfl l1
 refine go ?_;intros
 refine cb (fun w st=>Ack _ x _ w (st.get (p:=.isv Br (.agg #[.int .i64 x.Ak,.int .i64 x.size,.slice a1 x.Aj.length c1]) x F) (by simp))) ?_
 cases g1:Dj x
 ·refine go ?_;intros
  rw [Iy (by unfold Hx;rw [g1];rfl)]
  refine ret () trivial rfl
 obtain ⟨⟨t0,t1⟩,⟨z0,z1⟩,hl,hi⟩:=Ea.1 g1
 have hl6:x.Aj.length≤6:=by omega
 refine go ?_;intros
 refine cf (Acj p hs) fun _ _=>?_
 refine Ao ?_
 cases g2:Bk p
 ·refine go ?_;intros
  rw [Iy (by unfold Hx;rw [g1,g2];rfl)]
  refine ret () trivial rfl
 obtain ⟨n0,n1⟩:=If g2
 refine go ?_;intros
 refine Cw rfl rfl (fun h3=>?_) (fun h3=>?_)
 ·refine go ?_;intros
  rw [Iy (by unfold Hx;rw [g1,g2,decide_eq_false h3];rfl)]
  refine ret () trivial rfl
 have h3:=Decidable.not_not.1 h3
 refine go ?_;intros
 refine cb (fun w st=>(Acl x p.Ac _ F t0 t1 n0 n1).val w (Ia (st.get (p:=.isv Br (.agg #[.int .i64 x.Ak,.int .i64 x.size,.slice a1 x.Aj.length c1]) x F) (by simp)))) ?_
 cases g3:Gw x p.Ac
 ·refine go ?_;intros
  rw [Iy (by unfold Hx;rw [g1,g2,g3];simp)]
  refine ret () trivial rfl
 rw [Su (by unfold Hx;rw [g1,g2,g3,decide_eq_true h3];rfl)]
 have b:=Iu x.Ak p.Ac
 have hk3:=T9 g3
 rw [show Abx x p.Ac=⟨2,p.Ac,x.Ak,Kr x,x.Aj[(gp x.Ak p.Ac).toNat]⟩ by unfold Abx;rw [Py hk3]]
 refine Ux (xs:=x.Aj) (gp x.Ak p.Ac).toNat ?_
 rintro hi b2 o2 e s1
 rw [e]
 refine Jq ?_;intros
 refine Av [0,2,3] [] ?_
 refine dt 0 ?_
 refine dt 1 ?_
 refine dt 2 ?_
 refine dt 3 ?_
 refine dt 4 ?_
 refine dt 6 ?_
 refine dt 7 ?_
 refine dt 8 ?_
 refine dt 9 ?_
 refine dt 10 ?_
 refine dt 11 ?_
 refine dO 5 (by kernel_rfl) (by rw [List.getElem?_toArray];rfl) ?_
 apply At;rfl;kernel_rfl;exact Bb
 refine cb (fun w _=>Rm _ _ _ _ _ w t0 t1 (by omega)) ?_
 refine dk ?_
 refine dO 12 (by kernel_rfl) (by rw [List.getElem?_toArray];rfl) ?_
 apply At;rfl;kernel_rfl;exact Bb
 refine ce (fun w s=>Hl _ _ _ (by omega) (by omega)) ?_
 refine dk ?_
 refine dt 13 ?_
 refine dt 14 ?_
 refine dt 15 ?_
 refine dO 16 (by kernel_rfl) (by rw [List.getElem?_toArray];rfl) ?_
 apply Cf;rfl;rfl;rfl;(first|exact AggC.s|exact OneC.s);rfl;exact Ci;exact Cg;rfl
 refine dk ?_
 refine dt 17 ?_
 refine dd ?_
 refine go ?_;intros
 refine ret () trivial rfl
end Go.Proofs.YtaemjogbahcbcaaGreatDoor
