/- Part 3 of the proof: 37 texts, one behind the other. -/
import Derived.Laws.StructEq
import Derived.Test.YtgogcgkocjpgoaaGreatDoorCards
import Derived.Test.YtgogcgkocjpgoaaGreatDoorTie
import Derived.LaidMore
import Derived.Lay
import Derived.SevenTiedAt
import Derived.Stop.Joined
import Derived.Test.YtgogcgkocjpgoaaGreatDoorM2
/- Requests: a tick. -/
namespace Go.Proofs.YtgogcgkocjpgoaaGreatDoor
open Go.RowKit
theorem fm_succ {α β : Type} {f : α → Option β} {l : List α} {k : Nat} (h : k < l.length) : (l.take (k + 1)).filterMap f = (l.take k).filterMap f ++ (f l[k]).toList := by
  rw [List.take_add_one, List.getElem?_eq_getElem h, List.filterMap_append]
  cases hf : f l[k] <;> simp [hf]
theorem fm_len {α β : Type} (f : α → Option β) (l : List α) (k : Nat) : ((l.take k).filterMap f).length ≤ k := by
  have := List.length_filterMap_le f (l.take k)
  rw [List.length_take] at this; omega
structure TkS where
  k : Nat
  a : Option Addr
  c : Nat
  F : List Nat
  a2 : Option Addr
  c2 : Nat
  F2 : List Nat
  a3 : Option Addr
  c3 : Nat
  F3 : List Nat
set_option maxRecDepth 100000 in
set_option maxHeartbeats 800000 in
theorem tickRequests_f (l : List Request) (c d : Int) (a0 : Option Addr) (c0 : Nat) (F : List Nat) (hl : l.length ≤ 1000000) (ht : ∀ r ∈ l, 0 ≤ r.tries ∧ r.tries ≤ 3) (c0_ : 0 ≤ c) (c1_ : c ≤ 1000000) (d0_ : -1000000 ≤ d) (d1_ : d ≤ 1000000) :
    Fn Tryz.prog 198 [.slice a0 l.length c0, .int .i64 c, .int .i64 d] [.sl ERequest (.slice a0 l.length c0) l F] [] (fun (_ : TkS) => True) (fun s => .tuple #[.slice s.a (l.filterMap (tkO c d)).length s.c, .slice s.a2 (l.filterMap (tkS c)).length s.c2, .slice s.a3 (l.filterMap (tkL c)).length s.c3]) (fun s => [.ow ERequest 152 (.slice s.a (l.filterMap (tkO c d)).length s.c) (l.filterMap (tkO c d)) s.F, .ow EInt 3 (.slice s.a2 (l.filterMap (tkS c)).length s.c2) (l.filterMap (tkS c)) s.F2, .ow EInt 3 (.slice s.a3 (l.filterMap (tkL c)).length s.c3) (l.filterMap (tkL c)) s.F3]) := by
  refine enter Tryz.func198 rfl Tryz.ntmps198 fun w0 => ?_
  refine go ?_; intros
  refine t_nilow ERequest 152 ?_
  refine t_nilow EInt 3 ?_
  refine t_nilow EInt 3 ?_
  refine c_loopS [1, 2, 6, 7, 8, 14, 15] (fun s : TkS => [(16, .int .i64 (s.k : Nat)), (9, .slice s.a ((l.take s.k).filterMap (tkO c d)).length s.c), (10, .slice s.a2 ((l.take s.k).filterMap (tkS c)).length s.c2), (11, .slice s.a3 ((l.take s.k).filterMap (tkL c)).length s.c3)]) (fun s => [.ow ERequest 152 (.slice s.a ((l.take s.k).filterMap (tkO c d)).length s.c) ((l.take s.k).filterMap (tkO c d)) s.F, .ow EInt 3 (.slice s.a2 ((l.take s.k).filterMap (tkS c)).length s.c2) ((l.take s.k).filterMap (tkS c)) s.F2, .ow EInt 3 (.slice s.a3 ((l.take s.k).filterMap (tkL c)).length s.c3) ((l.take s.k).filterMap (tkL c)) s.F3]) (fun s => s.k ≤ l.length) (fun s => l.length - s.k) ⟨0, _, _, _, _, _, _, _, _, _⟩ (Nat.zero_le _) fun s hs => ?_
  obtain ⟨k, a4, c4, F4, a5, c5, F5, a6, c6, F6⟩ := s
  dsimp only at hs ⊢
  have h1 := fm_len (tkO c d) l k
  have h2 := fm_len (tkS c) l k
  have h3 := fm_len (tkL c) l k
  refine go ?_; intros
  refine c_if rfl (fun h4 => ?_) (fun h4 => ?_)
  · have hk : k < l.length := by omega
    obtain ⟨t0, t1⟩ := ht _ (List.getElem_mem hk)
    refine atRequest (xs := l) k ?_
    rintro hi b o e
    rw [e]
    refine go ?_; intros
    refine c_if rfl (fun h5 => ?_) (fun h5 => ?_)
    · have h5' : c < l[k].untl := by omega
      refine go ?_; intros
      have eo : ((l.take (k + 1)).filterMap (tkO c d)) = ((l.take k).filterMap (tkO c d)) ++ [l[k]] := by rw [fm_succ hk]; simp [tkO, h5']
      have es : ((l.take (k + 1)).filterMap (tkS c)) = ((l.take k).filterMap (tkS c)) := by rw [fm_succ hk]; simp [tkS, h5']
      have el : ((l.take (k + 1)).filterMap (tkL c)) = ((l.take k).filterMap (tkL c)) := by rw [fm_succ hk]; simp [tkL, h5']
      apply wO
      refine ap1 (ys := [l[k]]) (flatRequest l[k]) one_ERequest fun a7 c7 F7 => ?_
      refine go ?_; intros
      rw [← eo, ← es, ← el]
      refine n_lp (⟨k + 1, _, _, _, _, _, _, _, _, _⟩ : TkS) (by show k + 1 ≤ l.length; omega) (by show l.length - (k + 1) < l.length - k; omega)
    refine go ?_; intros
    refine c_if rfl (fun h6 => ?_) (fun h6 => ?_)
    · refine go ?_; intros
      have eo : ((l.take (k + 1)).filterMap (tkO c d)) = ((l.take k).filterMap (tkO c d)) := by rw [fm_succ hk]; simp [tkO, h5, h6]
      have es : ((l.take (k + 1)).filterMap (tkS c)) = ((l.take k).filterMap (tkS c)) := by rw [fm_succ hk]; simp [tkS, h5, h6]
      have el : ((l.take (k + 1)).filterMap (tkL c)) = ((l.take k).filterMap (tkL c)) ++ [l[k].number] := by rw [fm_succ hk]; simp [tkL, h5, h6]
      apply wO
      refine ap1 (ys := [l[k].number]) (rep_int _) one_EInt fun a8 c8 F8 => ?_
      refine go ?_; intros
      rw [← eo, ← es, ← el]
      refine n_lp (⟨k + 1, _, _, _, _, _, _, _, _, _⟩ : TkS) (by show k + 1 ≤ l.length; omega) (by show l.length - (k + 1) < l.length - k; omega)
    refine go ?_; intros
    refine c_if rfl (fun h7 => ?_) (fun h7 => ?_)
    · refine go ?_; intros
      have eo : ((l.take (k + 1)).filterMap (tkO c d)) = ((l.take k).filterMap (tkO c d)) ++ [(⟨l[k].number, 2, c + 3, l[k].tries + 1⟩ : Request)] := by rw [fm_succ hk]; simp [tkO, h5, h6, h7]
      have es : ((l.take (k + 1)).filterMap (tkS c)) = ((l.take k).filterMap (tkS c)) ++ [l[k].number] := by rw [fm_succ hk]; simp [tkS, h5, h6, h7]
      have el : ((l.take (k + 1)).filterMap (tkL c)) = ((l.take k).filterMap (tkL c)) := by rw [fm_succ hk]; simp [tkL, h5, h6, h7]
      apply wO
      refine ap1 (ys := [l[k].number]) (rep_int _) one_EInt fun a8 c8 F8 => ?_
      refine go ?_; intros
      apply wO
      refine ap1 (ys := [(⟨l[k].number, 2, c + 3, l[k].tries + 1⟩ : Request)]) (flatRequest (⟨l[k].number, 2, c + 3, l[k].tries + 1⟩ : Request)) one_ERequest fun a7 c7 F7 => ?_
      refine go ?_; intros
      rw [← eo, ← es, ← el]
      refine n_lp (⟨k + 1, _, _, _, _, _, _, _, _, _⟩ : TkS) (by show k + 1 ≤ l.length; omega) (by show l.length - (k + 1) < l.length - k; omega)
    · refine go ?_; intros
      have eo : ((l.take (k + 1)).filterMap (tkO c d)) = ((l.take k).filterMap (tkO c d)) ++ [(⟨l[k].number, 1, c + d, l[k].tries⟩ : Request)] := by rw [fm_succ hk]; simp [tkO, h5, h6, h7]
      have es : ((l.take (k + 1)).filterMap (tkS c)) = ((l.take k).filterMap (tkS c)) := by rw [fm_succ hk]; simp [tkS, h5, h6, h7]
      have el : ((l.take (k + 1)).filterMap (tkL c)) = ((l.take k).filterMap (tkL c)) := by rw [fm_succ hk]; simp [tkL, h5, h6, h7]
      apply wO
      refine ap1 (ys := [(⟨l[k].number, 1, c + d, l[k].tries⟩ : Request)]) (flatRequest (⟨l[k].number, 1, c + d, l[k].tries⟩ : Request)) one_ERequest fun a7 c7 F7 => ?_
      refine go ?_; intros
      rw [← eo, ← es, ← el]
      refine n_lp (⟨k + 1, _, _, _, _, _, _, _, _, _⟩ : TkS) (by show k + 1 ≤ l.length; omega) (by show l.length - (k + 1) < l.length - k; omega)
  · obtain rfl : k = l.length := by omega
    rw [List.take_length]
    refine go ?_; intros
    refine ret ⟨0, _, _, _, _, _, _, _, _, _⟩ trivial rfl
set_option maxRecDepth 100000 in
set_option maxHeartbeats 800000 in
theorem l12Tick_f (l : List Request) (c d : Int) (a0 : Option Addr) (c0 : Nat) (F : List Nat) (hl : l.length ≤ 1000000) (ht : ∀ r ∈ l, 0 ≤ r.tries ∧ r.tries ≤ 3) (c0_ : 0 ≤ c) (c1_ : c ≤ 1000000) (d0_ : -1000000 ≤ d) (d1_ : d ≤ 1000000) :
    Fn Tryz.prog 191 [.slice a0 l.length c0, .int .i64 c, .int .i64 d] [.sl ERequest (.slice a0 l.length c0) l F] [] (fun (_ : TkS) => True) (fun s => .tuple #[.slice s.a (l.filterMap (tkO c d)).length s.c, .slice s.a2 (l.filterMap (tkS c)).length s.c2, .slice s.a3 (l.filterMap (tkL c)).length s.c3]) (fun s => [.ow ERequest 152 (.slice s.a (l.filterMap (tkO c d)).length s.c) (l.filterMap (tkO c d)) s.F, .ow EInt 3 (.slice s.a2 (l.filterMap (tkS c)).length s.c2) (l.filterMap (tkS c)) s.F2, .ow EInt 3 (.slice s.a3 (l.filterMap (tkL c)).length s.c3) (l.filterMap (tkL c)) s.F3]) := by
  refine enter Tryz.func191 rfl Tryz.ntmps191 fun w0 => ?_
  refine go ?_; intros
  refine t_emp EInt ?_
  refine t_emp EInt ?_
  refine t_emp ERequest ?_
  refine c_loopS [0, 1, 2, 6, 7, 8] (fun s : TkS => [(12, .int .i64 (s.k : Nat)), (9, .slice s.a ((l.take s.k).filterMap (tkO c d)).length s.c), (10, .slice s.a2 ((l.take s.k).filterMap (tkS c)).length s.c2), (11, .slice s.a3 ((l.take s.k).filterMap (tkL c)).length s.c3)]) (fun s => [.ow ERequest 152 (.slice s.a ((l.take s.k).filterMap (tkO c d)).length s.c) ((l.take s.k).filterMap (tkO c d)) s.F, .ow EInt 3 (.slice s.a2 ((l.take s.k).filterMap (tkS c)).length s.c2) ((l.take s.k).filterMap (tkS c)) s.F2, .ow EInt 3 (.slice s.a3 ((l.take s.k).filterMap (tkL c)).length s.c3) ((l.take s.k).filterMap (tkL c)) s.F3]) (fun s => s.k ≤ l.length) (fun s => l.length - s.k) ⟨0, _, _, _, _, _, _, _, _, _⟩ (Nat.zero_le _) fun s hs => ?_
  obtain ⟨k, a4, c4, F4, a5, c5, F5, a6, c6, F6⟩ := s
  dsimp only at hs ⊢
  have h1 := fm_len (tkO c d) l k
  have h2 := fm_len (tkS c) l k
  have h3 := fm_len (tkL c) l k
  refine go ?_; intros
  refine c_if rfl (fun h4 => ?_) (fun h4 => ?_)
  · have hk : k < l.length := by omega
    obtain ⟨t0, t1⟩ := ht _ (List.getElem_mem hk)
    refine atRequest (xs := l) k ?_
    rintro hi b o e
    rw [e]
    refine go ?_; intros
    refine c_if rfl (fun h5 => ?_) (fun h5 => ?_)
    · have h5' : c < l[k].untl := by omega
      refine go ?_; intros
      have eo : ((l.take (k + 1)).filterMap (tkO c d)) = ((l.take k).filterMap (tkO c d)) ++ [l[k]] := by rw [fm_succ hk]; simp [tkO, h5']
      have es : ((l.take (k + 1)).filterMap (tkS c)) = ((l.take k).filterMap (tkS c)) := by rw [fm_succ hk]; simp [tkS, h5']
      have el : ((l.take (k + 1)).filterMap (tkL c)) = ((l.take k).filterMap (tkL c)) := by rw [fm_succ hk]; simp [tkL, h5']
      apply wO
      refine ap1 (ys := [l[k]]) (flatRequest l[k]) one_ERequest fun a7 c7 F7 => ?_
      refine go ?_; intros
      rw [← eo, ← es, ← el]
      refine n_lp (⟨k + 1, _, _, _, _, _, _, _, _, _⟩ : TkS) (by show k + 1 ≤ l.length; omega) (by show l.length - (k + 1) < l.length - k; omega)
    refine go ?_; intros
    refine c_if rfl (fun h6 => ?_) (fun h6 => ?_)
    · refine go ?_; intros
      have eo : ((l.take (k + 1)).filterMap (tkO c d)) = ((l.take k).filterMap (tkO c d)) := by rw [fm_succ hk]; simp [tkO, h5, h6]
      have es : ((l.take (k + 1)).filterMap (tkS c)) = ((l.take k).filterMap (tkS c)) := by rw [fm_succ hk]; simp [tkS, h5, h6]
      have el : ((l.take (k + 1)).filterMap (tkL c)) = ((l.take k).filterMap (tkL c)) ++ [l[k].number] := by rw [fm_succ hk]; simp [tkL, h5, h6]
      apply wO
      refine ap1 (ys := [l[k].number]) (rep_int _) one_EInt fun a8 c8 F8 => ?_
      refine go ?_; intros
      rw [← eo, ← es, ← el]
      refine n_lp (⟨k + 1, _, _, _, _, _, _, _, _, _⟩ : TkS) (by show k + 1 ≤ l.length; omega) (by show l.length - (k + 1) < l.length - k; omega)
    refine go ?_; intros
    refine c_if rfl (fun h7 => ?_) (fun h7 => ?_)
    · refine go ?_; intros
      have eo : ((l.take (k + 1)).filterMap (tkO c d)) = ((l.take k).filterMap (tkO c d)) ++ [(⟨l[k].number, 2, c + 3, l[k].tries + 1⟩ : Request)] := by rw [fm_succ hk]; simp [tkO, h5, h6, h7]
      have es : ((l.take (k + 1)).filterMap (tkS c)) = ((l.take k).filterMap (tkS c)) ++ [l[k].number] := by rw [fm_succ hk]; simp [tkS, h5, h6, h7]
      have el : ((l.take (k + 1)).filterMap (tkL c)) = ((l.take k).filterMap (tkL c)) := by rw [fm_succ hk]; simp [tkL, h5, h6, h7]
      apply wO
      refine ap1 (ys := [l[k].number]) (rep_int _) one_EInt fun a8 c8 F8 => ?_
      refine go ?_; intros
      apply wO
      refine ap1 (ys := [(⟨l[k].number, 2, c + 3, l[k].tries + 1⟩ : Request)]) (flatRequest (⟨l[k].number, 2, c + 3, l[k].tries + 1⟩ : Request)) one_ERequest fun a7 c7 F7 => ?_
      refine go ?_; intros
      rw [← eo, ← es, ← el]
      refine n_lp (⟨k + 1, _, _, _, _, _, _, _, _, _⟩ : TkS) (by show k + 1 ≤ l.length; omega) (by show l.length - (k + 1) < l.length - k; omega)
    · refine go ?_; intros
      have eo : ((l.take (k + 1)).filterMap (tkO c d)) = ((l.take k).filterMap (tkO c d)) ++ [(⟨l[k].number, 1, c + d, l[k].tries⟩ : Request)] := by rw [fm_succ hk]; simp [tkO, h5, h6, h7]
      have es : ((l.take (k + 1)).filterMap (tkS c)) = ((l.take k).filterMap (tkS c)) := by rw [fm_succ hk]; simp [tkS, h5, h6, h7]
      have el : ((l.take (k + 1)).filterMap (tkL c)) = ((l.take k).filterMap (tkL c)) := by rw [fm_succ hk]; simp [tkL, h5, h6, h7]
      apply wO
      refine ap1 (ys := [(⟨l[k].number, 1, c + d, l[k].tries⟩ : Request)]) (flatRequest (⟨l[k].number, 1, c + d, l[k].tries⟩ : Request)) one_ERequest fun a7 c7 F7 => ?_
      refine go ?_; intros
      rw [← eo, ← es, ← el]
      refine n_lp (⟨k + 1, _, _, _, _, _, _, _, _, _⟩ : TkS) (by show k + 1 ≤ l.length; omega) (by show l.length - (k + 1) < l.length - k; omega)
  · obtain rfl : k = l.length := by omega
    rw [List.take_length]
    refine go ?_; intros
    refine ret ⟨0, _, _, _, _, _, _, _, _, _⟩ trivial rfl
end Go.Proofs.YtgogcgkocjpgoaaGreatDoor
/- Receivers: a tick of the program. -/
namespace Go.Proofs.YtgogcgkocjpgoaaGreatDoor
open Go.RowKit
set_option maxRecDepth 100000 in
theorem Rclone_f (x : Receiver) (v : Value) (F : List Nat) (hl : x.window.slots.length ≤ 1000000000) (hl2 : x.requests.length ≤ 1000000000) : Fn Tryz.prog 108 [v] [.isv EReceiver v x F] [] (fun (_ : Value × List Nat) => True) (fun s => s.1) (fun s => [.own OReceiver s.1 x s.2]) := by
  refine enter Tryz.func108 rfl Tryz.ntmps108 fun w0 => ?_
  refine openReceiver ?_
  rintro a1 c1 F1 a2 c2 F2 rfl l1 l2
  refine closeReceiveWindow x.window ?_
  generalize F1 = F3
  refine go ?_; intros
  refine cf (RWclone_f x.window _ F3 (by omega)) fun z _ => ?_
  refine t_app ?_
  refine go ?_; intros
  refine cf (ClRequest_f x.requests a2 c2 F2 hl2) fun q _ => ?_
  refine t_app ?_
  refine go ?_; intros
  refine closeOReceiver x ?_
  refine ret (_, _) trivial rfl
theorem wb1_f (r : Request) (n : Int) (gb : Nat) (h0 : isSer r.number = true) (h1 : 0 ≤ n) (h2 : n ≤ 65535) : Fn Tryz.prog 256 [.agg #[.int .i64 r.number, .int .i64 r.state, .int .i64 r.untl, .int .i64 r.tries], ptr gb 0 0] [.cel gb 0 [.int .i64 n]] [] (fun (_ : Unit) => True) (fun _ => .bool (bef r.number n)) (fun _ => []) := by
  obtain ⟨n0, n1⟩ := isSer_iff.1 h0
  refine enter Tryz.func256 rfl Tryz.ntmps256 fun w0 => ?_
  refine go ?_; intros
  refine ce (fun w s => isBefore_c _ _ _ (by omega) (by omega) (by omega) (by omega)) ?_
  refine go ?_; intros
  refine ret () trivial rfl
theorem withoutBefore_f (l : List Request) (n : Int) (a : Option Addr) (c : Nat) (F : List Nat) (hl : l.length ≤ 1000000000) (hs : ∀ q ∈ l, isSer q.number = true) (h1 : 0 ≤ n) (h2 : n ≤ 65535) : Fn Tryz.prog 200 [.slice a l.length c, .int .i64 n] [.sl ERequest (.slice a l.length c) l F] [] (fun (_ : Option Addr × Nat × List Nat) => True) (fun z => .slice z.1 (noBef l n).length z.2.1) (fun z => [.ow ERequest 152 (.slice z.1 (noBef l n).length z.2.1) (noBef l n) z.2.2]) := by
  refine enter Tryz.func200 rfl Tryz.ntmps200 fun w0 => ?_
  refine go ?_; intros
  rename_i gb
  refine cf (ClRequest_f l a c F hl) fun q _ => ?_
  refine t_app ?_
  refine t_rocel (cs := [.int .i64 n]) ?_ (by simp)
  refine go ?_; intros
  refine cf (DelReq_f 256 [] [ptr gb 0 0] [.cel gb 0 [.int .i64 n]] rfl l q.1 q.2.1 q.2.2 (fun z => bef z.number n) (by kernel_rfl) hl (fun z hz w hA => (wb1_f z n gb (hs z hz) h1 h2).val w hA)) fun z _ => ?_
  refine t_app ?_
  refine go ?_; intros
  refine ret (z.1, z.2.1, z.2.2) trivial rfl
theorem tkReq_len (r : Receiver) (d : Int) : (tkReq r d).length ≤ r.requests.length := List.length_filterMap_le _ _
theorem tkLost_len (r : Receiver) : (tkLost r).length ≤ r.requests.length := List.length_filterMap_le _ _
theorem tickR_no {r : Receiver} {d : Int} (h : tkLost r = []) : tickRec r d = ⟨r.started, r.clock + 1, r.window, tkReq r d⟩ := if_pos h
theorem tickR_yes {r : Receiver} {d : Int} (h : tkLost r ≠ []) : tickRec r d = ⟨r.started, r.clock + 1, movedW r.window (lostTrail (tkLost r)), noBef (tkReq r d) (movedW r.window (lostTrail (tkLost r))).next⟩ := if_neg h
theorem tickE_no {r : Receiver} (h : tkLost r = []) : tickEv r = [] := if_pos h
theorem tickE_yes {r : Receiver} (h : tkLost r ≠ []) : tickEv r = movedE r.window (lostTrail (tkLost r)) := if_neg h
theorem lost_last {l : List Int} (h : l ≠ []) : lostTrail l = aft (l[l.length - 1]'(by have := List.length_pos_iff.2 h; omega)) 1 := by
  unfold lostTrail
  rw [List.getLastD_eq_getLast?, List.getLast?_eq_getElem?, List.getElem?_eq_getElem (by have := List.length_pos_iff.2 h; omega)]
  rfl
theorem good_items {x : ReceiveWindow} (hg : goodRW x = true) : x.slots.length ≤ 8 ∧ ∀ s ∈ x.slots, s.item.size ≤ 8 := by
  have hg0 := hg
  unfold goodRW at hg
  simp only [Bool.and_eq_true, decide_eq_true_eq] at hg
  refine ⟨by have := hg.1.1.2; omega, fun s hs => ?_⟩
  have := List.all_eq_true.1 hg.1.2 s hs
  unfold okSlot at this
  simp only [Bool.and_eq_true] at this
  exact itm_size this.1
structure PkS where
  k : Nat
  a : Option Addr
  c : Nat
  F : List Nat
structure TkR where
  a1 : Option Addr
  c1 : Nat
  F1 : List Nat
  a2 : Option Addr
  c2 : Nat
  F2 : List Nat
  a3 : Option Addr
  c3 : Nat
  F3 : List Nat
  a4 : Option Addr
  c4 : Nat
  F4 : List Nat
set_option maxRecDepth 100000 in
set_option maxHeartbeats 1000000 in
theorem Rtick_f (r : Receiver) (d : Int) (g t o : Nat) (A B : List Value) (a1 : Option Addr) (c1 : Nat) (F1 : List Nat) (a2 : Option Addr) (c2 : Nat) (F2 : List Nat) (hg : GoodR r) (d0 : 0 ≤ d) (d1 : d ≤ 100) :
    Fn Tryz.prog 109 [ptr g o 0, .int .i64 d] [] [.row g t o A [.bool r.started, .int .i64 r.clock, .int .i64 r.window.next, .slice a1 r.window.slots.length c1, .slice a2 r.requests.length c2] B, .ow ESlot 213 (.slice a1 r.window.slots.length c1) r.window.slots F1, .ow ERequest 152 (.slice a2 r.requests.length c2) r.requests F2] (fun (_ : TkR) => True)
      (fun s => .tuple #[.slice s.a3 (tickPk r).length s.c3, .slice s.a4 (tickEv r).length s.c4]) (fun s => [.row g t o A [.bool (tickRec r d).started, .int .i64 (tickRec r d).clock, .int .i64 (tickRec r d).window.next, .slice s.a1 (tickRec r d).window.slots.length s.c1, .slice s.a2 (tickRec r d).requests.length s.c2] B, .ow ESlot 213 (.slice s.a1 (tickRec r d).window.slots.length s.c1) (tickRec r d).window.slots s.F1, .ow ERequest 152 (.slice s.a2 (tickRec r d).requests.length s.c2) (tickRec r d).requests s.F2, .ow EPacket 67 (.slice s.a3 (tickPk r).length s.c3) (tickPk r) s.F3, .ow EStr 9 (.slice s.a4 (tickEv r).length s.c4) (tickEv r) s.F4]) := by
  have k0 := hg.k0
  have k1 := hg.k1
  obtain ⟨-, q1, q2, -⟩ := areQ_iff.1 hg.q
  obtain ⟨w0_, w1_⟩ := next_ser hg.w
  obtain ⟨hw8, hit⟩ := good_items hg.w
  have hpl : (r.requests.filterMap (tkS (r.clock + 1))).length ≤ 8 := Nat.le_trans (List.length_filterMap_le _ _) q1
  refine enter Tryz.func109 rfl Tryz.ntmps109 fun w0 => ?_
  refine go ?_; intros
  refine t_read (E := ERequest) fun F9 => ?_
  refine d_start [1] [] ?_
  refine dt 0 ?_
  refine dt 1 ?_
  refine dt 2 ?_
  refine dt 3 ?_
  refine dt 4 ?_
  refine dt 5 ?_
  refine dt 6 ?_
  refine dt 7 ?_
  refine dt 8 ?_
  refine dO 9 (by kernel_rfl) (by rw [List.getElem?_toArray]; rfl) ?_
  apply o_call; rfl; kernel_rfl; exact evsE
  refine cf (tickRequests_f r.requests (r.clock + 1) d a2 c2 F9 (by omega) (fun q hq => ⟨(okReq_iff.1 (q2 q hq)).t0, (okReq_iff.1 (q2 q hq)).t1⟩) (by omega) (by omega) (by omega) (by omega)) fun z _ => ?_
  refine t_app ?_
  rw [show r.requests.filterMap (tkL (r.clock + 1)) = tkLost r from rfl, show r.requests.filterMap (tkO (r.clock + 1) d) = tkReq r d from rfl]
  refine dk ?_
  refine dt 10 ?_
  refine dt 11 ?_
  refine dt 12 ?_
  refine dt 13 ?_
  refine dt 14 ?_
  refine dt 15 ?_
  refine dt 16 ?_
  refine dd ?_
  refine t_read (E := EInt) (xs := r.requests.filterMap (tkS (r.clock + 1))) fun G2 => ?_
  refine t_read (E := EInt) (xs := tkLost r) fun G3 => ?_
  refine t_nilow EPacket 67 ?_
  refine go ?_; intros
  refine c_loopS [0, 4, 5, 6, 9, 44, 45] (fun s : PkS => [(46, .int .i64 (s.k : Nat)), (10, .slice s.a (((r.requests.filterMap (tkS (r.clock + 1))).take s.k).map (pkR r.window.next)).length s.c)]) (fun s => [.ow EPacket 67 (.slice s.a (((r.requests.filterMap (tkS (r.clock + 1))).take s.k).map (pkR r.window.next)).length s.c) (((r.requests.filterMap (tkS (r.clock + 1))).take s.k).map (pkR r.window.next)) s.F]) (fun s => s.k ≤ (r.requests.filterMap (tkS (r.clock + 1))).length) (fun s => (r.requests.filterMap (tkS (r.clock + 1))).length - s.k) ⟨0, _, _, _⟩ (Nat.zero_le _) fun s hs => ?_
  obtain ⟨k, a4, c4, F4⟩ := s
  dsimp only at hs ⊢
  generalize hsn : r.requests.filterMap (tkS (r.clock + 1)) = sn at *
  refine go ?_; intros
  refine c_if rfl (fun h4 => ?_) (fun h4 => ?_)
  · have hk : k < sn.length := by omega
    have hkl : ((sn.take k).map (pkR r.window.next)).length ≤ k := by simp; omega
    refine at_int (xs := sn) k ?_
    rintro hi b o2 e
    rw [e]
    refine go ?_; intros
    have eo : (sn.take (k + 1)).map (pkR r.window.next) = (sn.take k).map (pkR r.window.next) ++ [pkR r.window.next sn[k]] := by rw [List.take_add_one, List.getElem?_eq_getElem hk, List.map_append]; rfl
    apply wO
    refine ap1 (ys := [pkR r.window.next sn[k]]) (flatPacket (pkR r.window.next sn[k]) (by show (0 : Nat) ≤ maxLen; exact Nat.zero_le _)) one_EPacket fun a7 c7 F7 => ?_
    refine go ?_; intros
    rw [← eo]
    refine n_lp (⟨k + 1, _, _, _⟩ : PkS) (by show k + 1 ≤ sn.length; omega) (by show sn.length - (k + 1) < sn.length - k; omega)
  have hk : k = sn.length := by omega
  subst hk
  rw [List.take_length]
  have ep : tickPk r = sn.map (pkR r.window.next) := by unfold tickPk; rw [hsn]
  rw [ep]
  refine go ?_; intros
  by_cases hL : tkLost r = []
  · refine c_if rfl (fun _ => ?_) (fun h => absurd (show ((tkLost r).length : Int) = 0 by rw [hL]; rfl) h)
    rw [tickR_no hL, tickE_no hL]
    refine t_nilow EStr 9 ?_
    refine go ?_; intros
    refine ret ⟨_, _, _, _, _, _, _, _, _, _, _, _⟩ trivial rfl
  · have hl0 := List.length_pos_iff.2 hL
    refine c_if rfl (fun h => absurd h (by omega)) (fun _ => ?_)
    rw [tickR_yes hL, tickE_yes hL]
    obtain ⟨hs8, hsr⟩ := lost_gp hg hL
    have hll8 := tkLost_len r
    obtain ⟨hs0, hs1⟩ := isSer_iff.1 hsr
    have hll := lost_last hL
    obtain ⟨l0, l1⟩ := isSer_iff.1 (tkLost_at hg (List.getElem_mem (show (tkLost r).length - 1 < (tkLost r).length by omega))).1
    have hi1 : ((tkLost r).length : Int) - 1 = (((tkLost r).length - 1 : Nat) : Int) := by omega
    refine at_int (xs := tkLost r) ((tkLost r).length - 1) ?_
    rintro hi b o2 e
    rw [e]
    refine t_rin [.bool r.started, .int .i64 (r.clock + 1)] [.int .i64 r.window.next, .slice a1 r.window.slots.length c1] [.slice z.a (tkReq r d).length z.c] ?_
    refine go ?_; intros
    refine d_start [1] [] ?_
    refine dt 0 ?_
    refine dt 1 ?_
    refine dt 2 ?_
    refine dt 3 ?_
    refine dt 4 ?_
    refine dt 5 ?_
    refine dt 6 ?_
    rw [hi1]
    refine dt 7 ?_
    refine dt 8 ?_
    refine dO 9 (by kernel_rfl) (by rw [List.getElem?_toArray]; rfl) ?_
    apply o_call; rfl; kernel_rfl; exact evsE
    refine ce (fun w s => after_c _ _ _ (by omega) (by omega)) ?_
    rw [← hll]
    refine dk ?_
    refine dO 10 (by kernel_rfl) (by rw [List.getElem?_toArray]; rfl) ?_
    apply o_call; rfl; kernel_rfl; exact evsE
    refine cf (RWgive_f r.window (lostTrail (tkLost r)) g t (o + 2) (A ++ [.bool r.started, .int .i64 (r.clock + 1)]) _ a1 c1 F1 w0_ w1_ hs0 hs1 hw8 hit) fun y hy => ?_
    refine t_app ?_
    refine dk ?_
    refine dt 11 ?_
    refine dd ?_
    obtain ⟨hy1, hy2⟩ := hy
    have hmv := moved_at (t := lostTrail (tkLost r)) hg.w
    have hm0 : 0 ≤ y.y.next := by rw [hy1]; show 0 ≤ (movedW r.window (lostTrail (tkLost r))).next; rw [hmv.1]; exact (aft_bd _ _).1
    have hm1 : y.y.next ≤ 65535 := by rw [hy1]; show (movedW r.window (lostTrail (tkLost r))).next ≤ 65535; rw [hmv.1]; exact (aft_bd _ _).2
    refine t_rout [.bool r.started, .int .i64 (r.clock + 1)] [.int .i64 y.y.next, .slice y.a y.y.slots.length y.c] [.slice z.a (tkReq r d).length z.c] ?_
    refine t_read (E := ERequest) (xs := tkReq r d) fun F8 => ?_
    refine go ?_; intros
    refine d_start [1] [13] ?_
    refine dt 0 ?_
    refine dt 1 ?_
    refine dt 2 ?_
    refine dt 3 ?_
    refine dt 4 ?_
    refine dt 5 ?_
    refine dt 6 ?_
    refine dt 7 ?_
    refine dt 8 ?_
    refine dt 9 ?_
    refine dO 10 (by kernel_rfl) (by rw [List.getElem?_toArray]; rfl) ?_
    apply o_call; rfl; kernel_rfl; exact evsE
    refine cf (withoutBefore_f (tkReq r d) y.y.next z.a z.c F8 (by have := tkReq_len r d; omega) (fun q hq => (tkReq_at hg hq).1) hm0 hm1) fun u _ => ?_
    refine t_app ?_
    refine dk ?_
    refine dt 11 ?_
    refine dt 12 ?_
    refine dO 13 (by kernel_rfl) (by rw [List.getElem?_toArray]; rfl) ?_
    apply o_st; rfl; rfl; rfl; (first | exact AggC.s | exact OneC.s); rfl; exact rplE; exact putE; rfl
    refine dkx ?_
    refine dd ?_
    refine go ?_; intros
    rw [show movedW r.window (lostTrail (tkLost r)) = y.y from hy1.symm, show movedE r.window (lostTrail (tkLost r)) = y.es from hy2.symm]
    refine ret ⟨_, _, _, _, _, _, _, _, _, _, _, _⟩ trivial rfl
end Go.Proofs.YtgogcgkocjpgoaaGreatDoor
/- Receivers: a tick of the reference. -/
namespace Go.Proofs.YtgogcgkocjpgoaaGreatDoor
open Go.RowKit
structure OwnS where
  g : Nat
  a : Option Addr
  c : Nat
  F : List Nat
set_option maxRecDepth 100000 in
theorem l13Own_f (x : Receiver) (v : Value) (F : List Nat) (hl : x.window.slots.length ≤ 1000000000) (hl2 : x.requests.length ≤ 1000000000) : Fn Tryz.prog 120 [v] [.isv EReceiver v x F] [] (fun (_ : Value × List Nat) => True) (fun s => s.1) (fun s => [.own OReceiver s.1 x s.2]) := by
  refine enter Tryz.func120 rfl Tryz.ntmps120 fun w0 => ?_
  refine openReceiver ?_
  rintro a1 c1 F1 a2 c2 F2 rfl l1 l2
  refine go ?_; intros
  refine c_joinS [1, 2] [0, 1, 2, 3, 4] (fun s : OwnS => [(3, ptr s.g 0 0)]) (fun s => [.row s.g 46 0 [] [.int .i64 x.window.next, .slice s.a x.window.slots.length s.c] [], .ow ESlot 213 (.slice s.a x.window.slots.length s.c) x.window.slots s.F]) (fun _ => True) ?_ fun s _ => ?_
  · skip
    refine d_start [1] [] ?_
    refine dt 0 ?_
    refine dt 1 ?_
    refine dt 2 ?_
    refine dt 4 ?_
    refine dt 5 ?_
    refine dt 6 ?_
    refine dO2 3 9 (by kernel_rfl) (by rw [List.getElem?_toArray]; rfl) (by rw [List.getElem?_toArray]; rfl) ?_ ?_
    · apply o_bs0; rfl; intro _
      refine t_emp ESlot ?_
      refine dk ?_
      refine dO2 7 9 (by kernel_rfl) (by rw [List.getElem?_toArray]; rfl) (by rw [List.getElem?_toArray]; rfl) ?_ ?_
      · refine aps one_ESlot scal_ESlot fun a5 c5 F5 => ?_
        rw [List.nil_append]
        refine dk ?_
        refine dt 8 ?_
        refine dO 9 (by kernel_rfl) (by rw [List.getElem?_toArray]; rfl) ?_
        apply o_alloc; rfl; intro _
        refine dk ?_
        refine dO 10 (by kernel_rfl) (by rw [List.getElem?_toArray]; rfl) ?_
        apply o_st; rfl; rfl; rfl; (first | exact AggC.s | exact OneC.s); rfl; exact rplE; exact putE; rfl
        refine dk ?_
        refine dd ?_
        refine n_join (⟨_, _, _, _⟩ : OwnS) trivial
      · apply o_alloc; rfl; intro _
        refine dk ?_
        refine dO 7 (by kernel_rfl) (by rw [List.getElem?_toArray]; rfl) ?_
        refine aps one_ESlot scal_ESlot fun a5 c5 F5 => ?_
        rw [List.nil_append]
        refine dk ?_
        refine dt 8 ?_
        refine dO 10 (by kernel_rfl) (by rw [List.getElem?_toArray]; rfl) ?_
        apply o_st; rfl; rfl; rfl; (first | exact AggC.s | exact OneC.s); rfl; exact rplE; exact putE; rfl
        refine dk ?_
        refine dd ?_
        refine n_join (⟨_, _, _, _⟩ : OwnS) trivial
    · apply o_alloc; rfl; intro _
      refine dk ?_
      refine dO 3 (by kernel_rfl) (by rw [List.getElem?_toArray]; rfl) ?_
      apply o_bs0; rfl; intro _
      refine t_emp ESlot ?_
      refine dk ?_
      refine dO 7 (by kernel_rfl) (by rw [List.getElem?_toArray]; rfl) ?_
      refine aps one_ESlot scal_ESlot fun a5 c5 F5 => ?_
      rw [List.nil_append]
      refine dk ?_
      refine dt 8 ?_
      refine dO 10 (by kernel_rfl) (by rw [List.getElem?_toArray]; rfl) ?_
      apply o_st; rfl; rfl; rfl; (first | exact AggC.s | exact OneC.s); rfl; exact rplE; exact putE; rfl
      refine dk ?_
      refine dd ?_
      refine n_join (⟨_, _, _, _⟩ : OwnS) trivial
  obtain ⟨g3, a5, c5, F5⟩ := s
  dsimp only
  refine go ?_; intros
  refine d_start [0, 3] [] ?_
  refine dt 0 ?_
  refine dt 1 ?_
  refine dt 2 ?_
  refine dt 3 ?_
  refine dt 4 ?_
  refine dt 6 ?_
  refine dt 7 ?_
  refine dO 5 (by kernel_rfl) (by rw [List.getElem?_toArray]; rfl) ?_
  apply o_bs0; rfl; intro _
  refine t_emp ERequest ?_
  refine dk ?_
  refine dO 8 (by kernel_rfl) (by rw [List.getElem?_toArray]; rfl) ?_
  refine aps one_ERequest scal_ERequest fun a6 c6 F6 => ?_
  rw [List.nil_append]
  refine dk ?_
  refine dt 9 ?_
  refine dO 10 (by kernel_rfl) (by rw [List.getElem?_toArray]; rfl) ?_
  apply o_st; rfl; rfl; rfl; (first | exact AggC.s | exact OneC.s); rfl; exact rplE; exact putE; rfl
  refine dk ?_
  refine dd ?_
  refine go ?_; intros
  refine closeOReceiver x ?_
  refine ret (_, _) trivial rfl
set_option maxRecDepth 100000 in
theorem l13Needed_f (l : List Request) (w : ReceiveWindow) (a : Option Addr) (c : Nat) (F : List Nat) (v : Value) (Fw : List Nat) (hl : l.length ≤ 1000000) (hs : ∀ q ∈ l, isSer q.number = true) (w0_ : 0 ≤ w.next) (w1_ : w.next ≤ 65535) : Fn Tryz.prog 193 [.slice a l.length c, v] [.sl ERequest (.slice a l.length c) l F, .isv EReceiveWindow v w Fw] [] (fun (_ : Option Addr × Nat × List Nat) => True) (fun z => .slice z.1 (needed l w).length z.2.1) (fun z => [.ow ERequest 152 (.slice z.1 (needed l w).length z.2.1) (needed l w) z.2.2]) := by
  refine enter Tryz.func193 rfl Tryz.ntmps193 fun w0 => ?_
  refine openReceiveWindow ?_
  rintro a1 c1 F1 rfl l1
  refine go ?_; intros
  refine t_emp ERequest ?_
  refine c_loopS [0, 3, 4] (fun s : PkS => [(6, .int .i64 (s.k : Nat)), (5, .slice s.a (needed (l.take s.k) w).length s.c)]) (fun s => [.ow ERequest 152 (.slice s.a (needed (l.take s.k) w).length s.c) (needed (l.take s.k) w) s.F]) (fun s => s.k ≤ l.length) (fun s => l.length - s.k) ⟨0, _, _, _⟩ (Nat.zero_le _) fun s hk => ?_
  obtain ⟨k, a4, c4, F4⟩ := s
  dsimp only at hk ⊢
  refine go ?_; intros
  refine c_if rfl (fun h4 => ?_) (fun h4 => ?_)
  · have hk : k < l.length := by omega
    have hkl : (needed (l.take k) w).length ≤ k := Nat.le_trans (List.length_filter_le _ _) (by rw [List.length_take]; omega)
    have hsk := hs _ (List.getElem_mem hk)
    obtain ⟨n0, n1⟩ := isSer_iff.1 hsk
    have en : ∀ b, (!(bef l[k].number w.next || hasB w l[k].number) && decide (gp w.next l[k].number < 8)) = b → needed (l.take (k + 1)) w = needed (l.take k) w ++ if b then [l[k]] else [] := fun b hb => by
      unfold needed
      rw [List.take_add_one, List.getElem?_eq_getElem hk, List.filter_append]
      congr 1
      show ([l[k]].filter _) = _
      rw [List.filter_cons, List.filter_nil, hb]
    refine atRequest (xs := l) k ?_
    rintro hi b o e
    rw [e]
    refine go ?_; intros
    cases g5 : (bef l[k].number w.next || hasB w l[k].number)
    · skip
      refine d_start [0, 2] [] ?_
      refine dt 0 ?_
      refine dt 1 ?_
      refine dt 2 ?_
      refine dt 3 ?_
      refine dt 4 ?_
      refine dt 5 ?_
      refine dO 6 (by kernel_rfl) (by rw [List.getElem?_toArray]; rfl) ?_
      apply o_call; rfl; kernel_rfl; exact evsE
      refine cf (l10Have_f w l[k].number _ Fw w0_ w1_ n0 n1) fun _ _ => ?_
      refine t_app ?_
      rw [show takeNo w l[k].number = (bef l[k].number w.next || hasB w l[k].number) from rfl, g5]
      refine dk ?_
      refine dt 7 ?_
      refine dt 8 ?_
      refine dtg 9 ?_
      refine dtg 10 ?_
      refine dtg 11 ?_
      refine dtg 12 ?_
      refine dtg 13 ?_
      refine dtg 14 ?_
      refine dtg 15 ?_
      refine d1g 16 ?_
      apply On.h
      apply o_call; rfl; kernel_rfl; exact evsE
      refine ce (fun w s => l2Gap_c _ _ _ (by omega) (by omega)) ?_
      refine dk ?_
      refine dtg 17 ?_
      refine dt 18 ?_
      refine dd ?_
      refine go ?_; intros
      refine c_if rfl (fun h6 => ?_) (fun h6 => ?_)
      · have e1 := en true (by rw [g5, decide_eq_true h6]; rfl)
        refine go ?_; intros
        apply wO
        refine ap1 (ys := [l[k]]) (flatRequest l[k]) one_ERequest fun a7 c7 F7 => ?_
        refine go ?_; intros
        rw [show needed (l.take k) w ++ [l[k]] = needed (l.take (k + 1)) w from e1.symm]
        refine n_lp (⟨k + 1, _, _, _⟩ : PkS) (by show k + 1 ≤ l.length; omega) (by show l.length - (k + 1) < l.length - k; omega)
      · have e1 := en false (by rw [g5, decide_eq_false h6]; rfl)
        refine go ?_; intros
        rw [show needed (l.take k) w = needed (l.take (k + 1)) w by rw [e1]; simp]
        refine n_lp (⟨k + 1, _, _, _⟩ : PkS) (by show k + 1 ≤ l.length; omega) (by show l.length - (k + 1) < l.length - k; omega)
    · skip
      refine d_start [0, 2] [] ?_
      refine dt 0 ?_
      refine dt 1 ?_
      refine dt 2 ?_
      refine dt 3 ?_
      refine dt 4 ?_
      refine dt 5 ?_
      refine dO 6 (by kernel_rfl) (by rw [List.getElem?_toArray]; rfl) ?_
      apply o_call; rfl; kernel_rfl; exact evsE
      refine cf (l10Have_f w l[k].number _ Fw w0_ w1_ n0 n1) fun _ _ => ?_
      refine t_app ?_
      rw [show takeNo w l[k].number = (bef l[k].number w.next || hasB w l[k].number) from rfl, g5]
      refine dk ?_
      refine dt 7 ?_
      refine dt 8 ?_
      refine ds 9 ?_
      refine ds 10 ?_
      refine ds 11 ?_
      refine ds 12 ?_
      refine ds 13 ?_
      refine ds 14 ?_
      refine ds 15 ?_
      refine ds 16 ?_
      refine ds 17 ?_
      refine dt 18 ?_
      refine dd ?_
      have e1 := en false (by rw [g5]; rfl)
      refine go ?_; intros
      rw [show needed (l.take k) w = needed (l.take (k + 1)) w by rw [e1]; simp]
      refine n_lp (⟨k + 1, _, _, _⟩ : PkS) (by show k + 1 ≤ l.length; omega) (by show l.length - (k + 1) < l.length - k; omega)
  have hk : k = l.length := by omega
  subst hk
  rw [List.take_length]
  refine go ?_; intros
  refine ret (_, _, _) trivial rfl
end Go.Proofs.YtgogcgkocjpgoaaGreatDoor
/- Regions that draw: pure operations that may stand behind a store. -/
namespace Go.Proofs.YtgogcgkocjpgoaaGreatDoor
open Go.RowKit
section
variable {c : Cx} {fr : Fr} {H H0 : List Pc} {k : List It} {X : List Nat} {ops : Array Oper} {f : Nat} {listed : Array Bool} {d : Nat} {o : Op} {ty : TypeId} {pos : String} {aft : Array Edge} {v : Value}
theorem dtp (i : Nat) (h : T c ((d, v) :: fr) H (.dx k H0 X ops f (listed.setIfInBounds i true))) (ho : ops[i]? = some ⟨some d, o, ty, pos, aft, none⟩ := by rw [List.getElem?_toArray]; rfl) (hy : Yd c.P c.n fr [] o ty v := by exact ydE) (hX : X.contains i = true := by rfl)
    (h1 : Region.noSelect ops = true := by kernel_rfl) (h2 : Region.free .any ops listed i = true := by kernel_rfl) (h3 : (Region.ready .any ops listed).contains i = true := by kernel_rfl) (hR : PanOk c := by exact panOk) (hd : Nat.blt d c.n = true := by rfl) :
    T c fr H (.dx k H0 X ops (f + 1) listed) := .mk fun a w s g =>
  AnyX.takeP (v := v) ho h1 h2 h3 hX (fun ch a w hp => by rw [run_panic] at hp ⊢; exact hR _ _ _ _ _ hp) (.inl ⟨rfl, fun w' _ => hy.h a w' _ _ _ _ g (by intro p hp; simp at hp)⟩) (h.h _ _ s (g.put hd))
/-- ways that meet behind a region and the test that follows it -/
theorem c_join2 {c : Cx} {fr : Fr} {H : List Pc} {k : List It} {x y : Code} {σ : Type} {cst : Fr} {rest : List Pc} (ks rs : List Nat) (upd : σ → Fr) (chg : σ → List Pc) (C : σ → Prop) (h : T c fr H (.code (.cd y :: .lp (Jn c (fun s => upd s ++ cst) (fun s => chg s ++ rest) C) :: k) x)) (h2 : ∀ s, C s → T c (upd s ++ cst) (chg s ++ rest) (.norm k))
    (_hk : Kf fr ks cst := by repeat (first | exact Kf.nil | apply Kf.cons (by rfl))) (_hr : Sel H rs rest := by repeat constructor) : T c fr H (.code (.cd y :: k) x) := .mk fun a w s g => by
  refine wp_mono (h.h a w s g) fun e a1 w1 he => ?_
  cases e with
  | normal =>
    refine wp_mono he fun e a2 w2 he => ?_
    cases e with
    | normal => obtain ⟨s, hC, hs, hg⟩ := he; exact (h2 s hC).h a2 w2 hs hg
    | _ => exact he
  | _ => exact he
end
end Go.Proofs.YtgogcgkocjpgoaaGreatDoor
/- Draws, for the engine: packets that a receiver may hear, delays. -/
namespace Go.Proofs.YtgogcgkocjpgoaaGreatDoor
open Go.RowKit
structure HdS where
  t : Int
  l : Int
  s : CuS
structure HdOk (B : Nat) (z : HdS) : Prop where
  t : 0 ≤ z.t ∧ z.t ≤ 65535
  l : 0 ≤ z.l ∧ z.l ≤ 65535
  g : gp z.t z.l ≤ 20
  s : CuOk B z.s
set_option maxRecDepth 100000 in
theorem heard_f (B g : Nat) (F : CuF) (s : CuS) (x : Receiver) (v : Value) (Fx : List Nat) (ok : CuOk B s) (hB : B ≤ 700000000000) :
    Fn Tryz.prog 148 [ptr g 0 0, v] [.sl EByte (.slice F.a F.code.length F.c) F.code F.bs, .isv EReceiver v x Fx] [.row g 123 0 [] [.slice F.a F.code.length F.c, .int .i64 (s.k : Nat), .int .u64 s.seed] []] (fun (z : Packet × CuS) => goodPk z.1 = true ∧ CuOk (B + 100) z.2) (fun s => .agg #[.int .i64 s.1.kind, .int .i64 s.1.number, .int .i64 s.1.trail, .int .i64 s.1.lead, .string s.1.data]) (fun s => [.row g 123 0 [] [.slice F.a F.code.length F.c, .int .i64 (s.2.k : Nat), .int .u64 s.2.seed] []]) := by
  refine enter Tryz.func148 rfl Tryz.ntmps148 fun w0 => ?_
  refine openReceiver (v := v) (x := x) (F := Fx) ?_
  rintro a1 c1 F1 a2 c2 F2 rfl l1 l2
  cases hs : x.started
  · refine go ?_; intros
    refine cf (packetG_f _ g F s ok (by omega)) fun z hz => ?_
    refine t_app ?_
    refine go ?_; intros
    refine ret z ⟨hz.1, hz.2.mono (by omega)⟩ rfl
  refine go ?_; intros
  refine ce (fun w s => l2Good_c _ _) ?_
  cases g1 : isSer x.window.next
  · refine go ?_; intros
    refine cf (packetG_f _ g F s ok (by omega)) fun z hz => ?_
    refine t_app ?_
    refine go ?_; intros
    refine ret z ⟨hz.1, hz.2.mono (by omega)⟩ rfl
  obtain ⟨n0, n1⟩ := isSer_iff.1 g1
  refine go ?_; intros
  refine cf (one_f B g F 8 s ok (by omega) (by omega)) fun q hq => ?_
  refine t_app ?_
  obtain ⟨b, s1⟩ := q
  obtain ⟨-, hq⟩ := hq
  dsimp only at hq ⊢
  cases b
  rotate_left
  · refine go ?_; intros
    refine cf (packetG_f _ g F s1 hq (by omega)) fun z hz => ?_
    refine t_app ?_
    refine go ?_; intros
    refine ret z ⟨hz.1, hz.2.mono (by omega)⟩ rfl
  refine goN ?_; intros
  refine t_row (xs := [1, 1, 1, 2, 2, 4, 5]) (fun w => flat_int w _) ?_ (by decide)
  refine t_read (E := EInt) fun G => ?_
  refine go ?_; intros
  refine cf (among_f _ g F _ [1, 1, 1, 2, 2, 4, 5] G s1 hq (by omega) (by decide) (by decide)) fun q hq => ?_
  refine t_app ?_
  obtain ⟨k, s2⟩ := q
  obtain ⟨hk, h2⟩ := hq
  dsimp only at hk h2 ⊢
  have hk : k = 1 ∨ k = 2 ∨ k = 4 ∨ k = 5 := by simp only [List.mem_cons, List.not_mem_nil, or_false] at hk; omega
  refine go ?_; intros
  refine cf (pick_f _ g F 10 s2 h2 (by omega) (by omega)) fun y hy => ?_
  refine t_app ?_
  obtain ⟨k3, s3⟩ := y
  obtain ⟨r3, h3⟩ := hy
  dsimp only at r3 h3 ⊢
  have r3 : k3 ≤ 9 := by omega
  refine go ?_; intros
  refine ce (fun w s => l2After_c _ _ _ (by omega) (by omega)) ?_
  refine go ?_; intros
  refine cf (pick_f _ g F 5 s3 h3 (by omega) (by omega)) fun y hy => ?_
  refine t_app ?_
  obtain ⟨k4, s4⟩ := y
  obtain ⟨r4, h4⟩ := hy
  dsimp only at r4 h4 ⊢
  have r4 : k4 ≤ 4 := by omega
  refine go ?_; intros
  refine ce (fun w s => l2After_c _ _ _ (by omega) (by omega)) ?_
  refine go ?_; intros
  rename_i gq
  refine cf (pick_f _ g F 9 s4 h4 (by omega) (by omega)) fun y hy => ?_
  refine t_app ?_
  obtain ⟨k5, s5⟩ := y
  obtain ⟨r5, h5⟩ := hy
  dsimp only at r5 h5 ⊢
  have r5 : k5 ≤ 8 := by omega
  refine go ?_; intros
  refine ce (fun w s => l2After_c _ _ _ (by omega) (by omega)) ?_
  refine go ?_; intros
  refine cf (one_f _ g F 12 s5 h5 (by omega) (by omega)) fun q hq => ?_
  refine t_app ?_
  obtain ⟨b, s6⟩ := q
  obtain ⟨-, h6⟩ := hq
  dsimp only at h6 ⊢
  refine go ?_; intros
  refine c_joinS [0, 4, 5, 6] [3, 7] (fun _ : HdS => []) (fun z => [.row gq 67 0 [] [.int .i64 k, .int .i64 (aft x.window.next ((k3 : Nat) - 1)), .int .i64 z.t, .int .i64 z.l, .string ⟨#[]⟩] [], .row g 123 0 [] [.slice F.a F.code.length F.c, .int .i64 (z.s.k : Nat), .int .u64 z.s.seed] []]) (HdOk (B + 40)) ?_ fun z hz => ?_
  · cases b
    · refine go ?_; intros
      refine n_join (⟨aft x.window.next ((k4 : Nat) - 3), aft x.window.next (1 + (k5 : Nat)), s6⟩ : HdS) ⟨aft_bd _ _, aft_bd _ _, by show gp (aft x.window.next ((k4 : Nat) - 3)) (aft x.window.next (1 + (k5 : Nat))) ≤ 20; unfold gp aft; omega, h6.mono (by omega)⟩
    refine go ?_; intros
    refine cf (pick_f _ g F 6 s6 h6 (by omega) (by omega)) fun y hy => ?_
    refine t_app ?_
    obtain ⟨k7, s7⟩ := y
    obtain ⟨r7, h7⟩ := hy
    dsimp only at r7 h7 ⊢
    have r7 : k7 ≤ 5 := by omega
    refine go ?_; intros
    refine ce (fun w s => l2After_c _ _ _ (by omega) (by omega)) ?_
    refine goN ?_; intros
    refine d_start [1] [6] ?_
    refine dt 0 ?_
    refine dt 1 ?_
    refine dt 2 ?_
    refine dO 3 (by kernel_rfl) (by rw [List.getElem?_toArray]; rfl) ?_
    apply o_call; rfl; kernel_rfl; exact evsE
    refine cf (pick_f _ g F 6 s7 h7 (by omega) (by omega)) fun y8 hy8 => ?_
    refine t_app ?_
    obtain ⟨k8, s8⟩ := y8
    obtain ⟨r8, h8⟩ := hy8
    dsimp only at r8 h8 ⊢
    have r8 : k8 ≤ 5 := by omega
    refine dk ?_
    refine dO 4 (by kernel_rfl) (by rw [List.getElem?_toArray]; rfl) ?_
    apply o_call; rfl; kernel_rfl; exact evsE
    have hb7 := aft_bd x.window.next (6 + ((k7 : Nat) : Int))
    refine ce (fun w s => l2After_c _ _ _ (by omega) (by omega)) ?_
    refine dk ?_
    refine dt 5 ?_
    refine dO 6 (by kernel_rfl) (by rw [List.getElem?_toArray]; rfl) ?_
    apply o_st; rfl; rfl; rfl; (first | exact AggC.s | exact OneC.s); rfl; exact rplE; exact putE; rfl
    refine dkx ?_
    refine dd ?_
    refine go ?_; intros
    refine n_join (⟨aft x.window.next (6 + (k7 : Nat)), aft (aft x.window.next (6 + (k7 : Nat))) (k8 : Nat), s8⟩ : HdS) ⟨aft_bd _ _, aft_bd _ _, by show gp (aft x.window.next (6 + (k7 : Nat))) (aft (aft x.window.next (6 + (k7 : Nat))) (k8 : Nat)) ≤ 20; unfold gp aft; omega, h8.mono (by omega)⟩
  obtain ⟨z1, z2, z3, z4⟩ := hz
  refine go ?_; intros
  refine c_if rfl (fun h9 => ?_) (fun h9 => ?_)
  · refine go ?_; intros
    refine cf (letters_f _ g F z.s 3 z4 (by omega) (by omega) (by omega)) fun l hl => ?_
    refine t_app ?_
    obtain ⟨⟨-, hl1, hl2⟩, hl3⟩ := hl
    refine go ?_; intros
    refine ret (⟨k, aft x.window.next ((k3 : Nat) - 1), z.t, z.l, l.1⟩, l.2) ⟨goodPk_mk (by omega) (aft_ser _ _) (isSer_iff.2 z1) (isSer_iff.2 z2) (by omega) (itm_mk (by omega) hl2) (.inr h9), hl3.mono (by omega)⟩ rfl
  · refine go ?_; intros
    refine ret (⟨k, aft x.window.next ((k3 : Nat) - 1), z.t, z.l, ⟨#[]⟩⟩, z.s) ⟨goodPk_mk (by omega) (aft_ser _ _) (isSer_iff.2 z1) (isSer_iff.2 z2) (by omega) (by decide) (.inl rfl), z4.mono (by omega)⟩ rfl
set_option maxRecDepth 100000 in
theorem delay_f (B g : Nat) (F : CuF) (s : CuS) (ok : CuOk B s) (hB : B ≤ 800000000000) :
    Fn Tryz.prog 127 [ptr g 0 0] [.sl EByte (.slice F.a F.code.length F.c) F.code F.bs] [.row g 123 0 [] [.slice F.a F.code.length F.c, .int .i64 (s.k : Nat), .int .u64 s.seed] []] (fun (z : Int × CuS) => CuOk (B + 2) z.2) (fun z => .int .i64 z.1) (fun z => [.row g 123 0 [] [.slice F.a F.code.length F.c, .int .i64 (z.2.k : Nat), .int .u64 z.2.seed] []]) := by
  refine enter Tryz.func127 rfl Tryz.ntmps127 fun w0 => ?_
  refine goN ?_; intros
  refine t_row (xs := [1, 1, 2, 2, 3, 5, 8, 1, 4, 9, 0]) (fun w => flat_int w _) ?_ (by decide)
  refine t_read (E := EInt) fun G => ?_
  refine go ?_; intros
  refine cf (among_f _ g F _ [1, 1, 2, 2, 3, 5, 8, 1, 4, 9, 0] G s ok (by omega) (by decide) (by decide)) fun q hq => ?_
  refine t_app ?_
  refine go ?_; intros
  refine ret q hq.2 rfl
end Go.Proofs.YtgogcgkocjpgoaaGreatDoor
/- The first elements that satisfy a test: how many; plain. -/
namespace Go.Proofs.YtgogcgkocjpgoaaGreatDoor
theorem tw_len {α : Type} {p : α → Bool} : ∀ {xs : List α} {k : Nat}, k ≤ xs.length → (∀ j (_ : j < k) (h : j < xs.length), p xs[j] = true) → (∀ h : k < xs.length, p xs[k] = false) → (xs.takeWhile p).length = k
  | [], k, hk, _, _ => by simp at hk; simp [hk]
  | x :: r, 0, _, _, h2 => by have := h2 (by simp); simp at this; simp [this]
  | x :: r, k + 1, hk, h1, h2 => by
    have hx : p x = true := h1 0 (by omega) (by simp)
    rw [List.takeWhile_cons_of_pos hx, List.length_cons, tw_len (xs := r) (k := k) (by simpa using hk) (fun j hj h => by have := h1 (j + 1) (by omega) (by simpa using h); simpa using this) (fun h => by have := h2 (by simpa using h); simpa using this)]
theorem tw_spec {α : Type} {p : α → Bool} : ∀ {xs : List α}, (xs.takeWhile p).length ≤ xs.length ∧ (∀ j (_ : j < (xs.takeWhile p).length) (h : j < xs.length), p xs[j] = true) ∧ ∀ h : (xs.takeWhile p).length < xs.length, p xs[(xs.takeWhile p).length] = false
  | [] => by simp
  | x :: r => by
    cases hx : p x
    · rw [List.takeWhile_cons_of_neg (by simp [hx])]; simp [hx]
    · rw [List.takeWhile_cons_of_pos hx]
      obtain ⟨h1, h2, h3⟩ := tw_spec (p := p) (xs := r)
      refine ⟨by simpa using h1, fun j hj h => ?_, fun h => ?_⟩
      · cases j with
        | zero => simpa using hx
        | succ j => simpa using h2 j (by simpa using hj) (by simpa using h)
      · simpa using h3 (by simpa using h)
def hitB {α : Type} (f : α → Int) : Option α → Bool
  | some x => decide (f x = 0)
  | none => false
end Go.Proofs.YtgogcgkocjpgoaaGreatDoor
/- Hearing: what a packet changes in a receiver; plain laws. -/
namespace Go.Proofs.YtgogcgkocjpgoaaGreatDoor
open Go.RowKit
theorem gpInj {t a b : Int} (ha : isSer a = true) (hb : isSer b = true) (h : gp t a = gp t b) : a = b := by
  obtain ⟨a0, a1⟩ := isSer_iff.1 ha
  obtain ⟨b0, b1⟩ := isSer_iff.1 hb
  unfold gp at h; omega
def askAt (base : Int) (l : List Request) (n : Int) : Nat := (l.takeWhile fun r => decide (gp base r.number < gp base n)).length
def askOn (base : Int) (l : List Request) (n : Int) : Bool := match l[askAt base l n]? with | some r => decide (r.number = n) | none => false
def newQ (n u : Int) : Request := ⟨n, 1, u, 0⟩
def insQ (base : Int) (l : List Request) (n u : Int) : List Request := l.take (askAt base l n) ++ newQ n u :: l.drop (askAt base l n)
def addQ (base : Int) (l : List Request) (n u : Int) : List Request := if askOn base l n || !decide (gp base n < 8) then l else insQ base l n u
def confQ (base : Int) (l : List Request) (n u : Int) : List Request := match l[askAt base l n]? with | some r => if r.number = n then l.set (askAt base l n) ⟨n, 3, u, r.tries⟩ else l | none => l
theorem askAt_le (base : Int) (l : List Request) (n : Int) : askAt base l n ≤ l.length := tw_spec.1
theorem askOn_at {base : Int} {l : List Request} {n : Int} (h : askAt base l n < l.length) : askOn base l n = decide (l[askAt base l n].number = n) := by unfold askOn; rw [List.getElem?_eq_getElem h]
theorem askOn_end {base : Int} {l : List Request} {n : Int} (h : ¬ askAt base l n < l.length) : askOn base l n = false := by unfold askOn; rw [List.getElem?_eq_none (by omega)]
theorem askOn_lt {base : Int} {l : List Request} {n : Int} (h : askOn base l n = true) : askAt base l n < l.length := by
  by_cases h2 : askAt base l n < l.length
  · exact h2
  · rw [askOn_end h2] at h; cases h
theorem confQ_no {base : Int} {l : List Request} {n u : Int} (h : askOn base l n = false) : confQ base l n u = l := by
  unfold confQ
  unfold askOn at h
  cases hq : l[askAt base l n]? with
  | none => rfl
  | some r => rw [hq] at h; dsimp only at h ⊢; rw [if_neg (by simpa using h)]
theorem confQ_yes {base : Int} {l : List Request} {n u : Int} (h : askOn base l n = true) : confQ base l n u = l.set (askAt base l n) ⟨n, 3, u, (l[askAt base l n]'(askOn_lt h)).tries⟩ := by
  have h2 := askOn_lt h
  rw [askOn_at h2] at h
  unfold confQ
  rw [List.getElem?_eq_getElem h2]
  dsimp only
  rw [if_pos (by simpa using h)]
theorem confQ_len (base : Int) (l : List Request) (n u : Int) : (confQ base l n u).length = l.length := by
  cases h : askOn base l n
  · rw [confQ_no h]
  · rw [confQ_yes h, List.length_set]
/-- where a serial is put, none is that is not less -/
theorem ask_ne {base n : Int} {l : List Request} (hq : areQ l base = true) (hn : isSer n = true) (h : askOn base l n = false) : ∀ r ∈ l, gp base r.number ≠ gp base n := by
  obtain ⟨-, -, h3, h4⟩ := areQ_iff.1 hq
  obtain ⟨t1, t2, t3⟩ := tw_spec (p := fun r : Request => decide (gp base r.number < gp base n)) (xs := l)
  intro r hr e
  obtain ⟨i, hi, rfl⟩ := List.getElem_of_mem hr
  have e2 := gpInj (okReq_iff.1 (h3 _ hr)).n hn e
  have hk : askAt base l n = i := tw_len (by omega) (fun j hj h => by
    have := List.pairwise_iff_getElem.1 h4 j i h hi hj
    simp only [decide_eq_true_eq]; omega) (fun h => by simp only [decide_eq_false_iff_not]; omega)
  rw [askOn_at (by omega)] at h
  simp only [hk] at h
  simp [e2] at h
theorem pw_len {base : Int} {l : List Request} (hp : l.Pairwise fun a b => gp base a.number < gp base b.number) (h8 : ∀ q ∈ l, gp base q.number < 8) : l.length ≤ 8 := by
  have key : ∀ i (h : i < l.length), (i : Int) ≤ gp base l[i].number := by
    intro i
    induction i with
    | zero => intro h; exact (gp_bd _ _).1
    | succ i ih =>
      intro h
      have a := ih (by omega)
      have b := List.pairwise_iff_getElem.1 hp i (i + 1) (by omega) h (by omega)
      omega
  by_cases h : l.length ≤ 8
  · exact h
  · have a := key 8 (by omega)
    have b := h8 _ (List.getElem_mem (show 8 < l.length by omega))
    omega
theorem insQ_good {base n u : Int} {l : List Request} (hq : areQ l base = true) (hn : isSer n = true) (h8 : gp base n < 8) (u0 : 0 ≤ u) (u1 : u ≤ 10007) (h : askOn base l n = false) : areQ (insQ base l n u) base = true := by
  have hne := ask_ne hq hn h
  obtain ⟨h1, h2, h3, h4⟩ := areQ_iff.1 hq
  obtain ⟨t1, t2, t3⟩ := tw_spec (p := fun r : Request => decide (gp base r.number < gp base n)) (xs := l)
  have hle := askAt_le base l n
  have hok : ∀ r ∈ insQ base l n u, okReq base r = true := by
    intro r hr
    unfold insQ at hr
    rcases List.mem_append.1 hr with h | h
    · exact h3 r (List.mem_of_mem_take h)
    · rcases List.mem_cons.1 h with rfl | h
      · exact okReq_iff.2 ⟨hn, h8, by show (1 : Int) ≤ 1; decide, by show (1 : Int) ≤ 3; decide, u0, u1, by show (0 : Int) ≤ 0; decide, by show (0 : Int) ≤ 3; decide⟩
      · exact h3 r (List.mem_of_mem_drop h)
  have hpw : (insQ base l n u).Pairwise fun a b => gp base a.number < gp base b.number := by
    unfold insQ
    rw [List.pairwise_append]
    refine ⟨h4.sublist (List.take_sublist _ _), ?_, ?_⟩
    · rw [List.pairwise_cons]
      refine ⟨fun b hb => ?_, h4.sublist (List.drop_sublist _ _)⟩
      obtain ⟨j, hj, rfl⟩ := List.getElem_of_mem hb
      rw [List.getElem_drop]
      rw [List.length_drop] at hj
      have hk : askAt base l n < l.length := by omega
      have h0 := t3 hk
      simp only [decide_eq_false_iff_not, Int.not_lt] at h0
      have h00 : gp base n ≤ gp base (l[askAt base l n]'hk).number := h0
      have hd := hne _ (List.getElem_mem hk)
      show gp base n < _
      rcases Nat.eq_zero_or_pos j with e | e
      · subst e; simp only [Nat.add_zero]; omega
      · have h5 := List.pairwise_iff_getElem.1 h4 (askAt base l n) (askAt base l n + j) hk (by omega) (by omega)
        omega
    · intro a ha b hb
      obtain ⟨i, hi, rfl⟩ := List.getElem_of_mem ha
      rw [List.length_take] at hi
      rw [List.getElem_take]
      have ha2 := t2 i (by show i < askAt base l n; omega) (by omega)
      simp only [decide_eq_true_eq] at ha2
      rcases List.mem_cons.1 hb with rfl | hb
      · exact ha2
      · obtain ⟨j, hj, rfl⟩ := List.getElem_of_mem hb
        rw [List.getElem_drop]
        rw [List.length_drop] at hj
        exact List.pairwise_iff_getElem.1 h4 i (askAt base l n + j) (by omega) (by omega) (by omega)
  exact areQ_iff.2 ⟨h1, pw_len hpw fun q hq => (okReq_iff.1 (hok q hq)).g, hok, hpw⟩
theorem addQ_good {base n u : Int} {l : List Request} (hq : areQ l base = true) (hn : isSer n = true) (u0 : 0 ≤ u) (u1 : u ≤ 10007) : areQ (addQ base l n u) base = true := by
  unfold addQ
  split
  · exact hq
  · rename_i h
    simp only [Bool.or_eq_true, Bool.not_eq_true', not_or, Bool.not_eq_false, Bool.not_eq_true, decide_eq_true_eq] at h
    exact insQ_good hq hn h.2 u0 u1 h.1
theorem mem_addQ {base n u : Int} {l : List Request} {q : Request} (h : q ∈ addQ base l n u) : q ∈ l ∨ q.number = n := by
  unfold addQ insQ at h
  split at h
  · exact .inl h
  · rcases List.mem_append.1 h with h | h
    · exact .inl (List.mem_of_mem_take h)
    · rcases List.mem_cons.1 h with rfl | h
      · exact .inr rfl
      · exact .inl (List.mem_of_mem_drop h)
theorem confQ_good {base n u : Int} {l : List Request} (hq : areQ l base = true) (u0 : 0 ≤ u) (u1 : u ≤ 10007) : areQ (confQ base l n u) base = true := by
  cases h : askOn base l n
  · rw [confQ_no h]; exact hq
  obtain ⟨h1, h2, h3, h4⟩ := areQ_iff.1 hq
  have hk := askOn_lt h
  have hn : l[askAt base l n].number = n := by rw [askOn_at hk] at h; simpa using h
  have ho := okReq_iff.1 (h3 _ (List.getElem_mem hk))
  rw [confQ_yes h]
  have hnum : ∀ i (h : i < (l.set (askAt base l n) ⟨n, 3, u, l[askAt base l n].tries⟩).length), (l.set (askAt base l n) ⟨n, 3, u, l[askAt base l n].tries⟩)[i].number = (l[i]'(by simpa using h)).number := fun i h => by
    rw [List.getElem_set]
    split
    · rename_i e; subst e; exact hn.symm
    · rfl
  refine areQ_iff.2 ⟨h1, by simpa using h2, fun r hr => ?_, ?_⟩
  · have gn := ho.n
    have gg := ho.g
    rw [hn] at gn gg
    rcases List.mem_or_eq_of_mem_set hr with h | rfl
    · exact h3 r h
    · exact okReq_iff.2 ⟨gn, gg, by show (1 : Int) ≤ 3; decide, by show (3 : Int) ≤ 3; decide, u0, u1, ho.t0, ho.t1⟩
  · refine List.pairwise_iff_getElem.2 fun i j hi hj hij => ?_
    rw [hnum i hi, hnum j hj]
    exact List.pairwise_iff_getElem.1 h4 i j _ _ hij
theorem mem_confQ {base n u : Int} {l : List Request} {q : Request} (h : q ∈ confQ base l n u) : ∃ r ∈ l, r.number = q.number := by
  cases h2 : askOn base l n
  · rw [confQ_no h2] at h; exact ⟨q, h, rfl⟩
  have hk := askOn_lt h2
  have hn : l[askAt base l n].number = n := by rw [askOn_at hk] at h2; simpa using h2
  rw [confQ_yes h2] at h
  rcases List.mem_or_eq_of_mem_set h with h | rfl
  · exact ⟨q, h, rfl⟩
  · exact ⟨_, List.getElem_mem hk, hn⟩
/-- what news change -/
def startW (r : Receiver) (p : Packet) : ReceiveWindow := if r.started then r.window else ⟨if p.kind = 5 then p.lead else p.number, r.window.slots⟩
def takenW (r : Receiver) (p : Packet) : ReceiveWindow := if p.kind = 5 then startW r p else takeW (startW r p) p.number p.data
def takenE (r : Receiver) (p : Packet) : List ByteArray := if p.kind = 5 then [] else takeE (startW r p) p.number p.data
def skipW (w : ReceiveWindow) (t : Int) : ReceiveWindow := if bef w.next t then (if gp w.next t ≤ 8 then movedW w t else ⟨t, []⟩) else w
def skipE (w : ReceiveWindow) (t : Int) : List ByteArray := if bef w.next t then (if gp w.next t ≤ 8 then movedE w t else [⟨#[33]⟩]) else []
def newsW (r : Receiver) (p : Packet) : ReceiveWindow := skipW (takenW r p) p.trail
def newsE (r : Receiver) (p : Packet) : List ByteArray := takenE r p ++ skipE (takenW r p) p.trail
def addAll (base u : Int) (l : List Request) (ns : List Int) : List Request := ns.foldl (fun l n => addQ base l n u) l
def awaitN (w : ReceiveWindow) (lead : Int) : Nat := (min (gp w.next lead) 8).toNat
def awaitQ (w : ReceiveWindow) (l : List Request) (lead u : Int) : List Request := if bef w.next lead then addAll w.next u l (missL w (awaitN w lead)) else l
def newsR (r : Receiver) (p : Packet) (d : Int) : Receiver := ⟨true, r.clock, newsW r p, awaitQ (newsW r p) (needed r.requests (newsW r p)) p.lead (r.clock + d)⟩
def isNews (p : Packet) : Bool := decide (p.kind = 1) || decide (p.kind = 2) || decide (p.kind = 5)
def confR (r : Receiver) (p : Packet) : Receiver := ⟨r.started, r.clock, r.window, confQ r.window.next r.requests p.number (r.clock + 4)⟩
def hearR (r : Receiver) (p : Packet) (d : Int) : Receiver := if isNews p then newsR r p d else if decide (p.kind = 4) && r.started then confR r p else r
def hearE (r : Receiver) (p : Packet) : List ByteArray := if isNews p then newsE r p else []
theorem take_good {w : ReceiveWindow} {n : Int} {s : ByteArray} (hg : goodRW w = true) (hn : isSer n = true) (hs : itm s = true) : goodRW (takeW w n s) = true ∧ (∃ m : Nat, m ≤ 8 ∧ (takeW w n s).next = aft w.next m) ∧ (takeE w n s).length ≤ 8 := by
  obtain ⟨w0, w1⟩ := next_ser hg
  cases ht : takeOk w n
  · have e : (takeNo w n || !decide (gp w.next n < 8)) = true := by unfold takeOk at ht; simp only [Bool.or_eq_false_iff] at ht; rw [ht.1, ht.2]; rfl
    have e1 : takeW w n s = w := by unfold takeW; rw [if_pos e]
    have e2 : takeE w n s = [] := by unfold takeE; rw [if_pos e]
    rw [e1, e2]
    exact ⟨hg, ⟨0, by omega, (aft_zeroN w0 w1).symm⟩, by simp⟩
  · have hok : okTakeItem w n s = true := by unfold okTakeItem; rw [hg, hn, hs, ht]; rfl
    have h := law_take w n s (by unfold resTakeItem; rw [hok]; rfl)
    rw [show resTakeItem w n s = (takeW w n s, takeE w n s, true) by unfold resTakeItem; rw [hok]; rfl] at h
    obtain ⟨-, -, h3, h4, -, -, h7, -⟩ := h
    dsimp only at h3 h4 h7
    refine ⟨h3, ⟨_, h7, ?_⟩, h7⟩
    obtain ⟨v0, v1⟩ := next_ser h3
    rw [← h4]
    unfold aft gp at *; omega
theorem start_good {r : Receiver} {p : Packet} (hg : GoodR r) (hp : goodPk p = true) : goodRW (startW r p) = true ∧ (r.started = true → startW r p = r.window) := by
  unfold startW
  unfold goodPk at hp
  simp only [Bool.and_eq_true] at hp
  cases hs : r.started
  · refine ⟨?_, fun h => by cases h⟩
    rw [(hg.z hs).1]
    simp only [Bool.false_eq_true, if_false]
    unfold goodRW
    split
    · rw [hp.1.1.1.2]; rfl
    · rw [hp.1.1.1.1.1.2]; rfl
  · exact ⟨hg.w, fun _ => rfl⟩
theorem taken_good {r : Receiver} {p : Packet} (hg : GoodR r) (hp : goodPk p = true) : goodRW (takenW r p) = true ∧ (∃ m : Nat, m ≤ 8 ∧ (takenW r p).next = aft (startW r p).next m) ∧ (takenE r p).length ≤ 8 := by
  have h1 := (start_good hg hp).1
  obtain ⟨w0, w1⟩ := next_ser h1
  unfold takenW takenE
  split
  · exact ⟨h1, ⟨0, by omega, (aft_zeroN w0 w1).symm⟩, by simp⟩
  · unfold goodPk at hp
    simp only [Bool.and_eq_true] at hp
    exact take_good h1 hp.1.1.1.1.1.2 hp.1.1.2
theorem skip_good {w : ReceiveWindow} {t : Int} (hg : goodRW w = true) (ht : isSer t = true) : goodRW (skipW w t) = true ∧ (∃ m : Nat, m ≤ 32767 ∧ (skipW w t).next = aft w.next m) ∧ (skipE w t).length ≤ 16 := by
  obtain ⟨w0, w1⟩ := next_ser hg
  obtain ⟨t0, t1⟩ := isSer_iff.1 ht
  unfold skipW skipE
  cases hb : bef w.next t
  · exact ⟨hg, ⟨0, by omega, (aft_zeroN w0 w1).symm⟩, by simp⟩
  · simp only [if_true]
    split
    · obtain ⟨e1, e2, e3, e4⟩ := moved_at (t := t) hg
      have := @stepsN_gp w.next t
      exact ⟨giveUp_good _ _ hg, ⟨_, by omega, e1⟩, by omega⟩
    · refine ⟨by unfold goodRW; rw [ht]; rfl, ⟨(gp w.next t).toNat, ?_, ?_⟩, by simp⟩
      · unfold bef btw at hb; simp only [Bool.and_eq_true, decide_eq_true_eq] at hb; omega
      · have := gp_bd w.next t
        show t = _
        unfold aft gp at *; omega
theorem needed_good {l : List Request} {b : Int} {w : ReceiveWindow} {m : Nat} (hm : m ≤ 65528) (hq : areQ l b = true) (hw : goodRW w = true) (e : w.next = aft b m) : areQ (needed l w) w.next = true := by
  obtain ⟨h1, h2, h3, h4⟩ := areQ_iff.1 hq
  obtain ⟨b0, b1⟩ := isSer_iff.1 h1
  have key : ∀ q ∈ l, gp w.next q.number < 8 → gp w.next q.number = gp b q.number - m := fun q hq h => by
    have ho := okReq_iff.1 (h3 q hq)
    obtain ⟨n0, n1⟩ := isSer_iff.1 ho.n
    have := ho.g
    rw [e] at h ⊢
    unfold gp aft at *; omega
  have hin : ∀ q ∈ needed l w, q ∈ l ∧ gp w.next q.number < 8 := fun q hq => by
    unfold needed at hq
    rw [List.mem_filter] at hq
    simp only [Bool.and_eq_true, decide_eq_true_eq] at hq
    exact ⟨hq.1, hq.2.2⟩
  refine areQ_iff.2 ⟨isSer_iff.2 (next_ser hw), Nat.le_trans (List.length_filter_le _ _) h2, fun q hq => ?_, ?_⟩
  · obtain ⟨a, c⟩ := hin q hq
    have ho := okReq_iff.1 (h3 q a)
    exact okReq_iff.2 ⟨ho.n, c, ho.s0, ho.s1, ho.u0, ho.u1, ho.t0, ho.t1⟩
  · have h5 : (needed l w).Pairwise fun a b' => gp b a.number < gp b b'.number := h4.sublist List.filter_sublist
    refine h5.imp_of_mem fun ha hb h => ?_
    rw [key _ (hin _ ha).1 (hin _ ha).2, key _ (hin _ hb).1 (hin _ hb).2]; omega
theorem needed_free {l : List Request} {w : ReceiveWindow} : ∀ q ∈ needed l w, hasB w q.number = false := fun q hq => by
  unfold needed at hq
  rw [List.mem_filter] at hq
  simp only [Bool.and_eq_true, Bool.not_eq_true', Bool.or_eq_false_iff] at hq
  exact hq.2.1.2
theorem missL_at {w : ReceiveWindow} {k : Nat} (hk : k ≤ 8) {n : Int} (h : n ∈ missL w k) : isSer n = true ∧ gp w.next n < 8 ∧ hasB w n = false := by
  unfold missL spanL at h
  obtain ⟨h1, h2⟩ := List.mem_filter.1 h
  obtain ⟨i, hi, rfl⟩ := List.mem_map.1 h1
  rw [List.mem_range] at hi
  refine ⟨aft_ser _ _, ?_, by simpa using h2⟩
  unfold gp aft; omega
theorem addAll_good {w : ReceiveWindow} {u : Int} (u0 : 0 ≤ u) (u1 : u ≤ 10007) : ∀ (ns : List Int) (l : List Request), (∀ n ∈ ns, isSer n = true ∧ hasB w n = false) → areQ l w.next = true → (∀ q ∈ l, hasB w q.number = false) → areQ (addAll w.next u l ns) w.next = true ∧ ∀ q ∈ addAll w.next u l ns, hasB w q.number = false
  | [], l, _, h2, h3 => ⟨h2, h3⟩
  | n :: ns, l, h1, h2, h3 => by
    obtain ⟨a, b⟩ := h1 n (by simp)
    refine addAll_good u0 u1 ns (addQ w.next l n u) (fun n hn => h1 n (by simp [hn])) (addQ_good h2 a u0 u1) fun q hq => ?_
    rcases mem_addQ hq with h | h
    · exact h3 q h
    · rw [h]; exact b
theorem addAll_succ {base u : Int} {l : List Request} {ns : List Int} {k : Nat} (h : k < ns.length) : addAll base u l (ns.take (k + 1)) = addQ base (addAll base u l (ns.take k)) ns[k] u := by
  unfold addAll
  rw [List.take_add_one, List.getElem?_eq_getElem h, List.foldl_append]; rfl
theorem awaitN_le (w : ReceiveWindow) (t : Int) : awaitN w t ≤ 8 := by unfold awaitN; omega
theorem news_good {r : Receiver} {p : Packet} {d : Int} (hg : GoodR r) (hp : goodPk p = true) (d0 : 1 ≤ d) (d1 : d ≤ 8) (hk : r.clock + d ≤ 10007) : goodRW (newsW r p) = true ∧ areQ (needed r.requests (newsW r p)) (newsW r p).next = true ∧ GoodR (newsR r p d) ∧ (newsE r p).length ≤ 24 := by
  obtain ⟨a1, a2⟩ := start_good hg hp
  obtain ⟨b1, ⟨m, hm, em⟩, b3⟩ := taken_good hg hp
  have htr : isSer p.trail = true := by unfold goodPk at hp; simp only [Bool.and_eq_true] at hp; exact hp.1.1.1.1.2
  obtain ⟨c1, ⟨k, hk2, ek⟩, c3⟩ := skip_good b1 htr
  have hk0 := hg.k0
  have hq : areQ (needed r.requests (newsW r p)) (newsW r p).next = true := by
    cases hs : r.started
    · rw [(hg.z hs).2]
      exact (areQ_iff (l := [])).2 ⟨isSer_iff.2 (next_ser c1), Nat.zero_le 8, fun r hr => (by cases hr), List.Pairwise.nil⟩
    · refine needed_good (m := m + k) (by omega) hg.q c1 ?_
      show (newsW r p).next = _
      rw [show (newsW r p).next = aft (takenW r p).next k from ek, em, a2 hs, aft_add]
  have hn : newsW r p = skipW (takenW r p) p.trail := rfl
  refine ⟨c1, hq, ⟨hg.k0, hg.k1, c1, ?_, ?_, fun h => by cases h⟩, by unfold newsE; rw [List.length_append]; omega⟩
  · show areQ (awaitQ (newsW r p) (needed r.requests (newsW r p)) p.lead (r.clock + d)) (newsW r p).next = true
    unfold awaitQ
    split
    · exact (addAll_good (by omega) (by omega) _ _ (fun n hn => ⟨(missL_at (awaitN_le _ _) hn).1, (missL_at (awaitN_le _ _) hn).2.2⟩) hq needed_free).1
    · exact hq
  · show ∀ q ∈ awaitQ (newsW r p) (needed r.requests (newsW r p)) p.lead (r.clock + d), hasB (newsW r p) q.number = false
    unfold awaitQ
    split
    · exact (addAll_good (by omega) (by omega) _ _ (fun n hn => ⟨(missL_at (awaitN_le _ _) hn).1, (missL_at (awaitN_le _ _) hn).2.2⟩) hq needed_free).2
    · exact needed_free
theorem hear_good {r : Receiver} {p : Packet} {d : Int} (hg : GoodR r) (hp : goodPk p = true) (d0 : 1 ≤ d) (d1 : d ≤ 8) : GoodR (hearR r p d) ∧ (hearE r p).length ≤ 24 := by
  have hk1 := hg.k1
  have hk0 := hg.k0
  unfold hearR hearE
  split
  · exact ⟨(news_good hg hp d0 d1 (by omega)).2.2.1, (news_good hg hp d0 d1 (by omega)).2.2.2⟩
  · refine ⟨?_, by simp⟩
    split
    · rename_i h
      simp only [Bool.and_eq_true, decide_eq_true_eq] at h
      refine ⟨hk0, hk1, hg.w, confQ_good hg.q (by omega) (by omega), fun q hq => ?_, fun hs => ?_⟩
      · obtain ⟨r', hr, e⟩ := mem_confQ hq
        show hasB r.window q.number = false
        rw [← e]; exact hg.f r' hr
      · have : r.started = false := hs
        rw [h.2] at this; cases this
    · exact hg
end Go.Proofs.YtgogcgkocjpgoaaGreatDoor
/- Hearing: the place of a serial among the requests. -/
namespace Go.Proofs.YtgogcgkocjpgoaaGreatDoor
open Go.RowKit
theorem rep1_Request (y : Request) (w : World) : Flat ERequest w [.int .i64 y.number, .int .i64 y.state, .int .i64 y.untl, .int .i64 y.tries] [y] [] := ⟨_, [], [], [], by simp, by simp, ⟨rfl, rfl⟩, rfl, rfl⟩
instance : IntC Tryz.prog 248 .u64 := ⟨Tryz.underlying248⟩

set_option maxRecDepth 100000 in
theorem SrchReq_f (fid : FuncId) (caps : List Value) (A : List Pc) (hA : A.all (fun p => !p.mu) = true) (xs : List Request) (a : Option Addr) (c : Nat) (F : List Nat) (tv : Value) (f : Request → Int) (hm : ∀ i j (_ : i ≤ j) (hj : j < xs.length), f xs[j] < 0 → f (xs[i]'(by omega)) < 0) (hb : bodyB Tryz.prog fid = true) (hl : xs.length ≤ 1000000)
    (hp : ∀ x ∈ xs, ∀ w, Hol A w → Calls Tryz.prog fid ([.agg #[.int .i64 x.number, .int .i64 x.state, .int .i64 x.untl, .int .i64 x.tries], tv] ++ caps).toArray w fun e w' => e = .returned (.int .i64 (f x)) ∧ Below w.heap.size w w') :
    Fn Tryz.prog 220 [.slice a xs.length c, tv, .func (.func fid) #[] caps.toArray] (.sl ERequest (.slice a xs.length c) xs F :: A) [] (fun (_ : Unit) => True) (fun _ => .tuple #[.int .i64 ((xs.takeWhile fun x => decide (f x < 0)).length : Nat), .bool (hitB f xs[(xs.takeWhile fun x => decide (f x < 0)).length]?)]) (fun _ => []) := by
  refine enter Tryz.func220 rfl Tryz.ntmps220 (fun w0 => ?_) rfl (by simpa [Pc.mu] using hA) .nil
  refine go ?_; intros
  refine c_loopR [0, 1, 2, 6, 7, 8] (fun s : Nat × Nat => [(9, .int .i64 (s.1 : Nat)), (10, .int .i64 (s.2 : Nat))]) (fun s => s.1 ≤ s.2 ∧ s.2 ≤ xs.length ∧ (∀ j (_ : j < s.1) (h : j < xs.length), f xs[j] < 0) ∧ (∀ j (_ : s.2 ≤ j) (h : j < xs.length), ¬ f xs[j] < 0)) (fun s => s.2 - s.1) (0, xs.length) ⟨Nat.zero_le _, Nat.le_refl _, fun j h => by omega, fun j h1 h2 => by omega⟩ fun s hs => ?_
  obtain ⟨i, j⟩ := s
  obtain ⟨h1, h2, h3, h4⟩ := hs
  dsimp only at h1 h2 h3 h4 ⊢
  refine go ?_; intros
  refine c_if rfl (fun h5 => ?_) (fun h5 => ?_)
  · have hh : (i + j) / 2 < xs.length := by omega
    have e2 : ((i : Int) + (j : Int)) / 2 = (((i + j) / 2 : Nat) : Int) := by omega
    refine go ?_; intros
    apply wO; apply oc; rfl; exact yd_cvu rfl (by omega) (by omega)
    refine go ?_; intros
    apply wO; apply oc; rfl; exact yd_shr1 rfl
    rw [e2]
    apply wO; apply oc; rfl; exact yd_cv rfl (by omega) (by omega)
    generalize hq : (i + j) / 2 = q at hh
    refine go ?_; intros
    refine atRequest (xs := xs) q ?_
    rintro hi b o e
    rw [e]
    refine go ?_; intros
    apply wO
    refine o_callv rfl rfl hb evsE ?_
    refine cb (fun w st => hp xs[q] (List.getElem_mem hh) w (fun p hp => st.on p (by simp [hp]))) ?_
    refine go ?_; intros
    refine c_if rfl (fun h6 => ?_) (fun h6 => ?_)
    · refine go ?_; intros
      refine t_drop ?_
      refine n_lp (hH := hsub_refl _) (q + 1, j) ⟨by show q + 1 ≤ j; omega, h2, fun k hk h => hm k q (by have : k < q + 1 := hk; omega) hh h6, h4⟩ (by show j - (q + 1) < j - i; omega)
    · refine go ?_; intros
      refine t_drop ?_
      refine n_lp (hH := hsub_refl _) (i, q) ⟨by show i ≤ q; omega, by show q ≤ xs.length; omega, h3, fun k hk h hn => h6 (hm q k hk h hn)⟩ (by show q - i < j - i; omega)
  · have hij : i = j := by omega
    subst hij
    have hk : (xs.takeWhile fun x => decide (f x < 0)).length = i := tw_len h2 (fun j hj h => decide_eq_true (h3 j hj h)) (fun h => decide_eq_false (h4 i (Nat.le_refl _) h))
    rw [hk]
    refine go ?_; intros
    refine wg_if rfl rfl (fun h6 => ?_) (fun h6 => ?_)
    · have hh : i < xs.length := by omega
      rw [List.getElem?_eq_getElem hh]
      refine go ?_; intros
      refine atRequest (xs := xs) i ?_
      rintro hi b o e
      rw [e]
      refine go ?_; intros
      apply wO
      refine o_callv rfl rfl hb evsE ?_
      refine cb (fun w st => hp xs[i] (List.getElem_mem hh) w (fun p hp => st.on p (by simp [hp]))) ?_
      refine go ?_; intros
      refine ret () trivial rfl
    · rw [List.getElem?_eq_none (by omega)]
      refine go ?_; intros
      refine ret () trivial rfl

theorem srch_ask {base n : Int} {l : List Request} (hser : ∀ q ∈ l, isSer q.number = true) (hn : isSer n = true) : (l.takeWhile fun x => decide (gp base x.number - gp base n < 0)).length = askAt base l n ∧
    hitB (fun x : Request => gp base x.number - gp base n) l[(l.takeWhile fun x => decide (gp base x.number - gp base n < 0)).length]? = askOn base l n := by
  have e : (fun x : Request => decide (gp base x.number - gp base n < 0)) = fun h => decide (gp base h.number < gp base n) := by
    funext x; rw [decide_eq_decide]; omega
  have e1 : (l.takeWhile fun x => decide (gp base x.number - gp base n < 0)).length = askAt base l n := by unfold askAt; rw [e]
  refine ⟨e1, ?_⟩
  rw [e1]
  unfold askOn
  cases hq : l[askAt base l n]? with
  | none => rfl
  | some z =>
    show decide (gp base z.number - gp base n = 0) = decide (z.number = n)
    rw [decide_eq_decide]
    exact ⟨fun h => gpInj (t := base) (hser z (List.mem_of_getElem? hq)) hn (by omega), fun h => by rw [h]; omega⟩
set_option maxRecDepth 100000 in
theorem fr1_f (r : Request) (n t : Int) (gb : Nat) (t0 : 0 ≤ t) (t1 : t ≤ 65535) (n0 : 0 ≤ n) (n1 : n ≤ 65535) (m0 : 0 ≤ r.number) (m1 : r.number ≤ 65535) :
    Fn Tryz.prog 221 [.agg #[.int .i64 r.number, .int .i64 r.state, .int .i64 r.untl, .int .i64 r.tries], .int .i64 n, ptr gb 0 0] [.cel gb 0 [.int .i64 t]] [] (fun (_ : Unit) => True) (fun _ => .int .i64 (gp t r.number - gp t n)) (fun _ => []) := by
  have b1 := gp_bd t r.number
  have b2 := gp_bd t n
  refine enter Tryz.func221 rfl Tryz.ntmps221 fun w0 => ?_
  refine go ?_; intros
  refine d_start [0, 1] [] ?_
  refine dt 0 ?_
  refine dt 1 ?_
  refine dt 2 ?_
  refine dt 4 ?_
  refine dt 5 ?_
  refine dO 3 (by kernel_rfl) (by rw [List.getElem?_toArray]; rfl) ?_
  apply o_call; rfl; kernel_rfl; exact evsE
  refine ce (fun w s => gap_c _ _ _ (by omega) (by omega) (by omega) (by omega)) ?_
  refine dk ?_
  refine dO 6 (by kernel_rfl) (by rw [List.getElem?_toArray]; rfl) ?_
  apply o_call; rfl; kernel_rfl; exact evsE
  refine ce (fun w s => gap_c _ _ _ (by omega) (by omega) (by omega) (by omega)) ?_
  refine dk ?_
  refine dt 7 ?_
  refine dt 8 ?_
  refine dd ?_
  refine go ?_; intros
  refine ret () trivial rfl
set_option maxRecDepth 100000 in
theorem findRequest_f (l : List Request) (base n : Int) (a : Option Addr) (c : Nat) (F : List Nat) (hq : areQ l base = true) (hn : isSer n = true) :
    Fn Tryz.prog 139 [.slice a l.length c, .int .i64 base, .int .i64 n] [.sl ERequest (.slice a l.length c) l F] [] (fun (_ : Unit) => True) (fun _ => .tuple #[.int .i64 (askAt base l n : Nat), .bool (askOn base l n)]) (fun _ => []) := by
  obtain ⟨q1, q2, q3, q4⟩ := areQ_iff.1 hq
  have hser : ∀ q ∈ l, isSer q.number = true := fun q h => (okReq_iff.1 (q3 q h)).n
  obtain ⟨b0, b1⟩ := isSer_iff.1 q1
  obtain ⟨n0, n1⟩ := isSer_iff.1 hn
  obtain ⟨e1, e2⟩ := srch_ask (base := base) hser hn
  refine enter Tryz.func139 rfl Tryz.ntmps139 fun w0 => ?_
  refine go ?_; intros
  rename_i gb
  refine cb (fun w st => by
    have r1 := st.get (p := .row gb 3 0 [] [.int .i64 base] []) (by simp)
    have hw := (st.get (p := .sl ERequest (.slice a l.length c) l F) (by simp)).2
    refine (SrchReq_f 221 [ptr gb 0 0] [.cel gb 0 [.int .i64 base]] rfl l a c F (.int .i64 n) (fun r => gp base r.number - gp base n) (fun i j hij hj h => ?_) (by kernel_rfl) (by omega) fun x hx w' hA => ?_).val w ?_
    · rcases Nat.lt_or_eq_of_le hij with h2 | rfl
      · have := List.pairwise_iff_getElem.1 q4 i j (by omega) hj h2; omega
      · exact h
    · obtain ⟨m0, m1⟩ := isSer_iff.1 (hser x hx)
      exact (fr1_f x n base gb b0 b1 n0 n1 m0 m1).val w' hA
    · intro p hp
      simp only [List.mem_cons, List.not_mem_nil, or_false] at hp
      rcases hp with rfl | rfl
      · exact st.get (by simp)
      · exact ⟨by simp, row_range r1⟩) ?_
  rw [e2, e1]
  refine go ?_; intros
  refine ret () trivial rfl
set_option maxRecDepth 100000 in
theorem l12Place_f (l : List Request) (base n : Int) (a : Option Addr) (c : Nat) (F : List Nat) (hq : areQ l base = true) (hn : isSer n = true) :
    Fn Tryz.prog 143 [.slice a l.length c, .int .i64 base, .int .i64 n] [.sl ERequest (.slice a l.length c) l F] [] (fun (_ : Unit) => True) (fun _ => .tuple #[.int .i64 (askAt base l n : Nat), .bool (askOn base l n)]) (fun _ => []) := by
  obtain ⟨q1, q2, q3, q4⟩ := areQ_iff.1 hq
  have hser : ∀ q ∈ l, isSer q.number = true := fun q h => (okReq_iff.1 (q3 q h)).n
  obtain ⟨b0, b1⟩ := isSer_iff.1 q1
  obtain ⟨n0, n1⟩ := isSer_iff.1 hn
  obtain ⟨t1, t2, t3⟩ := tw_spec (p := fun r : Request => decide (gp base r.number < gp base n)) (xs := l)
  have hle := askAt_le base l n
  have hb2 := gp_bd base n
  refine enter Tryz.func143 rfl Tryz.ntmps143 fun w0 => ?_
  refine go ?_; intros
  refine c_loopS [0, 1, 2, 6, 7] (fun k : Nat => [(8, .int .i64 (k : Nat))]) (fun _ => []) (fun k => k ≤ askAt base l n) (fun k => l.length - k) 0 (Nat.zero_le _) fun k hk => ?_
  have leaf : ∀ h : k < l.length, decide (gp base l[k].number < gp base n) = decide (k < askAt base l n) := fun h => by
    by_cases h2 : k < askAt base l n
    · rw [decide_eq_true h2]; exact t2 k h2 h
    · have e : k = askAt base l n := by omega
      subst e
      rw [decide_eq_false h2]; exact t3 h
  refine go ?_; intros
  refine wg_if rfl rfl (fun h4 => ?_) (fun h4 => ?_)
  · have hi : k < l.length := by omega
    refine go ?_; intros
    refine atRequest (xs := l) k ?_
    rintro hi b o e
    rw [e]
    refine go ?_; intros
    obtain ⟨m0, m1⟩ := isSer_iff.1 (hser _ (List.getElem_mem hi))
    have hb1 := gp_bd base l[k].number
    refine ce (fun w s => l2Gap_c _ _ _ (by omega) (by omega)) ?_
    refine go ?_; intros
    refine ce (fun w s => l2Gap_c _ _ _ (by omega) (by omega)) ?_
    have lf := leaf hi
    refine go ?_; intros
    refine c_if rfl (fun h5 => ?_) (fun h5 => ?_)
    · have h6 : k < askAt base l n := by rw [decide_eq_true h5] at lf; simpa using lf.symm
      refine go ?_; intros
      refine n_lp (k + 1) (by show k + 1 ≤ askAt base l n; omega) (by show l.length - (k + 1) < l.length - k; omega)
    · have h6 : k = askAt base l n := by rw [decide_eq_false h5] at lf; have : ¬ k < askAt base l n := by simpa using lf.symm
                                         omega
      refine go ?_; intros
      refine d_start [0] [] ?_
      refine dt 0 ?_
      refine dt 1 ?_
      refine dt 2 ?_
      refine dt 3 ?_
      refine dt 4 ?_
      rw [decide_eq_true h4]
      refine dt 5 ?_
      refine dtg 6 ?_
      refine dtg 7 ?_
      refine dtg 8 ?_
      refine dtg 9 ?_
      refine dtg 10 ?_
      refine dtg 11 ?_
      refine dtg 12 ?_
      refine dt 13 ?_
      refine dt 14 ?_
      refine dt 15 ?_
      refine dd ?_
      rw [askOn_at (by omega)]
      subst h6
      refine go ?_; intros
      refine ret () trivial rfl
  · have h6 : k = askAt base l n := by omega
    refine go ?_; intros
    refine d_start [0] [] ?_
    refine dt 0 ?_
    refine dt 1 ?_
    refine dt 2 ?_
    refine dt 3 ?_
    refine dt 4 ?_
    rw [decide_eq_false h4]
    refine dt 5 ?_
    refine ds 6 ?_
    refine ds 7 ?_
    refine ds 8 ?_
    refine ds 9 ?_
    refine ds 10 ?_
    refine ds 11 ?_
    refine ds 12 ?_
    refine dt 13 ?_
    refine dt 14 ?_
    refine dt 15 ?_
    refine dd ?_
    rw [askOn_end (by omega)]
    subst h6
    refine go ?_; intros
    refine ret () trivial rfl
end Go.Proofs.YtgogcgkocjpgoaaGreatDoor
/- Draws, for the engine: requests. -/
namespace Go.Proofs.YtgogcgkocjpgoaaGreatDoor
open Go.RowKit
theorem mostQ_f (a b : Int) : Fn Tryz.prog 267 [.int .i64 a, .int .i64 b] [] [] (fun (_ : Unit) => True) (fun _ => .int .i64 (max a b)) (fun _ => []) := by
  refine enter Tryz.func267 rfl Tryz.ntmps267 fun w0 => ?_
  refine go ?_; intros
  refine c_if rfl (fun h => ?_) (fun h => ?_)
  · refine go ?_; intros
    rw [show max a b = a by omega]
    refine ret () trivial rfl
  · refine go ?_; intros
    rw [show max a b = b by omega]
    refine ret () trivial rfl
structure RqD where
  xs : List Request
  i : Nat
  a : Option Addr
  c : Nat
  F : List Nat
  s : CuS
structure RqOk (B : Nat) (z : RqD) : Prop where
  l : z.xs.length ≤ z.i
  i : z.i ≤ 8
  s : CuOk (B + 10 * z.i) z.s
set_option maxRecDepth 100000 in
theorem requests_f (B g : Nat) (F : CuF) (s : CuS) (base : Int) (hb : base ≤ 1000000000) (ok : CuOk B s) (hB : B ≤ 700000000000) :
    Fn Tryz.prog 214 [ptr g 0 0, .int .i64 base] [.sl EByte (.slice F.a F.code.length F.c) F.code F.bs] [.row g 123 0 [] [.slice F.a F.code.length F.c, .int .i64 (s.k : Nat), .int .u64 s.seed] []] (fun (z : RqD) => z.xs.length ≤ 9 ∧ CuOk (B + 100) z.s) (fun z => .slice z.a z.xs.length z.c) (fun z => [.ow ERequest 152 (.slice z.a z.xs.length z.c) z.xs z.F, .row g 123 0 [] [.slice F.a F.code.length F.c, .int .i64 (z.s.k : Nat), .int .u64 z.s.seed] []]) := by
  refine enter Tryz.func214 rfl Tryz.ntmps214 fun w0 => ?_
  refine go ?_; intros
  refine t_emp ERequest ?_
  refine go ?_; intros
  refine c_loopS [0, 1, 4] (fun z : RqD => [(5, .slice z.a z.xs.length z.c), (6, .int .i64 (z.i : Nat))]) (fun z => [.ow ERequest 152 (.slice z.a z.xs.length z.c) z.xs z.F, .row g 123 0 [] [.slice F.a F.code.length F.c, .int .i64 (z.s.k : Nat), .int .u64 z.s.seed] []]) (RqOk B) (fun z => 8 - z.i) ⟨[], 0, _, _, _, s⟩ ⟨Nat.le_refl _, by show 0 ≤ 8; omega, ok.mono (by omega)⟩ fun z hz => ?_
  obtain ⟨z1, z2, z3⟩ := hz
  refine go ?_; intros
  refine wg_if rfl rfl (fun h1 => ?_) (fun h1 => ?_)
  refine go ?_; intros
  refine ce (fun w s => l2Good_c _ _) ?_
  cases g1 : isSer base
  rotate_left
  · obtain ⟨n0, n1⟩ := isSer_iff.1 g1
    refine go ?_; intros
    refine cf (one_f _ g F 3 z.s z3 (by omega) (by omega)) fun q hq => ?_
    refine t_app ?_
    obtain ⟨b, s1⟩ := q
    obtain ⟨-, h2⟩ := hq
    dsimp only at h2 ⊢
    cases b
    · refine go ?_; intros
      refine n_lp ⟨z.xs, z.i + 1, z.a, z.c, z.F, s1⟩ ⟨by show z.xs.length ≤ z.i + 1; omega, by show z.i + 1 ≤ 8; omega, h2.mono (by show _ ≤ B + 10 * (z.i + 1); omega)⟩ (by show 8 - (z.i + 1) < 8 - z.i; omega)
    refine go ?_; intros
    refine ce (fun w s => l2After_c _ _ _ (by omega) (by omega)) ?_
    refine go ?_; intros
    refine cf (pick_f _ g F 3 s1 h2 (by omega) (by omega)) fun y hy => ?_
    refine t_app ?_
    obtain ⟨k3, s3⟩ := y
    obtain ⟨r3, h3⟩ := hy
    dsimp only at r3 h3 ⊢
    have r3 : k3 ≤ 2 := by omega
    refine go ?_; intros
    refine cf (pick_f _ g F 12 s3 h3 (by omega) (by omega)) fun y hy => ?_
    refine t_app ?_
    obtain ⟨k4, s4⟩ := y
    obtain ⟨r4, h4⟩ := hy
    dsimp only at r4 h4 ⊢
    have r4 : k4 ≤ 11 := by omega
    refine go ?_; intros
    refine cf (pick_f _ g F 4 s4 h4 (by omega) (by omega)) fun y hy => ?_
    refine t_app ?_
    obtain ⟨k5, s5⟩ := y
    obtain ⟨r5, h5⟩ := hy
    dsimp only at r5 h5 ⊢
    have r5 : k5 ≤ 3 := by omega
    refine goN ?_; intros
    apply wO
    refine ap1 (rep1_Request ⟨aft base (z.i : Nat), 1 + (k3 : Nat), 10 + (k4 : Nat), (k5 : Nat)⟩) one_ERequest fun a9 c9 F9 => ?_
    refine go ?_; intros
    refine n_lp ⟨z.xs ++ [⟨aft base (z.i : Nat), 1 + (k3 : Nat), 10 + (k4 : Nat), (k5 : Nat)⟩], z.i + 1, a9, c9, F9, s5⟩ ⟨by show (z.xs ++ [_]).length ≤ z.i + 1; simp; omega, by show z.i + 1 ≤ 8; omega, h5.mono (by show _ ≤ B + 10 * (z.i + 1); omega)⟩ (by show 8 - (z.i + 1) < 8 - z.i; omega)
  all_goals
    refine go ?_; intros
    refine cf (pick_f _ g F 24 z.s z3 (by omega) (by omega)) fun p hp => ?_
    refine t_app ?_
    obtain ⟨r, s3⟩ := p
    obtain ⟨-, hp⟩ := hp
    dsimp only at hp ⊢
    refine go ?_; intros
    refine c_if rfl (fun e0 => ?_) (fun e0 => ?_)
    · refine go ?_; intros
      refine cf (anySerial_f _ g F s3 hp (by omega)) fun q hq => ?_
      refine t_app ?_
      refine goN ?_; intros
      apply wO
      refine ap1 (rep1_Request ⟨q.1, 1, 0, 0⟩) one_ERequest fun a9 c9 F9 => ?_
      refine go ?_; intros
      refine ret ⟨z.xs ++ [⟨q.1, 1, 0, 0⟩], 0, a9, c9, F9, q.2⟩ ⟨by show (z.xs ++ [_]).length ≤ 9; simp; omega, hq.mono (by omega)⟩ rfl
    refine go ?_; intros
    refine c_if rfl (fun e1 => ?_) (fun e1 => ?_)
    · refine goN ?_; intros
      refine t_row (xs := [0, 4, 1]) (fun w => flat_int w _) ?_ (by decide)
      refine t_read (E := EInt) fun G => ?_
      refine go ?_; intros
      refine cf (among_f _ g F _ [0, 4, 1] G s3 hp (by omega) (by decide) (by decide)) fun q hq => ?_
      refine t_app ?_
      refine goN ?_; intros
      refine t_row (xs := [-1, 10007, 10008]) (fun w => flat_int w _) ?_ (by decide)
      refine t_read (E := EInt) fun G => ?_
      refine go ?_; intros
      refine cf (among_f _ g F _ [-1, 10007, 10008] G q.2 hq.2 (by omega) (by decide) (by decide)) fun u hu => ?_
      refine t_app ?_
      refine goN ?_; intros
      apply wO
      refine ap1 (rep1_Request ⟨base, q.1, u.1, 0⟩) one_ERequest fun a9 c9 F9 => ?_
      refine go ?_; intros
      refine ret ⟨z.xs ++ [⟨base, q.1, u.1, 0⟩], 0, a9, c9, F9, u.2⟩ ⟨by show (z.xs ++ [_]).length ≤ 9; simp; omega, hu.2.mono (by omega)⟩ rfl
    refine go ?_; intros
    refine c_if rfl (fun e2 => ?_) (fun e2 => ?_)
    · refine go ?_; intros
      refine cf (mostQ_f _ _) fun _ _ => ?_
      refine t_app ?_
      refine go ?_; intros
      refine ce (fun w s => l2After_c _ _ _ (by omega) (by omega)) ?_
      refine goN ?_; intros
      refine t_row (xs := [-1, 3, 4]) (fun w => flat_int w _) ?_ (by decide)
      refine t_read (E := EInt) fun G => ?_
      refine go ?_; intros
      refine cf (among_f _ g F _ [-1, 3, 4] G s3 hp (by omega) (by decide) (by decide)) fun q hq => ?_
      refine t_app ?_
      refine goN ?_; intros
      apply wO
      refine ap1 (rep1_Request ⟨aft (max base 0) 7, 2, 0, q.1⟩) one_ERequest fun a9 c9 F9 => ?_
      refine go ?_; intros
      refine ret ⟨z.xs ++ [⟨aft (max base 0) 7, 2, 0, q.1⟩], 0, a9, c9, F9, q.2⟩ ⟨by show (z.xs ++ [_]).length ≤ 9; simp; omega, hq.2.mono (by omega)⟩ rfl
    refine go ?_; intros
    refine ret ⟨z.xs, 0, z.a, z.c, z.F, s3⟩ ⟨by show z.xs.length ≤ 9; omega, hp.mono (by omega)⟩ rfl
end Go.Proofs.YtgogcgkocjpgoaaGreatDoor
/- Hearing: a request more, on both sides. -/
namespace Go.Proofs.YtgogcgkocjpgoaaGreatDoor
open Go.RowKit
structure OwR where
  a : Option Addr
  c : Nat
  F : List Nat
set_option maxRecDepth 100000 in
theorem l12Add_f (l : List Request) (base n ck d : Int) (a : Option Addr) (c : Nat) (F : List Nat) (hq : areQ l base = true) (hn : isSer n = true) (k0 : 0 ≤ ck) (k1 : ck ≤ 9999) (d0 : 1 ≤ d) (d1 : d ≤ 8) :
    Fn Tryz.prog 261 [.slice a l.length c, .int .i64 base, .int .i64 n, .int .i64 ck, .int .i64 d] [.sl ERequest (.slice a l.length c) l F] [] (fun (_ : OwR) => True) (fun s => .slice s.a (addQ base l n (ck + d)).length s.c) (fun s => [.ow ERequest 152 (.slice s.a (addQ base l n (ck + d)).length s.c) (addQ base l n (ck + d)) s.F]) := by
  have hle := askAt_le base l n
  obtain ⟨q1, q2, q3, q4⟩ := areQ_iff.1 hq
  obtain ⟨b0, b1⟩ := isSer_iff.1 q1
  obtain ⟨n0, n1⟩ := isSer_iff.1 hn
  have hbd := gp_bd base n
  refine enter Tryz.func261 rfl Tryz.ntmps261 fun w0 => ?_
  refine go ?_; intros
  refine cf (l12Place_f l base n a c F hq hn) fun _ _ => ?_
  refine t_app ?_
  cases ho : askOn base l n
  rotate_left
  · rw [show addQ base l n (ck + d) = l by unfold addQ; rw [ho]; rfl]
    refine goN ?_; intros
    refine t_emp ERequest ?_
    refine go ?_; intros
    apply wO
    refine aps one_ERequest scal_ERequest fun a5 c5 F5 => ?_
    rw [List.nil_append]
    refine go ?_; intros
    refine ret ⟨_, _, _⟩ trivial rfl
  refine go ?_; intros
  refine ce (fun w s => l2Gap_c _ _ _ (by omega) (by omega)) ?_
  refine go ?_; intros
  refine c_if rfl (fun h4 => ?_) (fun h4 => ?_)
  · rw [show addQ base l n (ck + d) = l by unfold addQ; rw [ho, decide_eq_false (show ¬ gp base n < 8 by omega)]; rfl]
    refine goN ?_; intros
    refine t_emp ERequest ?_
    refine go ?_; intros
    apply wO
    refine aps one_ERequest scal_ERequest fun a5 c5 F5 => ?_
    rw [List.nil_append]
    refine go ?_; intros
    refine ret ⟨_, _, _⟩ trivial rfl
  rw [show addQ base l n (ck + d) = insQ base l n (ck + d) by unfold addQ; rw [ho, decide_eq_true (show gp base n < 8 by omega)]; rfl]
  refine t_sl (E := ERequest) (xs := l) ?_
  rintro _ _ e8 c0 c1
  cases e8
  refine t_rtake (E := ERequest) (xs := l) (askAt base l n) (fun FT => ?_) hle
  obtain ⟨T1, hT1⟩ : ∃ T1, T1 = l.take (askAt base l n) := ⟨_, rfl⟩
  have hT1l : T1.length = askAt base l n := by rw [hT1, List.length_take]; omega
  rw [← hT1]
  have hAdd : T1 ++ [(⟨n, 1, ck + d, 0⟩ : Request)] ++ l.drop (askAt base l n) = insQ base l n (ck + d) := by rw [hT1]; unfold insQ newQ; simp
  refine go ?_; intros
  refine d_start [0, 1] [] ?_
  refine dt 1 ?_
  refine dt 2 ?_
  refine dt 3 ?_ (hy := yd_slt (i := T1.length) rfl rfl (by rw [hT1l]) (by omega) (by omega))
  refine dt 5 ?_
  refine dt 8 ?_
  refine dt 9 ?_
  refine dsld 10 (askAt base l n) (fun a6 c6 F6 => ?_)
  refine dO2 0 6 (by kernel_rfl) (by rw [List.getElem?_toArray]; rfl) (by rw [List.getElem?_toArray]; rfl) ?_ ?_
  · apply o_bs0; rfl; intro _
    refine t_emp ERequest ?_
    refine dk ?_
    refine dO2 4 6 (by kernel_rfl) (by rw [List.getElem?_toArray]; rfl) (by rw [List.getElem?_toArray]; rfl) ?_ ?_
    · refine aps (ys := T1) one_ERequest scal_ERequest fun a7 c7 F7 => ?_
      rw [List.nil_append]
      refine dk ?_
      refine dO 6 (by kernel_rfl) (by rw [List.getElem?_toArray]; rfl) ?_
      apply o_bs; rfl; rfl; rfl; rfl; exact rptE; exact filE; intro _
      refine dk ?_
      refine dO 7 (by kernel_rfl) (by rw [List.getElem?_toArray]; rfl) ?_
      refine ap1 (rep1_Request ⟨n, 1, ck + d, 0⟩) one_ERequest fun a8 c8 F8 => ?_
      refine dk ?_
      refine dO 11 (by kernel_rfl) (by rw [List.getElem?_toArray]; rfl) ?_
      refine aps (ys := l.drop (askAt base l n)) one_ERequest scal_ERequest (h63 := by simp; omega) (hby := by simp; omega) fun a9 c9 F9 => ?_
      refine dk ?_
      refine dt 12 ?_
      refine dd ?_
      rw [hAdd]
      refine go ?_; intros
      refine ret ⟨_, _, _⟩ trivial rfl
    · apply o_bs; rfl; rfl; rfl; rfl; exact rptE; exact filE; intro _
      refine dk ?_
      refine dO 4 (by kernel_rfl) (by rw [List.getElem?_toArray]; rfl) ?_
      refine aps (ys := T1) one_ERequest scal_ERequest fun a7 c7 F7 => ?_
      rw [List.nil_append]
      refine dk ?_
      refine dO 7 (by kernel_rfl) (by rw [List.getElem?_toArray]; rfl) ?_
      refine ap1 (rep1_Request ⟨n, 1, ck + d, 0⟩) one_ERequest fun a8 c8 F8 => ?_
      refine dk ?_
      refine dO 11 (by kernel_rfl) (by rw [List.getElem?_toArray]; rfl) ?_
      refine aps (ys := l.drop (askAt base l n)) one_ERequest scal_ERequest (h63 := by simp; omega) (hby := by simp; omega) fun a9 c9 F9 => ?_
      refine dk ?_
      refine dt 12 ?_
      refine dd ?_
      rw [hAdd]
      refine go ?_; intros
      refine ret ⟨_, _, _⟩ trivial rfl
  · apply o_bs; rfl; rfl; rfl; rfl; exact rptE; exact filE; intro _
    refine dk ?_
    refine dO 0 (by kernel_rfl) (by rw [List.getElem?_toArray]; rfl) ?_
    apply o_bs0; rfl; intro _
    refine t_emp ERequest ?_
    refine dk ?_
    refine dO 4 (by kernel_rfl) (by rw [List.getElem?_toArray]; rfl) ?_
    refine aps (ys := T1) one_ERequest scal_ERequest fun a7 c7 F7 => ?_
    rw [List.nil_append]
    refine dk ?_
    refine dO 7 (by kernel_rfl) (by rw [List.getElem?_toArray]; rfl) ?_
    refine ap1 (rep1_Request ⟨n, 1, ck + d, 0⟩) one_ERequest fun a8 c8 F8 => ?_
    refine dk ?_
    refine dO 11 (by kernel_rfl) (by rw [List.getElem?_toArray]; rfl) ?_
    refine aps (ys := l.drop (askAt base l n)) one_ERequest scal_ERequest (h63 := by simp; omega) (hby := by simp; omega) fun a9 c9 F9 => ?_
    refine dk ?_
    refine dt 12 ?_
    refine dd ?_
    rw [hAdd]
    refine go ?_; intros
    refine ret ⟨_, _, _⟩ trivial rfl
end Go.Proofs.YtgogcgkocjpgoaaGreatDoor
/- Hearing: a request is confirmed, on both sides. -/
namespace Go.Proofs.YtgogcgkocjpgoaaGreatDoor
open Go.RowKit
set_option maxRecDepth 100000 in
theorem l12Confirm_f (l : List Request) (base n ck : Int) (a : Option Addr) (c : Nat) (F : List Nat) (hq : areQ l base = true) (hn : isSer n = true) (k0 : 0 ≤ ck) (k1 : ck ≤ 9999) :
    Fn Tryz.prog 207 [.slice a l.length c, .int .i64 base, .int .i64 n, .int .i64 ck] [.sl ERequest (.slice a l.length c) l F] [] (fun (_ : OwR) => True) (fun s => .slice s.a (confQ base l n (ck + 4)).length s.c) (fun s => [.ow ERequest 152 (.slice s.a (confQ base l n (ck + 4)).length s.c) (confQ base l n (ck + 4)) s.F]) := by
  have hle := askAt_le base l n
  obtain ⟨q1, q2, q3, q4⟩ := areQ_iff.1 hq
  have hcl := confQ_len base l n (ck + 4)
  refine enter Tryz.func207 rfl Tryz.ntmps207 fun w0 => ?_
  refine goN ?_; intros
  refine t_emp ERequest ?_
  refine go ?_; intros
  apply wO
  refine aps one_ERequest scal_ERequest fun a5 c5 F5 => ?_
  rw [List.nil_append]
  refine go ?_; intros
  refine cf (l12Place_f l base n a c F hq hn) fun _ _ => ?_
  refine t_app ?_
  cases ho : askOn base l n
  · rw [confQ_no ho]
    refine go ?_; intros
    refine ret ⟨_, _, _⟩ trivial rfl
  · have hlt := askOn_lt ho
    refine go ?_; intros
    refine atRequest (xs := l) (askAt base l n) ?_
    rintro hi b o e
    rw [e]
    refine focRequest (xs := l) (a := a5) (askAt base l n) ?_ (hi := hlt)
    rintro hi g A B ha hF hh
    rw [ha]
    refine go ?_; intros
    refine unfF (⟨n, 3, ck + 4, l[askAt base l n].tries⟩ : Request) hh (fun w => ⟨rfl, rfl⟩) ?_
    rw [← confQ_yes ho]
    refine go ?_; intros
    rw [show l.length = (confQ base l n (ck + 4)).length from hcl.symm]
    refine ret ⟨_, _, _⟩ trivial rfl
end Go.Proofs.YtgogcgkocjpgoaaGreatDoor
/- A call that reads what is owned, and gives new pieces. -/
namespace Go.Proofs.YtgogcgkocjpgoaaGreatDoor
open Go.RowKit
section
variable {c : Cx} {fr : Fr} {H : List Pc} {d : Nat} {Φ : Gl}
end
end Go.Proofs.YtgogcgkocjpgoaaGreatDoor
/- Hearing: skipping and awaiting, the program's. -/
namespace Go.Proofs.YtgogcgkocjpgoaaGreatDoor
open Go.RowKit
structure SkS where
  a : Option Addr
  c : Nat
  F : List Nat
  ae : Option Addr
  ce : Nat
  Fe : List Nat
structure AwS where
  i : Nat
  a : Option Addr
  c : Nat
  F : List Nat
end Go.Proofs.YtgogcgkocjpgoaaGreatDoor
/- Valid packets, on both sides. -/
namespace Go.Proofs.YtgogcgkocjpgoaaGreatDoor
open Go.RowKit
end Go.Proofs.YtgogcgkocjpgoaaGreatDoor
/- Hearing: news, the program's. -/
namespace Go.Proofs.YtgogcgkocjpgoaaGreatDoor
open Go.RowKit
structure NwS where
  a1 : Option Addr
  c1 : Nat
  F1 : List Nat
  a2 : Option Addr
  c2 : Nat
  F2 : List Nat
  ae : Option Addr
  ce : Nat
  Fe : List Nat
end Go.Proofs.YtgogcgkocjpgoaaGreatDoor
/- Receivers: TickReceiver, the program's and the reference's. -/
namespace Go.Proofs.YtgogcgkocjpgoaaGreatDoor
open Go.RowKit
structure GvS where
  g : Nat
  y : RelS
set_option maxRecDepth 100000 in
set_option maxHeartbeats 1000000 in
theorem l13Tick_f (r : Receiver) (d : Int) (v : Value) (F : List Nat) (hg : GoodR r) (d0 : 0 ≤ d) (d1 : d ≤ 100) (_hx : r.clock ≤ 99999) :
    Fn Tryz.prog 104 [v, .int .i64 d] [.isv EReceiver v r F] [] (fun (_ : TkR) => True) (fun s => .tuple #[.agg #[.bool (tickRec r d).started, .int .i64 (tickRec r d).clock, .int .i64 (tickRec r d).window.next, .slice s.a1 (tickRec r d).window.slots.length s.c1, .slice s.a2 (tickRec r d).requests.length s.c2], .slice s.a3 (tickPk r).length s.c3, .slice s.a4 (tickEv r).length s.c4])
      (fun s => [.isv EReceiver (.agg #[.bool (tickRec r d).started, .int .i64 (tickRec r d).clock, .int .i64 (tickRec r d).window.next, .slice s.a1 (tickRec r d).window.slots.length s.c1, .slice s.a2 (tickRec r d).requests.length s.c2]) (tickRec r d) s.F1, .ow EPacket 67 (.slice s.a3 (tickPk r).length s.c3) (tickPk r) s.F3, .ow EStr 9 (.slice s.a4 (tickEv r).length s.c4) (tickEv r) s.F4]) := by
  have k0 := hg.k0
  have k1 := hg.k1
  obtain ⟨-, q1, q2, -⟩ := areQ_iff.1 hg.q
  obtain ⟨w0_, w1_⟩ := next_ser hg.w
  obtain ⟨hw8, hit⟩ := good_items hg.w
  have hpl : (r.requests.filterMap (tkS (r.clock + 1))).length ≤ 8 := Nat.le_trans (List.length_filterMap_le _ _) q1
  refine enter Tryz.func104 rfl Tryz.ntmps104 fun w0 => ?_
  refine openReceiver (v := v) (x := r) (F := F) ?_
  rintro a1 c1 F1 a2 c2 F2 rfl l1 l2
  refine go ?_; intros
  refine cf (l13Own_f r _ F (by omega) (by omega)) fun u _ => ?_
  refine t_app ?_
  refine openOReceiver ?_
  rintro a5 c5 F5 a6 c6 F6 e6 - -
  rw [e6]
  refine t_read (E := ESlot) fun G5 => ?_
  refine go ?_; intros
  refine cf (l12Tick_f r.requests (r.clock + 1) d a2 c2 F2 (by omega) (fun q hq => ⟨(okReq_iff.1 (q2 q hq)).t0, (okReq_iff.1 (q2 q hq)).t1⟩) (by omega) (by omega) (by omega) (by omega)) fun z _ => ?_
  refine t_app ?_
  rw [show r.requests.filterMap (tkL (r.clock + 1)) = tkLost r from rfl, show r.requests.filterMap (tkO (r.clock + 1) d) = tkReq r d from rfl]
  refine t_read (E := EInt) (xs := r.requests.filterMap (tkS (r.clock + 1))) fun G2 => ?_
  refine t_read (E := EInt) (xs := tkLost r) fun G3 => ?_
  refine t_emp EStr ?_
  refine t_emp EPacket ?_
  refine go ?_; intros
  refine c_loopS [2, 4, 5, 6, 7, 9, 11, 12] (fun s : PkS => [(13, .int .i64 (s.k : Nat)), (8, .slice s.a (((r.requests.filterMap (tkS (r.clock + 1))).take s.k).map (pkR r.window.next)).length s.c)]) (fun s => [.ow EPacket 67 (.slice s.a (((r.requests.filterMap (tkS (r.clock + 1))).take s.k).map (pkR r.window.next)).length s.c) (((r.requests.filterMap (tkS (r.clock + 1))).take s.k).map (pkR r.window.next)) s.F]) (fun s => s.k ≤ (r.requests.filterMap (tkS (r.clock + 1))).length) (fun s => (r.requests.filterMap (tkS (r.clock + 1))).length - s.k) ⟨0, _, _, _⟩ (Nat.zero_le _) fun s hs => ?_
  obtain ⟨k, a4, c4, F4⟩ := s
  dsimp only at hs ⊢
  generalize hsn : r.requests.filterMap (tkS (r.clock + 1)) = sn at *
  refine go ?_; intros
  refine c_if rfl (fun h4 => ?_) (fun h4 => ?_)
  · have hk : k < sn.length := by omega
    have hkl : ((sn.take k).map (pkR r.window.next)).length ≤ k := by simp; omega
    refine at_int (xs := sn) k ?_
    rintro hi b o2 e
    rw [e]
    refine go ?_; intros
    have eo : (sn.take (k + 1)).map (pkR r.window.next) = (sn.take k).map (pkR r.window.next) ++ [pkR r.window.next sn[k]] := by rw [List.take_add_one, List.getElem?_eq_getElem hk, List.map_append]; rfl
    refine d_start [0, 10] [] ?_
    refine dt 0 ?_
    refine dt 1 ?_
    refine dt 2 ?_
    refine dt 3 ?_
    refine dt 4 ?_
    refine dt 5 ?_
    refine dt 6 ?_
    refine dt 7 ?_
    refine dt 8 ?_
    refine dt 9 ?_
    refine dt 10 ?_
    refine dt 11 ?_
    refine dO 12 (by kernel_rfl) (by rw [List.getElem?_toArray]; rfl) ?_
    apply o_bs; rfl; rfl; rfl; rfl; exact rptE; exact filE; intro _
    refine dk ?_
    refine dO 13 (by kernel_rfl) (by rw [List.getElem?_toArray]; rfl) ?_
    refine ap1 (ys := [pkR r.window.next sn[k]]) (flatPacket (pkR r.window.next sn[k]) (by show (0 : Nat) ≤ maxLen; exact Nat.zero_le _)) one_EPacket fun a7 c7 F7 => ?_
    refine dk ?_
    refine dt 14 ?_
    refine dd ?_
    refine go ?_; intros
    rw [← eo]
    refine n_lp (⟨k + 1, _, _, _⟩ : PkS) (by show k + 1 ≤ sn.length; omega) (by show sn.length - (k + 1) < sn.length - k; omega)
  have hk : k = sn.length := by omega
  subst hk
  rw [List.take_length]
  have ep : tickPk r = sn.map (pkR r.window.next) := by unfold tickPk; rw [hsn]
  rw [ep]
  refine go ?_; intros
  by_cases hL : tkLost r = []
  · refine c_if rfl (fun h => absurd h (by rw [hL]; decide)) (fun _ => ?_)
    rw [tickR_no hL, tickE_no hL]
    refine go ?_; intros
    refine t_read (E := ERequest) fun F8 => ?_
    refine closeReceiver (a1 := a5) ⟨r.started, r.clock + 1, r.window, tkReq r d⟩ ?_
    refine ret ⟨_, _, _, _, _, [], _, _, _, _, _, _⟩ trivial rfl
  · have hl0 := List.length_pos_iff.2 hL
    refine c_if rfl (fun _ => ?_) (fun h => absurd h (by omega))
    rw [tickR_yes hL, tickE_yes hL]
    obtain ⟨hs8, hsr⟩ := lost_gp hg hL
    have hll8 := tkLost_len r
    obtain ⟨hs0, hs1⟩ := isSer_iff.1 hsr
    have hll := lost_last hL
    obtain ⟨l0, l1⟩ := isSer_iff.1 (tkLost_at hg (List.getElem_mem (show (tkLost r).length - 1 < (tkLost r).length by omega))).1
    have hi1 : ((tkLost r).length : Int) - 1 = (((tkLost r).length - 1 : Nat) : Int) := by omega
    refine closeReceiveWindow (a1 := a5) r.window ?_
    generalize G5 = FW
    refine at_int (xs := tkLost r) ((tkLost r).length - 1) ?_
    rintro hi b o2 e
    rw [e]
    refine go ?_; intros
    refine c_joinS [4, 5, 6, 7, 8, 9] [2, 3, 6, 7, 10, 14] (fun s : GvS => [(15, ptr s.g 0 0), (16, .slice s.y.ae s.y.es.length s.y.ce)]) (fun s => [.row s.g 46 0 [] [.int .i64 s.y.y.next, .slice s.y.a s.y.y.slots.length s.y.c] [], .isv EReceiveWindow (.agg #[.int .i64 s.y.y.next, .slice s.y.a s.y.y.slots.length s.y.c]) s.y.y s.y.F, .ow EStr 9 (.slice s.y.ae s.y.es.length s.y.ce) s.y.es s.y.Fe]) (fun s => s.y.y = movedW r.window (lostTrail (tkLost r)) ∧ s.y.es = movedE r.window (lostTrail (tkLost r))) ?_ fun s hy => ?_
    · skip
      refine d_start [0, 7] [] ?_
      refine dt 0 ?_
      refine dt 1 ?_
      refine dt 2 ?_
      refine dt 3 ?_
      refine dt 4 ?_
      rw [hi1]
      refine dt 5 ?_
      refine dt 6 ?_
      refine dO2 7 12 (by kernel_rfl) (by rw [List.getElem?_toArray]; rfl) (by rw [List.getElem?_toArray]; rfl) ?_ ?_
      · apply o_call; rfl; kernel_rfl; exact evsE
        refine ce (fun w s => l2After_c _ _ _ (by omega) (by omega)) ?_
        rw [← hll]
        refine dk ?_
        refine dO2 8 12 (by kernel_rfl) (by rw [List.getElem?_toArray]; rfl) (by rw [List.getElem?_toArray]; rfl) ?_ ?_
        · apply o_call; rfl; kernel_rfl; exact evsE
          refine cf (l10GiveUp_f r.window (lostTrail (tkLost r)) _ FW w0_ w1_ hs0 hs1 hw8 hit) fun y hy => ?_
          refine t_app ?_
          refine dk ?_
          refine dt 9 ?_
          refine dt 10 ?_
          refine dt 11 ?_
          refine dO 12 (by kernel_rfl) (by rw [List.getElem?_toArray]; rfl) ?_
          apply o_alloc; rfl; intro _
          refine dk ?_
          refine dO 13 (by kernel_rfl) (by rw [List.getElem?_toArray]; rfl) ?_
          apply o_st; rfl; rfl; rfl; (first | exact AggC.s | exact OneC.s); rfl; exact rplE; exact putE; rfl
          refine dk ?_
          refine dt 14 ?_
          refine dd ?_
          refine n_join (⟨_, y⟩ : GvS) hy
        · apply o_alloc; rfl; intro _
          refine dk ?_
          refine dO 8 (by kernel_rfl) (by rw [List.getElem?_toArray]; rfl) ?_
          apply o_call; rfl; kernel_rfl; exact evsE
          refine cf (l10GiveUp_f r.window (lostTrail (tkLost r)) _ FW w0_ w1_ hs0 hs1 hw8 hit) fun y hy => ?_
          refine t_app ?_
          refine dk ?_
          refine dt 9 ?_
          refine dt 10 ?_
          refine dt 11 ?_
          refine dO 13 (by kernel_rfl) (by rw [List.getElem?_toArray]; rfl) ?_
          apply o_st; rfl; rfl; rfl; (first | exact AggC.s | exact OneC.s); rfl; exact rplE; exact putE; rfl
          refine dk ?_
          refine dt 14 ?_
          refine dd ?_
          refine n_join (⟨_, y⟩ : GvS) hy
      · apply o_alloc; rfl; intro _
        refine dk ?_
        refine dO 7 (by kernel_rfl) (by rw [List.getElem?_toArray]; rfl) ?_
        apply o_call; rfl; kernel_rfl; exact evsE
        refine ce (fun w s => l2After_c _ _ _ (by omega) (by omega)) ?_
        rw [← hll]
        refine dk ?_
        refine dO 8 (by kernel_rfl) (by rw [List.getElem?_toArray]; rfl) ?_
        apply o_call; rfl; kernel_rfl; exact evsE
        refine cf (l10GiveUp_f r.window (lostTrail (tkLost r)) _ FW w0_ w1_ hs0 hs1 hw8 hit) fun y hy => ?_
        refine t_app ?_
        refine dk ?_
        refine dt 9 ?_
        refine dt 10 ?_
        refine dt 11 ?_
        refine dO 13 (by kernel_rfl) (by rw [List.getElem?_toArray]; rfl) ?_
        apply o_st; rfl; rfl; rfl; (first | exact AggC.s | exact OneC.s); rfl; exact rplE; exact putE; rfl
        refine dk ?_
        refine dt 14 ?_
        refine dd ?_
        refine n_join (⟨_, y⟩ : GvS) hy
    obtain ⟨g15, y⟩ := s
    dsimp only at hy ⊢
    obtain ⟨hy1, hy2⟩ := hy
    have hmv := moved_at (t := lostTrail (tkLost r)) hg.w
    have hm0 : 0 ≤ y.y.next := by rw [hy1, hmv.1]; exact (aft_bd _ _).1
    have hm1 : y.y.next ≤ 65535 := by rw [hy1, hmv.1]; exact (aft_bd _ _).2
    have hes : y.es.length ≤ 100 := by rw [hy2]; have := hmv.2.2.1; have := @stepsN_gp r.window.next (lostTrail (tkLost r)); omega
    refine t_read (E := EStr) (xs := y.es) fun G8 => ?_
    refine go ?_; intros
    apply wO
    refine aps (ys := y.es) one_EStr scal_EStr fun a9 c9 F9 => ?_
    rw [List.nil_append]
    refine t_read (E := ERequest) (xs := tkReq r d) fun F8 => ?_
    refine go ?_; intros
    refine cf (l13Needed_f (tkReq r d) y.y z.a z.c F8 _ y.F (by have := tkReq_len r d; omega) (fun q hq => (tkReq_at hg hq).1) hm0 hm1) fun u2 _ => ?_
    refine t_app ?_
    rw [hy1, tick_needed hg hL, ← hy1]
    refine go ?_; intros
    refine openReceiveWindow (x := y.y) ?_
    rintro b1 d1 G1 e5 m1
    simp only [Value.agg.injEq, Array.mk.injEq, List.cons.injEq, Value.slice.injEq, true_and, and_true] at e5
    obtain ⟨rfl, rfl⟩ := e5
    refine t_read (E := ERequest) (xs := noBef (tkReq r d) y.y.next) fun F10 => ?_
    refine closeReceiver ⟨r.started, r.clock + 1, y.y, noBef (tkReq r d) y.y.next⟩ ?_
    rw [← hy2]
    refine ret ⟨_, _, _, _, _, [], _, _, _, _, _, _⟩ trivial rfl
set_option maxRecDepth 100000 in
set_option maxHeartbeats 800000 in
theorem TickReceiver_f (x : Receiver) (d : Int) (v : Value) (F : List Nat) :
    Fn Tryz.prog 27 [v, .int .i64 d] [.isv EReceiver v x F] [] (fun (_ : TkR) => True) (fun s => .tuple #[.agg #[.bool ((resTickReceiver x d).1).started, .int .i64 ((resTickReceiver x d).1).clock, .int .i64 ((resTickReceiver x d).1).window.next, .slice s.a1 ((resTickReceiver x d).1).window.slots.length s.c1, .slice s.a2 ((resTickReceiver x d).1).requests.length s.c2], .slice s.a3 (resTickReceiver x d).2.1.length s.c3, .slice s.a4 (resTickReceiver x d).2.2.1.length s.c4, .bool (resTickReceiver x d).2.2.2])
      (fun s => [.own OReceiver (.agg #[.bool ((resTickReceiver x d).1).started, .int .i64 ((resTickReceiver x d).1).clock, .int .i64 ((resTickReceiver x d).1).window.next, .slice s.a1 ((resTickReceiver x d).1).window.slots.length s.c1, .slice s.a2 ((resTickReceiver x d).1).requests.length s.c2]) (resTickReceiver x d).1 s.F1, .ow EPacket 67 (.slice s.a3 (resTickReceiver x d).2.1.length s.c3) (resTickReceiver x d).2.1 s.F3, .ow EStr 9 (.slice s.a4 (resTickReceiver x d).2.2.1.length s.c4) (resTickReceiver x d).2.2.1 s.F4]) := by
  refine enter Tryz.func27 rfl Tryz.ntmps27 fun w0 => ?_
  refine t_nilow EPacket 67 ?_
  refine t_nilow EStr 9 ?_
  refine t_nilow ESlot 213 ?_
  refine t_nilow ERequest 152 ?_
  refine closeOReceiver zRec ?_
  refine openReceiver (v := v) (x := x) (F := F) ?_
  rintro a1 c1 F1 a2 c2 F2 rfl l1 l2
  unfold maxLen at l1 l2
  refine go ?_; intros
  refine cf (IsValidReceiver_f x _ F) fun _ _ => ?_
  refine t_app ?_
  cases g1 : goodRec x
  · skip
    refine go ?_; intros
    rw [resTR_no (by unfold okTickReceiver; simp [g1])]
    refine ret ⟨_, _, _, _, _, [], _, _, _, _, _, _⟩ trivial rfl
  have g5 := goodR_iff.1 g1
  have hw8 := (good_items g5.w).1
  have hq8 := (areQ_iff.1 g5.q).2.1
  have hk0 := g5.k0
  have hk1 := g5.k1
  refine go ?_; intros
  refine cf (isDelay_f d) fun _ _ => ?_
  refine t_app ?_
  cases g2 : isDel d
  · skip
    refine go ?_; intros
    rw [resTR_no (by unfold okTickReceiver; simp [g1, g2])]
    refine ret ⟨_, _, _, _, _, [], _, _, _, _, _, _⟩ trivial rfl
  obtain ⟨hd0, hd1⟩ : 0 ≤ d ∧ d ≤ 8 := by unfold isDel btw at g2; simp only [Bool.and_eq_true, decide_eq_true_eq] at g2; omega
  refine go ?_; intros
  refine c_if rfl (fun g3 => ?_) (fun g3 => ?_)
  · skip
    refine go ?_; intros
    rw [resTR_no (by unfold okTickReceiver; simp [g1, g2, g3])]
    refine ret ⟨_, _, _, _, _, [], _, _, _, _, _, _⟩ trivial rfl
  rw [resTR_yes (by unfold okTickReceiver; simp [g1, g2, g3])]
  refine go ?_; intros
  refine cf (Rclone_f x _ F (by omega) (by omega)) fun u _ => ?_
  refine t_app ?_
  refine openOReceiver ?_
  rintro a5 c5 F5 a6 c6 F6 e6 - -
  rw [e6]
  refine go ?_; intros
  refine cf (Rtick_f x d _ _ 0 [] [] a5 c5 F5 a6 c6 F6 g5 hd0 (by omega)) fun z _ => ?_
  refine t_app ?_
  refine go ?_; intros
  refine closeOReceiver (tickRec x d) ?_
  refine ret ⟨_, _, _, _, _, [], _, _, _, _, _, _⟩ trivial rfl
set_option maxRecDepth 100000 in
set_option maxHeartbeats 800000 in
theorem specTickReceiver_f (x : Receiver) (d : Int) (v : Value) (F : List Nat) :
    Fn Tryz.prog 25 [v, .int .i64 d] [.isv EReceiver v x F] [] (fun (_ : TkR) => True) (fun s => .tuple #[.agg #[.bool ((resTickReceiver x d).1).started, .int .i64 ((resTickReceiver x d).1).clock, .int .i64 ((resTickReceiver x d).1).window.next, .slice s.a1 ((resTickReceiver x d).1).window.slots.length s.c1, .slice s.a2 ((resTickReceiver x d).1).requests.length s.c2], .slice s.a3 (resTickReceiver x d).2.1.length s.c3, .slice s.a4 (resTickReceiver x d).2.2.1.length s.c4, .bool (resTickReceiver x d).2.2.2])
      (fun s => [.isv EReceiver (.agg #[.bool ((resTickReceiver x d).1).started, .int .i64 ((resTickReceiver x d).1).clock, .int .i64 ((resTickReceiver x d).1).window.next, .slice s.a1 ((resTickReceiver x d).1).window.slots.length s.c1, .slice s.a2 ((resTickReceiver x d).1).requests.length s.c2]) (resTickReceiver x d).1 s.F1, .ow EPacket 67 (.slice s.a3 (resTickReceiver x d).2.1.length s.c3) (resTickReceiver x d).2.1 s.F3, .ow EStr 9 (.slice s.a4 (resTickReceiver x d).2.2.1.length s.c4) (resTickReceiver x d).2.2.1 s.F4]) := by
  refine enter Tryz.func25 rfl Tryz.ntmps25 fun w0 => ?_
  refine t_nilsl ESlot (by decide) ?_
  refine t_nilsl ERequest (by decide) ?_
  refine closeReceiver zRec ?_
  refine openReceiver (v := v) (x := x) (F := F) ?_
  rintro a1 c1 F1 a2 c2 F2 rfl l1 l2
  unfold maxLen at l1 l2
  refine go ?_; intros
  refine cf (l13Good_f x _ F) fun _ _ => ?_
  refine t_app ?_
  cases g1 : goodRec x
  · skip
    refine go ?_; intros
    refine t_emp EStr ?_
    refine t_emp EPacket ?_
    rw [resTR_no (by unfold okTickReceiver; simp [g1])]
    refine ret ⟨_, _, _, _, _, [], _, _, _, _, _, _⟩ trivial rfl
  have g5 := goodR_iff.1 g1
  have hw8 := (good_items g5.w).1
  have hq8 := (areQ_iff.1 g5.q).2.1
  have hk0 := g5.k0
  have hk1 := g5.k1
  refine go ?_; intros
  refine cf (l12Delay_f d) fun _ _ => ?_
  refine t_app ?_
  cases g2 : isDel d
  · skip
    refine go ?_; intros
    refine t_emp EStr ?_
    refine t_emp EPacket ?_
    rw [resTR_no (by unfold okTickReceiver; simp [g1, g2])]
    refine ret ⟨_, _, _, _, _, [], _, _, _, _, _, _⟩ trivial rfl
  obtain ⟨hd0, hd1⟩ : 0 ≤ d ∧ d ≤ 8 := by unfold isDel btw at g2; simp only [Bool.and_eq_true, decide_eq_true_eq] at g2; omega
  refine go ?_; intros
  refine c_if rfl (fun g3 => ?_) (fun g3 => ?_)
  · skip
    refine go ?_; intros
    refine t_emp EStr ?_
    refine t_emp EPacket ?_
    rw [resTR_no (by unfold okTickReceiver; simp [g1, g2, g3])]
    refine ret ⟨_, _, _, _, _, [], _, _, _, _, _, _⟩ trivial rfl
  rw [resTR_yes (by unfold okTickReceiver; simp [g1, g2, g3])]
  refine go ?_; intros
  refine cf (l13Tick_f x d _ F g5 hd0 (by omega) (by omega)) fun z _ => ?_
  refine t_app ?_
  refine go ?_; intros
  refine ret ⟨_, _, z.F1, _, _, [], _, _, _, _, _, _⟩ trivial rfl
end Go.Proofs.YtgogcgkocjpgoaaGreatDoor
/- Quiet operations of a drawn region that an effect does not wait for: those that are listed already need not wait. -/
namespace Go.Proofs.YtgogcgkocjpgoaaGreatDoor
open Go.RowKit
section
variable {P : Program} {md : Region.Mode} {ops : Array Oper} {Q : Exit → Act → World → Prop} {S : World → Prop} {X : Nat → Bool}
end
section
variable {c : Cx} {fr : Fr} {H H0 : List Pc} {k : List It} {X : List Nat} {ops : Array Oper} {f : Nat} {listed : Array Bool} {d : Nat} {o : Op} {ty : TypeId} {pos : String} {aft : Array Edge} {v : Value}
end
end Go.Proofs.YtgogcgkocjpgoaaGreatDoor
/- Hearing: HearAll and HearPacket of the program. -/
namespace Go.Proofs.YtgogcgkocjpgoaaGreatDoor
open Go.RowKit
structure HaS where
  k : Nat
  a1 : Option Addr
  c1 : Nat
  F1 : List Nat
  a2 : Option Addr
  c2 : Nat
  F2 : List Nat
  ae : Option Addr
  ce : Nat
  Fe : List Nat
end Go.Proofs.YtgogcgkocjpgoaaGreatDoor
/- Hearing: news of the reference. -/
namespace Go.Proofs.YtgogcgkocjpgoaaGreatDoor
open Go.RowKit
theorem leastH_f (a b : Int) : Fn Tryz.prog 233 [.int .i64 a, .int .i64 b] [] [] (fun (_ : Unit) => True) (fun _ => .int .i64 (min a b)) (fun _ => []) := by
  refine enter Tryz.func233 rfl Tryz.ntmps233 fun w0 => ?_
  refine go ?_; intros
  refine c_if rfl (fun h => ?_) (fun h => ?_)
  · refine go ?_; intros
    rw [show min a b = a by omega]
    refine ret () trivial rfl
  · refine go ?_; intros
    rw [show min a b = b by omega]
    refine ret () trivial rfl
set_option maxRecDepth 100000 in
set_option maxHeartbeats 1000000 in
theorem l13News_f (r : Receiver) (p : Packet) (d : Int) (v : Value) (F : List Nat) (hg : GoodR r) (hp : goodPk p = true) (d0 : 1 ≤ d) (d1 : d ≤ 8) :
    Fn Tryz.prog 208 [v, .agg #[.int .i64 p.kind, .int .i64 p.number, .int .i64 p.trail, .int .i64 p.lead, .string p.data], .int .i64 d] [.isv EReceiver v r F] [] (fun (_ : NwS) => True) (fun s => .tuple #[.agg #[.bool ((newsR r p d)).started, .int .i64 ((newsR r p d)).clock, .int .i64 ((newsR r p d)).window.next, .slice s.a1 ((newsR r p d)).window.slots.length s.c1, .slice s.a2 ((newsR r p d)).requests.length s.c2], .slice s.ae (newsE r p).length s.ce])
      (fun s => [.isv EReceiver (.agg #[.bool ((newsR r p d)).started, .int .i64 ((newsR r p d)).clock, .int .i64 ((newsR r p d)).window.next, .slice s.a1 ((newsR r p d)).window.slots.length s.c1, .slice s.a2 ((newsR r p d)).requests.length s.c2]) (newsR r p d) s.F1, .ow EStr 9 (.slice s.ae (newsE r p).length s.ce) (newsE r p) s.Fe]) := by
  have k0 := hg.k0
  have k1 := hg.k1
  obtain ⟨-, q1, q2, -⟩ := areQ_iff.1 hg.q
  have hser : ∀ q ∈ r.requests, isSer q.number = true := fun q hq => (req_at hg hq).1
  obtain ⟨hsg, -⟩ := start_good hg hp
  obtain ⟨htg, -, htl⟩ := taken_good hg hp
  obtain ⟨hng, hnq, -, hnl⟩ := news_good hg hp d0 d1 (by omega)
  obtain ⟨s0_, s1_⟩ := next_ser hsg
  obtain ⟨w0_, w1_⟩ := next_ser htg
  obtain ⟨v0_, v1_⟩ := next_ser hng
  obtain ⟨hw8, hit⟩ := good_items hsg
  obtain ⟨hu8, hiu⟩ := good_items htg
  obtain ⟨n0, n1⟩ := goodPk_num hp
  have hrw := (good_items hg.w).1
  have hp2 := hp
  unfold goodPk at hp2
  simp only [Bool.and_eq_true] at hp2
  obtain ⟨t0_, t1_⟩ := isSer_iff.1 hp2.1.1.1.1.2
  obtain ⟨l0_, l1_⟩ := isSer_iff.1 hp2.1.1.1.2
  have hps : p.data.size ≤ 8 := itm_size hp2.1.1.2
  refine enter Tryz.func208 rfl Tryz.ntmps208 fun w0 => ?_
  refine openReceiver (v := v) (x := r) (F := F) ?_
  rintro a1 c1 F1 a2 c2 F2 rfl - -
  refine go ?_; intros
  refine cf (l13Own_f r _ F (by omega) (by omega)) fun u _ => ?_
  refine t_app ?_
  refine openOReceiver ?_
  rintro a5 c5 F5 a6 c6 F6 e6 - -
  rw [e6]
  refine t_read (E := ESlot) fun G5 => ?_
  refine t_read (E := ERequest) fun G6 => ?_
  refine go ?_; intros
  rename_i g3 g4 g6 g8 g9
  refine t_emp EStr ?_
  refine c_joinS [2, 4, 6, 8, 9] [0, 2, 4, 5] (fun _ : List Nat => []) (fun s => [.row g8 49 0 [] [.bool true, .int .i64 r.clock, .int .i64 (startW r p).next, .slice a5 (startW r p).slots.length c5, .slice a6 r.requests.length c6] [], .isv EReceiveWindow (.agg #[.int .i64 (startW r p).next, .slice a5 (startW r p).slots.length c5]) (startW r p) s]) (fun _ => True) ?_ fun G7 _ => ?_
  · cases hs : r.started
    · by_cases hk : p.kind = 5
      · have e : startW r p = ⟨p.lead, r.window.slots⟩ := by unfold startW; rw [hs, if_pos hk]; rfl
        rw [e]
        refine go ?_; intros
        refine c_if rfl (fun _ => ?_) (fun h => absurd hk h)
        refine closeReceiveWindow (a1 := a5) ⟨p.lead, r.window.slots⟩ ?_
        refine go ?_; intros
        refine n_join G5 trivial
      · have e : startW r p = ⟨p.number, r.window.slots⟩ := by unfold startW; rw [hs, if_neg hk]; rfl
        rw [e]
        refine go ?_; intros
        refine c_if rfl (fun h => absurd h hk) (fun _ => ?_)
        refine closeReceiveWindow (a1 := a5) ⟨p.number, r.window.slots⟩ ?_
        refine go ?_; intros
        refine n_join G5 trivial
    · have e : startW r p = r.window := by unfold startW; rw [hs]; rfl
      rw [e]
      refine closeReceiveWindow (a1 := a5) r.window ?_
      refine go ?_; intros
      refine n_join G5 trivial
  repeat (first | apply c_skip | apply n_cd | apply c_seq)
  refine c_join2 [2, 4, 6, 8] [3, 4, 5] (fun s : SkS => [(9, .slice s.ae (takenE r p).length s.ce)]) (fun s => [.row g8 49 0 [] [.bool true, .int .i64 r.clock, .int .i64 (takenW r p).next, .slice s.a (takenW r p).slots.length s.c, .slice a6 r.requests.length c6] [], .isv EReceiveWindow (.agg #[.int .i64 (takenW r p).next, .slice s.a (takenW r p).slots.length s.c]) (takenW r p) s.F, .ow EStr 9 (.slice s.ae (takenE r p).length s.ce) (takenE r p) s.Fe]) (fun _ => True) ?_ fun s _ => ?_
  · by_cases hk : p.kind = 5
    · have e1 : takenW r p = startW r p := by unfold takenW; rw [if_pos hk]
      have e2 : takenE r p = [] := by unfold takenE; rw [if_pos hk]
      rw [e1, e2]
      refine go ?_; intros
      rw [decide_eq_false (show ¬ ¬ p.kind = 5 from fun h => h hk)]
      refine go ?_; intros
      refine n_join (⟨a5, c5, G7, _, _, _⟩ : SkS) trivial
    · have e1 : takenW r p = takeW (startW r p) p.number p.data := by unfold takenW; rw [if_neg hk]
      have e2 : takenE r p = takeE (startW r p) p.number p.data := by unfold takenE; rw [if_neg hk]
      rw [e1, e2]
      refine go ?_; intros
      rw [decide_eq_true (show ¬ p.kind = 5 from hk)]
      refine go ?_; intros
      refine cf (l10Reach_f (startW r p) p.number _ G7 s0_ s1_ n0 n1 hw8) fun _ _ => ?_
      refine t_app ?_
      cases hok : takeOk (startW r p) p.number
      · have e : (takeNo (startW r p) p.number || !decide (gp (startW r p).next p.number < 8)) = true := by unfold takeOk at hok; simp only [Bool.or_eq_false_iff] at hok; rw [hok.1, hok.2]; rfl
        have e3 : takeW (startW r p) p.number p.data = startW r p := by unfold takeW; rw [if_pos e]
        have e4 : takeE (startW r p) p.number p.data = [] := by unfold takeE; rw [if_pos e]
        rw [e3, e4]
        refine go ?_; intros
        refine n_join (⟨a5, c5, G7, _, _, _⟩ : SkS) trivial
      · refine go ?_; intros
        refine cf (l10Take_f (startW r p) p.number p.data _ G7 s0_ s1_ n0 n1 hw8 hit hps hok) fun y hy => ?_
        refine t_app ?_
        obtain ⟨hy1, hy2⟩ := hy
        have hyl : y.es.length ≤ 8 := by rw [hy2, ← e2]; exact htl
        refine t_read (E := EStr) (xs := y.es) fun G8 => ?_
        refine go ?_; intros
        apply wO
        refine aps (ys := y.es) one_EStr scal_EStr fun a9 c9 F9 => ?_
        rw [List.nil_append]
        rw [← hy1, ← hy2]
        refine go ?_; intros
        refine n_join (⟨y.a, y.c, y.F, _, _, _⟩ : SkS) trivial
  obtain ⟨a3, c3, F3, ae, cE, Fe⟩ := s
  dsimp only
  refine go ?_; intros
  refine ce (fun w s => l2Before_c _ _ _ (by omega) (by omega)) ?_
  refine go ?_; intros
  refine c_joinS [2, 4, 6, 8] [3, 4, 5] (fun s : SkS => [(9, .slice s.ae (newsE r p).length s.ce)]) (fun s => [.row g8 49 0 [] [.bool true, .int .i64 r.clock, .int .i64 (newsW r p).next, .slice s.a (newsW r p).slots.length s.c, .slice a6 r.requests.length c6] [], .isv EReceiveWindow (.agg #[.int .i64 (newsW r p).next, .slice s.a (newsW r p).slots.length s.c]) (newsW r p) s.F, .ow EStr 9 (.slice s.ae (newsE r p).length s.ce) (newsE r p) s.Fe]) (fun _ => True) ?_ fun s _ => ?_
  · cases hb : bef (takenW r p).next p.trail
    · have e1 : newsW r p = takenW r p := by show skipW _ _ = _; unfold skipW; rw [hb]; rfl
      have e2 : newsE r p = takenE r p := by unfold newsE skipE; rw [hb]; simp
      rw [e1, e2]
      refine go ?_; intros
      refine n_join (⟨a3, c3, F3, _, _, _⟩ : SkS) trivial
    refine go ?_; intros
    refine ce (fun w s => l2Gap_c _ _ _ (by omega) (by omega)) ?_
    refine go ?_; intros
    refine c_if rfl (fun h4 => ?_) (fun h4 => ?_)
    · have e1 : newsW r p = movedW (takenW r p) p.trail := by show skipW _ _ = _; unfold skipW; rw [hb, if_pos rfl, if_pos h4]
      have e2 : newsE r p = takenE r p ++ movedE (takenW r p) p.trail := by unfold newsE skipE; rw [hb, if_pos rfl, if_pos h4]
      have hl2 := hnl
      rw [e2, List.length_append] at hl2
      refine go ?_; intros
      refine cf (l10GiveUp_f (takenW r p) p.trail _ F3 w0_ w1_ t0_ t1_ hu8 hiu) fun y hy => ?_
      refine t_app ?_
      obtain ⟨hy1, hy2⟩ := hy
      have hyl : y.es.length ≤ 24 := by rw [hy2]; show (movedE (takenW r p) p.trail).length ≤ 24; omega
      refine t_read (E := EStr) (xs := y.es) fun G8 => ?_
      refine go ?_; intros
      apply wO
      refine aps (ys := y.es) one_EStr scal_EStr fun a9 c9 F9 => ?_
      rw [e1, e2, show movedW (takenW r p) p.trail = y.y from hy1.symm, show movedE (takenW r p) p.trail = y.es from hy2.symm]
      refine go ?_; intros
      refine n_join (⟨y.a, y.c, y.F, _, _, _⟩ : SkS) trivial
    · have e1 : newsW r p = ⟨p.trail, []⟩ := by show skipW _ _ = _; unfold skipW; rw [hb, if_pos rfl, if_neg h4]
      have e2 : newsE r p = takenE r p ++ [⟨#[33]⟩] := by unfold newsE skipE; rw [hb, if_pos rfl, if_neg h4]
      rw [e1, e2]
      refine go ?_; intros
      apply wO
      refine ap1 (rep_str ⟨#[33]⟩ (by decide)) one_EStr fun a9 c9 F9 => ?_
      refine t_nilsl ESlot (by decide) ?_
      refine closeReceiveWindow (a1 := none) ⟨p.trail, []⟩ ?_
      refine go ?_; intros
      refine n_join (⟨none, 0, _, _, _, _⟩ : SkS) trivial
  obtain ⟨a7, c7, F7, ae, cE, Fe⟩ := s
  dsimp only
  refine go ?_; intros
  refine cf (l13Needed_f r.requests (newsW r p) a6 c6 G6 _ F7 (by omega) hser v0_ v1_) fun z _ => ?_
  refine t_app ?_
  refine go ?_; intros
  refine ce (fun w s => l2Before_c _ _ _ (by omega) (by omega)) ?_
  have hNq8 := (areQ_iff.1 hnq).2.1
  cases hb : bef (newsW r p).next p.lead
  · have e1 : newsR r p d = ⟨true, r.clock, newsW r p, needed r.requests (newsW r p)⟩ := by unfold newsR awaitQ; rw [hb]; rfl
    rw [e1]
    refine go ?_; intros
    refine t_read (E := ERequest) (xs := needed r.requests (newsW r p)) fun F8 => ?_
    refine openReceiveWindow (x := newsW r p) ?_
    rintro b1 dd1 G1 e5 m1
    simp only [Value.agg.injEq, Array.mk.injEq, List.cons.injEq, Value.slice.injEq, true_and, and_true] at e5
    obtain ⟨rfl, rfl⟩ := e5
    refine closeReceiver ⟨true, r.clock, newsW r p, needed r.requests (newsW r p)⟩ ?_
    refine ret ⟨_, _, _, _, _, [], _, _, _⟩ trivial rfl
  obtain ⟨k, hk⟩ : ∃ k, k = awaitN (newsW r p) p.lead := ⟨_, rfl⟩
  have hk8 : k ≤ 8 := by rw [hk]; exact awaitN_le _ _
  have hgb := gp_bd (newsW r p).next p.lead
  have hkm : ((k : Nat) : Int) = min (gp (newsW r p).next p.lead) 8 := by rw [hk]; unfold awaitN; omega
  obtain ⟨N, hN⟩ : ∃ N, N = missL (newsW r p) k := ⟨_, rfl⟩
  have hNl : N.length ≤ 8 := by have := missL_len (newsW r p) k; rw [hN]; omega
  have e1 : newsR r p d = ⟨true, r.clock, newsW r p, addAll (newsW r p).next (r.clock + d) (needed r.requests (newsW r p)) N⟩ := by unfold newsR awaitQ; rw [hb, if_pos rfl, hN, hk]
  rw [e1]
  have hav := aft_bd (newsW r p).next (min (gp (newsW r p).next p.lead) 8)
  have hgp : gp (newsW r p).next (aft (newsW r p).next (min (gp (newsW r p).next p.lead) 8)) = (k : Nat) := by rw [← hkm]; unfold gp aft; omega
  refine go ?_; intros
  refine ce (fun w s => l2Gap_c _ _ _ (by omega) (by omega)) ?_
  refine go ?_; intros
  refine cf (leastH_f _ _) fun _ _ => ?_
  refine t_app ?_
  refine go ?_; intros
  refine ce (fun w s => l2After_c _ _ _ (by omega) (by omega)) ?_
  refine go ?_; intros
  refine cf (l10Missing_f (newsW r p) _ k _ F7 v0_ v1_ (by omega) (by omega) hgp) fun m _ => ?_
  refine t_app ?_
  rw [← hN]
  refine t_read (E := EInt) (xs := N) fun GN => ?_
  refine t_read (E := ERequest) (xs := needed r.requests (newsW r p)) fun F8 => ?_
  refine go ?_; intros
  refine c_loopS [2, 6, 8, 9, 14, 16] (fun s : AwS => [(17, .int .i64 (s.i : Nat))]) (fun s => [.row g8 49 0 [] [.bool true, .int .i64 r.clock, .int .i64 (newsW r p).next, .slice a7 (newsW r p).slots.length c7, .slice s.a (addAll (newsW r p).next (r.clock + d) (needed r.requests (newsW r p)) (N.take s.i)).length s.c] [], .sl ERequest (.slice s.a (addAll (newsW r p).next (r.clock + d) (needed r.requests (newsW r p)) (N.take s.i)).length s.c) (addAll (newsW r p).next (r.clock + d) (needed r.requests (newsW r p)) (N.take s.i)) s.F]) (fun s => s.i ≤ N.length) (fun s => N.length - s.i) ⟨0, z.1, z.2.1, F8⟩ (Nat.zero_le _) fun s hs => ?_
  obtain ⟨i, a3, c3, F3⟩ := s
  dsimp only at hs ⊢
  have hall := addAll_good (w := newsW r p) (u := r.clock + d) (by omega) (by omega) (N.take i) (needed r.requests (newsW r p)) (fun n hn => by
    have := missL_at (w := newsW r p) (n := n) hk8 (by rw [← hN]; exact List.mem_of_mem_take hn)
    exact ⟨this.1, this.2.2⟩) hnq needed_free
  have hLs : ∀ h : i < N.length, addAll (newsW r p).next (r.clock + d) (needed r.requests (newsW r p)) (N.take (i + 1)) = addQ (newsW r p).next (addAll (newsW r p).next (r.clock + d) (needed r.requests (newsW r p)) (N.take i)) N[i] (r.clock + d) := fun h => addAll_succ h
  generalize hLd : addAll (newsW r p).next (r.clock + d) (needed r.requests (newsW r p)) (N.take i) = L at *
  have hLq := hall.1
  have hL8 := (areQ_iff.1 hLq).2.1
  refine go ?_; intros
  refine c_if rfl (fun h4 => ?_) (fun h4 => ?_)
  · have hi : i < N.length := by omega
    have hni := missL_at (w := newsW r p) (n := N[i]) hk8 (by rw [← hN]; exact List.getElem_mem hi)
    refine at_int (xs := N) i ?_
    rintro hi2 b o2 e
    rw [e]
    refine go ?_; intros
    refine d_start [0, 1] [12] ?_
    refine dt 0 ?_
    refine dt 1 ?_
    refine dt 2 ?_
    refine dt 3 ?_
    refine dt 4 ?_
    refine dt 5 ?_
    refine dt 6 ?_
    refine dt 7 ?_
    refine dt 8 ?_
    refine dt 9 ?_
    refine dO 10 (by kernel_rfl) (by rw [List.getElem?_toArray]; rfl) ?_
    apply o_call; rfl; kernel_rfl; exact evsE
    refine cf (l12Add_f L (newsW r p).next N[i] r.clock d a3 c3 F3 hLq hni.1 k0 k1 d0 d1) fun u _ => ?_
    refine t_app ?_
    rw [← hLs hi]
    refine dk ?_
    refine dt 11 ?_
    refine dO 12 (by kernel_rfl) (by rw [List.getElem?_toArray]; rfl) ?_
    apply o_st; rfl; rfl; rfl; (first | exact AggC.s | exact OneC.s); rfl; exact rplE; exact putE; rfl
    refine dkx ?_
    refine dd ?_
    refine t_read (E := ERequest) fun F9 => ?_
    refine go ?_; intros
    refine n_lp (⟨i + 1, _, _, _⟩ : AwS) (by show i + 1 ≤ N.length; omega) (by show N.length - (i + 1) < N.length - i; omega)
  have hi : i = N.length := by omega
  subst hi
  rw [List.take_length] at hLd
  rw [hLd]
  refine go ?_; intros
  refine openReceiveWindow (x := newsW r p) ?_
  rintro b1 dd1 G1 e5 m1
  simp only [Value.agg.injEq, Array.mk.injEq, List.cons.injEq, Value.slice.injEq, true_and, and_true] at e5
  obtain ⟨rfl, rfl⟩ := e5
  refine closeReceiver ⟨true, r.clock, newsW r p, L⟩ ?_
  refine ret ⟨_, _, _, _, _, [], _, _, _⟩ trivial rfl
end Go.Proofs.YtgogcgkocjpgoaaGreatDoor
/- Hearing: a packet, the reference. -/
namespace Go.Proofs.YtgogcgkocjpgoaaGreatDoor
open Go.RowKit
set_option maxRecDepth 100000 in
set_option maxHeartbeats 800000 in
theorem l13Hear_f (r : Receiver) (p : Packet) (d : Int) (v : Value) (F : List Nat) (hg : GoodR r) (hp : goodPk p = true) (d0 : 1 ≤ d) (d1 : d ≤ 8) :
    Fn Tryz.prog 119 [v, .agg #[.int .i64 p.kind, .int .i64 p.number, .int .i64 p.trail, .int .i64 p.lead, .string p.data], .int .i64 d] [.isv EReceiver v r F] [] (fun (_ : NwS) => True) (fun s => .tuple #[.agg #[.bool ((hearR r p d)).started, .int .i64 ((hearR r p d)).clock, .int .i64 ((hearR r p d)).window.next, .slice s.a1 ((hearR r p d)).window.slots.length s.c1, .slice s.a2 ((hearR r p d)).requests.length s.c2], .slice s.ae (hearE r p).length s.ce])
      (fun s => [.isv EReceiver (.agg #[.bool ((hearR r p d)).started, .int .i64 ((hearR r p d)).clock, .int .i64 ((hearR r p d)).window.next, .slice s.a1 ((hearR r p d)).window.slots.length s.c1, .slice s.a2 ((hearR r p d)).requests.length s.c2]) (hearR r p d) s.F1, .ow EStr 9 (.slice s.ae (hearE r p).length s.ce) (hearE r p) s.Fe]) := by
  have k0 := hg.k0
  have k1 := hg.k1
  have hrw := (good_items hg.w).1
  obtain ⟨-, q1, q2, -⟩ := areQ_iff.1 hg.q
  obtain ⟨n0, n1⟩ := goodPk_num hp
  have hkd : 1 ≤ p.kind ∧ p.kind ≤ 5 := by unfold goodPk btw at hp; simp only [Bool.and_eq_true, decide_eq_true_eq] at hp; exact hp.1.1.1.1.1.1
  refine enter Tryz.func119 rfl Tryz.ntmps119 fun w0 => ?_
  refine openReceiver (v := v) (x := r) (F := F) ?_
  rintro a1 c1 F1 a2 c2 F2 rfl - -
  refine go ?_; intros
  by_cases hk4 : p.kind = 4
  · have hn : isNews p = false := by unfold isNews; simp [hk4]
    have eE : hearE r p = [] := by unfold hearE; rw [hn]; rfl
    rw [decide_eq_true hk4]
    cases hs : r.started
    · have eR : hearR r p d = r := by unfold hearR; rw [hn, hs]; simp
      refine go ?_; intros
      rw [decide_eq_true hk4]
      refine go ?_; intros
      refine cf (l13Own_f r _ F (by omega) (by omega)) fun u _ => ?_
      refine t_app ?_
      refine openOReceiver ?_
      rintro a5 c5 F5 a6 c6 F6 e6 - -
      rw [e6]
      refine t_read (E := ESlot) fun G5 => ?_
      refine t_read (E := ERequest) fun G6 => ?_
      refine go ?_; intros
      refine t_emp EStr ?_
      refine closeReceiver (a1 := a5) r ?_
      rw [eR, eE]
      rw [hs]
      refine ret ⟨_, _, _, _, _, [], _, _, _⟩ trivial rfl
    · have eR : hearR r p d = confR r p := by unfold hearR; rw [hn, hs, decide_eq_true hk4]; rfl
      refine go ?_; intros
      refine cf (l13Own_f r _ F (by omega) (by omega)) fun u _ => ?_
      refine t_app ?_
      refine openOReceiver ?_
      rintro a5 c5 F5 a6 c6 F6 e6 - -
      rw [e6]
      refine t_read (E := ESlot) fun G5 => ?_
      refine go ?_; intros
      refine cf (l12Confirm_f r.requests r.window.next p.number r.clock a2 c2 F2 hg.q (isSer_iff.2 ⟨n0, n1⟩) k0 k1) fun y _ => ?_
      refine t_app ?_
      refine t_read (E := ERequest) (xs := confQ r.window.next r.requests p.number (r.clock + 4)) fun G6 => ?_
      refine go ?_; intros
      refine t_emp EStr ?_
      refine closeReceiver (a1 := a5) (confR r p) ?_
      rw [eR, eE]
      refine ret ⟨_, _, _, _, _, [], _, _, _⟩ trivial rfl
  rw [decide_eq_false hk4]
  refine go ?_; intros
  rw [decide_eq_false hk4]
  refine go ?_; intros
  by_cases hk3 : p.kind = 3
  · have hn : isNews p = false := by unfold isNews; simp [hk3]
    have eE : hearE r p = [] := by unfold hearE; rw [hn]; rfl
    have eR : hearR r p d = r := by unfold hearR; rw [hn, decide_eq_false hk4]; rfl
    rw [decide_eq_true hk3]
    refine go ?_; intros
    refine cf (l13Own_f r _ F (by omega) (by omega)) fun u _ => ?_
    refine t_app ?_
    refine openOReceiver ?_
    rintro a5 c5 F5 a6 c6 F6 e6 - -
    rw [e6]
    refine t_read (E := ESlot) fun G5 => ?_
    refine t_read (E := ERequest) fun G6 => ?_
    refine go ?_; intros
    refine t_emp EStr ?_
    refine closeReceiver (a1 := a5) r ?_
    rw [eR, eE]
    refine ret ⟨_, _, _, _, _, [], _, _, _⟩ trivial rfl
  have hn : isNews p = true := by
    unfold isNews
    have : p.kind = 1 ∨ p.kind = 2 ∨ p.kind = 5 := by omega
    rcases this with h | h | h <;> simp [h]
  have eE : hearE r p = newsE r p := by unfold hearE; rw [hn]; rfl
  have eR : hearR r p d = newsR r p d := by unfold hearR; rw [hn]; rfl
  rw [decide_eq_false hk3, eE, eR]
  refine go ?_; intros
  refine cf (l13News_f r p d _ F hg hp d0 d1) fun s _ => ?_
  refine t_app ?_
  refine go ?_; intros
  refine ret ⟨s.a1, s.c1, s.F1, s.a2, s.c2, [], s.ae, s.ce, _⟩ trivial rfl
end Go.Proofs.YtgogcgkocjpgoaaGreatDoor
/- HearPacket, on both sides. -/
namespace Go.Proofs.YtgogcgkocjpgoaaGreatDoor
open Go.RowKit
end Go.Proofs.YtgogcgkocjpgoaaGreatDoor
/- Receivers: a tick keeps a receiver valid; plain. -/
namespace Go.Proofs.YtgogcgkocjpgoaaGreatDoor
open Go.RowKit
theorem tkReq_good {r : Receiver} {d : Int} (hg : GoodR r) (hk : r.clock < 9999) (d0 : 1 ≤ d) (d1 : d ≤ 8) : areQ (tkReq r d) r.window.next = true ∧ ∀ q ∈ tkReq r d, hasB r.window q.number = false := by
  have k0 := hg.k0
  obtain ⟨h1, h2, h3, h4⟩ := areQ_iff.1 hg.q
  refine ⟨areQ_iff.2 ⟨h1, Nat.le_trans (tkReq_len r d) h2, fun q hq => ?_, ?_⟩, fun q hq => (tkReq_at hg hq).2.2⟩
  · obtain ⟨q', hq', h⟩ := List.mem_filterMap.1 hq
    have ho := okReq_iff.1 (h3 q' hq')
    unfold tkO at h
    split at h
    · cases h; exact h3 q hq'
    · split at h
      · cases h
      · rename_i hn
        have t0 := ho.t0
        have t1 := ho.t1
        split at h
        · cases h
          exact okReq_iff.2 ⟨ho.n, ho.g, by show (1 : Int) ≤ 2; decide, by show (2 : Int) ≤ 3; decide, by show 0 ≤ r.clock + 1 + 3; omega, by show r.clock + 1 + 3 ≤ 10007; omega, by show 0 ≤ q'.tries + 1; omega, by show q'.tries + 1 ≤ 3; omega⟩
        · cases h
          exact okReq_iff.2 ⟨ho.n, ho.g, by show (1 : Int) ≤ 1; decide, by show (1 : Int) ≤ 3; decide, by show 0 ≤ r.clock + 1 + d; omega, by show r.clock + 1 + d ≤ 10007; omega, t0, t1⟩
  · unfold tkReq
    refine List.Pairwise.filterMap _ (fun a a' h b hb b' hb' => ?_) h4
    rw [tkO_num hb, tkO_num hb']; exact h
theorem tick_good {r : Receiver} {d : Int} (hg : GoodR r) (hk : r.clock < 9999) (d0 : 1 ≤ d) (d1 : d ≤ 8) : GoodR (tickRec r d) := by
  have k0 := hg.k0
  obtain ⟨hq, hf⟩ := tkReq_good hg hk d0 d1
  by_cases hL : tkLost r = []
  · rw [tickR_no hL]
    refine ⟨by show 0 ≤ r.clock + 1; omega, by show r.clock + 1 ≤ 9999; omega, hg.w, hq, hf, fun hs => ?_⟩
    obtain ⟨e1, e2⟩ := hg.z hs
    refine ⟨e1, ?_⟩
    show tkReq r d = []
    unfold tkReq; rw [e2]; rfl
  · have hst : r.started = true := by
      cases hs : r.started
      · exfalso; apply hL; unfold tkLost; rw [(hg.z hs).2]; rfl
      · rfl
    rw [tickR_yes hL]
    obtain ⟨e1, -, e3, -⟩ := moved_at (t := lostTrail (tkLost r)) hg.w
    have hs8 := (lost_gp hg hL).1
    have hgp := @stepsN_gp r.window.next (lostTrail (tkLost r))
    have hw : goodRW (movedW r.window (lostTrail (tkLost r))) = true := giveUp_good _ _ hg.w
    rw [← tick_needed hg hL]
    refine ⟨by show 0 ≤ r.clock + 1; omega, by show r.clock + 1 ≤ 9999; omega, hw, needed_good (m := (movedE r.window (lostTrail (tkLost r))).length) (by omega) hq hw e1, needed_free, fun hs => ?_⟩
    have : r.started = false := hs
    rw [hst] at this; cases this
end Go.Proofs.YtgogcgkocjpgoaaGreatDoor
/- Receivers: NewReceiver, IsSettled. -/
namespace Go.Proofs.YtgogcgkocjpgoaaGreatDoor
open Go.RowKit
def resNewReceiver (k : Int) : Receiver × Bool := if isClk k then (⟨false, k, ⟨0, []⟩, []⟩, true) else (zRec, false)
def stlB (x : Receiver) : Bool := x.started && decide ((x.requests.length : Int) = 0) && decide ((x.window.slots.length : Int) = 0)
theorem NewReceiver_f (k : Int) : Fn Tryz.prog 60 [.int .i64 k] [] [] (fun (_ : NwS) => True) (fun s => .tuple #[.agg #[.bool ((resNewReceiver k).1).started, .int .i64 ((resNewReceiver k).1).clock, .int .i64 ((resNewReceiver k).1).window.next, .slice s.a1 ((resNewReceiver k).1).window.slots.length s.c1, .slice s.a2 ((resNewReceiver k).1).requests.length s.c2], .bool (resNewReceiver k).2]) (fun s => [.isv EReceiver (.agg #[.bool ((resNewReceiver k).1).started, .int .i64 ((resNewReceiver k).1).clock, .int .i64 ((resNewReceiver k).1).window.next, .slice s.a1 ((resNewReceiver k).1).window.slots.length s.c1, .slice s.a2 ((resNewReceiver k).1).requests.length s.c2]) (resNewReceiver k).1 s.F1]) := by
  refine enter Tryz.func60 rfl Tryz.ntmps60 fun w0 => ?_
  refine t_nilsl ESlot (by decide) ?_
  refine t_nilsl ERequest (by decide) ?_
  refine go ?_; intros
  refine ce (fun w s => isClock_c _ _) ?_
  cases g : isClk k
  · rw [show resNewReceiver k = (zRec, false) by unfold resNewReceiver; rw [g]; rfl]
    refine closeReceiver (a1 := none) zRec ?_
    refine go ?_; intros
    refine ret ⟨none, 0, _, none, 0, [], none, 0, []⟩ trivial rfl
  · rw [show resNewReceiver k = (⟨false, k, ⟨0, []⟩, []⟩, true) by unfold resNewReceiver; rw [g]; rfl]
    refine closeReceiver (a1 := none) ⟨false, k, ⟨0, []⟩, []⟩ ?_
    refine go ?_; intros
    refine ret ⟨none, 0, _, none, 0, [], none, 0, []⟩ trivial rfl
theorem specNewReceiver_f (k : Int) : Fn Tryz.prog 61 [.int .i64 k] [] [] (fun (_ : NwS) => True) (fun s => .tuple #[.agg #[.bool ((resNewReceiver k).1).started, .int .i64 ((resNewReceiver k).1).clock, .int .i64 ((resNewReceiver k).1).window.next, .slice s.a1 ((resNewReceiver k).1).window.slots.length s.c1, .slice s.a2 ((resNewReceiver k).1).requests.length s.c2], .bool (resNewReceiver k).2]) (fun s => [.isv EReceiver (.agg #[.bool ((resNewReceiver k).1).started, .int .i64 ((resNewReceiver k).1).clock, .int .i64 ((resNewReceiver k).1).window.next, .slice s.a1 ((resNewReceiver k).1).window.slots.length s.c1, .slice s.a2 ((resNewReceiver k).1).requests.length s.c2]) (resNewReceiver k).1 s.F1]) := by
  refine enter Tryz.func61 rfl Tryz.ntmps61 fun w0 => ?_
  refine t_nilsl ESlot (by decide) ?_
  refine t_nilsl ERequest (by decide) ?_
  refine go ?_; intros
  refine ce (fun w s => l11Clock_c _ _) ?_
  cases g : isClk k
  · rw [show resNewReceiver k = (zRec, false) by unfold resNewReceiver; rw [g]; rfl]
    refine closeReceiver (a1 := none) zRec ?_
    refine go ?_; intros
    refine ret ⟨none, 0, _, none, 0, [], none, 0, []⟩ trivial rfl
  · rw [show resNewReceiver k = (⟨false, k, ⟨0, []⟩, []⟩, true) by unfold resNewReceiver; rw [g]; rfl]
    refine closeReceiver (a1 := none) ⟨false, k, ⟨0, []⟩, []⟩ ?_
    refine go ?_; intros
    refine ret ⟨none, 0, _, none, 0, [], none, 0, []⟩ trivial rfl
set_option maxRecDepth 100000 in
theorem isSettled_f (x : Receiver) (v : Value) (F : List Nat) : Fn Tryz.prog 145 [v] [.isv EReceiver v x F] [] (fun (_ : Unit) => True) (fun _ => .bool (stlB x)) (fun _ => []) := by
  refine enter Tryz.func145 rfl Tryz.ntmps145 fun w0 => ?_
  refine openReceiver (v := v) (x := x) (F := F) ?_
  rintro a1 c1 F1 a2 c2 F2 rfl l1 l2
  unfold maxLen at l1 l2
  refine go ?_; intros
  cases hs : x.started
  · refine go ?_; intros
    refine ret () trivial ?_
    unfold stlB; rw [hs]; rfl
  refine go ?_; intros
  refine wg_if rfl rfl (fun h1 => ?_) (fun h1 => ?_)
  rotate_left
  · refine go ?_; intros
    refine ret () trivial ?_
    unfold stlB; rw [hs, decide_eq_false h1]; rfl
  refine go ?_; intros
  refine ret () trivial ?_
  unfold stlB; rw [hs, decide_eq_true h1]; rfl
set_option maxRecDepth 100000 in
theorem IsSettled_f (x : Receiver) (v : Value) (F : List Nat) : Fn Tryz.prog 57 [v] [.isv EReceiver v x F] [] (fun (_ : Unit) => True) (fun _ => .tuple #[.bool (goodRec x && stlB x), .bool (goodRec x)]) (fun _ => []) := by
  refine enter Tryz.func57 rfl Tryz.ntmps57 fun w0 => ?_
  refine openReceiver (v := v) (x := x) (F := F) ?_
  rintro a1 c1 F1 a2 c2 F2 rfl l1 l2
  unfold maxLen at l1 l2
  refine go ?_; intros
  refine cf (IsValidReceiver_f x _ F) fun _ _ => ?_
  refine t_app ?_
  cases g1 : goodRec x
  · refine go ?_; intros
    refine ret () trivial rfl
  refine go ?_; intros
  refine cf (isSettled_f x _ F) fun _ _ => ?_
  refine t_app ?_
  refine go ?_; intros
  refine ret () trivial rfl
set_option maxRecDepth 100000 in
theorem specIsSettled_f (x : Receiver) (v : Value) (F : List Nat) : Fn Tryz.prog 58 [v] [.isv EReceiver v x F] [] (fun (_ : Unit) => True) (fun _ => .tuple #[.bool (goodRec x && stlB x), .bool (goodRec x)]) (fun _ => []) := by
  refine enter Tryz.func58 rfl Tryz.ntmps58 fun w0 => ?_
  refine openReceiver (v := v) (x := x) (F := F) ?_
  rintro a1 c1 F1 a2 c2 F2 rfl l1 l2
  unfold maxLen at l1 l2
  refine go ?_; intros
  refine cf (l13Good_f x _ F) fun _ _ => ?_
  refine t_app ?_
  cases g1 : goodRec x
  · refine go ?_; intros
    refine ret () trivial rfl
  refine go ?_; intros
  cases hs : x.started
  · refine go ?_; intros
    refine ret () trivial ?_
    unfold stlB; rw [hs]; rfl
  refine go ?_; intros
  refine wg_if rfl rfl (fun h1 => ?_) (fun h1 => ?_)
  rotate_left
  · refine go ?_; intros
    refine ret () trivial ?_
    unfold stlB; rw [hs, decide_eq_false h1]; rfl
  refine go ?_; intros
  refine ret () trivial ?_
  unfold stlB; rw [hs, decide_eq_true h1]; rfl
end Go.Proofs.YtgogcgkocjpgoaaGreatDoor
/- Draws, for the engine: receive windows. -/
namespace Go.Proofs.YtgogcgkocjpgoaaGreatDoor
open Go.RowKit
structure DwS where
  y : ReceiveWindow
  i : Nat
  a : Option Addr
  c : Nat
  F : List Nat
  s : CuS
structure DwOk (B r0 : Nat) (z : DwS) : Prop where
  l : z.y.slots.length = z.i
  i : z.i ≤ r0
  s : CuOk (B + 6 + 50 * z.i) z.s
structure DjS where
  y : ReceiveWindow
  a : Option Addr
  c : Nat
  F : List Nat
  s : CuS
structure DjOk (B : Nat) (z : DjS) : Prop where
  l : z.y.slots.length ≤ 8
  s : CuOk (B + 500) z.s
set_option maxRecDepth 100000 in
theorem drawRW_f (B g : Nat) (F : CuF) (s : CuS) (ok : CuOk B s) (hB : B ≤ 800000000000) :
    Fn Tryz.prog 213 [ptr g 0 0] [.sl EByte (.slice F.a F.code.length F.c) F.code F.bs] [.row g 123 0 [] [.slice F.a F.code.length F.c, .int .i64 (s.k : Nat), .int .u64 s.seed] []] (fun (z : DjS) => CuOk (B + 1000) z.s) (fun s => .agg #[.int .i64 s.y.next, .slice s.a s.y.slots.length s.c])
      (fun s => [.isv EReceiveWindow (.agg #[.int .i64 s.y.next, .slice s.a s.y.slots.length s.c]) s.y s.F, .row g 123 0 [] [.slice F.a F.code.length F.c, .int .i64 (s.s.k : Nat), .int .u64 s.s.seed] []]) := by
  refine enter Tryz.func213 rfl Tryz.ntmps213 fun w0 => ?_
  refine t_nilow ESlot 213 ?_
  refine go ?_; intros
  refine cf (serial_f B g F s ok (by omega)) fun n hn => ?_
  refine t_app ?_
  obtain ⟨hn1, hn2⟩ := hn
  refine go ?_; intros
  rename_i gg
  refine cf (pick_f (B + 4) g F 8 n.2 hn2 (by omega) (by omega)) fun y hy => ?_
  refine t_app ?_
  obtain ⟨r0, s1⟩ := y
  obtain ⟨hy1, hy2⟩ := hy
  dsimp only at hy1 hy2 ⊢
  have hr0 : r0 ≤ 8 := by omega
  refine go ?_; intros
  refine c_joinS [0, 2] [2, 4] (fun _ : DjS => [(3, ptr gg 0 0)]) (fun z => [.row gg 46 0 [] [.int .i64 z.y.next, .slice z.a z.y.slots.length z.c] [], .ow ESlot 213 (.slice z.a z.y.slots.length z.c) z.y.slots z.F, .row g 123 0 [] [.slice F.a F.code.length F.c, .int .i64 (z.s.k : Nat), .int .u64 z.s.seed] []]) (DjOk B) ?_ fun z hz => ?_
  · refine c_if rfl (fun h1 => ?_) (fun h1 => ?_)
    · refine go ?_; intros
      refine c_loopS [0, 2, 3, 4] (fun z : DwS => [(5, .int .i64 (z.i : Nat))]) (fun z => [.row gg 46 0 [] [.int .i64 z.y.next, .slice z.a z.y.slots.length z.c] [], .ow ESlot 213 (.slice z.a z.y.slots.length z.c) z.y.slots z.F, .row g 123 0 [] [.slice F.a F.code.length F.c, .int .i64 (z.s.k : Nat), .int .u64 z.s.seed] []]) (DwOk B r0) (fun z => r0 - z.i) ⟨⟨n.1, []⟩, 0, none, 0, [], s1⟩ ⟨rfl, Nat.zero_le _, hy2.mono (by show _ ≤ B + 6 + 50 * 0; omega)⟩ fun z hz => ?_
      obtain ⟨z1, z2, z3⟩ := hz
      refine go ?_; intros
      refine c_if rfl (fun h2 => ?_) (fun h2 => ?_)
      · refine go ?_; intros
        refine wg_if rfl rfl (fun h3 => ?_) (fun h3 => ?_)
        · refine go ?_; intros
          refine wg_if rfl rfl (fun h4 => ?_) (fun h4 => ?_)
          · refine go ?_; intros
            refine cf (letters_f _ g F z.s 4 z3 (by omega) (by omega) (by omega)) fun l hl => ?_
            refine t_app ?_
            obtain ⟨hl1, hl2⟩ := hl
            refine go ?_; intros
            apply wO
            refine ap1 (rep_slot ⟨true, l.1⟩ (by show l.1.size ≤ maxLen; unfold maxLen; omega)) one_ESlot fun a9 c9 F9 => ?_
            refine go ?_; intros
            refine n_lp ⟨⟨z.y.next, z.y.slots ++ [⟨true, l.1⟩]⟩, z.i + 1, a9, c9, F9, l.2⟩ ⟨by show (z.y.slots ++ [_]).length = z.i + 1; simp [z1], by show z.i + 1 ≤ r0; omega, hl2.mono (by show _ ≤ B + 6 + 50 * (z.i + 1); omega)⟩ (by show r0 - (z.i + 1) < _; omega)
          · refine go ?_; intros
            refine cf (one_f _ g F 2 z.s z3 (by omega) (by omega)) fun q hq => ?_
            refine t_app ?_
            obtain ⟨b, s2⟩ := q
            obtain ⟨-, hq⟩ := hq
            dsimp only at hq ⊢
            cases b
            · refine go ?_; intros
              apply wO
              refine ap1 (rep_slot ⟨false, ⟨#[]⟩⟩ (by decide)) one_ESlot fun a9 c9 F9 => ?_
              refine go ?_; intros
              refine n_lp ⟨⟨z.y.next, z.y.slots ++ [⟨false, ⟨#[]⟩⟩]⟩, z.i + 1, a9, c9, F9, s2⟩ ⟨by show (z.y.slots ++ [_]).length = z.i + 1; simp [z1], by show z.i + 1 ≤ r0; omega, hq.mono (by show _ ≤ B + 6 + 50 * (z.i + 1); omega)⟩ (by show r0 - (z.i + 1) < _; omega)
            · refine go ?_; intros
              refine cf (letters_f _ g F s2 4 hq (by omega) (by omega) (by omega)) fun l hl => ?_
              refine t_app ?_
              obtain ⟨hl1, hl2⟩ := hl
              refine go ?_; intros
              apply wO
              refine ap1 (rep_slot ⟨true, l.1⟩ (by show l.1.size ≤ maxLen; unfold maxLen; omega)) one_ESlot fun a9 c9 F9 => ?_
              refine go ?_; intros
              refine n_lp ⟨⟨z.y.next, z.y.slots ++ [⟨true, l.1⟩]⟩, z.i + 1, a9, c9, F9, l.2⟩ ⟨by show (z.y.slots ++ [_]).length = z.i + 1; simp [z1], by show z.i + 1 ≤ r0; omega, hl2.mono (by show _ ≤ B + 6 + 50 * (z.i + 1); omega)⟩ (by show r0 - (z.i + 1) < _; omega)
        · refine go ?_; intros
          apply wO
          refine ap1 (rep_slot ⟨false, ⟨#[]⟩⟩ (by decide)) one_ESlot fun a9 c9 F9 => ?_
          refine go ?_; intros
          refine n_lp ⟨⟨z.y.next, z.y.slots ++ [⟨false, ⟨#[]⟩⟩]⟩, z.i + 1, a9, c9, F9, z.s⟩ ⟨by show (z.y.slots ++ [_]).length = z.i + 1; simp [z1], by show z.i + 1 ≤ r0; omega, z3.mono (by show _ ≤ B + 6 + 50 * (z.i + 1); omega)⟩ (by show r0 - (z.i + 1) < _; omega)
      · refine go ?_; intros
        refine n_join (⟨z.y, z.a, z.c, z.F, z.s⟩ : DjS) ⟨by show z.y.slots.length ≤ 8; omega, z3.mono (by omega)⟩
    · refine go ?_; intros
      refine n_join (⟨⟨n.1, []⟩, none, 0, [], s1⟩ : DjS) ⟨by simp, hy2.mono (by omega)⟩
  · obtain ⟨l8, hzs⟩ := hz
    refine go ?_; intros
    refine cf (pick_f _ g F 24 z.s hzs (by omega) (by omega)) fun p hp => ?_
    refine t_app ?_
    obtain ⟨r, s3⟩ := p
    obtain ⟨-, hp⟩ := hp
    dsimp only at hp ⊢
    refine go ?_; intros
    refine c_if rfl (fun e0 => ?_) (fun e0 => ?_)
    · refine go ?_; intros
      refine cf (anySerial_f _ g F s3 hp (by omega)) fun q hq => ?_
      refine t_app ?_
      refine go ?_; intros
      refine t_read (E := ESlot) fun F9 => ?_
      refine closeReceiveWindow ⟨q.1, z.y.slots⟩ ?_
      refine ret ⟨⟨q.1, z.y.slots⟩, _, _, _, q.2⟩ (hq.mono (by omega)) rfl
    refine go ?_; intros
    refine c_if rfl (fun e1 => ?_) (fun e1 => ?_)
    · refine go ?_; intros
      apply wO
      refine ap1 (rep_slot ⟨false, ⟨#[]⟩⟩ (by decide)) one_ESlot fun a9 c9 F9 => ?_
      refine go ?_; intros
      refine t_read (E := ESlot) fun F8 => ?_
      refine closeReceiveWindow ⟨z.y.next, z.y.slots ++ [⟨false, ⟨#[]⟩⟩]⟩ ?_
      refine ret ⟨⟨z.y.next, z.y.slots ++ [⟨false, ⟨#[]⟩⟩]⟩, _, _, _, s3⟩ (hp.mono (by omega)) rfl
    refine go ?_; intros
    refine c_if rfl (fun e2 => ?_) (fun e2 => ?_)
    · refine goN ?_; intros
      refine d_start [1] [11] ?_
      refine dt 0 ?_
      refine dt 1 ?_
      refine dt 2 ?_
      refine dt 4 ?_
      refine dO2 3 5 (by kernel_rfl) (by rw [List.getElem?_toArray]; rfl) (by rw [List.getElem?_toArray]; rfl) ?_ ?_
      · apply o_call; rfl; kernel_rfl; exact evsE
        refine cf (one_f _ g F 2 s3 hp (by omega) (by omega)) fun q hq => ?_
        refine t_app ?_
        obtain ⟨b, s4⟩ := q
        obtain ⟨-, hq⟩ := hq
        dsimp only at hq ⊢
        refine dk ?_
        refine dO 5 (by kernel_rfl) (by rw [List.getElem?_toArray]; rfl) ?_
        apply o_bs; rfl; rfl; rfl; rfl; exact rptE; exact filE; intro _
        refine t_row (xs := [⟨#[97]⟩, ⟨#[65]⟩, ⟨#[]⟩]) (fun w => flat_s w _ (by decide)) ?_ (by decide)
        refine t_read (E := EStr) fun G => ?_
        refine dk ?_
        refine dO 6 (by kernel_rfl) (by rw [List.getElem?_toArray]; rfl) ?_
        apply o_call; rfl; kernel_rfl; exact evsE
        refine cf (of_f _ g F _ [⟨#[97]⟩, ⟨#[65]⟩, ⟨#[]⟩] _ s4 hq (by omega) (by decide) (by decide)) fun q2 hq2 => ?_
        refine t_app ?_
        have hq3 : q2.1.size ≤ maxLen := by have := hq2.1; simp only [List.mem_cons, List.not_mem_nil, or_false] at this; rcases this with e | e | e <;> rw [e] <;> decide
        refine dk ?_
        refine dt 7 ?_
        refine dO 8 (by kernel_rfl) (by rw [List.getElem?_toArray]; rfl) ?_
        apply o_bs; rfl; rfl; rfl; rfl; exact rptE; exact filE; intro _
        refine dk ?_
        refine dO 9 (by kernel_rfl) (by rw [List.getElem?_toArray]; rfl) ?_
        refine ap1 (rep_slot ⟨b, q2.1⟩ hq3) one_ESlot fun a9 c9 F9 => ?_
        refine dk ?_
        refine dt 10 ?_
        refine dO 11 (by kernel_rfl) (by rw [List.getElem?_toArray]; rfl) ?_
        apply o_st; rfl; rfl; rfl; (first | exact AggC.s | exact OneC.s); rfl; exact rplE; exact putE; rfl
        refine dkx ?_
        refine dd ?_
        refine go ?_; intros
        refine t_read (E := ESlot) fun F8 => ?_
        refine closeReceiveWindow ⟨z.y.next, z.y.slots ++ [⟨b, q2.1⟩]⟩ ?_
        refine ret ⟨⟨z.y.next, z.y.slots ++ [⟨b, q2.1⟩]⟩, _, _, _, q2.2⟩ (hq2.2.mono (by omega)) rfl
      · apply o_bs; rfl; rfl; rfl; rfl; exact rptE; exact filE; intro _
        refine t_row (xs := [⟨#[97]⟩, ⟨#[65]⟩, ⟨#[]⟩]) (fun w => flat_s w _ (by decide)) ?_ (by decide)
        refine t_read (E := EStr) fun G => ?_
        refine dk ?_
        refine dO 3 (by kernel_rfl) (by rw [List.getElem?_toArray]; rfl) ?_
        apply o_call; rfl; kernel_rfl; exact evsE
        refine cf (one_f _ g F 2 s3 hp (by omega) (by omega)) fun q hq => ?_
        refine t_app ?_
        obtain ⟨b, s4⟩ := q
        obtain ⟨-, hq⟩ := hq
        dsimp only at hq ⊢
        refine dk ?_
        refine dO 6 (by kernel_rfl) (by rw [List.getElem?_toArray]; rfl) ?_
        apply o_call; rfl; kernel_rfl; exact evsE
        refine cf (of_f _ g F _ [⟨#[97]⟩, ⟨#[65]⟩, ⟨#[]⟩] _ s4 hq (by omega) (by decide) (by decide)) fun q2 hq2 => ?_
        refine t_app ?_
        have hq3 : q2.1.size ≤ maxLen := by have := hq2.1; simp only [List.mem_cons, List.not_mem_nil, or_false] at this; rcases this with e | e | e <;> rw [e] <;> decide
        refine dk ?_
        refine dt 7 ?_
        refine dO 8 (by kernel_rfl) (by rw [List.getElem?_toArray]; rfl) ?_
        apply o_bs; rfl; rfl; rfl; rfl; exact rptE; exact filE; intro _
        refine dk ?_
        refine dO 9 (by kernel_rfl) (by rw [List.getElem?_toArray]; rfl) ?_
        refine ap1 (rep_slot ⟨b, q2.1⟩ hq3) one_ESlot fun a9 c9 F9 => ?_
        refine dk ?_
        refine dt 10 ?_
        refine dO 11 (by kernel_rfl) (by rw [List.getElem?_toArray]; rfl) ?_
        apply o_st; rfl; rfl; rfl; (first | exact AggC.s | exact OneC.s); rfl; exact rplE; exact putE; rfl
        refine dkx ?_
        refine dd ?_
        refine go ?_; intros
        refine t_read (E := ESlot) fun F8 => ?_
        refine closeReceiveWindow ⟨z.y.next, z.y.slots ++ [⟨b, q2.1⟩]⟩ ?_
        refine ret ⟨⟨z.y.next, z.y.slots ++ [⟨b, q2.1⟩]⟩, _, _, _, q2.2⟩ (hq2.2.mono (by omega)) rfl
    refine go ?_; intros
    refine c_if rfl (fun e3 => ?_) (fun e3 => ?_)
    · refine go ?_; intros
      refine t_read (E := ESlot) (xs := z.y.slots) fun F8 => ?_
      refine t_row (xs := [(⟨false, ⟨#[]⟩⟩ : Slot)]) (rep_slot _ (by decide)) ?_ (by decide)
      apply wO
      refine aps (ys := z.y.slots) one_ESlot scal_ESlot fun a9 c9 F9 => ?_
      refine go ?_; intros
      refine c_loopS [0, 2, 3] (fun _ : DjS => []) (fun z => [.row gg 46 0 [] [.int .i64 z.y.next, .slice z.a z.y.slots.length z.c] [], .ow ESlot 213 (.slice z.a z.y.slots.length z.c) z.y.slots z.F, .row g 123 0 [] [.slice F.a F.code.length F.c, .int .i64 (z.s.k : Nat), .int .u64 z.s.seed] []]) (fun z : DjS => z.y.slots.length ≤ 9 ∧ CuOk (B + 502 + 2 * z.y.slots.length) z.s) (fun z => 9 - z.y.slots.length) ⟨⟨z.y.next, [⟨false, ⟨#[]⟩⟩] ++ z.y.slots⟩, a9, c9, F9, s3⟩ ⟨by simp; omega, hp.mono (by omega)⟩ fun z hz => ?_
      obtain ⟨z1, z2⟩ := hz
      refine goN ?_; intros
      refine d_start [0] [] ?_
      refine dt 0 ?_
      refine dt 1 ?_
      refine dt 2 ?_
      refine dt 3 ?_
      refine dO 4 (by kernel_rfl) (by rw [List.getElem?_toArray]; rfl) ?_
      apply o_call; rfl; kernel_rfl; exact evsE
      refine cf (pick_f _ g F 2 z.s z2 (by omega) (by omega)) fun p6 hp6 => ?_
      refine t_app ?_
      obtain ⟨r6, s6⟩ := p6
      obtain ⟨hr6, hp6⟩ := hp6
      dsimp only at hr6 hp6 ⊢
      refine dk ?_
      refine dt 5 ?_
      refine dt 6 ?_
      refine dd ?_
      refine go ?_; intros
      refine c_if rfl (fun e4 => ?_) (fun e4 => ?_)
      · refine go ?_; intros
        apply wO
        refine ap1 (rep_slot ⟨true, ⟨#[122]⟩⟩ (by decide)) one_ESlot fun a9 c9 F9 => ?_
        refine go ?_; intros
        refine n_lp ⟨⟨z.y.next, z.y.slots ++ [⟨true, ⟨#[122]⟩⟩]⟩, a9, c9, F9, s6⟩ ⟨by show (z.y.slots ++ [_]).length ≤ 9; simp; omega, hp6.mono (by show _ ≤ B + 502 + 2 * (z.y.slots ++ [_]).length; simp; omega)⟩ (by show 9 - (z.y.slots ++ [_]).length < _; simp; omega)
      · refine go ?_; intros
        refine t_read (E := ESlot) (xs := z.y.slots) fun F8 => ?_
        refine closeReceiveWindow z.y ?_
        refine ret ⟨z.y, _, _, _, s6⟩ (hp6.mono (by omega)) rfl
    · refine go ?_; intros
      refine t_read (E := ESlot) fun F8 => ?_
      refine closeReceiveWindow z.y ?_
      refine ret ⟨z.y, _, _, _, s3⟩ (hp.mono (by omega)) rfl
end Go.Proofs.YtgogcgkocjpgoaaGreatDoor
/- Draws, for the engine: numbers of requests, receivers. -/
namespace Go.Proofs.YtgogcgkocjpgoaaGreatDoor
open Go.RowKit
theorem tick_clock (r : Receiver) (d : Int) : (tickRec r d).clock = r.clock + 1 := by unfold tickRec; split <;> rfl
theorem hear_clock (r : Receiver) (p : Packet) (d : Int) : (hearR r p d).clock = r.clock := by unfold hearR; split <;> (try split) <;> rfl
theorem new_good {k : Nat} (hk : k ≤ 29) : resNewReceiver (k : Nat) = (⟨false, (k : Nat), ⟨0, []⟩, []⟩, true) ∧ GoodR ⟨false, (k : Nat), ⟨0, []⟩, []⟩ := by
  refine ⟨?_, by show (0 : Int) ≤ (k : Nat); omega, by show ((k : Nat) : Int) ≤ 9999; omega, by show goodRW ⟨0, []⟩ = true; decide, by show areQ [] 0 = true; decide, by simp, fun _ => ⟨rfl, rfl⟩⟩
  unfold resNewReceiver isClk btw
  rw [decide_eq_true (by omega), decide_eq_true (by omega)]; rfl
set_option maxRecDepth 100000 in
theorem requested_f (B g : Nat) (F : CuF) (s : CuS) (xs : List Request) (a : Option Addr) (c : Nat) (G : List Nat) (base : Int) (hl : xs.length ≤ 1000000) (ok : CuOk B s) (hB : B ≤ 700000000000) :
    Fn Tryz.prog 138 [ptr g 0 0, .slice a xs.length c, .int .i64 base] [.sl EByte (.slice F.a F.code.length F.c) F.code F.bs, .sl ERequest (.slice a xs.length c) xs G] [.row g 123 0 [] [.slice F.a F.code.length F.c, .int .i64 (s.k : Nat), .int .u64 s.seed] []] (fun (z : Int × CuS) => CuOk (B + 20) z.2) (fun z => .int .i64 z.1) (fun z => [.row g 123 0 [] [.slice F.a F.code.length F.c, .int .i64 (z.2.k : Nat), .int .u64 z.2.seed] []]) := by
  refine enter Tryz.func138 rfl Tryz.ntmps138 fun w0 => ?_
  refine go ?_; intros
  refine wg_if rfl rfl (fun h1 => ?_) (fun h1 => ?_)
  rotate_left
  · refine go ?_; intros
    refine cf (one_f _ g F 3 s ok (by omega) (by omega)) fun q hq => ?_
    refine t_app ?_
    obtain ⟨b, s1⟩ := q
    obtain ⟨-, h2⟩ := hq
    dsimp only at h2 ⊢
    cases b
    · refine go ?_; intros
      refine cf (pick_f _ g F ((xs.length : Nat) : Int) s1 h2 (by omega) (by omega)) fun y hy => ?_
      refine t_app ?_
      obtain ⟨k3, s3⟩ := y
      obtain ⟨r3, h3⟩ := hy
      dsimp only at r3 h3 ⊢
      refine atRequest (a := a) (xs := xs) k3 ?_
      rintro hi b o e
      rw [e]
      refine go ?_; intros
      refine ret (_, s3) (h3.mono (by omega)) rfl
    · refine go ?_; intros
      refine ce (fun w s => l2Good_c _ _) ?_
      cases g1 : isSer base
      · refine go ?_; intros
        refine cf (anySerial_f _ g F s1 h2 (by omega)) fun z hz => ?_
        refine t_app ?_
        refine go ?_; intros
        refine ret z (hz.mono (by omega)) rfl
      obtain ⟨n0, n1⟩ := isSer_iff.1 g1
      refine go ?_; intros
      refine cf (one_f _ g F 6 s1 h2 (by omega) (by omega)) fun q hq => ?_
      refine t_app ?_
      obtain ⟨b, s4⟩ := q
      obtain ⟨-, h4⟩ := hq
      dsimp only at h4 ⊢
      cases b
      · refine go ?_; intros
        refine cf (pick_f _ g F 10 s4 h4 (by omega) (by omega)) fun y hy => ?_
        refine t_app ?_
        obtain ⟨k5, s5⟩ := y
        obtain ⟨r5, h5⟩ := hy
        dsimp only at r5 h5 ⊢
        have r5 : k5 ≤ 9 := by omega
        refine go ?_; intros
        refine ce (fun w s => l2After_c _ _ _ (by omega) (by omega)) ?_
        refine go ?_; intros
        refine ret (_, s5) (h5.mono (by omega)) rfl
      · refine go ?_; intros
        refine cf (anySerial_f _ g F s4 h4 (by omega)) fun z hz => ?_
        refine t_app ?_
        refine go ?_; intros
        refine ret z (hz.mono (by omega)) rfl
  · refine go ?_; intros
    refine ce (fun w s => l2Good_c _ _) ?_
    cases g1 : isSer base
    · refine go ?_; intros
      refine cf (anySerial_f _ g F s ok (by omega)) fun z hz => ?_
      refine t_app ?_
      refine go ?_; intros
      refine ret z (hz.mono (by omega)) rfl
    obtain ⟨n0, n1⟩ := isSer_iff.1 g1
    refine go ?_; intros
    refine cf (one_f _ g F 6 s ok (by omega) (by omega)) fun q hq => ?_
    refine t_app ?_
    obtain ⟨b, s4⟩ := q
    obtain ⟨-, h4⟩ := hq
    dsimp only at h4 ⊢
    cases b
    · refine go ?_; intros
      refine cf (pick_f _ g F 10 s4 h4 (by omega) (by omega)) fun y hy => ?_
      refine t_app ?_
      obtain ⟨k5, s5⟩ := y
      obtain ⟨r5, h5⟩ := hy
      dsimp only at r5 h5 ⊢
      have r5 : k5 ≤ 9 := by omega
      refine go ?_; intros
      refine ce (fun w s => l2After_c _ _ _ (by omega) (by omega)) ?_
      refine go ?_; intros
      refine ret (_, s5) (h5.mono (by omega)) rfl
    · refine go ?_; intros
      refine cf (anySerial_f _ g F s4 h4 (by omega)) fun z hz => ?_
      refine t_app ?_
      refine go ?_; intros
      refine ret z (hz.mono (by omega)) rfl
structure RcD where
  y : Receiver
  a : Option Addr
  c : Nat
  a2 : Option Addr
  c2 : Nat
  F : List Nat
  i : Nat
  s : CuS
structure RcOk (B r0 : Nat) (z : RcD) : Prop where
  g : GoodR z.y
  k : z.y.clock ≤ 29 + ((r0 - z.i : Nat) : Int)
  i : z.i ≤ r0
  s : CuOk (B + 10 + 120 * (r0 - z.i)) z.s
set_option maxRecDepth 100000 in
theorem receiver_f (B g : Nat) (F : CuF) (s : CuS) (ok : CuOk B s) (hB : B ≤ 600000000000) :
    Fn Tryz.prog 125 [ptr g 0 0] [.sl EByte (.slice F.a F.code.length F.c) F.code F.bs] [.row g 123 0 [] [.slice F.a F.code.length F.c, .int .i64 (s.k : Nat), .int .u64 s.seed] []] (fun (z : RcD) => z.y.requests.length ≤ 9 ∧ CuOk (B + 3000) z.s) (fun s => .agg #[.bool s.y.started, .int .i64 s.y.clock, .int .i64 s.y.window.next, .slice s.a s.y.window.slots.length s.c, .slice s.a2 s.y.requests.length s.c2])
      (fun s => [.isv EReceiver (.agg #[.bool s.y.started, .int .i64 s.y.clock, .int .i64 s.y.window.next, .slice s.a s.y.window.slots.length s.c, .slice s.a2 s.y.requests.length s.c2]) s.y s.F, .row g 123 0 [] [.slice F.a F.code.length F.c, .int .i64 (s.s.k : Nat), .int .u64 s.s.seed] []]) := by
  refine enter Tryz.func125 rfl Tryz.ntmps125 fun w0 => ?_
  refine go ?_; intros
  refine cf (pick_f B g F 30 s ok (by omega) (by omega)) fun y hy => ?_
  refine t_app ?_
  obtain ⟨k1, s1⟩ := y
  obtain ⟨r1, h1⟩ := hy
  dsimp only at r1 h1 ⊢
  have r1 : k1 ≤ 29 := by omega
  obtain ⟨en, gn⟩ := new_good r1
  refine go ?_; intros
  refine cf (specNewReceiver_f (k1 : Nat)) fun z0 _ => ?_
  refine t_app ?_
  rw [en]
  refine go ?_; intros
  rename_i gg
  refine cf (pick_f _ g F 9 s1 h1 (by omega) (by omega)) fun y hy => ?_
  refine t_app ?_
  obtain ⟨r0, s2⟩ := y
  obtain ⟨hr0, h2⟩ := hy
  dsimp only at hr0 h2 ⊢
  have hr0 : r0 ≤ 8 := by omega
  refine go ?_; intros
  refine c_loopS [0, 2, 3] (fun z : RcD => [(5, .int .i64 (z.i : Nat))]) (fun z => [.row gg 49 0 [] [.bool z.y.started, .int .i64 z.y.clock, .int .i64 z.y.window.next, .slice z.a z.y.window.slots.length z.c, .slice z.a2 z.y.requests.length z.c2] [], .isv EReceiver (.agg #[.bool z.y.started, .int .i64 z.y.clock, .int .i64 z.y.window.next, .slice z.a z.y.window.slots.length z.c, .slice z.a2 z.y.requests.length z.c2]) z.y z.F, .row g 123 0 [] [.slice F.a F.code.length F.c, .int .i64 (z.s.k : Nat), .int .u64 z.s.seed] []]) (RcOk B r0) (fun z => z.i) ⟨⟨false, (k1 : Nat), ⟨0, []⟩, []⟩, z0.a1, z0.c1, z0.a2, z0.c2, z0.F1, r0, s2⟩ ⟨gn, by show ((k1 : Nat) : Int) ≤ 29 + ((r0 - r0 : Nat) : Int); omega, Nat.le_refl _, h2.mono (by show _ ≤ B + 10 + 120 * (r0 - r0); omega)⟩ fun z hz => ?_
  obtain ⟨z1, z2, z3, z4⟩ := hz
  refine go ?_; intros
  refine c_if rfl (fun h3 => ?_) (fun h3 => ?_)
  · have hi0 : 0 < z.i := by omega
    refine go ?_; intros
    refine cf (one_f _ g F 3 z.s z4 (by omega) (by omega)) fun q hq => ?_
    refine t_app ?_
    obtain ⟨b, s4⟩ := q
    obtain ⟨-, hq⟩ := hq
    dsimp only at hq ⊢
    cases b
    rotate_left
    · refine goN ?_; intros
      refine d_start [1] [6, 7, 8, 9] ?_
      refine dt 0 ?_
      refine dt 1 ?_
      refine dO 2 (by kernel_rfl) (by rw [List.getElem?_toArray]; rfl) ?_
      apply o_call; rfl; kernel_rfl; exact evsE
      refine cf (pick_f _ g F 3 s4 hq (by omega) (by omega)) fun y hy => ?_
      refine t_app ?_
      obtain ⟨k5, s5⟩ := y
      obtain ⟨r5, h5⟩ := hy
      dsimp only at r5 h5 ⊢
      have r5 : k5 ≤ 2 := by omega
      refine dk ?_
      refine dt 3 ?_
      refine dO 4 (by kernel_rfl) (by rw [List.getElem?_toArray]; rfl) ?_
      apply o_call; rfl; kernel_rfl; exact evsE
      refine cf (l13Tick_f z.y (1 + (k5 : Nat)) _ z.F z1 (by omega) (by omega) (by have := z1.k1; omega)) fun q _ => ?_
      refine t_app ?_
      refine dk ?_
      refine dt 5 ?_
      refine dtp 6 ?_
      refine dtp 7 ?_
      refine dtp 8 ?_
      refine dO 9 (by kernel_rfl) (by rw [List.getElem?_toArray]; rfl) ?_
      apply o_st; rfl; rfl; rfl; (first | exact AggC.s | exact OneC.s); rfl; exact rplE; exact putE; rfl
      refine dkx ?_
      refine dd ?_
      refine go ?_; intros
      rw [show ((z.i : Nat) : Int) - 1 = ((z.i - 1 : Nat) : Int) by omega]
      refine n_lp ⟨tickRec z.y (1 + (k5 : Nat)), q.a1, q.c1, q.a2, q.c2, q.F1, z.i - 1, s5⟩ ⟨tick_good z1 (by omega) (by omega) (by omega), by show (tickRec z.y (1 + (k5 : Nat))).clock ≤ 29 + ((r0 - (z.i - 1) : Nat) : Int); rw [tick_clock]; omega, by show z.i - 1 ≤ r0; omega, h5.mono (by show _ ≤ B + 10 + 120 * (r0 - (z.i - 1)); omega)⟩ (by show z.i - 1 < z.i; omega)
    · refine goN ?_; intros
      refine d_start [1] [9, 10, 11] ?_
      refine dt 0 ?_
      refine dt 1 ?_
      refine dt 2 ?_
      refine dt 4 ?_
      refine dO 3 (by kernel_rfl) (by rw [List.getElem?_toArray]; rfl) ?_
      apply o_call; rfl; kernel_rfl; exact evsE
      refine cf (heard_f _ g F s4 z.y _ z.F hq (by omega)) fun u hu => ?_
      refine t_app ?_
      obtain ⟨p, s6⟩ := u
      obtain ⟨hp, h6⟩ := hu
      dsimp only at hp h6 ⊢
      refine dk ?_
      refine dO 5 (by kernel_rfl) (by rw [List.getElem?_toArray]; rfl) ?_
      apply o_call; rfl; kernel_rfl; exact evsE
      refine cf (pick_f _ g F 3 s6 h6 (by omega) (by omega)) fun y hy => ?_
      refine t_app ?_
      obtain ⟨k5, s5⟩ := y
      obtain ⟨r5, h5⟩ := hy
      dsimp only at r5 h5 ⊢
      have r5 : k5 ≤ 2 := by omega
      refine dk ?_
      refine dt 6 ?_
      refine dO 7 (by kernel_rfl) (by rw [List.getElem?_toArray]; rfl) ?_
      apply o_call; rfl; kernel_rfl; exact evsE
      refine cf (l13Hear_f z.y p (1 + (k5 : Nat)) _ z.F z1 hp (by omega) (by omega)) fun q _ => ?_
      refine t_app ?_
      refine dk ?_
      refine dt 8 ?_
      refine dtp 9 ?_
      refine dtp 10 ?_
      refine dO 11 (by kernel_rfl) (by rw [List.getElem?_toArray]; rfl) ?_
      apply o_st; rfl; rfl; rfl; (first | exact AggC.s | exact OneC.s); rfl; exact rplE; exact putE; rfl
      refine dkx ?_
      refine dd ?_
      refine go ?_; intros
      rw [show ((z.i : Nat) : Int) - 1 = ((z.i - 1 : Nat) : Int) by omega]
      refine n_lp ⟨hearR z.y p (1 + (k5 : Nat)), q.a1, q.c1, q.a2, q.c2, q.F1, z.i - 1, s5⟩ ⟨(hear_good z1 hp (by omega) (by omega)).1, by show (hearR z.y p (1 + (k5 : Nat))).clock ≤ 29 + ((r0 - (z.i - 1) : Nat) : Int); rw [hear_clock]; omega, by show z.i - 1 ≤ r0; omega, h5.mono (by show _ ≤ B + 10 + 120 * (r0 - (z.i - 1)); omega)⟩ (by show z.i - 1 < z.i; omega)
  · have hq8 := (areQ_iff.1 z1.q).2.1
    have hnx := next_ser z1.w
    refine go ?_; intros
    refine cf (pick_f _ g F 24 z.s z4 (by omega) (by omega)) fun p hp => ?_
    refine t_app ?_
    obtain ⟨r, s3⟩ := p
    obtain ⟨-, hp⟩ := hp
    dsimp only at hp ⊢
    refine openReceiver (x := z.y) (F := z.F) ?_
    rintro b1 d1 G1 b2 d2 G2 e5 m1 m2
    simp only [Value.agg.injEq, Array.mk.injEq, List.cons.injEq, Value.slice.injEq, Value.int.injEq, Value.bool.injEq, true_and, and_true] at e5
    obtain ⟨⟨rfl, rfl⟩, rfl, rfl⟩ := e5
    refine go ?_; intros
    refine c_if rfl (fun e0 => ?_) (fun e0 => ?_)
    · refine goN ?_; intros
      refine t_row (xs := [-1, 9999, 10000]) (fun w => flat_int w _) ?_ (by decide)
      refine t_read (E := EInt) fun G => ?_
      refine go ?_; intros
      refine cf (among_f _ g F _ [-1, 9999, 10000] G s3 hp (by omega) (by decide) (by decide)) fun q hq => ?_
      refine t_app ?_
      refine go ?_; intros
      refine closeReceiver ⟨z.y.started, q.1, z.y.window, z.y.requests⟩ (a1 := z.a) ?_
      refine ret ⟨⟨z.y.started, q.1, z.y.window, z.y.requests⟩, _, _, _, _, _, 0, q.2⟩ ⟨by show z.y.requests.length ≤ 9; omega, hq.2.mono (by omega)⟩ rfl
    refine go ?_; intros
    refine c_if rfl (fun e1 => ?_) (fun e1 => ?_)
    · refine go ?_; intros
      refine cf (drawRW_f _ g F s3 hp (by omega)) fun q hq => ?_
      refine t_app ?_
      refine openReceiveWindow (x := q.y) (F := q.F) ?_
      rintro b3 d3 G3 e6 m3
      simp only [Value.agg.injEq, Array.mk.injEq, List.cons.injEq, Value.slice.injEq, Value.int.injEq, true_and, and_true] at e6
      obtain ⟨rfl, rfl⟩ := e6
      refine go ?_; intros
      refine closeReceiver ⟨z.y.started, z.y.clock, q.y, z.y.requests⟩ (a1 := q.a) ?_
      refine ret ⟨⟨z.y.started, z.y.clock, q.y, z.y.requests⟩, _, _, _, _, _, 0, q.s⟩ ⟨by show z.y.requests.length ≤ 9; omega, hq.mono (by omega)⟩ rfl
    refine go ?_; intros
    refine c_if rfl (fun e2 => ?_) (fun e2 => ?_)
    · refine go ?_; intros
      refine cf (requests_f _ g F s3 z.y.window.next (by omega) hp (by omega)) fun q hq => ?_
      refine t_app ?_
      refine go ?_; intros
      refine t_read (E := ERequest) (xs := q.xs) fun G5 => ?_
      refine closeReceiver ⟨z.y.started, z.y.clock, z.y.window, q.xs⟩ (a1 := z.a) ?_
      refine ret ⟨⟨z.y.started, z.y.clock, z.y.window, q.xs⟩, _, _, _, _, _, 0, q.s⟩ ⟨hq.1, hq.2.mono (by omega)⟩ rfl
    refine go ?_; intros
    refine c_if rfl (fun e3 => ?_) (fun e3 => ?_)
    · refine go ?_; intros
      refine closeReceiver ⟨!z.y.started, z.y.clock, z.y.window, z.y.requests⟩ (a1 := z.a) ?_
      refine ret ⟨⟨!z.y.started, z.y.clock, z.y.window, z.y.requests⟩, _, _, _, _, _, 0, s3⟩ ⟨by show z.y.requests.length ≤ 9; omega, hp.mono (by omega)⟩ rfl
    · refine go ?_; intros
      refine closeReceiver z.y (a1 := z.a) ?_
      refine ret ⟨z.y, _, _, _, _, _, 0, s3⟩ ⟨by show z.y.requests.length ≤ 9; omega, hp.mono (by omega)⟩ rfl
end Go.Proofs.YtgogcgkocjpgoaaGreatDoor
/- Draws of receivers: ticks, states. -/
namespace Go.Proofs.YtgogcgkocjpgoaaGreatDoor
open Go.RowKit
structure RcN where
  y : Receiver
  a : Option Addr
  c : Nat
  a2 : Option Addr
  c2 : Nat
  F : List Nat
  n : Int
structure RcT (r0 : Nat) (z : RcD) : Prop where
  l : z.y.requests.length ≤ 9
  i : z.i ≤ r0
  s : CuOk (3100 + 10 * (r0 - z.i)) z.s
set_option maxRecDepth 100000 in
theorem DrawValidR_f (v : Value) (code : List Int) (G : List Nat) : Fn Tryz.prog 144 [v] [.sl EByte v code G] [] (fun (s : RcD) => s.y.requests.length ≤ 9) (fun s => .agg #[.bool s.y.started, .int .i64 s.y.clock, .int .i64 s.y.window.next, .slice s.a s.y.window.slots.length s.c, .slice s.a2 s.y.requests.length s.c2]) (fun s => [.isv EReceiver (.agg #[.bool s.y.started, .int .i64 s.y.clock, .int .i64 s.y.window.next, .slice s.a s.y.window.slots.length s.c, .slice s.a2 s.y.requests.length s.c2]) s.y s.F]) := by
  refine enter Tryz.func144 rfl Tryz.ntmps144 fun w0 => ?_
  refine t_sl (E := EByte) ?_
  rintro a c rfl l1 l2
  refine go ?_; intros
  refine cf (receiver_f 0 _ ⟨code, a, c, G⟩ ⟨0, 0⟩ ⟨Nat.le_refl _, by decide, by decide⟩ (by omega)) fun z hz => ?_
  refine t_app ?_
  obtain ⟨hz1, hz2⟩ := hz
  refine go ?_; intros
  refine ret z hz1 rfl
set_option maxRecDepth 100000 in
theorem DrawSettled_f (v : Value) (code : List Int) (G : List Nat) : Fn Tryz.prog 56 [v] [.sl EByte v code G] [] (fun (s : RcD) => s.y.requests.length ≤ 9) (fun s => .agg #[.bool s.y.started, .int .i64 s.y.clock, .int .i64 s.y.window.next, .slice s.a s.y.window.slots.length s.c, .slice s.a2 s.y.requests.length s.c2]) (fun s => [.isv EReceiver (.agg #[.bool s.y.started, .int .i64 s.y.clock, .int .i64 s.y.window.next, .slice s.a s.y.window.slots.length s.c, .slice s.a2 s.y.requests.length s.c2]) s.y s.F]) := by
  refine enter Tryz.func56 rfl Tryz.ntmps56 fun w0 => ?_
  refine go ?_; intros
  refine cf (DrawValidR_f v code G) fun z hz => ?_
  refine t_app ?_
  refine go ?_; intros
  refine ret z hz rfl
set_option maxRecDepth 100000 in
theorem DrawTickR_f (v : Value) (code : List Int) (G : List Nat) : Fn Tryz.prog 45 [v] [.sl EByte v code G] [] (fun (s : RcN) => s.y.requests.length ≤ 9) (fun s => .tuple #[.agg #[.bool s.y.started, .int .i64 s.y.clock, .int .i64 s.y.window.next, .slice s.a s.y.window.slots.length s.c, .slice s.a2 s.y.requests.length s.c2], .int .i64 s.n]) (fun s => [.isv EReceiver (.agg #[.bool s.y.started, .int .i64 s.y.clock, .int .i64 s.y.window.next, .slice s.a s.y.window.slots.length s.c, .slice s.a2 s.y.requests.length s.c2]) s.y s.F]) := by
  refine enter Tryz.func45 rfl Tryz.ntmps45 fun w0 => ?_
  refine t_sl (E := EByte) ?_
  rintro a c rfl l1 l2
  refine go ?_; intros
  refine cf (receiver_f 0 _ ⟨code, a, c, G⟩ ⟨0, 0⟩ ⟨Nat.le_refl _, by decide, by decide⟩ (by omega)) fun z hz => ?_
  refine t_app ?_
  obtain ⟨hz1, hz2⟩ := hz
  refine go ?_; intros
  rename_i gt gc gg
  refine cf (pick_f _ _ ⟨code, a, c, G⟩ 12 z.s hz2 (by omega) (by omega)) fun y hy => ?_
  refine t_app ?_
  obtain ⟨r0, s2⟩ := y
  obtain ⟨hr0, h2⟩ := hy
  dsimp only at hr0 h2 ⊢
  have hr0 : r0 ≤ 11 := by omega
  refine go ?_; intros
  refine c_loopS [2, 3, 4, 5] (fun z : RcD => [(6, .int .i64 (z.i : Nat))]) (fun z => [.row gg 49 0 [] [.bool z.y.started, .int .i64 z.y.clock, .int .i64 z.y.window.next, .slice z.a z.y.window.slots.length z.c, .slice z.a2 z.y.requests.length z.c2] [], .isv EReceiver (.agg #[.bool z.y.started, .int .i64 z.y.clock, .int .i64 z.y.window.next, .slice z.a z.y.window.slots.length z.c, .slice z.a2 z.y.requests.length z.c2]) z.y z.F, .row gc 123 0 [] [.slice a code.length c, .int .i64 (z.s.k : Nat), .int .u64 z.s.seed] []]) (RcT r0) (fun z => z.i) ⟨z.y, z.a, z.c, z.a2, z.c2, z.F, r0, s2⟩ ⟨hz1, Nat.le_refl _, h2.mono (by show _ ≤ 3100 + 10 * (r0 - r0); omega)⟩ fun z hz => ?_
  obtain ⟨z1, z3, z4⟩ := hz
  refine go ?_; intros
  refine wg_if rfl rfl (fun h3 => ?_) (fun h3 => ?_)
  refine go ?_; intros
  refine cf (l13Good_f z.y _ z.F) fun _ _ => ?_
  refine t_app ?_
  cases g1 : goodRec z.y
  rotate_left
  have hg := goodR_iff.1 g1
  have k0 := hg.k0
  refine go ?_; intros
  refine c_if rfl (fun h4 => ?_) (fun h4 => ?_)
  · refine goN ?_; intros
    refine d_start [0] [6, 7, 8, 9] ?_
    refine dt 0 ?_
    refine dt 1 ?_
    refine dO 2 (by kernel_rfl) (by rw [List.getElem?_toArray]; rfl) ?_
    apply o_call; rfl; kernel_rfl; exact evsE
    refine cf (pick_f _ gc ⟨code, a, c, G⟩ 3 z.s z4 (by omega) (by omega)) fun y hy => ?_
    refine t_app ?_
    obtain ⟨k5, s5⟩ := y
    obtain ⟨r5, h5⟩ := hy
    dsimp only at r5 h5 ⊢
    have r5 : k5 ≤ 2 := by omega
    refine dk ?_
    refine dt 3 ?_
    refine dO 4 (by kernel_rfl) (by rw [List.getElem?_toArray]; rfl) ?_
    apply o_call; rfl; kernel_rfl; exact evsE
    refine cf (l13Tick_f z.y (1 + (k5 : Nat)) _ z.F hg (by omega) (by omega) (by omega)) fun q _ => ?_
    refine t_app ?_
    refine dk ?_
    refine dt 5 ?_
    refine dtp 6 ?_
    refine dtp 7 ?_
    refine dtp 8 ?_
    refine dO 9 (by kernel_rfl) (by rw [List.getElem?_toArray]; rfl) ?_
    apply o_st; rfl; rfl; rfl; (first | exact AggC.s | exact OneC.s); rfl; exact rplE; exact putE; rfl
    refine dkx ?_
    refine dd ?_
    refine go ?_; intros
    rw [show ((z.i : Nat) : Int) - 1 = ((z.i - 1 : Nat) : Int) by omega]
    refine n_lp ⟨tickRec z.y (1 + (k5 : Nat)), q.a1, q.c1, q.a2, q.c2, q.F1, z.i - 1, s5⟩ ⟨by have := (areQ_iff.1 (tick_good hg (by omega) (d := 1 + ((k5 : Nat) : Int)) (by omega) (by omega)).q).2.1; show (tickRec z.y (1 + ((k5 : Nat) : Int))).requests.length ≤ 9; omega, by show z.i - 1 ≤ r0; omega, h5.mono (by show _ ≤ 3100 + 10 * (r0 - (z.i - 1)); omega)⟩ (by show z.i - 1 < z.i; omega)
  all_goals
    refine goN ?_; intros
    refine d_start [0] [] ?_
    refine dt 0 ?_
    refine dt 1 ?_
    refine dO 2 (by kernel_rfl) (by rw [List.getElem?_toArray]; rfl) ?_
    apply o_call; rfl; kernel_rfl; exact evsE
    refine cf (delay_f _ gc ⟨code, a, c, G⟩ z.s z4 (by omega)) fun q _ => ?_
    refine t_app ?_
    refine dk ?_
    refine dO 3 (by kernel_rfl) (by rw [List.getElem?_toArray]; rfl) ?_
    apply o_st; rfl; rfl; rfl; (first | exact AggC.s | exact OneC.s); rfl; exact rplE; exact putE; rfl
    refine dk ?_
    refine dt 4 ?_
    refine dd ?_
    refine go ?_; intros
    refine ret ⟨z.y, z.a, z.c, z.a2, z.c2, z.F, q.1⟩ z1 rfl
set_option maxRecDepth 100000 in
theorem DrawStateOf_f (v : Value) (code : List Int) (G : List Nat) : Fn Tryz.prog 53 [v] [.sl EByte v code G] [] (fun (s : RcN) => s.y.requests.length ≤ 9) (fun s => .tuple #[.agg #[.bool s.y.started, .int .i64 s.y.clock, .int .i64 s.y.window.next, .slice s.a s.y.window.slots.length s.c, .slice s.a2 s.y.requests.length s.c2], .int .i64 s.n]) (fun s => [.isv EReceiver (.agg #[.bool s.y.started, .int .i64 s.y.clock, .int .i64 s.y.window.next, .slice s.a s.y.window.slots.length s.c, .slice s.a2 s.y.requests.length s.c2]) s.y s.F]) := by
  refine enter Tryz.func53 rfl Tryz.ntmps53 fun w0 => ?_
  refine t_sl (E := EByte) ?_
  rintro a c rfl l1 l2
  refine go ?_; intros
  refine cf (receiver_f 0 _ ⟨code, a, c, G⟩ ⟨0, 0⟩ ⟨Nat.le_refl _, by decide, by decide⟩ (by omega)) fun z hz => ?_
  refine t_app ?_
  obtain ⟨hz1, hz2⟩ := hz
  refine openReceiver (x := z.y) (F := z.F) ?_
  rintro b1 d1 G1 b2 d2 G2 e5 m1 m2
  simp only [Value.agg.injEq, Array.mk.injEq, List.cons.injEq, Value.slice.injEq, Value.int.injEq, Value.bool.injEq, true_and, and_true] at e5
  obtain ⟨⟨rfl, rfl⟩, rfl, rfl⟩ := e5
  refine goN ?_; intros
  refine d_start [0] [] ?_
  refine dt 0 ?_
  refine dt 1 ?_
  refine dt 2 ?_
  refine dt 3 ?_
  refine dt 4 ?_
  refine dt 5 ?_
  refine dt 6 ?_
  refine dO 7 (by kernel_rfl) (by rw [List.getElem?_toArray]; rfl) ?_
  apply o_call; rfl; kernel_rfl; exact evsE
  refine cf (requested_f _ _ ⟨code, a, c, G⟩ z.s z.y.requests _ _ _ z.y.window.next (by omega) hz2 (by omega)) fun q _ => ?_
  refine t_app ?_
  refine dk ?_
  refine dO 8 (by kernel_rfl) (by rw [List.getElem?_toArray]; rfl) ?_
  apply o_st; rfl; rfl; rfl; (first | exact AggC.s | exact OneC.s); rfl; exact rplE; exact putE; rfl
  refine dk ?_
  refine dt 9 ?_
  refine dd ?_
  refine go ?_; intros
  refine closeReceiver z.y (a1 := z.a) ?_
  refine ret ⟨z.y, _, _, _, _, _, q.1⟩ hz1 rfl
set_option maxRecDepth 100000 in
theorem DrawNewR_f (v : Value) (code : List Int) (G : List Nat) : Fn Tryz.prog 59 [v] [.sl EByte v code G] [] (fun (_ : Int) => True) (fun s => .int .i64 s) (fun _ => []) := by
  refine enter Tryz.func59 rfl Tryz.ntmps59 fun w0 => ?_
  refine t_sl (E := EByte) ?_
  rintro a c rfl l1 l2
  refine goN ?_; intros
  refine t_row (xs := [0, 7, 9999, 10000, -1]) (fun w => flat_int w _) ?_ (by decide)
  refine t_read (E := EInt) fun G2 => ?_
  refine go ?_; intros
  refine cf (among_f 0 _ ⟨code, a, c, G⟩ _ [0, 7, 9999, 10000, -1] G2 ⟨0, 0⟩ ⟨Nat.le_refl _, by decide, by decide⟩ (by omega) (by decide) (by decide)) fun q hq => ?_
  refine t_app ?_
  refine go ?_; intros
  refine ret q.1 trivial rfl
end Go.Proofs.YtgogcgkocjpgoaaGreatDoor
/- Receivers: AwaitedSerials, StateOf. -/
namespace Go.Proofs.YtgogcgkocjpgoaaGreatDoor
open Go.RowKit
def stV (x : Receiver) (n : Int) : Int := if takeNo x.window n then 4 else match x.requests[askAt x.window.next x.requests n]? with | some r => if r.number = n then r.state else 0 | none => 0
def resStateOf (x : Receiver) (n : Int) : Int × Bool := if goodRec x && x.started && isSer n then (stV x n, true) else (0, false)
theorem resSO_no {x : Receiver} {n : Int} (h : (goodRec x && x.started && isSer n) = false) : resStateOf x n = (0, false) := by unfold resStateOf; rw [h]; rfl
theorem resSO_yes {x : Receiver} {n : Int} (h : (goodRec x && x.started && isSer n) = true) : resStateOf x n = (stV x n, true) := by unfold resStateOf; rw [h]; rfl
theorem stV_have {x : Receiver} {n : Int} (h : takeNo x.window n = true) : stV x n = 4 := by unfold stV; rw [h]; rfl
theorem stV_no {x : Receiver} {n : Int} (h : takeNo x.window n = false) (h2 : askOn x.window.next x.requests n = false) : stV x n = 0 := by
  unfold stV; rw [h]
  unfold askOn at h2
  cases hq : x.requests[askAt x.window.next x.requests n]? with
  | none => rfl
  | some r => rw [hq] at h2; simp only [decide_eq_false_iff_not] at h2; show (if r.number = n then r.state else 0) = 0; rw [if_neg h2]
theorem ask_not {x : Receiver} {n : Int} (hg : GoodR x) (hn : isSer n = true) (h : askOn x.window.next x.requests n = true) : takeNo x.window n = false := by
  have hlt := askOn_lt h
  have hm := List.getElem_mem hlt
  rw [askOn_at hlt] at h
  have e : x.requests[askAt x.window.next x.requests n].number = n := by simpa using h
  obtain ⟨a, b, c⟩ := req_at hg hm
  rw [e] at a b c
  obtain ⟨n0, n1⟩ := isSer_iff.1 hn
  obtain ⟨w0, w1⟩ := next_ser hg.w
  unfold takeNo
  rw [c, Bool.or_false]
  unfold bef btw
  have : ¬ (1 ≤ gp n x.window.next ∧ gp n x.window.next ≤ 32767) := by unfold gp at *; omega
  simpa using this
theorem stV_on {x : Receiver} {n : Int} (hg : GoodR x) (hn : isSer n = true) (h : askOn x.window.next x.requests n = true) : stV x n = (x.requests[askAt x.window.next x.requests n]'(askOn_lt h)).state := by
  unfold stV
  rw [ask_not hg hn h]
  have hlt := askOn_lt h
  rw [askOn_at hlt] at h
  rw [List.getElem?_eq_getElem hlt]
  show (if _ = n then _ else (0 : Int)) = _
  rw [if_pos (by simpa using h)]
def resAwaited (x : Receiver) : List Int × Bool := if goodRec x then (x.requests.map (·.number), true) else ([], false)
set_option maxRecDepth 100000 in
theorem AwaitedSerials_f (x : Receiver) (v : Value) (F : List Nat) : Fn Tryz.prog 49 [v] [.isv EReceiver v x F] [] (fun (_ : OwR) => True) (fun s => .tuple #[.slice s.a (resAwaited x).1.length s.c, .bool (resAwaited x).2]) (fun s => [.ow EInt 3 (.slice s.a (resAwaited x).1.length s.c) (resAwaited x).1 s.F]) := by
  refine enter Tryz.func49 rfl Tryz.ntmps49 fun w0 => ?_
  refine openReceiver (v := v) (x := x) (F := F) ?_
  rintro a1 c1 F1 a2 c2 F2 rfl l1 l2
  unfold maxLen at l1 l2
  refine t_nilow EInt 3 ?_
  refine go ?_; intros
  refine cf (IsValidReceiver_f x _ F) fun _ _ => ?_
  refine t_app ?_
  cases g1 : goodRec x
  · rw [show resAwaited x = ([], false) by unfold resAwaited; rw [g1]; rfl]
    refine go ?_; intros
    refine ret ⟨_, _, _⟩ trivial rfl
  have g5 := goodR_iff.1 g1
  have hq8 := (areQ_iff.1 g5.q).2.1
  rw [show resAwaited x = (x.requests.map (·.number), true) by unfold resAwaited; rw [g1]; rfl]
  refine go ?_; intros
  refine c_loopS [2, 3, 11, 12] (fun s : AwS => [(13, .int .i64 (s.i : Nat)), (4, .slice s.a ((x.requests.take s.i).map (·.number)).length s.c)]) (fun s => [.ow EInt 3 (.slice s.a ((x.requests.take s.i).map (·.number)).length s.c) ((x.requests.take s.i).map (·.number)) s.F]) (fun s => s.i ≤ x.requests.length) (fun s => x.requests.length - s.i) ⟨0, none, 0, []⟩ (Nat.zero_le _) fun s hs => ?_
  obtain ⟨i, a3, c3, F3⟩ := s
  dsimp only at hs ⊢
  have hl3 : ((x.requests.take i).map (·.number)).length ≤ i := by simp; omega
  refine go ?_; intros
  refine c_if rfl (fun h4 => ?_) (fun h4 => ?_)
  · have hi : i < x.requests.length := by omega
    have eo : (x.requests.take (i + 1)).map (·.number) = (x.requests.take i).map (·.number) ++ [x.requests[i].number] := by rw [List.take_add_one, List.getElem?_eq_getElem hi, List.map_append]; rfl
    refine atRequest (xs := x.requests) i ?_
    rintro hi2 b o e
    rw [e]
    refine go ?_; intros
    apply wO
    refine ap1 (rep_int _) one_EInt fun a7 c7 F7 => ?_
    refine go ?_; intros
    rw [← eo]
    refine n_lp (⟨i + 1, _, _, _⟩ : AwS) (by show i + 1 ≤ x.requests.length; omega) (by show x.requests.length - (i + 1) < x.requests.length - i; omega)
  have hi : i = x.requests.length := by omega
  subst hi
  rw [List.take_length]
  refine go ?_; intros
  refine ret ⟨_, _, _⟩ trivial rfl
set_option maxRecDepth 100000 in
theorem StateOf_f (x : Receiver) (n : Int) (v : Value) (F : List Nat) : Fn Tryz.prog 54 [v, .int .i64 n] [.isv EReceiver v x F] [] (fun (_ : Unit) => True) (fun _ => .tuple #[.int .i64 (resStateOf x n).1, .bool (resStateOf x n).2]) (fun _ => []) := by
  refine enter Tryz.func54 rfl Tryz.ntmps54 fun w0 => ?_
  refine openReceiver (v := v) (x := x) (F := F) ?_
  rintro a1 c1 F1 a2 c2 F2 rfl l1 l2
  unfold maxLen at l1 l2
  refine closeReceiveWindow (a1 := a1) x.window ?_
  generalize F1 = F3
  refine go ?_; intros
  refine cf (IsValidReceiver_f x _ F) fun _ _ => ?_
  refine t_app ?_
  cases g1 : goodRec x
  · refine go ?_; intros
    rw [resSO_no (by simp [g1])]
    refine ret () trivial rfl
  have g5 := goodR_iff.1 g1
  obtain ⟨w0_, w1_⟩ := next_ser g5.w
  have hq8 := (areQ_iff.1 g5.q).2.1
  refine go ?_; intros
  cases g2 : x.started
  · refine go ?_; intros
    rw [resSO_no (by simp [g2])]
    refine ret () trivial rfl
  refine go ?_; intros
  refine ce (fun w s => IsSerial_c _ _) ?_
  cases g3 : isSer n
  · refine go ?_; intros
    rw [resSO_no (by simp [g3])]
    refine ret () trivial rfl
  obtain ⟨n0, n1⟩ := isSer_iff.1 g3
  refine go ?_; intros
  rw [resSO_yes (by rw [g1, g2, g3]; rfl)]
  refine cf (findRequest_f x.requests x.window.next n a2 c2 F2 g5.q g3) fun _ _ => ?_
  refine t_app ?_
  cases g4 : askOn x.window.next x.requests n
  rotate_left
  · have hlt := askOn_lt g4
    refine go ?_; intros
    refine atRequest (xs := x.requests) (askAt x.window.next x.requests n) ?_
    rintro hi b o e
    rw [e]
    refine go ?_; intros
    rw [stV_on g5 g3 g4]
    refine ret () trivial rfl
  refine go ?_; intros
  refine cf (haveItem_f x.window n _ F3 w0_ w1_ n0 n1) fun _ _ => ?_
  refine t_app ?_
  cases g6 : takeNo x.window n
  · refine go ?_; intros
    rw [stV_no g6 g4]
    refine ret () trivial rfl
  · refine go ?_; intros
    rw [stV_have g6]
    refine ret () trivial rfl
set_option maxRecDepth 100000 in
theorem specStateOf_f (x : Receiver) (n : Int) (v : Value) (F : List Nat) : Fn Tryz.prog 55 [v, .int .i64 n] [.isv EReceiver v x F] [] (fun (_ : Unit) => True) (fun _ => .tuple #[.int .i64 (resStateOf x n).1, .bool (resStateOf x n).2]) (fun _ => []) := by
  refine enter Tryz.func55 rfl Tryz.ntmps55 fun w0 => ?_
  refine openReceiver (v := v) (x := x) (F := F) ?_
  rintro a1 c1 F1 a2 c2 F2 rfl l1 l2
  unfold maxLen at l1 l2
  refine closeReceiveWindow (a1 := a1) x.window ?_
  generalize F1 = F3
  refine go ?_; intros
  refine cf (l13Good_f x _ F) fun _ _ => ?_
  refine t_app ?_
  cases g1 : goodRec x
  · refine go ?_; intros
    rw [resSO_no (by simp [g1])]
    refine ret () trivial rfl
  have g5 := goodR_iff.1 g1
  obtain ⟨w0_, w1_⟩ := next_ser g5.w
  have hq8 := (areQ_iff.1 g5.q).2.1
  refine go ?_; intros
  refine ce (fun w s => l2Good_c _ _) ?_
  cases g3 : isSer n
  · refine go ?_; intros
    rw [resSO_no (by simp [g3])]
    refine ret () trivial rfl
  obtain ⟨n0, n1⟩ := isSer_iff.1 g3
  refine go ?_; intros
  cases g2 : x.started
  · refine go ?_; intros
    rw [resSO_no (by simp [g2])]
    refine ret () trivial rfl
  refine go ?_; intros
  rw [resSO_yes (by rw [g1, g2, g3]; rfl)]
  refine cf (l10Have_f x.window n _ F3 w0_ w1_ n0 n1) fun _ _ => ?_
  refine t_app ?_
  cases g6 : takeNo x.window n
  rotate_left
  · refine go ?_; intros
    rw [stV_have g6]
    refine ret () trivial rfl
  refine go ?_; intros
  refine cf (l12Place_f x.requests x.window.next n a2 c2 F2 g5.q g3) fun _ _ => ?_
  refine t_app ?_
  cases g4 : askOn x.window.next x.requests n
  · refine go ?_; intros
    rw [stV_no g6 g4]
    refine ret () trivial rfl
  · have hlt := askOn_lt g4
    refine go ?_; intros
    refine atRequest (xs := x.requests) (askAt x.window.next x.requests n) ?_
    rintro hi b o e
    rw [e]
    refine go ?_; intros
    rw [stV_on g5 g3 g4]
    refine ret () trivial rfl
end Go.Proofs.YtgogcgkocjpgoaaGreatDoor
/- Receivers: what the laws say of a tick, of a state and of hearing; plain. -/
namespace Go.Proofs.YtgogcgkocjpgoaaGreatDoor
open Go.RowKit
theorem gp_self (n : Int) : gp n n = 0 := by unfold gp; omega
def numsQ (r : Receiver) : List Int := r.requests.map (·.number)
theorem nums_yes {r : Receiver} {q : Request} (h : q ∈ r.requests) : (numsQ r).contains q.number = true := by
  rw [List.contains_iff_mem]; exact List.mem_map.2 ⟨q, h, rfl⟩
theorem nums_no {r : Receiver} {n : Int} (h : ∀ q ∈ r.requests, q.number ≠ n) : (numsQ r).contains n = false := by
  rw [← Bool.not_eq_true, List.contains_iff_mem]
  intro hm
  obtain ⟨q, hq, e⟩ := List.mem_map.1 hm
  exact h q hq e
theorem aw_yes {r : Receiver} (hg : GoodR r) : resAwaited r = (numsQ r, true) := by unfold resAwaited; rw [goodR_iff.2 hg]; rfl
theorem gap_yes {a b : ReceiveWindow} (ha : goodRW a = true) (hb : goodRW b = true) : resGap a.next b.next = (gp a.next b.next, true) := by
  unfold resGap; rw [isSer_iff.2 (next_ser ha), isSer_iff.2 (next_ser hb)]; rfl
theorem law_tick (r : Receiver) (d : Int) (h : (resTickReceiver r d).2.2.2 = true) :
    GoodR r ∧ GoodR (resTickReceiver r d).1 ∧ gp r.window.next (resTickReceiver r d).1.window.next = ((resTickReceiver r d).2.2.1.length : Nat) ∧ (resTickReceiver r d).1.clock = r.clock + 1 ∧ ∀ p ∈ (resTickReceiver r d).2.1, p.kind = 3 ∧ (numsQ r).contains p.number = true ∧ p.trail = r.window.next := by
  cases hk : okTickReceiver r d
  · rw [resTR_no hk] at h; cases h
  · rw [resTR_yes hk]
    unfold okTickReceiver at hk
    simp only [Bool.and_eq_true, Bool.not_eq_true', decide_eq_false_iff_not] at hk
    obtain ⟨⟨h1, h2⟩, h3⟩ := hk
    have hg := goodR_iff.1 h1
    have hd : 1 ≤ d ∧ d ≤ 8 := by unfold isDel btw at h2; simpa using h2
    have k1 := hg.k1
    have hk9 : r.clock < 9999 := by omega
    refine ⟨hg, tick_good hg hk9 hd.1 hd.2, ?_, ?_, ?_⟩
    · dsimp only
      by_cases hL : tkLost r = []
      · rw [tickR_no hL, tickE_no hL]
        exact gp_self _
      · rw [tickR_yes hL, tickE_yes hL]
        obtain ⟨e1, -, e3, -⟩ := moved_at (t := lostTrail (tkLost r)) hg.w
        have hs8 := (lost_gp hg hL).1
        have hgp := @stepsN_gp r.window.next (lostTrail (tkLost r))
        show gp r.window.next (movedW r.window (lostTrail (tkLost r))).next = _
        rw [e1]; exact gp_aft _ _ (by omega)
    · dsimp only
      by_cases hL : tkLost r = []
      · rw [tickR_no hL]
      · rw [tickR_yes hL]
    · intro p hp
      dsimp only at hp
      unfold tickPk at hp
      obtain ⟨n, hn, rfl⟩ := List.mem_map.1 hp
      obtain ⟨q, hq, h⟩ := List.mem_filterMap.1 hn
      refine ⟨rfl, ?_, rfl⟩
      rw [tkS_num h]
      exact nums_yes hq
theorem tick_few (r : Receiver) (d : Int) : (resTickReceiver r d).2.1.length ≤ 8 := by
  cases hk : okTickReceiver r d
  · rw [resTR_no hk]; exact Nat.zero_le _
  · rw [resTR_yes hk]
    unfold okTickReceiver at hk
    simp only [Bool.and_eq_true] at hk
    have h8 := (areQ_iff.1 (goodR_iff.1 hk.1.1).q).2.1
    show (tickPk r).length ≤ 8
    unfold tickPk
    rw [List.length_map]
    exact Nat.le_trans (List.length_filterMap_le _ _) h8
theorem law_state (x : Receiver) (n : Int) (h : (resStateOf x n).2 = true) : GoodR x ∧ (numsQ x).contains n = (decide (1 ≤ (resStateOf x n).1) && decide ((resStateOf x n).1 ≤ 3)) := by
  cases hk : (goodRec x && x.started && isSer n)
  · rw [resSO_no hk] at h; cases h
  · rw [resSO_yes hk]
    simp only [Bool.and_eq_true] at hk
    obtain ⟨⟨h1, h2⟩, h3⟩ := hk
    have hg := goodR_iff.1 h1
    refine ⟨hg, ?_⟩
    dsimp only
    cases ha : askOn x.window.next x.requests n
    · rw [nums_no fun q hq e => ask_ne hg.q h3 ha q hq (by rw [e])]
      cases ht : takeNo x.window n
      · rw [stV_no ht ha]; decide
      · rw [stV_have ht]; decide
    · have hlt := askOn_lt ha
      have ho := okReq_iff.1 ((areQ_iff.1 hg.q).2.2.1 _ (List.getElem_mem hlt))
      rw [stV_on hg h3 ha, decide_eq_true ho.s0, decide_eq_true ho.s1]
      rw [askOn_at hlt] at ha
      have := nums_yes (List.getElem_mem hlt)
      rw [of_decide_eq_true ha] at this
      exact this
end Go.Proofs.YtgogcgkocjpgoaaGreatDoor
/- Packets that are alike. -/
namespace Go.Proofs.YtgogcgkocjpgoaaGreatDoor
open Go.RowKit
theorem packet_eq (p : Packet) (w : World) : (Op.equalIn 10000 67 (.agg #[.int .i64 p.kind, .int .i64 p.number, .int .i64 p.trail, .int .i64 p.lead, .string p.data]) (.agg #[.int .i64 p.kind, .int .i64 p.number, .int .i64 p.trail, .int .i64 p.lead, .string p.data])).run Tryz.prog w = .ok true w := by
  have u1 := Tryz.underlying3
  have u2 := Tryz.underlying9
  have hS : Tryz.prog.underlying 67 = some (.struct (Tryz.prog.fieldsOf 67)) := by kernel_rfl
  rw [show (10000 : Nat) = 9999 + 1 from rfl, run_equalIn_agg w 9999 67 _ _ hS (by kernel_rfl)]
  have a1 := Tryz.isAgg3
  have a2 := Tryz.isAgg9
  simp only [Program.fieldsOf, Tryz.underlying67]
  go_simp
theorem yd_nePacket {n : Nat} {fr : Fr} {H : List Pc} {x y : Operand} {ty t' : TypeId} {p : Packet} (hx : ev fr x = some (.agg #[.int .i64 p.kind, .int .i64 p.number, .int .i64 p.trail, .int .i64 p.lead, .string p.data])) (hy : ev fr y = some (.agg #[.int .i64 p.kind, .int .i64 p.number, .int .i64 p.trail, .int .i64 p.lead, .string p.data])) : Yd Tryz.prog n fr H (.binOp .neq 67 x y t') ty (.bool false) := .mk fun c w d pos aft gd hA _ => by
  have h2 : (eqGuard .neq 67 x y (.agg #[.int .i64 p.kind, .int .i64 p.number, .int .i64 p.trail, .int .i64 p.lead, .string p.data]) (.agg #[.int .i64 p.kind, .int .i64 p.number, .int .i64 p.trail, .int .i64 p.lead, .string p.data])).run Tryz.prog w = .ok () w := run_eqGuard_agg w _ _ _ _ _ _ (by kernel_rfl)
  simp only [execOp, hA.ev hx, hA.ev hy, Sem.run_bind, h2, Result.andThen_ok, run_neq_struct, packet_eq, Sem.run_pure]
  rfl
set_option maxRecDepth 100000 in
theorem vPackets_f (a a2 : Option Addr) (c c2 : Nat) (xs : List Packet) (F F2 : List Nat) (hl : xs.length ≤ 1000000000) : Fn Tryz.prog 47 [.slice a xs.length c, .slice a2 xs.length c2] [.sl EPacket (.slice a xs.length c) xs F, .sl EPacket (.slice a2 xs.length c2) xs F2] [] (fun (_ : Unit) => True) (fun _ => .bool true) (fun _ => []) := by
  refine enter Tryz.func47 rfl Tryz.ntmps47 fun w0 => ?_
  refine go ?_; intros
  refine c_if rfl (fun h2 => ?_) (fun h2 => ?_)
  · exact absurd rfl h2
  refine go ?_; intros
  refine c_loopR [0, 1, 4] (fun k : Nat => [(5, .int .i64 k)]) (fun k => k ≤ xs.length) (fun k => xs.length - k) 0 (Nat.zero_le _) fun k hk => ?_
  refine go ?_; intros
  refine c_if rfl (fun h3 => ?_) (fun h3 => ?_)
  · have hk3 : k < xs.length := by omega
    refine atPacket (a := a) (xs := xs) k ?_
    rintro hi b o e s1
    rw [e]
    refine atPacket (a := a2) (xs := xs) k ?_
    rintro hi2 b2 o2 e2 s2
    rw [e2]
    refine goN ?_; intros
    refine d_start [0, 1] [] ?_
    refine dt 0 ?_
    refine dt 1 ?_
    refine dt 2 ?_
    refine dt 3 ?_
    refine dt 4 ?_
    refine dt 5 ?_
    refine dt 6 ?_
    refine dt 7 ?_
    refine dt 8 ?_ (hy := yd_nePacket rfl rfl)
    refine dd ?_
    refine go ?_; intros
    refine n_lp (k + 1) hk3 (by omega)
  · refine go ?_; intros
    refine ret () trivial rfl
end Go.Proofs.YtgogcgkocjpgoaaGreatDoor
/- Texts that are alike; a code that is too long. -/
namespace Go.Proofs.YtgogcgkocjpgoaaGreatDoor
open Go.RowKit
set_option maxRecDepth 100000 in
theorem vTexts_f (v v2 : Value) (xs : List ByteArray) (F F2 : List Nat) : Fn Tryz.prog 48 [v, v2] [.sl EStr v xs F, .sl EStr v2 xs F2] [] (fun (_ : Unit) => True) (fun _ => .bool true) (fun _ => []) := by
  refine enter Tryz.func48 rfl Tryz.ntmps48 fun w0 => ?_
  refine t_sl (v := v) (xs := xs) (F := F) ?_
  rintro a c rfl l1 l2
  refine t_sl (v := v2) (xs := xs) (F := F2) ?_
  rintro a2 c2 rfl l3 l4
  refine go ?_; intros
  refine c_if rfl (fun h => ?_) (fun h => ?_)
  · exact absurd rfl h
  refine go ?_; intros
  refine c_loopR [0, 1, 4] (fun k : Nat => [(5, .int .i64 k)]) (fun k => k ≤ xs.length) (fun k => xs.length - k) 0 (Nat.zero_le _) fun k hk => ?_
  refine go ?_; intros
  refine c_if rfl (fun h3 => ?_) (fun h3 => ?_)
  · have hk3 : k < xs.length := by omega
    refine at_str (a := a) (xs := xs) k ?_
    rintro hi b o e s1
    rw [e]
    refine at_str (a := a2) (xs := xs) k ?_
    rintro hi2 b2 o2 e2 s2
    rw [e2]
    refine goN ?_; intros
    refine d_start [0, 1] [] ?_
    refine dt 0 ?_
    refine dt 1 ?_
    refine dt 2 ?_
    refine dt 3 ?_
    refine dt 4 ?_
    refine dt 5 ?_
    refine dt 6 ?_
    refine dt 7 ?_
    refine dt 8 ?_
    refine dd ?_
    refine go ?_; intros
    refine c_if rfl (fun h4 => ?_) (fun h4 => ?_)
    · exact absurd rfl h4
    refine go ?_; intros
    refine n_lp (k + 1) hk3 (by omega)
  · refine go ?_; intros
    refine ret () trivial rfl
set_option maxRecDepth 100000 in
theorem vBig_f (v : Value) (code : List Int) (F : List Nat) : Fn Tryz.prog 10 [v] [.sl EByte v code F] [] (fun (_ : Unit) => True) (fun _ => .bool (decide (65536 < (code.length : Int)))) (fun _ => []) := by
  refine enter Tryz.func10 rfl Tryz.ntmps10 fun w0 => ?_
  refine t_sl (E := EByte) ?_
  rintro a c rfl l1 l2
  refine go ?_; intros
  refine ret () trivial rfl
end Go.Proofs.YtgogcgkocjpgoaaGreatDoor
/- Two slots that are the same are equal. -/
namespace Go.Proofs.YtgogcgkocjpgoaaGreatDoor
open Go.RowKit
theorem slot_eq (s : Slot) (w : World) : (Op.equalIn 10000 213 (.agg #[.bool s.hav, .string s.item]) (.agg #[.bool s.hav, .string s.item])).run Tryz.prog w = .ok true w := by
  have u1 := Tryz.underlying4
  have u2 := Tryz.underlying9
  have hS : Tryz.prog.underlying 213 = some (.struct (Tryz.prog.fieldsOf 213)) := by kernel_rfl
  rw [show (10000 : Nat) = 9999 + 1 from rfl, run_equalIn_agg w 9999 213 _ _ hS (by kernel_rfl)]
  have a1 := Tryz.isAgg4
  have a2 := Tryz.isAgg9
  simp only [Program.fieldsOf, Tryz.underlying213]
  go_simp
theorem yd_neSlot {n : Nat} {fr : Fr} {H : List Pc} {x y : Operand} {ty t' : TypeId} {s : Slot} (hx : ev fr x = some (.agg #[.bool s.hav, .string s.item])) (hy : ev fr y = some (.agg #[.bool s.hav, .string s.item])) : Yd Tryz.prog n fr H (.binOp .neq 213 x y t') ty (.bool false) := .mk fun c w d pos aft gd hA _ => by
  have h2 : (eqGuard .neq 213 x y (.agg #[.bool s.hav, .string s.item]) (.agg #[.bool s.hav, .string s.item])).run Tryz.prog w = .ok () w := run_eqGuard_agg w _ _ _ _ _ _ (by kernel_rfl)
  simp only [execOp, hA.ev hx, hA.ev hy, Sem.run_bind, h2, Result.andThen_ok, run_neq_struct, slot_eq, Sem.run_pure]
  rfl
end Go.Proofs.YtgogcgkocjpgoaaGreatDoor
/- Slots that are alike. -/
namespace Go.Proofs.YtgogcgkocjpgoaaGreatDoor
open Go.RowKit
set_option maxRecDepth 100000 in
theorem vSlots_f (v v2 : Value) (x : ReceiveWindow) (F F2 : List Nat) : Fn Tryz.prog 128 [v, v2] [.isv EReceiveWindow v x F, .isv EReceiveWindow v2 x F2] [] (fun (_ : Unit) => True) (fun _ => .bool true) (fun _ => []) := by
  refine enter Tryz.func128 rfl Tryz.ntmps128 fun w0 => ?_
  refine openReceiveWindow (v := v) (x := x) (F := F) ?_
  rintro a c F3 rfl l1
  unfold maxLen at l1
  refine openReceiveWindow (v := v2) (x := x) (F := F2) ?_
  rintro a2 c2 F4 rfl l3
  refine go ?_; intros
  refine wg_if rfl rfl (fun h => ?_) (fun h => ?_)
  · exact absurd rfl h
  refine go ?_; intros
  refine c_if rfl (fun h2 => ?_) (fun h2 => ?_)
  · exact absurd rfl h2
  refine go ?_; intros
  refine c_loopR [2, 3, 4] (fun k : Nat => [(5, .int .i64 k)]) (fun k => k ≤ x.slots.length) (fun k => x.slots.length - k) 0 (Nat.zero_le _) fun k hk => ?_
  refine go ?_; intros
  refine c_if rfl (fun h3 => ?_) (fun h3 => ?_)
  · have hk3 : k < x.slots.length := by omega
    refine atSlot (a := a) (xs := x.slots) k ?_
    rintro hi b o e s1
    rw [e]
    refine atSlot (a := a2) (xs := x.slots) k ?_
    rintro hi2 b2 o2 e2 s2
    rw [e2]
    refine goN ?_; intros
    refine d_start [0, 1, 2, 3] [] ?_
    refine dt 0 ?_
    refine dt 1 ?_
    refine dt 2 ?_
    refine dt 3 ?_
    refine dt 4 ?_
    refine dt 5 ?_
    refine dt 6 ?_
    refine dt 7 ?_
    refine dt 8 ?_
    refine dt 9 ?_
    refine dt 10 ?_ (hy := yd_neSlot rfl rfl)
    refine dd ?_
    refine go ?_; intros
    refine n_lp (k + 1) hk3 (by omega)
  · refine go ?_; intros
    refine ret () trivial rfl
end Go.Proofs.YtgogcgkocjpgoaaGreatDoor
/- Receivers are told apart: the same ones are not. -/
namespace Go.Proofs.YtgogcgkocjpgoaaGreatDoor
open Go.RowKit
theorem request_eq (s : Request) (w : World) : (Op.equalIn 10000 152 (.agg #[.int .i64 s.number, .int .i64 s.state, .int .i64 s.untl, .int .i64 s.tries]) (.agg #[.int .i64 s.number, .int .i64 s.state, .int .i64 s.untl, .int .i64 s.tries])).run Tryz.prog w = .ok true w := by
  have u0 := Tryz.underlying3
  have a0 := Tryz.isAgg3
  have hS : Tryz.prog.underlying 152 = some (.struct (Tryz.prog.fieldsOf 152)) := by kernel_rfl
  rw [show (10000 : Nat) = 9999 + 1 from rfl, run_equalIn_agg w 9999 152 _ _ hS (by kernel_rfl)]
  simp only [Program.fieldsOf, Tryz.underlying152]
  go_simp
theorem yd_neRequest {n : Nat} {fr : Fr} {H : List Pc} {x y : Operand} {ty t' : TypeId} {s : Request} (hx : ev fr x = some (.agg #[.int .i64 s.number, .int .i64 s.state, .int .i64 s.untl, .int .i64 s.tries])) (hy : ev fr y = some (.agg #[.int .i64 s.number, .int .i64 s.state, .int .i64 s.untl, .int .i64 s.tries])) : Yd Tryz.prog n fr H (.binOp .neq 152 x y t') ty (.bool false) := .mk fun c w d pos aft gd hA _ => by
  have h2 : (eqGuard .neq 152 x y (.agg #[.int .i64 s.number, .int .i64 s.state, .int .i64 s.untl, .int .i64 s.tries]) (.agg #[.int .i64 s.number, .int .i64 s.state, .int .i64 s.untl, .int .i64 s.tries])).run Tryz.prog w = .ok () w := run_eqGuard_agg w _ _ _ _ _ _ (by kernel_rfl)
  simp only [execOp, hA.ev hx, hA.ev hy, Sem.run_bind, h2, Result.andThen_ok, run_neq_struct, request_eq, Sem.run_pure]
  rfl

set_option maxRecDepth 100000 in
theorem vRequests_f (a a2 : Option Addr) (c c2 : Nat) (xs : List Request) (F F2 : List Nat) (hl : xs.length ≤ 9223372036854775807) : Fn Tryz.prog 129 [.slice a xs.length c, .slice a2 xs.length c2] [.sl ERequest (.slice a xs.length c) xs F, .sl ERequest (.slice a2 xs.length c2) xs F2] [] (fun (_ : Unit) => True) (fun _ => .bool true) (fun _ => []) := by
  refine enter Tryz.func129 rfl Tryz.ntmps129 fun w0 => ?_
  refine go ?_; intros
  refine c_if rfl (fun h2 => ?_) (fun h2 => ?_)
  · exact absurd rfl h2
  refine go ?_; intros
  refine c_loopR [0, 1, 4] (fun k : Nat => [(5, .int .i64 k)]) (fun k => k ≤ xs.length) (fun k => xs.length - k) 0 (Nat.zero_le _) fun k hk => ?_
  refine go ?_; intros
  refine c_if rfl (fun h3 => ?_) (fun h3 => ?_)
  · have hk3 : k < xs.length := by omega
    refine atRequest (a := a) (xs := xs) k ?_
    rintro hi b o e
    rw [e]
    refine atRequest (a := a2) (xs := xs) k ?_
    rintro hi2 b2 o2 e2
    rw [e2]
    refine goN ?_; intros
    refine d_start [0, 1] [] ?_
    refine dt 0 ?_
    refine dt 1 ?_
    refine dt 2 ?_
    refine dt 3 ?_
    refine dt 4 ?_
    refine dt 5 ?_
    refine dt 6 ?_
    refine dt 7 ?_
    refine dt 8 ?_ (hy := yd_neRequest rfl rfl)
    refine dd ?_
    refine go ?_; intros
    refine n_lp (k + 1) hk3 (by omega)
  · refine go ?_; intros
    refine ret () trivial rfl
set_option maxRecDepth 100000 in
theorem vReceiver_f (v v2 : Value) (x : Receiver) (F F2 : List Nat) : Fn Tryz.prog 46 [v, v2] [.isv EReceiver v x F, .isv EReceiver v2 x F2] [] (fun (_ : Unit) => True) (fun _ => .bool true) (fun _ => []) := by
  refine enter Tryz.func46 rfl Tryz.ntmps46 fun w0 => ?_
  refine openReceiver (v := v) (x := x) (F := F) ?_
  rintro a1 c1 F3 a2 c2 F4 rfl l1 l2
  unfold maxLen at l1 l2
  refine closeReceiveWindow x.window (a1 := a1) ?_
  generalize F3 = F5
  refine openReceiver (v := v2) (x := x) (F := F2) ?_
  rintro a3 c3 F6 a4 c4 F7 rfl l3 l4
  refine closeReceiveWindow x.window (a1 := a3) ?_
  generalize F6 = F8
  cases hs : x.started
  all_goals
    refine go ?_; intros
    refine wg_if rfl rfl (fun h => ?_) (fun h => ?_)
    rotate_left
    · exact absurd rfl h
    refine go ?_; intros
    refine cf (vSlots_f _ _ x.window F5 F8) fun _ _ => ?_
    refine t_app ?_
    refine go ?_; intros
    refine cf (vRequests_f a2 a4 c2 c4 x.requests F4 F7 (by omega)) fun _ _ => ?_
    refine t_app ?_
    refine go ?_; intros
    refine ret () trivial rfl
end Go.Proofs.YtgogcgkocjpgoaaGreatDoor
/- Lists of numbers, compared by the laws. -/
namespace Go.Proofs.YtgogcgkocjpgoaaGreatDoor
open Go.RowKit
theorem has_succ {l : List Int} {k : Nat} {n : Int} (h : k < l.length) (hp : (l.take k).contains n = false) (hn : ¬ l[k] = n) : (l.take (k + 1)).contains n = false := by
  rw [← List.take_append_getElem h]
  rw [Bool.eq_false_iff] at hp ⊢
  intro hc
  rw [List.contains_iff_mem, List.mem_append] at hc
  rcases hc with hc | hc
  · exact hp (List.contains_iff_mem.2 hc)
  · exact hn (List.mem_singleton.1 hc).symm
set_option maxRecDepth 100000 in
theorem vHas_f (v : Value) (xs : List Int) (F : List Nat) (n : Int) : Fn Tryz.prog 52 [v, .int .i64 n] [.sl EInt v xs F] [] (fun (_ : Unit) => True) (fun _ => .bool (xs.contains n)) (fun _ => []) := by
  refine enter Tryz.func52 rfl Tryz.ntmps52 fun w0 => ?_
  refine t_sl (E := EInt) (v := v) (xs := xs) (F := F) ?_
  rintro a c rfl l1 l2
  refine go ?_; intros
  refine c_loopR [0, 1, 4] (fun k : Nat => [(5, .int .i64 k)]) (fun k => k ≤ xs.length ∧ (xs.take k).contains n = false) (fun k => xs.length - k) 0 ⟨Nat.zero_le _, by simp⟩ fun k hk => ?_
  obtain ⟨hk, hc⟩ := hk
  refine go ?_; intros
  refine c_if rfl (fun h3 => ?_) (fun h3 => ?_)
  · have hk3 : k < xs.length := by omega
    refine at_int (xs := xs) k ?_
    rintro hi b o e
    rw [e]
    refine go ?_; intros
    refine c_if rfl (fun h4 => ?_) (fun h4 => ?_)
    · refine go ?_; intros
      refine ret () trivial ?_
      rw [show xs.contains n = true from List.contains_iff_mem.2 (h4 ▸ List.getElem_mem hk3)]
      rfl
    refine go ?_; intros
    refine n_lp (k + 1) ⟨hk3, has_succ hk3 hc h4⟩ (by omega)
  · have hkl : k = xs.length := by omega
    subst hkl
    rw [List.take_length] at hc
    rw [hc]
    refine go ?_; intros
    refine ret () trivial rfl
end Go.Proofs.YtgogcgkocjpgoaaGreatDoor
/- The law FnReceiverTicks: the walk. -/
namespace Go.Proofs.YtgogcgkocjpgoaaGreatDoor
open Go.RowKit
theorem neqB (b : Bool) : decide (¬ b = b) = false := by simp
theorem eqB (b : Bool) : decide (b = b) = true := by simp
set_option maxRecDepth 100000 in
theorem receiverTicks_f (v : Value) (code : List Int) (G : List Nat) : Fn Tryz.prog 7 [v] [.sl EByte v code G] [] (fun (_ : Unit) => True) (fun _ => .bool true) (fun _ => []) := by
  refine enter Tryz.func7 rfl Tryz.ntmps7 fun w0 => ?_
  refine go ?_; intros
  refine cb (fun w st => (vBig_f v code G).val w (hol1 (st.get (p := .sl EByte v code G) (by simp)))) ?_
  refine go ?_; intros
  refine c_if rfl (fun h => ?_) (fun h => ?_)
  · refine go ?_; intros
    refine ret () trivial rfl
  refine go ?_; intros
  refine cf (DrawTickR_f v code G) fun z hz => ?_
  refine t_app ?_
  refine go ?_; intros
  have hr := law_tick z.y z.n
  have hps := tick_few z.y z.n
  have hP := TickReceiver_f z.y z.n (.agg #[.bool z.y.started, .int .i64 z.y.clock, .int .i64 z.y.window.next, .slice z.a z.y.window.slots.length z.c, .slice z.a2 z.y.requests.length z.c2]) z.F
  have hQ := specTickReceiver_f z.y z.n (.agg #[.bool z.y.started, .int .i64 z.y.clock, .int .i64 z.y.window.next, .slice z.a z.y.window.slots.length z.c, .slice z.a2 z.y.requests.length z.c2]) z.F
  obtain ⟨Y, ps, es, b, e⟩ : ∃ Y ps es b, resTickReceiver z.y z.n = (Y, ps, es, b) := ⟨_, _, _, _, rfl⟩
  rw [e] at hr hps hP hQ
  dsimp only at hr hps hP hQ
  refine cf hP fun p _ => ?_
  refine t_app ?_
  refine go ?_; intros
  refine cf hQ fun q _ => ?_
  refine t_app ?_
  refine openOReceiver (x := Y) ?_
  rintro a5 c5 F5 a6 c6 F6 e5 - -
  simp only [Value.agg.injEq, Array.mk.injEq, List.cons.injEq, Value.slice.injEq, Value.int.injEq, Value.bool.injEq, true_and, and_true] at e5
  obtain ⟨⟨rfl, rfl⟩, rfl, rfl⟩ := e5
  refine t_read (E := ESlot) (xs := Y.window.slots) fun F7 => ?_
  refine t_read (E := ERequest) (xs := Y.requests) fun F8 => ?_
  refine closeReceiver Y (a1 := p.a1) ?_
  refine t_read (E := EPacket) (xs := ps) fun F9 => ?_
  refine t_read (E := EPacket) (xs := ps) fun F10 => ?_
  refine t_read (E := EStr) (xs := es) fun F11 => ?_
  refine t_read (E := EStr) (xs := es) fun F12 => ?_
  refine go ?_; intros
  rw [show decide (¬ b = b) = false by simp]
  refine go ?_; intros
  refine cf (vReceiver_f _ _ Y _ _) fun _ _ => ?_
  refine t_app ?_
  refine go ?_; intros
  refine cf (vPackets_f p.a3 q.a3 p.c3 q.c3 ps _ _ (by omega)) fun _ _ => ?_
  refine t_app ?_
  refine go ?_; intros
  refine cf (vTexts_f _ _ es _ _) fun _ _ => ?_
  refine t_app ?_
  refine go ?_; intros
  refine c_joinS [0] [] (fun _ : Unit => []) (fun _ => [.sl EByte v code G]) (fun _ => True) ?_ fun _ _ => ?_
  · cases b
    · refine go ?_; intros
      refine n_join () trivial
    obtain ⟨g1, g2, g3, g4, g5⟩ := hr rfl
    have k0 := g1.k0
    have k1 := g1.k1
    have hA := AwaitedSerials_f z.y (.agg #[.bool z.y.started, .int .i64 z.y.clock, .int .i64 z.y.window.next, .slice z.a z.y.window.slots.length z.c, .slice z.a2 z.y.requests.length z.c2]) z.F
    rw [aw_yes g1] at hA
    have hG := SerialGap_f z.y.window.next Y.window.next
    rw [gap_yes g1.w g2.w] at hG
    dsimp only at hA hG
    rw [g3] at hG
    refine go ?_; intros
    refine cf hA fun u _ => ?_
    refine t_app ?_
    refine t_read (E := EInt) (xs := numsQ z.y) fun F13 => ?_
    refine go ?_; intros
    refine cf hG fun _ _ => ?_
    refine t_app ?_
    refine go ?_; intros
    rw [show decide (¬ ((es.length : Nat) : Int) = ((es.length : Nat) : Int)) = false by simp]
    refine go ?_; intros
    rw [show decide (¬ Y.clock = z.y.clock + 1) = false by simp [g4]]
    refine go ?_; intros
    refine cf (IsValidReceiver_f Y _ _) fun _ _ => ?_
    refine t_app ?_
    rw [goodR_iff.2 g2]
    refine go ?_; intros
    refine c_loopR [0, 2, 3, 6, 13] (fun k : Nat => [(17, .int .i64 k)]) (fun k => k ≤ ps.length) (fun k => ps.length - k) 0 (Nat.zero_le _) fun k hk => ?_
    refine go ?_; intros
    refine c_if rfl (fun h3 => ?_) (fun h3 => ?_)
    · have hk3 : k < ps.length := by omega
      obtain ⟨c1, c2, c3⟩ := g5 _ (List.getElem_mem hk3)
      refine atPacket (a := p.a3) (xs := ps) k ?_
      rintro hi b o e s1
      rw [e]
      refine goN ?_; intros
      refine d_start [0, 12] [] ?_
      refine dt 0 ?_
      refine dt 1 ?_
      refine dt 2 ?_
      refine dt 3 ?_
      refine dt 4 ?_
      refine dt 5 ?_
      rw [show decide (¬ ps[k].kind = 3) = false by simp [c1]]
      refine dt 6 ?_
      refine dtg 7 ?_
      refine dtg 8 ?_
      refine dtg 9 ?_
      refine dtg 10 ?_
      refine dtg 11 ?_
      refine dtg 12 ?_
      refine d1g 13 ?_
      apply On.h
      apply o_call; rfl; kernel_rfl; exact evsE
      refine cf (vHas_f _ (numsQ z.y) _ ps[k].number) fun _ _ => ?_
      refine t_app ?_
      rw [c2]
      refine dk ?_
      refine dtg 14 ?_
      refine dt 15 ?_
      refine dt 16 ?_
      refine dtg 17 ?_
      refine dtg 18 ?_
      refine dtg 19 ?_
      refine dtg 20 ?_
      refine dtg 21 ?_
      refine dtg 22 ?_
      refine dtg 23 ?_
      refine dtg 24 ?_
      refine dtg 25 ?_
      rw [show decide (¬ ps[k].trail = z.y.window.next) = false by simp [c3]]
      refine dt 26 ?_
      refine dd ?_
      refine go ?_; intros
      refine n_lp (k + 1) hk3 (by omega)
    · refine go ?_; intros
      refine n_join () trivial
  refine go ?_; intros
  refine cf (DrawStateOf_f v code G) fun z hz => ?_
  refine t_app ?_
  refine go ?_; intros
  have hr := law_state z.y z.n
  have hP := StateOf_f z.y z.n (.agg #[.bool z.y.started, .int .i64 z.y.clock, .int .i64 z.y.window.next, .slice z.a z.y.window.slots.length z.c, .slice z.a2 z.y.requests.length z.c2]) z.F
  have hQ := specStateOf_f z.y z.n (.agg #[.bool z.y.started, .int .i64 z.y.clock, .int .i64 z.y.window.next, .slice z.a z.y.window.slots.length z.c, .slice z.a2 z.y.requests.length z.c2]) z.F
  obtain ⟨st, b, e⟩ : ∃ st b, resStateOf z.y z.n = (st, b) := ⟨_, _, rfl⟩
  rw [e] at hr hP hQ
  dsimp only at hr hP hQ
  refine cf hP fun _ _ => ?_
  refine t_app ?_
  refine go ?_; intros
  refine cf hQ fun _ _ => ?_
  refine t_app ?_
  refine go ?_; intros
  rw [show decide (¬ st = st) = false by simp]
  refine go ?_; intros
  rw [show decide (¬ b = b) = false by simp]
  refine go ?_; intros
  refine cf (AwaitedSerials_f z.y (.agg #[.bool z.y.started, .int .i64 z.y.clock, .int .i64 z.y.window.next, .slice z.a z.y.window.slots.length z.c, .slice z.a2 z.y.requests.length z.c2]) z.F) fun u _ => ?_
  refine t_app ?_
  refine t_read (E := EInt) (xs := (resAwaited z.y).1) fun F13 => ?_
  cases b
  rotate_left
  obtain ⟨g1, hc⟩ := hr rfl
  rw [aw_yes g1]
  refine go ?_; intros
  refine cf (vHas_f _ (numsQ z.y) _ z.n) fun _ _ => ?_
  refine t_app ?_
  refine go ?_; intros
  refine wg_if rfl rfl (fun h1 => ?_) (fun h1 => ?_)
  rw [show decide (1 ≤ st) = true by simpa using h1, Bool.true_and] at hc
  refine go ?_; intros
  rw [show decide (¬ (numsQ z.y).contains z.n = decide (st ≤ 3)) = false by rw [hc]; simp]
  rotate_left
  rw [show decide (1 ≤ st) = false by simpa using h1, Bool.false_and] at hc
  refine go ?_; intros
  rw [show decide (¬ (numsQ z.y).contains z.n = false) = false by rw [hc]; simp]
  all_goals
    refine go ?_; intros
    refine cf (DrawSettled_f v code G) fun x _ => ?_
    refine t_app ?_
    refine go ?_; intros
    refine cf (IsSettled_f x.y (.agg #[.bool x.y.started, .int .i64 x.y.clock, .int .i64 x.y.window.next, .slice x.a x.y.window.slots.length x.c, .slice x.a2 x.y.requests.length x.c2]) x.F) fun _ _ => ?_
    refine t_app ?_
    refine go ?_; intros
    refine cf (specIsSettled_f x.y (.agg #[.bool x.y.started, .int .i64 x.y.clock, .int .i64 x.y.window.next, .slice x.a x.y.window.slots.length x.c, .slice x.a2 x.y.requests.length x.c2]) x.F) fun _ _ => ?_
    refine t_app ?_
    refine go ?_; intros
    rw [neqB]
    refine go ?_; intros
    rw [neqB]
    refine go ?_; intros
    refine cf (DrawNewR_f v code G) fun k _ => ?_
    refine t_app ?_
    refine go ?_; intros
    refine cf (NewReceiver_f k) fun p _ => ?_
    refine t_app ?_
    refine go ?_; intros
    refine cf (specNewReceiver_f k) fun q _ => ?_
    refine t_app ?_
    refine go ?_; intros
    rw [eqB]
    refine go ?_; intros
    refine cf (vReceiver_f _ _ (resNewReceiver k).1 _ _) fun _ _ => ?_
    refine t_app ?_
    refine go ?_; intros
    refine ret () trivial rfl
end Go.Proofs.YtgogcgkocjpgoaaGreatDoor
/- The law FnReceiverTicks, lifted. -/
namespace Go.Proofs.YtgogcgkocjpgoaaGreatDoor
open Go.RowKit Go.ChangeShapes Go.WideShapes Go.ChangeAt
theorem reads_byte : Reads Tryz.prog EByte 5 := fun h => by
  obtain ⟨n, rfl, _, hw⟩ := DataW.trod_int Tryz.underlying5 h
  have hb := bounds_u8 hw
  exact ⟨n, [], rfl, hb.1, hb.2, rfl⟩
theorem law_FnReceiverTicks (v0 : Value) (code : List Int) (F0 : List Nat) (w : World) (h0 : Sl EByte w v0 code F0) :
    Calls Tryz.prog 7 #[v0] w fun e' w' => e' = .returned (.bool true) ∧ Below w.heap.size w w' := (receiverTicks_f v0 code F0).val w (hol1 ⟨by decide, h0⟩)
set_option maxRecDepth 100000 in
theorem lifted_FnReceiverTicks (os : Os) (started : os.Started) (H : Type) (enc : TypeId × Value → H) :
    ReturnsInHanded {} Tryz.checked os 7 .any (fun w args => (Rows.fnReceiverTicksSpec.pre enc Tryz.prog Tryz.f7 Rows.fnReceiverTicksRow.domain false w args ∧ laidMetH Tryz.prog Rows.fnReceiverTicksRow.laid w) ∧ sizedMet enc Tryz.prog Tryz.f7 (OpenSpec.ofChange Rows.fnReceiverTicksSpec) false w args)
      (Rows.fnReceiverTicksSpec.post enc Tryz.prog Tryz.f7 false true false false) := by
  refine returnsInHanded_of_change_and (C := Tryz.checked) (X := fun w _ => laidMetH Tryz.prog Rows.fnReceiverTicksRow.laid w) (fun _ _ _ hh h => h.of_heap hh) (by kernel_rfl) started (by kernel_rfl) Tryz.func7
    (ChangeSpec.witness_shaped (enc := enc) (C := Tryz.checked) (os := os) (X := fun w _ => laidMetH Tryz.prog Rows.fnReceiverTicksRow.laid w) false (World.laidAll Tryz.prog os Rows.fnReceiverTicksRow.laid) #[.slice none 0 0] 8 (World.laidAll_os _ _ _)
      (World.shaped_of_ZipB (by kernel_rfl) (by kernel_rfl)) (by kernel_rfl) (by kernel_rfl) (by kernel_rfl)
      (by rw [MakeChecks.laidMetH_plain _ _ _ (by kernel_rfl)]; exact laidMet_laidAll _ (by kernel_rfl) (by kernel_rfl))) ?_
  intro W base args ds gs before hval0 hW hc_ _ hL _
  have hval : ∀ (j : Nat) t v, Tryz.f7.params[j]? = some t → args[j]? = some v → Value.okWide Tryz.prog W .any base t v := hval0
  have hW' := hW
  obtain ⟨p, q, hA0, hV, rfl, hfz, hnd⟩ := hW
  have hA : DataW.TrodAll enc Tryz.prog W 0 (fun _ => true) true Tryz.f7.params.toList args.toList ds p := hA0
  rw [Tryz.params7] at hA hval
  obtain ⟨v0, d0, rfl, rfl, h0⟩ := trodAll_one hA
  obtain ⟨a0, l0, c0, rfl⟩ := okWide_slice Tryz.underlying22 (hval 0 22 v0 rfl rfl)
  obtain ⟨fuel0, hf0⟩ := h0
  obtain ⟨x0, F0, u0, hu0, hs0⟩ := (reads_slice Tryz.underlying22 (by kernel_rfl) (by decide) reads_byte) hf0
  obtain rfl : Value.slice a0 l0 c0 = u0 := by simpa [Value.cells] using hu0
  refine (law_FnReceiverTicks _ x0 F0 W hs0).mono fun e W' ⟨he, hB⟩ => ⟨_, he, law_post (tb := 4) (by kernel_rfl) ?_ Tryz.underlying4 (by kernel_rfl) rfl rfl hW' hB⟩
  rw [Tryz.params7]
  simp only [List.mem_cons, List.not_mem_nil, or_false, forall_eq]
  exact ⟨by kernel_rfl, of_decide_eq_true (by kernel_rfl)⟩
end Go.Proofs.YtgogcgkocjpgoaaGreatDoor
/- The law FnReceiverTicks: what is counted of the program, each count by itself. -/
namespace Go.Proofs.YtgogcgkocjpgoaaGreatDoor
open Go.RowKit Go.ChangeShapes Go.WideShapes Go.ChangeAt
set_option maxRecDepth 100000 in
set_option maxHeartbeats 0 in
theorem jf_FnReceiverTicks : joinedFacts Tryz.prog 7 Tryz.f7 Rows.fnReceiverTicksSpec Rows.fnReceiverTicksRow = true := by
  unfold joinedFacts
  simp only [Bool.and_eq_true]
  repeat' refine And.intro ?_ ?_
  all_goals (as_aux_lemma => kernel_rfl)
end Go.Proofs.YtgogcgkocjpgoaaGreatDoor
