/- Part 3 of the proof: 16 texts, one behind the other. -/
import Derived.ProofKit
import Derived.OpenShut
import Derived.Laws.IdiomStrings
import Derived.Laws.Bits64b
import Derived.Test.YtgogcgkocjpgoaaGreatDoorCards
import Derived.Test.YtgogcgkocjpgoaaGreatDoorTie
import Derived.LaidMore
import Derived.Lay
import Derived.SevenTiedAt
import Derived.Stop.Joined
import Derived.Test.YtgogcgkocjpgoaaGreatDoorM2
/- Receivers: a tick of the program. -/
namespace Go.Proofs.YtgogcgkocjpgoaaGreatDoor
open Go.RowKit
set_option maxRecDepth 100000 in
theorem Rclone_f (x : Receiver) (v : Value) (F : List Nat) (hl : x.window.slots.length ≤ 1000000000) (hl2 : x.requests.length ≤ 1000000000) : Fn Tryz.prog 108 [v] [.isv EReceiver v x F] [] (fun (_ : Value × List Nat) => True) (fun s => s.1) (fun s => [.own OReceiver s.1 x s.2]) := by
  refine enter Tryz.func108 rfl Tryz.ntmps108 fun w0 => ?_
  refine openReceiver ?_
  rintro a1 c1 F1 a2 c2 F2 rfl l1 l2
  refine closeReceiveWindow x.window ?_
  generalize F1 = F3
  refine go ?_; intros
  refine cf (RWclone_f x.window _ F3 (by omega)) fun z _ => ?_
  refine t_app ?_
  refine go ?_; intros
  refine cf (ClRequest_f x.requests a2 c2 F2 hl2) fun q _ => ?_
  refine t_app ?_
  refine go ?_; intros
  refine closeOReceiver x ?_
  refine ret (_, _) trivial rfl
theorem wb1_f (r : Request) (n : Int) (gb : Nat) (h0 : isSer r.number = true) (h1 : 0 ≤ n) (h2 : n ≤ 65535) : Fn Tryz.prog 256 [.agg #[.int .i64 r.number, .int .i64 r.state, .int .i64 r.untl, .int .i64 r.tries], ptr gb 0 0] [.cel gb 0 [.int .i64 n]] [] (fun (_ : Unit) => True) (fun _ => .bool (bef r.number n)) (fun _ => []) := by
  obtain ⟨n0, n1⟩ := isSer_iff.1 h0
  refine enter Tryz.func256 rfl Tryz.ntmps256 fun w0 => ?_
  refine go ?_; intros
  refine ce (fun w s => isBefore_c _ _ _ (by omega) (by omega) (by omega) (by omega)) ?_
  refine go ?_; intros
  refine ret () trivial rfl
theorem withoutBefore_f (l : List Request) (n : Int) (a : Option Addr) (c : Nat) (F : List Nat) (hl : l.length ≤ 1000000000) (hs : ∀ q ∈ l, isSer q.number = true) (h1 : 0 ≤ n) (h2 : n ≤ 65535) : Fn Tryz.prog 200 [.slice a l.length c, .int .i64 n] [.sl ERequest (.slice a l.length c) l F] [] (fun (_ : Option Addr × Nat × List Nat) => True) (fun z => .slice z.1 (noBef l n).length z.2.1) (fun z => [.ow ERequest 152 (.slice z.1 (noBef l n).length z.2.1) (noBef l n) z.2.2]) := by
  refine enter Tryz.func200 rfl Tryz.ntmps200 fun w0 => ?_
  refine go ?_; intros
  rename_i gb
  refine cf (ClRequest_f l a c F hl) fun q _ => ?_
  refine t_app ?_
  refine t_rocel (cs := [.int .i64 n]) ?_ (by simp)
  refine go ?_; intros
  refine cf (DelReq_f 256 [] [ptr gb 0 0] [.cel gb 0 [.int .i64 n]] rfl l q.1 q.2.1 q.2.2 (fun z => bef z.number n) (by kernel_rfl) hl (fun z hz w hA => (wb1_f z n gb (hs z hz) h1 h2).val w hA)) fun z _ => ?_
  refine t_app ?_
  refine go ?_; intros
  refine ret (z.1, z.2.1, z.2.2) trivial rfl
theorem tkReq_len (r : Receiver) (d : Int) : (tkReq r d).length ≤ r.requests.length := List.length_filterMap_le _ _
theorem tkLost_len (r : Receiver) : (tkLost r).length ≤ r.requests.length := List.length_filterMap_le _ _
theorem tickR_no {r : Receiver} {d : Int} (h : tkLost r = []) : tickRec r d = ⟨r.started, r.clock + 1, r.window, tkReq r d⟩ := if_pos h
theorem tickR_yes {r : Receiver} {d : Int} (h : tkLost r ≠ []) : tickRec r d = ⟨r.started, r.clock + 1, movedW r.window (lostTrail (tkLost r)), noBef (tkReq r d) (movedW r.window (lostTrail (tkLost r))).next⟩ := if_neg h
theorem tickE_no {r : Receiver} (h : tkLost r = []) : tickEv r = [] := if_pos h
theorem tickE_yes {r : Receiver} (h : tkLost r ≠ []) : tickEv r = movedE r.window (lostTrail (tkLost r)) := if_neg h
theorem lost_last {l : List Int} (h : l ≠ []) : lostTrail l = aft (l[l.length - 1]'(by have := List.length_pos_iff.2 h; omega)) 1 := by
  unfold lostTrail
  rw [List.getLastD_eq_getLast?, List.getLast?_eq_getElem?, List.getElem?_eq_getElem (by have := List.length_pos_iff.2 h; omega)]
  rfl
theorem good_items {x : ReceiveWindow} (hg : goodRW x = true) : x.slots.length ≤ 8 ∧ ∀ s ∈ x.slots, s.item.size ≤ 8 := by
  have hg0 := hg
  unfold goodRW at hg
  simp only [Bool.and_eq_true, decide_eq_true_eq] at hg
  refine ⟨by have := hg.1.1.2; omega, fun s hs => ?_⟩
  have := List.all_eq_true.1 hg.1.2 s hs
  unfold okSlot at this
  simp only [Bool.and_eq_true] at this
  exact itm_size this.1
structure PkS where
  k : Nat
  a : Option Addr
  c : Nat
  F : List Nat
structure TkR where
  a1 : Option Addr
  c1 : Nat
  F1 : List Nat
  a2 : Option Addr
  c2 : Nat
  F2 : List Nat
  a3 : Option Addr
  c3 : Nat
  F3 : List Nat
  a4 : Option Addr
  c4 : Nat
  F4 : List Nat
set_option maxRecDepth 100000 in
set_option maxHeartbeats 1000000 in
theorem Rtick_f (r : Receiver) (d : Int) (g t o : Nat) (A B : List Value) (a1 : Option Addr) (c1 : Nat) (F1 : List Nat) (a2 : Option Addr) (c2 : Nat) (F2 : List Nat) (hg : GoodR r) (d0 : 0 ≤ d) (d1 : d ≤ 100) :
    Fn Tryz.prog 109 [ptr g o 0, .int .i64 d] [] [.row g t o A [.bool r.started, .int .i64 r.clock, .int .i64 r.window.next, .slice a1 r.window.slots.length c1, .slice a2 r.requests.length c2] B, .ow ESlot 213 (.slice a1 r.window.slots.length c1) r.window.slots F1, .ow ERequest 152 (.slice a2 r.requests.length c2) r.requests F2] (fun (_ : TkR) => True)
      (fun s => .tuple #[.slice s.a3 (tickPk r).length s.c3, .slice s.a4 (tickEv r).length s.c4]) (fun s => [.row g t o A [.bool (tickRec r d).started, .int .i64 (tickRec r d).clock, .int .i64 (tickRec r d).window.next, .slice s.a1 (tickRec r d).window.slots.length s.c1, .slice s.a2 (tickRec r d).requests.length s.c2] B, .ow ESlot 213 (.slice s.a1 (tickRec r d).window.slots.length s.c1) (tickRec r d).window.slots s.F1, .ow ERequest 152 (.slice s.a2 (tickRec r d).requests.length s.c2) (tickRec r d).requests s.F2, .ow EPacket 67 (.slice s.a3 (tickPk r).length s.c3) (tickPk r) s.F3, .ow EStr 9 (.slice s.a4 (tickEv r).length s.c4) (tickEv r) s.F4]) := by
  have k0 := hg.k0
  have k1 := hg.k1
  obtain ⟨-, q1, q2, -⟩ := areQ_iff.1 hg.q
  obtain ⟨w0_, w1_⟩ := next_ser hg.w
  obtain ⟨hw8, hit⟩ := good_items hg.w
  have hpl : (r.requests.filterMap (tkS (r.clock + 1))).length ≤ 8 := Nat.le_trans (List.length_filterMap_le _ _) q1
  refine enter Tryz.func109 rfl Tryz.ntmps109 fun w0 => ?_
  refine go ?_; intros
  refine t_read (E := ERequest) fun F9 => ?_
  refine d_start [1] [] ?_
  refine dt 0 ?_
  refine dt 1 ?_
  refine dt 2 ?_
  refine dt 3 ?_
  refine dt 4 ?_
  refine dt 5 ?_
  refine dt 6 ?_
  refine dt 7 ?_
  refine dt 8 ?_
  refine dO 9 (by kernel_rfl) (by rw [List.getElem?_toArray]; rfl) ?_
  apply o_call; rfl; kernel_rfl; exact evsE
  refine cf (tickRequests_f r.requests (r.clock + 1) d a2 c2 F9 (by omega) (fun q hq => ⟨(okReq_iff.1 (q2 q hq)).t0, (okReq_iff.1 (q2 q hq)).t1⟩) (by omega) (by omega) (by omega) (by omega)) fun z _ => ?_
  refine t_app ?_
  rw [show r.requests.filterMap (tkL (r.clock + 1)) = tkLost r from rfl, show r.requests.filterMap (tkO (r.clock + 1) d) = tkReq r d from rfl]
  refine dk ?_
  refine dt 10 ?_
  refine dt 11 ?_
  refine dt 12 ?_
  refine dt 13 ?_
  refine dt 14 ?_
  refine dt 15 ?_
  refine dt 16 ?_
  refine dd ?_
  refine t_read (E := EInt) (xs := r.requests.filterMap (tkS (r.clock + 1))) fun G2 => ?_
  refine t_read (E := EInt) (xs := tkLost r) fun G3 => ?_
  refine t_nilow EPacket 67 ?_
  refine go ?_; intros
  refine c_loopS [0, 4, 5, 6, 9, 44, 45] (fun s : PkS => [(46, .int .i64 (s.k : Nat)), (10, .slice s.a (((r.requests.filterMap (tkS (r.clock + 1))).take s.k).map (pkR r.window.next)).length s.c)]) (fun s => [.ow EPacket 67 (.slice s.a (((r.requests.filterMap (tkS (r.clock + 1))).take s.k).map (pkR r.window.next)).length s.c) (((r.requests.filterMap (tkS (r.clock + 1))).take s.k).map (pkR r.window.next)) s.F]) (fun s => s.k ≤ (r.requests.filterMap (tkS (r.clock + 1))).length) (fun s => (r.requests.filterMap (tkS (r.clock + 1))).length - s.k) ⟨0, _, _, _⟩ (Nat.zero_le _) fun s hs => ?_
  obtain ⟨k, a4, c4, F4⟩ := s
  dsimp only at hs ⊢
  generalize hsn : r.requests.filterMap (tkS (r.clock + 1)) = sn at *
  refine go ?_; intros
  refine c_if rfl (fun h4 => ?_) (fun h4 => ?_)
  · have hk : k < sn.length := by omega
    have hkl : ((sn.take k).map (pkR r.window.next)).length ≤ k := by simp; omega
    refine at_int (xs := sn) k ?_
    rintro hi b o2 e
    rw [e]
    refine go ?_; intros
    have eo : (sn.take (k + 1)).map (pkR r.window.next) = (sn.take k).map (pkR r.window.next) ++ [pkR r.window.next sn[k]] := by rw [List.take_add_one, List.getElem?_eq_getElem hk, List.map_append]; rfl
    apply wO
    refine ap1 (ys := [pkR r.window.next sn[k]]) (flatPacket (pkR r.window.next sn[k]) (by show (0 : Nat) ≤ maxLen; exact Nat.zero_le _)) one_EPacket fun a7 c7 F7 => ?_
    refine go ?_; intros
    rw [← eo]
    refine n_lp (⟨k + 1, _, _, _⟩ : PkS) (by show k + 1 ≤ sn.length; omega) (by show sn.length - (k + 1) < sn.length - k; omega)
  have hk : k = sn.length := by omega
  subst hk
  rw [List.take_length]
  have ep : tickPk r = sn.map (pkR r.window.next) := by unfold tickPk; rw [hsn]
  rw [ep]
  refine go ?_; intros
  by_cases hL : tkLost r = []
  · refine c_if rfl (fun _ => ?_) (fun h => absurd (show ((tkLost r).length : Int) = 0 by rw [hL]; rfl) h)
    rw [tickR_no hL, tickE_no hL]
    refine t_nilow EStr 9 ?_
    refine go ?_; intros
    refine ret ⟨_, _, _, _, _, _, _, _, _, _, _, _⟩ trivial rfl
  · have hl0 := List.length_pos_iff.2 hL
    refine c_if rfl (fun h => absurd h (by omega)) (fun _ => ?_)
    rw [tickR_yes hL, tickE_yes hL]
    obtain ⟨hs8, hsr⟩ := lost_gp hg hL
    have hll8 := tkLost_len r
    obtain ⟨hs0, hs1⟩ := isSer_iff.1 hsr
    have hll := lost_last hL
    obtain ⟨l0, l1⟩ := isSer_iff.1 (tkLost_at hg (List.getElem_mem (show (tkLost r).length - 1 < (tkLost r).length by omega))).1
    have hi1 : ((tkLost r).length : Int) - 1 = (((tkLost r).length - 1 : Nat) : Int) := by omega
    refine at_int (xs := tkLost r) ((tkLost r).length - 1) ?_
    rintro hi b o2 e
    rw [e]
    refine t_rin [.bool r.started, .int .i64 (r.clock + 1)] [.int .i64 r.window.next, .slice a1 r.window.slots.length c1] [.slice z.a (tkReq r d).length z.c] ?_
    refine go ?_; intros
    refine d_start [1] [] ?_
    refine dt 0 ?_
    refine dt 1 ?_
    refine dt 2 ?_
    refine dt 3 ?_
    refine dt 4 ?_
    refine dt 5 ?_
    refine dt 6 ?_
    rw [hi1]
    refine dt 7 ?_
    refine dt 8 ?_
    refine dO 9 (by kernel_rfl) (by rw [List.getElem?_toArray]; rfl) ?_
    apply o_call; rfl; kernel_rfl; exact evsE
    refine ce (fun w s => after_c _ _ _ (by omega) (by omega)) ?_
    rw [← hll]
    refine dk ?_
    refine dO 10 (by kernel_rfl) (by rw [List.getElem?_toArray]; rfl) ?_
    apply o_call; rfl; kernel_rfl; exact evsE
    refine cf (RWgive_f r.window (lostTrail (tkLost r)) g t (o + 2) (A ++ [.bool r.started, .int .i64 (r.clock + 1)]) _ a1 c1 F1 w0_ w1_ hs0 hs1 hw8 hit) fun y hy => ?_
    refine t_app ?_
    refine dk ?_
    refine dt 11 ?_
    refine dd ?_
    obtain ⟨hy1, hy2⟩ := hy
    have hmv := moved_at (t := lostTrail (tkLost r)) hg.w
    have hm0 : 0 ≤ y.y.next := by rw [hy1]; show 0 ≤ (movedW r.window (lostTrail (tkLost r))).next; rw [hmv.1]; exact (aft_bd _ _).1
    have hm1 : y.y.next ≤ 65535 := by rw [hy1]; show (movedW r.window (lostTrail (tkLost r))).next ≤ 65535; rw [hmv.1]; exact (aft_bd _ _).2
    refine t_rout [.bool r.started, .int .i64 (r.clock + 1)] [.int .i64 y.y.next, .slice y.a y.y.slots.length y.c] [.slice z.a (tkReq r d).length z.c] ?_
    refine t_read (E := ERequest) (xs := tkReq r d) fun F8 => ?_
    refine go ?_; intros
    refine d_start [1] [13] ?_
    refine dt 0 ?_
    refine dt 1 ?_
    refine dt 2 ?_
    refine dt 3 ?_
    refine dt 4 ?_
    refine dt 5 ?_
    refine dt 6 ?_
    refine dt 7 ?_
    refine dt 8 ?_
    refine dt 9 ?_
    refine dO 10 (by kernel_rfl) (by rw [List.getElem?_toArray]; rfl) ?_
    apply o_call; rfl; kernel_rfl; exact evsE
    refine cf (withoutBefore_f (tkReq r d) y.y.next z.a z.c F8 (by have := tkReq_len r d; omega) (fun q hq => (tkReq_at hg hq).1) hm0 hm1) fun u _ => ?_
    refine t_app ?_
    refine dk ?_
    refine dt 11 ?_
    refine dt 12 ?_
    refine dO 13 (by kernel_rfl) (by rw [List.getElem?_toArray]; rfl) ?_
    apply o_st; rfl; rfl; rfl; (first | exact AggC.s | exact OneC.s); rfl; exact rplE; exact putE; rfl
    refine dkx ?_
    refine dd ?_
    refine go ?_; intros
    rw [show movedW r.window (lostTrail (tkLost r)) = y.y from hy1.symm, show movedE r.window (lostTrail (tkLost r)) = y.es from hy2.symm]
    refine ret ⟨_, _, _, _, _, _, _, _, _, _, _, _⟩ trivial rfl
end Go.Proofs.YtgogcgkocjpgoaaGreatDoor
/- Receivers: a tick of the reference. -/
namespace Go.Proofs.YtgogcgkocjpgoaaGreatDoor
open Go.RowKit
structure OwnS where
  g : Nat
  a : Option Addr
  c : Nat
  F : List Nat
set_option maxRecDepth 100000 in
theorem l13Own_f (x : Receiver) (v : Value) (F : List Nat) (hl : x.window.slots.length ≤ 1000000000) (hl2 : x.requests.length ≤ 1000000000) : Fn Tryz.prog 120 [v] [.isv EReceiver v x F] [] (fun (_ : Value × List Nat) => True) (fun s => s.1) (fun s => [.own OReceiver s.1 x s.2]) := by
  refine enter Tryz.func120 rfl Tryz.ntmps120 fun w0 => ?_
  refine openReceiver ?_
  rintro a1 c1 F1 a2 c2 F2 rfl l1 l2
  refine go ?_; intros
  refine c_joinS [1, 2] [0, 1, 2, 3, 4] (fun s : OwnS => [(3, ptr s.g 0 0)]) (fun s => [.row s.g 46 0 [] [.int .i64 x.window.next, .slice s.a x.window.slots.length s.c] [], .ow ESlot 213 (.slice s.a x.window.slots.length s.c) x.window.slots s.F]) (fun _ => True) ?_ fun s _ => ?_
  · skip
    refine d_start [1] [] ?_
    refine dt 0 ?_
    refine dt 1 ?_
    refine dt 2 ?_
    refine dt 4 ?_
    refine dt 5 ?_
    refine dt 6 ?_
    refine dO2 3 9 (by kernel_rfl) (by rw [List.getElem?_toArray]; rfl) (by rw [List.getElem?_toArray]; rfl) ?_ ?_
    · apply o_bs0; rfl; intro _
      refine t_emp ESlot ?_
      refine dk ?_
      refine dO2 7 9 (by kernel_rfl) (by rw [List.getElem?_toArray]; rfl) (by rw [List.getElem?_toArray]; rfl) ?_ ?_
      · refine aps one_ESlot scal_ESlot fun a5 c5 F5 => ?_
        rw [List.nil_append]
        refine dk ?_
        refine dt 8 ?_
        refine dO 9 (by kernel_rfl) (by rw [List.getElem?_toArray]; rfl) ?_
        apply o_alloc; rfl; intro _
        refine dk ?_
        refine dO 10 (by kernel_rfl) (by rw [List.getElem?_toArray]; rfl) ?_
        apply o_st; rfl; rfl; rfl; (first | exact AggC.s | exact OneC.s); rfl; exact rplE; exact putE; rfl
        refine dk ?_
        refine dd ?_
        refine n_join (⟨_, _, _, _⟩ : OwnS) trivial
      · apply o_alloc; rfl; intro _
        refine dk ?_
        refine dO 7 (by kernel_rfl) (by rw [List.getElem?_toArray]; rfl) ?_
        refine aps one_ESlot scal_ESlot fun a5 c5 F5 => ?_
        rw [List.nil_append]
        refine dk ?_
        refine dt 8 ?_
        refine dO 10 (by kernel_rfl) (by rw [List.getElem?_toArray]; rfl) ?_
        apply o_st; rfl; rfl; rfl; (first | exact AggC.s | exact OneC.s); rfl; exact rplE; exact putE; rfl
        refine dk ?_
        refine dd ?_
        refine n_join (⟨_, _, _, _⟩ : OwnS) trivial
    · apply o_alloc; rfl; intro _
      refine dk ?_
      refine dO 3 (by kernel_rfl) (by rw [List.getElem?_toArray]; rfl) ?_
      apply o_bs0; rfl; intro _
      refine t_emp ESlot ?_
      refine dk ?_
      refine dO 7 (by kernel_rfl) (by rw [List.getElem?_toArray]; rfl) ?_
      refine aps one_ESlot scal_ESlot fun a5 c5 F5 => ?_
      rw [List.nil_append]
      refine dk ?_
      refine dt 8 ?_
      refine dO 10 (by kernel_rfl) (by rw [List.getElem?_toArray]; rfl) ?_
      apply o_st; rfl; rfl; rfl; (first | exact AggC.s | exact OneC.s); rfl; exact rplE; exact putE; rfl
      refine dk ?_
      refine dd ?_
      refine n_join (⟨_, _, _, _⟩ : OwnS) trivial
  obtain ⟨g3, a5, c5, F5⟩ := s
  dsimp only
  refine go ?_; intros
  refine d_start [0, 3] [] ?_
  refine dt 0 ?_
  refine dt 1 ?_
  refine dt 2 ?_
  refine dt 3 ?_
  refine dt 4 ?_
  refine dt 6 ?_
  refine dt 7 ?_
  refine dO 5 (by kernel_rfl) (by rw [List.getElem?_toArray]; rfl) ?_
  apply o_bs0; rfl; intro _
  refine t_emp ERequest ?_
  refine dk ?_
  refine dO 8 (by kernel_rfl) (by rw [List.getElem?_toArray]; rfl) ?_
  refine aps one_ERequest scal_ERequest fun a6 c6 F6 => ?_
  rw [List.nil_append]
  refine dk ?_
  refine dt 9 ?_
  refine dO 10 (by kernel_rfl) (by rw [List.getElem?_toArray]; rfl) ?_
  apply o_st; rfl; rfl; rfl; (first | exact AggC.s | exact OneC.s); rfl; exact rplE; exact putE; rfl
  refine dk ?_
  refine dd ?_
  refine go ?_; intros
  refine closeOReceiver x ?_
  refine ret (_, _) trivial rfl
set_option maxRecDepth 100000 in
theorem l13Needed_f (l : List Request) (w : ReceiveWindow) (a : Option Addr) (c : Nat) (F : List Nat) (v : Value) (Fw : List Nat) (hl : l.length ≤ 1000000) (hs : ∀ q ∈ l, isSer q.number = true) (w0_ : 0 ≤ w.next) (w1_ : w.next ≤ 65535) : Fn Tryz.prog 193 [.slice a l.length c, v] [.sl ERequest (.slice a l.length c) l F, .isv EReceiveWindow v w Fw] [] (fun (_ : Option Addr × Nat × List Nat) => True) (fun z => .slice z.1 (needed l w).length z.2.1) (fun z => [.ow ERequest 152 (.slice z.1 (needed l w).length z.2.1) (needed l w) z.2.2]) := by
  refine enter Tryz.func193 rfl Tryz.ntmps193 fun w0 => ?_
  refine openReceiveWindow ?_
  rintro a1 c1 F1 rfl l1
  refine go ?_; intros
  refine t_emp ERequest ?_
  refine c_loopS [0, 3, 4] (fun s : PkS => [(6, .int .i64 (s.k : Nat)), (5, .slice s.a (needed (l.take s.k) w).length s.c)]) (fun s => [.ow ERequest 152 (.slice s.a (needed (l.take s.k) w).length s.c) (needed (l.take s.k) w) s.F]) (fun s => s.k ≤ l.length) (fun s => l.length - s.k) ⟨0, _, _, _⟩ (Nat.zero_le _) fun s hk => ?_
  obtain ⟨k, a4, c4, F4⟩ := s
  dsimp only at hk ⊢
  refine go ?_; intros
  refine c_if rfl (fun h4 => ?_) (fun h4 => ?_)
  · have hk : k < l.length := by omega
    have hkl : (needed (l.take k) w).length ≤ k := Nat.le_trans (List.length_filter_le _ _) (by rw [List.length_take]; omega)
    have hsk := hs _ (List.getElem_mem hk)
    obtain ⟨n0, n1⟩ := isSer_iff.1 hsk
    have en : ∀ b, (!(bef l[k].number w.next || hasB w l[k].number) && decide (gp w.next l[k].number < 8)) = b → needed (l.take (k + 1)) w = needed (l.take k) w ++ if b then [l[k]] else [] := fun b hb => by
      unfold needed
      rw [List.take_add_one, List.getElem?_eq_getElem hk, List.filter_append]
      congr 1
      show ([l[k]].filter _) = _
      rw [List.filter_cons, List.filter_nil, hb]
    refine atRequest (xs := l) k ?_
    rintro hi b o e
    rw [e]
    refine go ?_; intros
    cases g5 : (bef l[k].number w.next || hasB w l[k].number)
    · skip
      refine d_start [0, 2] [] ?_
      refine dt 0 ?_
      refine dt 1 ?_
      refine dt 2 ?_
      refine dt 3 ?_
      refine dt 4 ?_
      refine dt 5 ?_
      refine dO 6 (by kernel_rfl) (by rw [List.getElem?_toArray]; rfl) ?_
      apply o_call; rfl; kernel_rfl; exact evsE
      refine cf (l10Have_f w l[k].number _ Fw w0_ w1_ n0 n1) fun _ _ => ?_
      refine t_app ?_
      rw [show takeNo w l[k].number = (bef l[k].number w.next || hasB w l[k].number) from rfl, g5]
      refine dk ?_
      refine dt 7 ?_
      refine dt 8 ?_
      refine dtg 9 ?_
      refine dtg 10 ?_
      refine dtg 11 ?_
      refine dtg 12 ?_
      refine dtg 13 ?_
      refine dtg 14 ?_
      refine dtg 15 ?_
      refine d1g 16 ?_
      apply On.h
      apply o_call; rfl; kernel_rfl; exact evsE
      refine ce (fun w s => l2Gap_c _ _ _ (by omega) (by omega)) ?_
      refine dk ?_
      refine dtg 17 ?_
      refine dt 18 ?_
      refine dd ?_
      refine go ?_; intros
      refine c_if rfl (fun h6 => ?_) (fun h6 => ?_)
      · have e1 := en true (by rw [g5, decide_eq_true h6]; rfl)
        refine go ?_; intros
        apply wO
        refine ap1 (ys := [l[k]]) (flatRequest l[k]) one_ERequest fun a7 c7 F7 => ?_
        refine go ?_; intros
        rw [show needed (l.take k) w ++ [l[k]] = needed (l.take (k + 1)) w from e1.symm]
        refine n_lp (⟨k + 1, _, _, _⟩ : PkS) (by show k + 1 ≤ l.length; omega) (by show l.length - (k + 1) < l.length - k; omega)
      · have e1 := en false (by rw [g5, decide_eq_false h6]; rfl)
        refine go ?_; intros
        rw [show needed (l.take k) w = needed (l.take (k + 1)) w by rw [e1]; simp]
        refine n_lp (⟨k + 1, _, _, _⟩ : PkS) (by show k + 1 ≤ l.length; omega) (by show l.length - (k + 1) < l.length - k; omega)
    · skip
      refine d_start [0, 2] [] ?_
      refine dt 0 ?_
      refine dt 1 ?_
      refine dt 2 ?_
      refine dt 3 ?_
      refine dt 4 ?_
      refine dt 5 ?_
      refine dO 6 (by kernel_rfl) (by rw [List.getElem?_toArray]; rfl) ?_
      apply o_call; rfl; kernel_rfl; exact evsE
      refine cf (l10Have_f w l[k].number _ Fw w0_ w1_ n0 n1) fun _ _ => ?_
      refine t_app ?_
      rw [show takeNo w l[k].number = (bef l[k].number w.next || hasB w l[k].number) from rfl, g5]
      refine dk ?_
      refine dt 7 ?_
      refine dt 8 ?_
      refine ds 9 ?_
      refine ds 10 ?_
      refine ds 11 ?_
      refine ds 12 ?_
      refine ds 13 ?_
      refine ds 14 ?_
      refine ds 15 ?_
      refine ds 16 ?_
      refine ds 17 ?_
      refine dt 18 ?_
      refine dd ?_
      have e1 := en false (by rw [g5]; rfl)
      refine go ?_; intros
      rw [show needed (l.take k) w = needed (l.take (k + 1)) w by rw [e1]; simp]
      refine n_lp (⟨k + 1, _, _, _⟩ : PkS) (by show k + 1 ≤ l.length; omega) (by show l.length - (k + 1) < l.length - k; omega)
  have hk : k = l.length := by omega
  subst hk
  rw [List.take_length]
  refine go ?_; intros
  refine ret (_, _, _) trivial rfl
end Go.Proofs.YtgogcgkocjpgoaaGreatDoor
/- Receivers: TickReceiver, the program's and the reference's. -/
namespace Go.Proofs.YtgogcgkocjpgoaaGreatDoor
open Go.RowKit
structure GvS where
  g : Nat
  y : RelS
set_option maxRecDepth 100000 in
set_option maxHeartbeats 1000000 in
theorem l13Tick_f (r : Receiver) (d : Int) (v : Value) (F : List Nat) (hg : GoodR r) (d0 : 0 ≤ d) (d1 : d ≤ 100) (_hx : r.clock ≤ 99999) :
    Fn Tryz.prog 104 [v, .int .i64 d] [.isv EReceiver v r F] [] (fun (_ : TkR) => True) (fun s => .tuple #[.agg #[.bool (tickRec r d).started, .int .i64 (tickRec r d).clock, .int .i64 (tickRec r d).window.next, .slice s.a1 (tickRec r d).window.slots.length s.c1, .slice s.a2 (tickRec r d).requests.length s.c2], .slice s.a3 (tickPk r).length s.c3, .slice s.a4 (tickEv r).length s.c4])
      (fun s => [.isv EReceiver (.agg #[.bool (tickRec r d).started, .int .i64 (tickRec r d).clock, .int .i64 (tickRec r d).window.next, .slice s.a1 (tickRec r d).window.slots.length s.c1, .slice s.a2 (tickRec r d).requests.length s.c2]) (tickRec r d) s.F1, .ow EPacket 67 (.slice s.a3 (tickPk r).length s.c3) (tickPk r) s.F3, .ow EStr 9 (.slice s.a4 (tickEv r).length s.c4) (tickEv r) s.F4]) := by
  have k0 := hg.k0
  have k1 := hg.k1
  obtain ⟨-, q1, q2, -⟩ := areQ_iff.1 hg.q
  obtain ⟨w0_, w1_⟩ := next_ser hg.w
  obtain ⟨hw8, hit⟩ := good_items hg.w
  have hpl : (r.requests.filterMap (tkS (r.clock + 1))).length ≤ 8 := Nat.le_trans (List.length_filterMap_le _ _) q1
  refine enter Tryz.func104 rfl Tryz.ntmps104 fun w0 => ?_
  refine openReceiver (v := v) (x := r) (F := F) ?_
  rintro a1 c1 F1 a2 c2 F2 rfl l1 l2
  refine go ?_; intros
  refine cf (l13Own_f r _ F (by omega) (by omega)) fun u _ => ?_
  refine t_app ?_
  refine openOReceiver ?_
  rintro a5 c5 F5 a6 c6 F6 e6 - -
  rw [e6]
  refine t_read (E := ESlot) fun G5 => ?_
  refine go ?_; intros
  refine cf (l12Tick_f r.requests (r.clock + 1) d a2 c2 F2 (by omega) (fun q hq => ⟨(okReq_iff.1 (q2 q hq)).t0, (okReq_iff.1 (q2 q hq)).t1⟩) (by omega) (by omega) (by omega) (by omega)) fun z _ => ?_
  refine t_app ?_
  rw [show r.requests.filterMap (tkL (r.clock + 1)) = tkLost r from rfl, show r.requests.filterMap (tkO (r.clock + 1) d) = tkReq r d from rfl]
  refine t_read (E := EInt) (xs := r.requests.filterMap (tkS (r.clock + 1))) fun G2 => ?_
  refine t_read (E := EInt) (xs := tkLost r) fun G3 => ?_
  refine t_emp EStr ?_
  refine t_emp EPacket ?_
  refine go ?_; intros
  refine c_loopS [2, 4, 5, 6, 7, 9, 11, 12] (fun s : PkS => [(13, .int .i64 (s.k : Nat)), (8, .slice s.a (((r.requests.filterMap (tkS (r.clock + 1))).take s.k).map (pkR r.window.next)).length s.c)]) (fun s => [.ow EPacket 67 (.slice s.a (((r.requests.filterMap (tkS (r.clock + 1))).take s.k).map (pkR r.window.next)).length s.c) (((r.requests.filterMap (tkS (r.clock + 1))).take s.k).map (pkR r.window.next)) s.F]) (fun s => s.k ≤ (r.requests.filterMap (tkS (r.clock + 1))).length) (fun s => (r.requests.filterMap (tkS (r.clock + 1))).length - s.k) ⟨0, _, _, _⟩ (Nat.zero_le _) fun s hs => ?_
  obtain ⟨k, a4, c4, F4⟩ := s
  dsimp only at hs ⊢
  generalize hsn : r.requests.filterMap (tkS (r.clock + 1)) = sn at *
  refine go ?_; intros
  refine c_if rfl (fun h4 => ?_) (fun h4 => ?_)
  · have hk : k < sn.length := by omega
    have hkl : ((sn.take k).map (pkR r.window.next)).length ≤ k := by simp; omega
    refine at_int (xs := sn) k ?_
    rintro hi b o2 e
    rw [e]
    refine go ?_; intros
    have eo : (sn.take (k + 1)).map (pkR r.window.next) = (sn.take k).map (pkR r.window.next) ++ [pkR r.window.next sn[k]] := by rw [List.take_add_one, List.getElem?_eq_getElem hk, List.map_append]; rfl
    refine d_start [0, 10] [] ?_
    refine dt 0 ?_
    refine dt 1 ?_
    refine dt 2 ?_
    refine dt 3 ?_
    refine dt 4 ?_
    refine dt 5 ?_
    refine dt 6 ?_
    refine dt 7 ?_
    refine dt 8 ?_
    refine dt 9 ?_
    refine dt 10 ?_
    refine dt 11 ?_
    refine dO 12 (by kernel_rfl) (by rw [List.getElem?_toArray]; rfl) ?_
    apply o_bs; rfl; rfl; rfl; rfl; exact rptE; exact filE; intro _
    refine dk ?_
    refine dO 13 (by kernel_rfl) (by rw [List.getElem?_toArray]; rfl) ?_
    refine ap1 (ys := [pkR r.window.next sn[k]]) (flatPacket (pkR r.window.next sn[k]) (by show (0 : Nat) ≤ maxLen; exact Nat.zero_le _)) one_EPacket fun a7 c7 F7 => ?_
    refine dk ?_
    refine dt 14 ?_
    refine dd ?_
    refine go ?_; intros
    rw [← eo]
    refine n_lp (⟨k + 1, _, _, _⟩ : PkS) (by show k + 1 ≤ sn.length; omega) (by show sn.length - (k + 1) < sn.length - k; omega)
  have hk : k = sn.length := by omega
  subst hk
  rw [List.take_length]
  have ep : tickPk r = sn.map (pkR r.window.next) := by unfold tickPk; rw [hsn]
  rw [ep]
  refine go ?_; intros
  by_cases hL : tkLost r = []
  · refine c_if rfl (fun h => absurd h (by rw [hL]; decide)) (fun _ => ?_)
    rw [tickR_no hL, tickE_no hL]
    refine go ?_; intros
    refine t_read (E := ERequest) fun F8 => ?_
    refine closeReceiver (a1 := a5) ⟨r.started, r.clock + 1, r.window, tkReq r d⟩ ?_
    refine ret ⟨_, _, _, _, _, [], _, _, _, _, _, _⟩ trivial rfl
  · have hl0 := List.length_pos_iff.2 hL
    refine c_if rfl (fun _ => ?_) (fun h => absurd h (by omega))
    rw [tickR_yes hL, tickE_yes hL]
    obtain ⟨hs8, hsr⟩ := lost_gp hg hL
    have hll8 := tkLost_len r
    obtain ⟨hs0, hs1⟩ := isSer_iff.1 hsr
    have hll := lost_last hL
    obtain ⟨l0, l1⟩ := isSer_iff.1 (tkLost_at hg (List.getElem_mem (show (tkLost r).length - 1 < (tkLost r).length by omega))).1
    have hi1 : ((tkLost r).length : Int) - 1 = (((tkLost r).length - 1 : Nat) : Int) := by omega
    refine closeReceiveWindow (a1 := a5) r.window ?_
    generalize G5 = FW
    refine at_int (xs := tkLost r) ((tkLost r).length - 1) ?_
    rintro hi b o2 e
    rw [e]
    refine go ?_; intros
    refine c_joinS [4, 5, 6, 7, 8, 9] [2, 3, 6, 7, 10, 14] (fun s : GvS => [(15, ptr s.g 0 0), (16, .slice s.y.ae s.y.es.length s.y.ce)]) (fun s => [.row s.g 46 0 [] [.int .i64 s.y.y.next, .slice s.y.a s.y.y.slots.length s.y.c] [], .isv EReceiveWindow (.agg #[.int .i64 s.y.y.next, .slice s.y.a s.y.y.slots.length s.y.c]) s.y.y s.y.F, .ow EStr 9 (.slice s.y.ae s.y.es.length s.y.ce) s.y.es s.y.Fe]) (fun s => s.y.y = movedW r.window (lostTrail (tkLost r)) ∧ s.y.es = movedE r.window (lostTrail (tkLost r))) ?_ fun s hy => ?_
    · skip
      refine d_start [0, 7] [] ?_
      refine dt 0 ?_
      refine dt 1 ?_
      refine dt 2 ?_
      refine dt 3 ?_
      refine dt 4 ?_
      rw [hi1]
      refine dt 5 ?_
      refine dt 6 ?_
      refine dO2 7 12 (by kernel_rfl) (by rw [List.getElem?_toArray]; rfl) (by rw [List.getElem?_toArray]; rfl) ?_ ?_
      · apply o_call; rfl; kernel_rfl; exact evsE
        refine ce (fun w s => l2After_c _ _ _ (by omega) (by omega)) ?_
        rw [← hll]
        refine dk ?_
        refine dO2 8 12 (by kernel_rfl) (by rw [List.getElem?_toArray]; rfl) (by rw [List.getElem?_toArray]; rfl) ?_ ?_
        · apply o_call; rfl; kernel_rfl; exact evsE
          refine cf (l10GiveUp_f r.window (lostTrail (tkLost r)) _ FW w0_ w1_ hs0 hs1 hw8 hit) fun y hy => ?_
          refine t_app ?_
          refine dk ?_
          refine dt 9 ?_
          refine dt 10 ?_
          refine dt 11 ?_
          refine dO 12 (by kernel_rfl) (by rw [List.getElem?_toArray]; rfl) ?_
          apply o_alloc; rfl; intro _
          refine dk ?_
          refine dO 13 (by kernel_rfl) (by rw [List.getElem?_toArray]; rfl) ?_
          apply o_st; rfl; rfl; rfl; (first | exact AggC.s | exact OneC.s); rfl; exact rplE; exact putE; rfl
          refine dk ?_
          refine dt 14 ?_
          refine dd ?_
          refine n_join (⟨_, y⟩ : GvS) hy
        · apply o_alloc; rfl; intro _
          refine dk ?_
          refine dO 8 (by kernel_rfl) (by rw [List.getElem?_toArray]; rfl) ?_
          apply o_call; rfl; kernel_rfl; exact evsE
          refine cf (l10GiveUp_f r.window (lostTrail (tkLost r)) _ FW w0_ w1_ hs0 hs1 hw8 hit) fun y hy => ?_
          refine t_app ?_
          refine dk ?_
          refine dt 9 ?_
          refine dt 10 ?_
          refine dt 11 ?_
          refine dO 13 (by kernel_rfl) (by rw [List.getElem?_toArray]; rfl) ?_
          apply o_st; rfl; rfl; rfl; (first | exact AggC.s | exact OneC.s); rfl; exact rplE; exact putE; rfl
          refine dk ?_
          refine dt 14 ?_
          refine dd ?_
          refine n_join (⟨_, y⟩ : GvS) hy
      · apply o_alloc; rfl; intro _
        refine dk ?_
        refine dO 7 (by kernel_rfl) (by rw [List.getElem?_toArray]; rfl) ?_
        apply o_call; rfl; kernel_rfl; exact evsE
        refine ce (fun w s => l2After_c _ _ _ (by omega) (by omega)) ?_
        rw [← hll]
        refine dk ?_
        refine dO 8 (by kernel_rfl) (by rw [List.getElem?_toArray]; rfl) ?_
        apply o_call; rfl; kernel_rfl; exact evsE
        refine cf (l10GiveUp_f r.window (lostTrail (tkLost r)) _ FW w0_ w1_ hs0 hs1 hw8 hit) fun y hy => ?_
        refine t_app ?_
        refine dk ?_
        refine dt 9 ?_
        refine dt 10 ?_
        refine dt 11 ?_
        refine dO 13 (by kernel_rfl) (by rw [List.getElem?_toArray]; rfl) ?_
        apply o_st; rfl; rfl; rfl; (first | exact AggC.s | exact OneC.s); rfl; exact rplE; exact putE; rfl
        refine dk ?_
        refine dt 14 ?_
        refine dd ?_
        refine n_join (⟨_, y⟩ : GvS) hy
    obtain ⟨g15, y⟩ := s
    dsimp only at hy ⊢
    obtain ⟨hy1, hy2⟩ := hy
    have hmv := moved_at (t := lostTrail (tkLost r)) hg.w
    have hm0 : 0 ≤ y.y.next := by rw [hy1, hmv.1]; exact (aft_bd _ _).1
    have hm1 : y.y.next ≤ 65535 := by rw [hy1, hmv.1]; exact (aft_bd _ _).2
    have hes : y.es.length ≤ 100 := by rw [hy2]; have := hmv.2.2.1; have := @stepsN_gp r.window.next (lostTrail (tkLost r)); omega
    refine t_read (E := EStr) (xs := y.es) fun G8 => ?_
    refine go ?_; intros
    apply wO
    refine aps (ys := y.es) one_EStr scal_EStr fun a9 c9 F9 => ?_
    rw [List.nil_append]
    refine t_read (E := ERequest) (xs := tkReq r d) fun F8 => ?_
    refine go ?_; intros
    refine cf (l13Needed_f (tkReq r d) y.y z.a z.c F8 _ y.F (by have := tkReq_len r d; omega) (fun q hq => (tkReq_at hg hq).1) hm0 hm1) fun u2 _ => ?_
    refine t_app ?_
    rw [hy1, tick_needed hg hL, ← hy1]
    refine go ?_; intros
    refine openReceiveWindow (x := y.y) ?_
    rintro b1 d1 G1 e5 m1
    simp only [Value.agg.injEq, Array.mk.injEq, List.cons.injEq, Value.slice.injEq, true_and, and_true] at e5
    obtain ⟨rfl, rfl⟩ := e5
    refine t_read (E := ERequest) (xs := noBef (tkReq r d) y.y.next) fun F10 => ?_
    refine closeReceiver ⟨r.started, r.clock + 1, y.y, noBef (tkReq r d) y.y.next⟩ ?_
    rw [← hy2]
    refine ret ⟨_, _, _, _, _, [], _, _, _, _, _, _⟩ trivial rfl
set_option maxRecDepth 100000 in
set_option maxHeartbeats 800000 in
theorem TickReceiver_f (x : Receiver) (d : Int) (v : Value) (F : List Nat) :
    Fn Tryz.prog 27 [v, .int .i64 d] [.isv EReceiver v x F] [] (fun (_ : TkR) => True) (fun s => .tuple #[.agg #[.bool ((resTickReceiver x d).1).started, .int .i64 ((resTickReceiver x d).1).clock, .int .i64 ((resTickReceiver x d).1).window.next, .slice s.a1 ((resTickReceiver x d).1).window.slots.length s.c1, .slice s.a2 ((resTickReceiver x d).1).requests.length s.c2], .slice s.a3 (resTickReceiver x d).2.1.length s.c3, .slice s.a4 (resTickReceiver x d).2.2.1.length s.c4, .bool (resTickReceiver x d).2.2.2])
      (fun s => [.own OReceiver (.agg #[.bool ((resTickReceiver x d).1).started, .int .i64 ((resTickReceiver x d).1).clock, .int .i64 ((resTickReceiver x d).1).window.next, .slice s.a1 ((resTickReceiver x d).1).window.slots.length s.c1, .slice s.a2 ((resTickReceiver x d).1).requests.length s.c2]) (resTickReceiver x d).1 s.F1, .ow EPacket 67 (.slice s.a3 (resTickReceiver x d).2.1.length s.c3) (resTickReceiver x d).2.1 s.F3, .ow EStr 9 (.slice s.a4 (resTickReceiver x d).2.2.1.length s.c4) (resTickReceiver x d).2.2.1 s.F4]) := by
  refine enter Tryz.func27 rfl Tryz.ntmps27 fun w0 => ?_
  refine t_nilow EPacket 67 ?_
  refine t_nilow EStr 9 ?_
  refine t_nilow ESlot 213 ?_
  refine t_nilow ERequest 152 ?_
  refine closeOReceiver zRec ?_
  refine openReceiver (v := v) (x := x) (F := F) ?_
  rintro a1 c1 F1 a2 c2 F2 rfl l1 l2
  unfold maxLen at l1 l2
  refine go ?_; intros
  refine cf (IsValidReceiver_f x _ F) fun _ _ => ?_
  refine t_app ?_
  cases g1 : goodRec x
  · skip
    refine go ?_; intros
    rw [resTR_no (by unfold okTickReceiver; simp [g1])]
    refine ret ⟨_, _, _, _, _, [], _, _, _, _, _, _⟩ trivial rfl
  have g5 := goodR_iff.1 g1
  have hw8 := (good_items g5.w).1
  have hq8 := (areQ_iff.1 g5.q).2.1
  have hk0 := g5.k0
  have hk1 := g5.k1
  refine go ?_; intros
  refine cf (isDelay_f d) fun _ _ => ?_
  refine t_app ?_
  cases g2 : isDel d
  · skip
    refine go ?_; intros
    rw [resTR_no (by unfold okTickReceiver; simp [g1, g2])]
    refine ret ⟨_, _, _, _, _, [], _, _, _, _, _, _⟩ trivial rfl
  obtain ⟨hd0, hd1⟩ : 0 ≤ d ∧ d ≤ 8 := by unfold isDel btw at g2; simp only [Bool.and_eq_true, decide_eq_true_eq] at g2; omega
  refine go ?_; intros
  refine c_if rfl (fun g3 => ?_) (fun g3 => ?_)
  · skip
    refine go ?_; intros
    rw [resTR_no (by unfold okTickReceiver; simp [g1, g2, g3])]
    refine ret ⟨_, _, _, _, _, [], _, _, _, _, _, _⟩ trivial rfl
  rw [resTR_yes (by unfold okTickReceiver; simp [g1, g2, g3])]
  refine go ?_; intros
  refine cf (Rclone_f x _ F (by omega) (by omega)) fun u _ => ?_
  refine t_app ?_
  refine openOReceiver ?_
  rintro a5 c5 F5 a6 c6 F6 e6 - -
  rw [e6]
  refine go ?_; intros
  refine cf (Rtick_f x d _ _ 0 [] [] a5 c5 F5 a6 c6 F6 g5 hd0 (by omega)) fun z _ => ?_
  refine t_app ?_
  refine go ?_; intros
  refine closeOReceiver (tickRec x d) ?_
  refine ret ⟨_, _, _, _, _, [], _, _, _, _, _, _⟩ trivial rfl
set_option maxRecDepth 100000 in
set_option maxHeartbeats 800000 in
theorem specTickReceiver_f (x : Receiver) (d : Int) (v : Value) (F : List Nat) :
    Fn Tryz.prog 25 [v, .int .i64 d] [.isv EReceiver v x F] [] (fun (_ : TkR) => True) (fun s => .tuple #[.agg #[.bool ((resTickReceiver x d).1).started, .int .i64 ((resTickReceiver x d).1).clock, .int .i64 ((resTickReceiver x d).1).window.next, .slice s.a1 ((resTickReceiver x d).1).window.slots.length s.c1, .slice s.a2 ((resTickReceiver x d).1).requests.length s.c2], .slice s.a3 (resTickReceiver x d).2.1.length s.c3, .slice s.a4 (resTickReceiver x d).2.2.1.length s.c4, .bool (resTickReceiver x d).2.2.2])
      (fun s => [.isv EReceiver (.agg #[.bool ((resTickReceiver x d).1).started, .int .i64 ((resTickReceiver x d).1).clock, .int .i64 ((resTickReceiver x d).1).window.next, .slice s.a1 ((resTickReceiver x d).1).window.slots.length s.c1, .slice s.a2 ((resTickReceiver x d).1).requests.length s.c2]) (resTickReceiver x d).1 s.F1, .ow EPacket 67 (.slice s.a3 (resTickReceiver x d).2.1.length s.c3) (resTickReceiver x d).2.1 s.F3, .ow EStr 9 (.slice s.a4 (resTickReceiver x d).2.2.1.length s.c4) (resTickReceiver x d).2.2.1 s.F4]) := by
  refine enter Tryz.func25 rfl Tryz.ntmps25 fun w0 => ?_
  refine t_nilsl ESlot (by decide) ?_
  refine t_nilsl ERequest (by decide) ?_
  refine closeReceiver zRec ?_
  refine openReceiver (v := v) (x := x) (F := F) ?_
  rintro a1 c1 F1 a2 c2 F2 rfl l1 l2
  unfold maxLen at l1 l2
  refine go ?_; intros
  refine cf (l13Good_f x _ F) fun _ _ => ?_
  refine t_app ?_
  cases g1 : goodRec x
  · skip
    refine go ?_; intros
    refine t_emp EStr ?_
    refine t_emp EPacket ?_
    rw [resTR_no (by unfold okTickReceiver; simp [g1])]
    refine ret ⟨_, _, _, _, _, [], _, _, _, _, _, _⟩ trivial rfl
  have g5 := goodR_iff.1 g1
  have hw8 := (good_items g5.w).1
  have hq8 := (areQ_iff.1 g5.q).2.1
  have hk0 := g5.k0
  have hk1 := g5.k1
  refine go ?_; intros
  refine cf (l12Delay_f d) fun _ _ => ?_
  refine t_app ?_
  cases g2 : isDel d
  · skip
    refine go ?_; intros
    refine t_emp EStr ?_
    refine t_emp EPacket ?_
    rw [resTR_no (by unfold okTickReceiver; simp [g1, g2])]
    refine ret ⟨_, _, _, _, _, [], _, _, _, _, _, _⟩ trivial rfl
  obtain ⟨hd0, hd1⟩ : 0 ≤ d ∧ d ≤ 8 := by unfold isDel btw at g2; simp only [Bool.and_eq_true, decide_eq_true_eq] at g2; omega
  refine go ?_; intros
  refine c_if rfl (fun g3 => ?_) (fun g3 => ?_)
  · skip
    refine go ?_; intros
    refine t_emp EStr ?_
    refine t_emp EPacket ?_
    rw [resTR_no (by unfold okTickReceiver; simp [g1, g2, g3])]
    refine ret ⟨_, _, _, _, _, [], _, _, _, _, _, _⟩ trivial rfl
  rw [resTR_yes (by unfold okTickReceiver; simp [g1, g2, g3])]
  refine go ?_; intros
  refine cf (l13Tick_f x d _ F g5 hd0 (by omega) (by omega)) fun z _ => ?_
  refine t_app ?_
  refine go ?_; intros
  refine ret ⟨_, _, z.F1, _, _, [], _, _, _, _, _, _⟩ trivial rfl
end Go.Proofs.YtgogcgkocjpgoaaGreatDoor
/- TakeItem, GiveUpTo: bounds on the marks of their results. -/
namespace Go.Proofs.YtgogcgkocjpgoaaGreatDoor
open Go.RowKit
theorem cvRW_le (x : ReceiveWindow) : cvReceiveWindow x ≤ 2 * x.slots.length := by
  have : ∀ l : List Slot, cntL cntSlot l ≤ 2 * l.length := by
    intro l
    induction l with
    | nil => exact Nat.le_refl _
    | cons s r ih =>
      unfold cntL at ih ⊢
      simp only [List.map_cons, List.sum_cons, List.length_cons]; have : cntSlot s ≤ 2 := by simp [cntSlot, cntB, cntS]
      omega
  exact this _
end Go.Proofs.YtgogcgkocjpgoaaGreatDoor
/- A bound on marks. -/
namespace Go.Proofs.YtgogcgkocjpgoaaGreatDoor
theorem cntL_bd {α : Type} (f : α → Nat) (B : Nat) : ∀ xs : List α, (∀ x ∈ xs, f x ≤ B) → cntL f xs ≤ xs.length * B
  | [], _ => by simp [cntL]
  | x :: r, h => by
    have h1 := h x (by simp)
    have h2 := cntL_bd f B r fun y hy => h y (by simp [hy])
    have e : cntL f (x :: r) = f x + cntL f r := by simp [cntL]
    rw [e, List.length_cons, Nat.add_mul]; omega
end Go.Proofs.YtgogcgkocjpgoaaGreatDoor
/- Receivers: a bound on marks. -/
namespace Go.Proofs.YtgogcgkocjpgoaaGreatDoor
open Go.RowKit
theorem cvRec_le (r : Receiver) (h1 : r.window.slots.length ≤ 1000) (h2 : r.requests.length ≤ 1000) : cvReceiver r ≤ 4294967296 := by
  unfold cvReceiver
  have a := cvRW_le r.window
  have b := cntL_bd cntRequest 4 r.requests fun q _ => by simp [cntRequest, cntI]
  omega
end Go.Proofs.YtgogcgkocjpgoaaGreatDoor
/- TickReceiver: a bound on the marks of its result. -/
namespace Go.Proofs.YtgogcgkocjpgoaaGreatDoor
open Go.RowKit
theorem resTickReceiver_cv (x0 : Receiver) (x1 : Int) (_h0 : wtReceiver x0 ≤ 1048576) : cvReceiver ((resTickReceiver x0 x1).1) ≤ 4294967296 ∧ cntL cntPacket ((resTickReceiver x0 x1).2.1) ≤ 4294967296 ∧ cntL cntS ((resTickReceiver x0 x1).2.2.1) ≤ 4294967296 := by
  cases hk : okTickReceiver x0 x1
  · rw [resTR_no hk]; exact ⟨by decide, by decide, by decide⟩
  · rw [resTR_yes hk]
    unfold okTickReceiver at hk
    simp only [Bool.and_eq_true] at hk
    have g := goodR_iff.1 hk.1.1
    obtain ⟨hw8, -⟩ := good_items g.w
    have hq8 := (areQ_iff.1 g.q).2.1
    have h1 := tkReq_len x0 x1
    refine ⟨?_, ?_, ?_⟩
    · refine cvRec_le _ ?_ ?_
      · by_cases hL : tkLost x0 = []
        · rw [tickR_no hL]; show x0.window.slots.length ≤ 1000; omega
        · rw [tickR_yes hL]
          show (movedW _ _).slots.length ≤ 1000
          rw [(moved_at g.w).2.1, List.length_drop]; omega
      · by_cases hL : tkLost x0 = []
        · rw [tickR_no hL]; show (tkReq x0 x1).length ≤ 1000; omega
        · rw [tickR_yes hL]
          show (noBef _ _).length ≤ 1000
          have := List.length_filter_le (fun q : Request => !bef q.number (movedW x0.window (lostTrail (tkLost x0))).next) (tkReq x0 x1)
          unfold noBef; omega
    · refine Nat.le_trans (cntL_bd cntPacket 5 _ fun p _ => by simp [cntPacket, cntI, cntS]) ?_
      have : (tickPk x0).length ≤ 8 := by unfold tickPk; rw [List.length_map]; exact Nat.le_trans (List.length_filterMap_le _ _) hq8
      show (tickPk x0).length * 5 ≤ 4294967296
      omega
    · refine Nat.le_trans (cntL_bd cntS 1 _ fun p _ => by simp [cntS]) ?_
      show (tickEv x0).length * 1 ≤ 4294967296
      by_cases hL : tkLost x0 = []
      · rw [tickE_no hL]; simp
      · rw [tickE_yes hL]
        have h2 := (moved_at (t := lostTrail (tkLost x0)) g.w).2.2.1
        have h3 := @stepsN_gp x0.window.next (lostTrail (tkLost x0))
        have h4 := (lost_gp g hL).1
        omega
end Go.Proofs.YtgogcgkocjpgoaaGreatDoor
/- What every law's proof shares: the step from 'returns true, and nothing that was there has turned' to the row's post; how arguments read. -/
namespace Go.Proofs.YtgogcgkocjpgoaaGreatDoor
open Go.ChangeShapes Go.WideShapes Go.ChangeAt Go.RowKit

theorem trodAll_below {H : Type} {enc : TypeId × Value → H} {P : Program} (hl : laidOutB P = true) {W W' : World} (hb : Below W.heap.size W W') :
    ∀ (ts : List TypeId) (vs : List Value) (ds : List (DataW H)) (ps : List MemPlace), (∀ t ∈ ts, P.readableRec t = true ∧ t < P.types.size) →
      DataW.TrodAll enc P W 0 (fun _ => true) true ts vs ds ps → (∀ x ∈ ps, x.block < W.heap.size) → DataW.TrodAll enc P W' 0 (fun b => decide (b < W.heap.size)) true ts vs ds ps
  | [], vs, ds, ps, _, h, _ => by obtain ⟨rfl, rfl, rfl⟩ := trodAll_nil h; exact rfl
  | t :: ts, vs, ds, ps, ht, h, hlt => by
    obtain ⟨v, vs', d, ds', p, q, rfl, rfl, rfl, h1, h2⟩ := trodAll_cons h
    have ⟨a, b⟩ := ht t (by simp)
    exact ⟨p, q, Below.trod hl a b h1 hb fun x hx => hlt x (by simp [hx]), trodAll_below hl hb ts vs' ds' q (fun t h => ht t (by simp [h])) h2 fun x hx => hlt x (by simp [hx]), rfl⟩

/-- A law returned true and left all that was there aS it was: the row's post. -/
theorem law_post {H : Type} {enc : TypeId × Value → H} {P : Program} {f : Func} {s : ChangeSpec} {tb : TypeId} (hl : laidOutB P = true) (hr : ∀ t ∈ f.params.toList, P.readableRec t = true ∧ t < P.types.size)
    (hb : P.underlying tb = some .bool) (hres : f.resultTypes = #[tb]) (hv : s.vars = []) {W W' : World} {args : Array Value} {ds gs : List (DataW H)} {before : List MemPlace}
    (hs : s.fn H ds = { results := [.lit (.bool true)], args := ds }) (hW : DataW.Whole enc P f.params.toList s.vars false W args.toList ds gs before) (hB : Below W.heap.size W W') :
    s.post enc P f false true false false W args (.bool true) W' := by
  have hlt := hW.lt
  have hW0 := hW
  obtain ⟨p, q, hA, hV, rfl, _, _⟩ := hW0
  rw [hv] at hV
  obtain ⟨rfl, rfl⟩ := trodVars_none hV
  refine ⟨ds, [], p ++ [], [], p, [], hW, ?_, ?_, ?_, hB.frame _, fun h => by cases h⟩
  · rw [List.append_nil, hs, hres]
    exact trodAll_mk1 (shut_bool hb true)
  · rw [List.append_nil, hs]
    exact trodAll_below hl hB _ _ _ _ hr hA fun x hx => hlt x (by simpa using hx)
  · rw [hv, List.append_nil, hs]; exact rfl

/-- what reads aS data at type t reads by E -/
def Reads (P : Program) {α : Type} (E : Elem α) (t : TypeId) : Prop :=
  ∀ {H : Type} {enc : TypeId × Value → H} {w : World} {fuel : Nat} {cs : List Value} {x : DataW H × List MemPlace}, DataW.trod enc P w 0 (fun _ => true) true fuel t cs = some x → ∃ y F, E.rep w cs y F

section
variable {P : Program}
theorem reads_int {t : TypeId} (ht : P.underlying t = some (.int .i64)) : Reads P EInt t := fun h => by
  obtain ⟨n, rfl, _, _⟩ := DataW.trod_int ht h; exact ⟨n, [], rfl, rfl⟩
theorem reads_str {t : TypeId} (ht : P.underlying t = some .string) : Reads P EStr t := fun h => by
  obtain ⟨s, rfl, _, hs⟩ := DataW.trod_string ht h; exact ⟨s, [], rfl, hs, rfl⟩
theorem reads_bool {t : TypeId} (ht : P.underlying t = some .bool) : Reads P EBool t := fun {_ _ _ fuel _ _} h => by
  cases fuel with
  | zero => simp [DataW.trod] at h
  | succ n =>
    unfold DataW.trod at h
    rw [ht] at h
    split at h <;> simp_all
    all_goals simp [EBool]
theorem reads_cells {α : Type} {E : Elem α} {e : TypeId} (hsz : P.cellsOf e = E.sz) (he : Reads P E e) {H : Type} {enc : TypeId × Value → H} {w : World} {n b off : Nat} :
    ∀ (els : List (DataW H × List MemPlace)) (k : Nat), (∀ i, i < els.length → (w.cells? 0 ((⟨b, off, none⟩ : Addr).add ((k + i) * P.cellsOf e)) (P.cellsOf e)).bind (DataW.trod enc P w 0 (fun _ => true) true n e) = els[i]?) →
      ∃ ys F, ys.length = els.length ∧ Cells E w b (off + k * E.sz) ys F
  | [], _, _ => ⟨[], [], rfl, rfl⟩
  | x :: r, k, h => by
    have h0 := h 0 (by simp)
    simp only [Nat.add_zero, List.getElem?_cons_zero, Option.bind_eq_some_iff] at h0
    obtain ⟨cs, hc, hx⟩ := h0
    obtain ⟨y, F1, hy⟩ := he hx
    obtain ⟨ys, F2, hl, hys⟩ := reads_cells hsz he r (k + 1) fun i hi => by
      have := h (i + 1) (by simpa using hi)
      rw [show k + 1 + i = k + (i + 1) by omega]
      simpa using this
    refine ⟨y :: ys, F1 ++ F2, by simp [hl], cs, F1, F2, rfl, hy, fun j hj => ?_, by rwa [show off + k * E.sz + E.sz = off + (k + 1) * E.sz by rw [Nat.add_mul]; omega]⟩
    obtain ⟨_, hlen, hcell⟩ := World.cells?_some hc
    rw [← hcell j (by rw [hsz]; exact hj)]
    congr 1
    simp only [Addr.add, hsz]
    split <;> split <;> simp_all <;> omega
theorem reads_slice {α : Type} {E : Elem α} {t e : TypeId} (ht : P.underlying t = some (.slice e)) (hsz : P.cellsOf e = E.sz) (hz : 0 < E.sz) (he : Reads P E e) : Reads P (ESl E hz) t := fun h => by
  rcases DataW.trod_slice ht h with ⟨rfl, _⟩ | ⟨a, len, cap, elems, rest, n, rfl, rfl, _, _, hlc, hcm, hlen, hel, _, _⟩
  · exact ⟨[], [], _, rfl, none, 0, rfl, ⟨by simp, by simp⟩, .inl ⟨rfl, rfl, fun _ => rfl⟩⟩
  · by_cases h0 : len = 0
    · subst h0
      exact ⟨[], [], _, rfl, some a, cap, rfl, ⟨by simp, by omega⟩, .inl ⟨rfl, rfl, fun e => by cases e⟩⟩
    · have hs : a = ⟨a.block, a.off, none⟩ := by
        have := hel 0 (by omega)
        rw [List.getElem?_eq_getElem (by omega)] at this
        simp only [Option.bind_eq_some_iff] at this
        obtain ⟨cs, hc, _⟩ := this
        obtain ⟨_, hl2, hcell⟩ := World.cells?_some hc
        have h1 := hcell 0 (by omega)
        rw [List.getElem?_eq_getElem (by omega)] at h1
        simp [Addr.add, World.cell?] at h1
        split at h1 <;> simp_all
        cases a; simp_all
      obtain ⟨ys, F, hyl, hys⟩ := reads_cells hsz he elems 0 (n := n) (b := a.block) (off := a.off) (enc := _) (w := _) (by
        rw [← hs]; intro i hi; rw [Nat.zero_add]; exact hel i (by omega))
      refine ⟨ys, a.block :: F, _, rfl, some a, cap, by rw [hyl, hlen], ⟨by omega, by omega⟩, .inr ⟨a.block, a.off, F, by rw [← hs], ?_, rfl, by simpa using hys⟩⟩
      intro e; rw [e] at hyl; simp at hyl; omega
end

/-- the fields of a struct, one behind the other, each by its own reading -/
inductive FieldsOk (P : Program) : List Field → Nat → (α : Type) → Elem α → Prop
  | nil (off : Nat) : FieldsOk P [] off Unit EUnit
  | cons {f : Field} {r : List Field} {off : Nat} {α β : Type} {A : Elem α} {B : Elem β} (ho : f.offset = off) (hc : P.cellsOf f.type = A.sz) (hA : Reads P A f.type) (h : FieldsOk P r (off + A.sz) β B) : FieldsOk P (f :: r) off (α × β) (EProd A B)
theorem fields_read {P : Program} {H : Type} {enc : TypeId × Value → H} {w : World} {n : Nat} {cs : List Value} {fs : List Field} {off : Nat} {α : Type} {E : Elem α} (h : FieldsOk P fs off α E) :
    (∀ f ∈ fs, ∃ x, DataW.trod enc P w 0 (fun _ => true) true n f.type ((cs.drop f.offset).take (P.cellsOf f.type)) = some x) → off + E.sz = cs.length → ∃ y F, E.rep w (cs.drop off) y F := by
  induction h with
  | nil off => intro _ hl; exact ⟨(), [], List.drop_of_length_le (by simp [EUnit] at hl; omega), rfl⟩
  | @cons f r off α β A B ho hc hA _ ih =>
    intro hf hl
    obtain ⟨x, hx⟩ := hf f (by simp)
    obtain ⟨y, F1, hy⟩ := hA hx
    obtain ⟨y2, F2, hy2⟩ := ih (fun f h => hf f (by simp [h])) (by simp only [EProd] at hl; omega)
    subst ho
    exact ⟨(y, y2), F1 ++ F2, _, _, F1, F2, by rw [hc, ← List.drop_drop, List.take_append_drop], rfl, hy, hy2⟩
theorem reads_struct {P : Program} {t : TypeId} {fs : Array Field} {α : Type} {E : Elem α} (ht : P.underlying t = some (.struct fs)) (hC : P.cellsOf t = E.sz) (h : FieldsOk P fs.toList 0 α E) : Reads P E t := fun hh => by
  obtain ⟨xs, n, rfl, _, hcl, hxl, hx⟩ := DataW.trod_struct ht hh
  have := fields_read (enc := _) (w := _) (n := n) h (fun f hf => by
    obtain ⟨i, hi, rfl⟩ := List.getElem_of_mem hf
    have := hx i fs.toList[i] (by simp)
    rw [List.getElem?_eq_getElem (by simpa [hxl] using hi)] at this
    exact ⟨_, this⟩) (by rw [hcl, hC]; simp)
  simpa using this
end Go.Proofs.YtgogcgkocjpgoaaGreatDoor
/- '[]byte' of a string, a byte stored, and back. -/
namespace Go.Proofs.YtgogcgkocjpgoaaGreatDoor
open Go.RowKit
/-- a byte aS data -/
def EByte : Elem Int where
  sz := 1
  rep _ cs z F := cs = [.int .u8 z] ∧ 0 ≤ z ∧ z ≤ 255 ∧ F = []
  len h := by simp [h.1]
  lt h := by simp [h.2.2.2]
  frame h _ := h
/-- the bytes of l lie in block g -/
def ByteRow (w : World) (g : Nat) (l : List UInt8) : Prop :=
  g < w.heap.size ∧ ∀ j (hj : j < l.length), w.cell? ⟨g, j, none⟩ = some (.int .u8 (l[j].toNat : Int)) ∧ w.frozen? ⟨g, j, none⟩ = false
theorem ByteRow.below {w w' g l} (h : ByteRow w g l) (hb : Below w.heap.size w w') : ByteRow w' g l :=
  ⟨Nat.lt_of_lt_of_le h.1 hb.size, fun j hj => ⟨(hb.cell (p := ⟨g, j, none⟩) h.1).trans (h.2 j hj).1, (hb.frozen (p := ⟨g, j, none⟩) h.1).trans (h.2 j hj).2⟩⟩
end Go.Proofs.YtgogcgkocjpgoaaGreatDoor
/- Walks: the reference's draws: a cursor over bytes. -/
namespace Go.Proofs.YtgogcgkocjpgoaaGreatDoor
open Go.RowKit
section
variable {P : Program} {ops : Array Oper} {Q : Exit → Act → World → Prop} {md : Region.Mode} {S : World → Prop} {X : Nat → Bool}
end
/-- the bytes that a cursor reads -/
structure CuF where
  code : List Int
  a : Option Addr
  c : Nat
  bs : List Nat
/-- the cursor lies in block g; its bytes in F, below it; it has moved at most B steps -/
def Cur (B : Nat) (w : World) (g : Nat) (F : CuF) : Prop :=
  ∃ (k : Nat) (seed : Int), Row w g 123 [.slice F.a F.code.length F.c, .int .i64 k, .int .u64 seed] ∧ Sl EByte w (.slice F.a F.code.length F.c) F.code F.bs ∧ g ∉ F.bs ∧ k ≤ B ∧ 0 ≤ seed ∧ seed < 18446744073709551616
theorem Cur.below {B w w' g F} (h : Cur B w g F) (hb : Below w.heap.size w w') : Cur B w' g F := by
  obtain ⟨k, seed, R, S, hF, h3⟩ := h
  exact ⟨k, seed, R.below hb, S.below (by decide) hb, hF, h3⟩
theorem Cur.mono {B B' w g F} (h : Cur B w g F) (hb : B ≤ B') : Cur B' w g F := by
  obtain ⟨k, seed, R, S, hF, h3, h4⟩ := h
  exact ⟨k, seed, R, S, hF, by omega, h4⟩
end Go.Proofs.YtgogcgkocjpgoaaGreatDoor
/- Regions that draw: pure operations that may stand behind a store. -/
namespace Go.Proofs.YtgogcgkocjpgoaaGreatDoor
open Go.RowKit
section
variable {c : Cx} {fr : Fr} {H H0 : List Pc} {k : List It} {X : List Nat} {ops : Array Oper} {f : Nat} {listed : Array Bool} {d : Nat} {o : Op} {ty : TypeId} {pos : String} {aft : Array Edge} {v : Value}
end
end Go.Proofs.YtgogcgkocjpgoaaGreatDoor
/- What the walks of the exact laws need: structs by their cells as wholes, contracts of made values, marks. -/
namespace Go.Proofs.YtgogcgkocjpgoaaGreatDoor
open Go.RowKit
section
variable {c : Cx} {fr : Fr} {H H0 : List Pc} {k : List It} {Φ : Gl} {X : List Nat} {ops : Array Oper} {f : Nat} {listed : Array Bool} {d : Nat} {o : Op} {ty : TypeId} {v u : Value} {x y : Operand}
theorem t_weakV {α : Type} {O R : Elem α} (hW : Weak O R) {v : Value} {x : α} {F : List Nat} {S : List Pc} (h : ∀ F', T c fr (.isv R v x F' :: S) Φ) (hp : Pick H (.own O v x F) S := by (repeat (first | exact .here | apply Pick.there)); first | done | fail) : T c fr H Φ := .mk fun a w s g => by
  have s1 := s.pick hp
  obtain ⟨-, ho⟩ := s1.on (.own O v x F) (by simp)
  obtain ⟨F', hF, hs⟩ := IsV.weak hW ho
  exact (h F').h a w (s1.conv rfl hs hF) g
theorem t_weakL {α : Type} {O R : Elem α} (hW : Weak O R) {t : TypeId} {v : Value} {xs : List α} {F : List Nat} {S : List Pc} (h : ∀ F', T c fr (.sl R v xs F' :: S) Φ) (hp : Pick H (.ow O t v xs F) S := by (repeat (first | exact .here | apply Pick.there)); first | done | fail) (hz : 0 < R.sz := by decide) : T c fr H Φ := .mk fun a w s g => by
  have s1 := s.pick hp
  obtain ⟨-, ho⟩ := s1.on (.ow O t v xs F) (by simp)
  obtain ⟨F', hF, hs⟩ := ho.sl hW
  exact (h F').h a w (s1.conv rfl ⟨hz, hs⟩ hF) g
/-- a struct's value is its cells -/
theorem t_aggI {α : Type} {E : Elem α} {v : Value} {x : α} {F : List Nat} (one : One E) (h : ∀ cs : List Value, v = .agg cs.toArray → cs.length = E.sz → cs.all (·.oneCell') = true → T c fr H Φ) (hm : .isv E v x F ∈ H := by (repeat (first | exact .head _ | apply List.Mem.tail)); first | done | fail) : T c fr H Φ := .mk fun a w s g => by
  obtain ⟨cs, hv, hx⟩ := s.get hm
  exact (h cs hv (E.len hx) (List.all_eq_true.2 fun u hu => one hx u hu)).h a w s g
theorem t_aggO {α : Type} {E : Elem α} {v : Value} {x : α} {F : List Nat} (one : One E) (h : ∀ cs : List Value, v = .agg cs.toArray → cs.length = E.sz → cs.all (·.oneCell') = true → T c fr H Φ) (hm : .own E v x F ∈ H := by (repeat (first | exact .head _ | apply List.Mem.tail)); first | done | fail) : T c fr H Φ := .mk fun a w s g => by
  obtain ⟨-, cs, hv, hx⟩ := s.get hm
  exact (h cs hv (E.len hx) (List.all_eq_true.2 fun u hu => one hx u hu)).h a w s g
theorem Put.all : ∀ {zs l : List Value}, zs.length = l.length → Put zs 0 l l
  | [], [], _ => .zero
  | [], _ :: _, h => by simp at h
  | _ :: _, [], h => by simp at h
  | _ :: zs, _ :: l, h => .one (Put.all (by simpa using h))
/-- all of a box -/
theorem yd_ldw {P : Program} {n : Nat} {H : List Pc} {t g o tt m : Nat} {A cs B : List Value} [AggC P t m] (hx : ev fr x = some (ptr g o 0)) (hm : Pc.row g tt o A cs B ∈ H) (hl : cs.length = m) : Yd P n fr H (.load t x) ty (.agg cs.toArray) := yd_lda hx hm (hl ▸ Cut.whole cs)
/-- a call that makes values -/
theorem cm {f : Nat} {vs : List Value} {σ : Type} {C : σ → Prop} {vv : σ → Value} {N : σ → List Pc} (hc : ∀ w, St c.G c.D c.w0 H w → Calls c.P f vs.toArray w fun e w' => ∃ s, C s ∧ e = .returned (vv s) ∧ Hol (N s) w' ∧ (fp (N s)).Nodup ∧ (∀ b ∈ fp (N s), w.heap.size ≤ b) ∧ Below w.heap.size w w')
    (h : ∀ s, C s → T c ((d, vv s) :: fr) (N s ++ H) Φ) : Cl c fr H d f vs Φ :=
  cl_of hc (fun w e w' s hR => by
    obtain ⟨z, hz, he, hN, hn, hF, hB⟩ := hR
    have sep : ∀ {N : List Pc}, (fp N).Nodup → Sep N := by
      intro N
      induction N with
      | nil => intro _; trivial
      | cons p N ih =>
        intro h
        rw [fp, List.nodup_append] at h
        exact ⟨fun q hq _ b hb hq2 => h.2.2 b hb b (mem_fp.2 ⟨q, hq, hq2⟩) rfl, ih h.2.1⟩
    exact ⟨_, he, fun ac g => (h z hz).h ac w' (s.add (N := N z) hB hN (sep hn) (fun p hp b hb => .inl (hF b (mem_fp.2 ⟨p, hp, hb⟩)))) g⟩)
theorem d_startA {id : Nat} {l : List Oper} (X : List Nat) (h : T c fr H (.dx k H X l.toArray l.length (Array.replicate l.length false))) (hm : c.P.follows .mixedOrders = true := by kernel_rfl) : T c fr H (.code k (Code.region id l.toArray true)) := .mk fun a w s g => by
  refine AnyX.start (S := Hol H) (X := fun i => X.contains i) hm ?_
  have := h.h a w.drew (s.below (belowDrewN (Below.refl _ _) 1)) g
  simpa [Gl.sem] using this
/-- what is behind a box that is stored into -/
theorem o_stw {t g tt m : Nat} {cs l : List Value} {S : List Pc} (hx : ev fr x = some (ptr g 0 0)) (hy : ev fr y = some (.agg l.toArray)) (hs : (c.P.info? t).map (·.size) = some m) (hr : Rpl H (.row g tt 0 [] cs []) (.row g tt 0 [] l []) S) (hl : l.length = m) (hc : cs.length = m) (h1 : l.all (·.oneCell') = true) (h : T c fr S Φ) : On c fr H none (.store t x y) ty Φ :=
  o_st hx hy rfl hs hl hr (Put.all (by omega)) h1 h
end
/-! contracts, with what they ask read off pieces -/
theorem ex1 {α : Type} {A : α → Prop} {C : Prop} (f : ∀ a, A a → C) : (∃ a, A a) → C := fun ⟨a, h⟩ => f a h
theorem ex2 {α β : Type} {A : α → Prop} {B : β → Prop} {C : Prop} (f : ∀ a b, A a → B b → C) : (∃ a, A a) → (∃ b, B b) → C := fun ⟨a, h⟩ ⟨b, h2⟩ => f a b h h2
section
variable {G D : List Nat} {w0 w : World} {H : List Pc}
theorem St.rI {α : Type} {E : Elem α} {v : Value} {x : α} {F : List Nat} (s : St G D w0 H w) (hm : .isv E v x F ∈ H := by (repeat (first | exact .head _ | apply List.Mem.tail)); first | done | fail) : ∃ F', IsV E w v x F' := ⟨F, s.get hm⟩
theorem St.rO {α : Type} {O R : Elem α} (hW : Weak O R) {v : Value} {x : α} {F : List Nat} (s : St G D w0 H w) (hm : .own O v x F ∈ H := by (repeat (first | exact .head _ | apply List.Mem.tail)); first | done | fail) : ∃ F', IsV R w v x F' := by
  obtain ⟨-, ho⟩ := s.get hm
  obtain ⟨F', -, h⟩ := IsV.weak hW ho
  exact ⟨F', h⟩
theorem St.rS {α : Type} {E : Elem α} {v : Value} {xs : List α} {F : List Nat} (s : St G D w0 H w) (hm : .sl E v xs F ∈ H := by (repeat (first | exact .head _ | apply List.Mem.tail)); first | done | fail) : ∃ F', Sl E w v xs F' := ⟨F, (s.get hm).2⟩
theorem St.rL {α : Type} {O R : Elem α} (hW : Weak O R) {t : TypeId} {v : Value} {xs : List α} {F : List Nat} (s : St G D w0 H w) (hm : .ow O t v xs F ∈ H := by (repeat (first | exact .head _ | apply List.Mem.tail)); first | done | fail) : ∃ F', Sl R w v xs F' := by
  obtain ⟨-, ho⟩ := s.get hm
  obtain ⟨F', -, h⟩ := ho.sl hW
  exact ⟨F', h⟩
end
theorem fn_markV {P : Program} {α : Type} {O : Elem α} {f : FuncId} {v : Value} {x x' : α} {F : List Nat} {k m : Int} (h : ∀ w, IsV O w v x F → F.Nodup → Calls P f #[v, .int .i64 k] w (RetMarkV O v m x' F w)) : Fn P f [v, .int .i64 k] [] [.own O v x F] (fun (_ : Unit) => True) (fun _ => .int .i64 m) (fun _ => [.own O v x' F]) := fun w hH _ => by
  obtain ⟨hn, ho⟩ := hH (.own O v x F) (by simp)
  refine (h w ho hn).mono ?_
  rintro e w' ⟨he, h1, h2⟩
  refine ⟨(), trivial, he, hol1 ⟨hn, h1⟩, ⟨by simp, trivial⟩, by simpa [fp, Pc.F] using h2, fun p hp b hb => ?_⟩
  rw [List.mem_singleton] at hp; subst hp
  exact .inr (.inl ⟨_, List.mem_singleton.2 rfl, hb⟩)
theorem fn_markL {P : Program} {α : Type} {O : Elem α} {t : TypeId} {f : FuncId} {v : Value} {x x' : List α} {F : List Nat} {k m : Int} (h : ∀ w, Ow O t w v x F → F.Nodup → Calls P f #[v, .int .i64 k] w (RetMark O t v m x' F w)) : Fn P f [v, .int .i64 k] [] [.ow O t v x F] (fun (_ : Unit) => True) (fun _ => .int .i64 m) (fun _ => [.ow O t v x' F]) := fun w hH _ => by
  obtain ⟨hn, ho⟩ := hH (.ow O t v x F) (by simp)
  refine (h w ho hn).mono ?_
  rintro e w' ⟨he, h1, h2⟩
  refine ⟨(), trivial, he, hol1 ⟨hn, h1⟩, ⟨by simp, trivial⟩, by simpa [fp, Pc.F] using h2, fun p hp b hb => ?_⟩
  rw [List.mem_singleton] at hp; subst hp
  exact .inr (.inl ⟨_, List.mem_singleton.2 rfl, hb⟩)
end Go.Proofs.YtgogcgkocjpgoaaGreatDoor
/- The steps of the exact laws' walks, as one word. -/
namespace Go.Proofs.YtgogcgkocjpgoaaGreatDoor
open Go.RowKit
/-- the steps of an exact law -/
theorem goL {X : Prop} {c : Cx} {fr : Fr} {H : List Pc} {Φ : Gl} (h : X) (hs : Kp X → T c fr H Φ := by intro hX; (repeat (first | apply c_seq | apply c_reg | (apply wO; apply oc; rfl; exact ydE) | (apply wO; apply oc; rfl; apply yd_ldw; rfl; exact memE; assumption) | apply w_nil | apply n_cd | (apply wg_t; rfl; rfl) | (apply wg_f; rfl; rfl; rfl; rfl) | (apply wg_u; rfl; rfl; rfl) | (apply c_t; rfl) | (apply c_f; rfl) | apply c_skip | apply c_block | apply n_blk | apply c_exit | apply e_hit | apply e_cd | apply e_lp | (apply e_miss; rfl) | apply c_ret | (apply wO; apply o_boxX; rfl; rfl; rfl; exact hX; clear hX; intro _ hX) | (apply wO; apply o_allocX; rfl; exact hX; clear hX; intro _ hX) | (apply wO; apply o_st; rfl; rfl; rfl; (first | exact AggC.s | exact OneC.s); rfl; exact rplE; exact putE; rfl) | (apply wO; apply o_stw; rfl; rfl; exact AggC.s; exact rplE; assumption; rfl; assumption) | (apply wO; apply o_call; rfl; kernel_rfl; exact evsE) | (refine c_if rfl (fun h => absurd h (by first | omega | simp)) (fun h => ?_); clear h) | (refine wg_if rfl rfl (fun h => absurd h (by first | omega | simp)) (fun h => ?_); clear h))); exact hX.h) : T c fr H Φ := hs ⟨h⟩
end Go.Proofs.YtgogcgkocjpgoaaGreatDoor
/- The walk of the law FnExactTickReceiver. Written by wip/genlaw2.py. -/
namespace Go.Proofs.YtgogcgkocjpgoaaGreatDoor
open Go.RowKit
structure JTickReceiver where
  g0 : Nat
  L0 : List Value
  F0 : List Nat
  u1 : Value
  F1 : List Nat
  u2 : Value
  F2 : List Nat
set_option maxHeartbeats 4000000 in
set_option maxRecDepth 100000 in
theorem law_TickReceiver_f (v0 : Value) (x0 : Receiver) (F0 : List Nat) (x1 : Int) : Fn Tryz.prog 4 [v0, .int .i64 x1] [.isv EReceiver v0 x0 F0] [] (fun (_ : Unit) => True) (fun _ => .bool true) (fun _ => []) := by
  refine enter Tryz.func4 rfl Tryz.ntmps4 fun w0 => ?_
  refine t_aggI (E := EReceiver) (v := v0) (x := x0) (F := F0) one_EReceiver ?_
  rintro ca0 rfl hla0 hoa0
  have hI := fun V0 F0 => TickReceiver_f x0 x1 V0 F0
  have hS := fun V0 F0 => specTickReceiver_f x0 x1 V0 F0
  have hV := resTickReceiver_cv x0 x1
  obtain ⟨r0, r1, r2, r3, er⟩ : ∃ r0 r1 r2 r3, resTickReceiver x0 x1 = (r0, r1, r2, r3) := ⟨_, _, _, _, rfl⟩
  rw [er] at hI hS hV
  dsimp only at hI hS hV
  refine goL ?_; intros
  refine cb (fun w st => ex1 (fun F h => szReceiver_c _ x0 F (1048576) w h (by omega) (by omega)) st.rI) ?_
  rcases szr_or (1048576) (wtReceiver x0) with ⟨e1, l1⟩ | ⟨e1, l1⟩
  · rw [e1]
    refine goL ?_; intros
    refine ret () trivial rfl
  rw [e1]
  clear e1
  have hw0 : wtReceiver x0 ≤ 1048576 := by omega
  have hc0 := cvReceiver_wt x0 hw0
  obtain ⟨hV0, hV1, hV2⟩ := hV hw0
  refine goL ?_; intros
  refine cv (fun w st => ex1 (fun F h => toReceiver_c _ x0 F w h hw0) st.rI) fun y0 K0 => ?_
  refine t_weakV weak_Receiver fun K0 => ?_
  refine goL ?_; intros
  refine cf (hS _ _) fun z hz => ?_
  refine t_app ?_
  refine t_weakL (Weak.refl _) (xs := r1) fun Z1 => ?_
  refine t_weakL (Weak.refl _) (xs := r2) fun Z2 => ?_
  refine goL ?_; intros
  refine cv (fun w st => ex1 (fun F h => toReceiver_c _ x0 F w h hw0) st.rI) fun yv0 KX0 => ?_
  refine t_aggO (E := OReceiver) (x := x0) (F := KX0) one_OReceiver ?_
  rintro cx0 rfl hlx0 hox0
  refine goL ?_; intros
  refine cm (fun w st => ex1 (fun F h => (hI _ F).made w (hol1 h) (fun _ => rfl)) (st.rO weak_Receiver)) fun z hz => ?_
  refine t_app ?_
  refine goL ?_; intros
  refine cb (fun w st => ex2 (fun Fa Fb ha hb => eqReceiver_c _ _ r0 Fa Fb w ha hb) (st.rO weak_Receiver) st.rI) ?_
  refine goL ?_; intros
  refine cb (fun w st => ex2 (fun Fa Fb ha hb => eqPacketS_c _ _ r1 Fa Fb w ha hb) (st.rL ((Weak.refl _))) st.rS) ?_
  refine goL ?_; intros
  refine cb (fun w st => ex2 (fun Fa Fb ha hb => eqStringS_c _ _ r2 Fa Fb w ha hb) (st.rL ((Weak.refl _))) st.rS) ?_
  refine goL ?_; intros
  refine d_startA [] ?_
  refine dt 0 ?_ (hy := (by first | exact ydE | exact yd_ldw rfl (by exact memE) (by assumption)))
  refine dt 1 ?_ (hy := (by first | exact ydE | exact yd_ldw rfl (by exact memE) (by assumption)))
  refine dO 2 (by kernel_rfl) (by rw [List.getElem?_toArray]; rfl) ?_
  apply o_call; rfl; kernel_rfl; exact evsE
  refine cv (fun w st => ex1 (fun F h => toReceiver_c _ x0 F w h hw0) st.rI) fun y0 K0 => ?_
  refine t_weakV weak_Receiver fun K0 => ?_
  refine dk ?_
  refine dO 3 (by kernel_rfl) (by rw [List.getElem?_toArray]; rfl) ?_
  apply o_call; rfl; kernel_rfl; exact evsE
  refine cb (fun w st => ex2 (fun Fa Fb ha hb => eqReceiver_c _ _ x0 Fa Fb w ha hb) (st.rO weak_Receiver) st.rI) ?_
  refine dk ?_
  refine dt 4 ?_
  refine dd ?_
  refine goL ?_; intros
  refine cf (fn_markV (fun w h hn => markReceiver_c _ x0 _ (1) w h hn (by omega) (by omega))) fun _ _ => ?_
  refine t_app ?_
  refine goL ?_; intros
  refine cb (fun w st => ex2 (fun Fa Fb ha hb => eqReceiver_c _ _ r0 Fa Fb w ha hb) (st.rO weak_Receiver) st.rI) ?_
  refine goL ?_; intros
  refine cb (fun w st => ex2 (fun Fa Fb ha hb => eqPacketS_c _ _ r1 Fa Fb w ha hb) (st.rL ((Weak.refl _))) st.rS) ?_
  refine goL ?_; intros
  refine cb (fun w st => ex2 (fun Fa Fb ha hb => eqStringS_c _ _ r2 Fa Fb w ha hb) (st.rL ((Weak.refl _))) st.rS) ?_
  refine goL ?_; intros
  refine cf (fn_markV (fun w h hn => markReceiver_c _ r0 _ (1) w h hn (by omega) (by omega))) fun _ _ => ?_
  refine t_app ?_
  refine goL ?_; intros
  refine cf (fn_markL (fun w h hn => markPacketS_c _ r1 _ (1 + cvReceiver r0) w h hn (by omega) (by omega))) fun _ _ => ?_
  refine t_app ?_
  refine goL ?_; intros
  refine cf (fn_markL (fun w h hn => markStringS_c _ r2 _ (1 + cvReceiver r0 + cntL cntPacket r1) w h hn (by omega) (by omega))) fun _ _ => ?_
  refine t_app ?_
  refine goL ?_; intros
  refine cb (fun w st => ex1 (fun F h => heldReceiver_c _ r0 F (1) w h (by omega) (by omega)) (st.rO weak_Receiver)) ?_
  refine goL ?_; intros
  refine cb (fun w st => ex1 (fun F h => heldPacketS_c _ r1 F (1 + cvReceiver r0) w h (by omega) (by omega)) (st.rL ((Weak.refl _)))) ?_
  refine goL ?_; intros
  refine cb (fun w st => ex1 (fun F h => heldStringS_c _ r2 F (1 + cvReceiver r0 + cntL cntPacket r1) w h (by omega) (by omega)) (st.rL ((Weak.refl _)))) ?_
  refine goL ?_; intros
  refine cv (fun w st => ex1 (fun F h => toReceiver_c _ x0 F w h hw0) st.rI) fun y0 K0 => ?_
  refine t_weakV weak_Receiver fun K0 => ?_
  refine goL ?_; intros
  refine cm (fun w st => ex1 (fun F h => (hI _ F).made w (hol1 h) (fun _ => rfl)) (st.rI)) fun z hz => ?_
  refine t_app ?_
  refine goL ?_; intros
  refine cb (fun w st => ex2 (fun Fa Fb ha hb => eqReceiver_c _ _ r0 Fa Fb w ha hb) (st.rO weak_Receiver) st.rI) ?_
  refine goL ?_; intros
  refine cb (fun w st => ex2 (fun Fa Fb ha hb => eqPacketS_c _ _ r1 Fa Fb w ha hb) (st.rL ((Weak.refl _))) st.rS) ?_
  refine goL ?_; intros
  refine cb (fun w st => ex2 (fun Fa Fb ha hb => eqStringS_c _ _ r2 Fa Fb w ha hb) (st.rL ((Weak.refl _))) st.rS) ?_
  refine goL ?_; intros
  refine cb (fun w st => ex1 (fun F h => heldReceiver_c _ r0 F (1) w h (by omega) (by omega)) (st.rO weak_Receiver)) ?_
  refine goL ?_; intros
  refine cb (fun w st => ex1 (fun F h => heldPacketS_c _ r1 F (1 + cvReceiver r0) w h (by omega) (by omega)) (st.rL ((Weak.refl _)))) ?_
  refine goL ?_; intros
  refine cb (fun w st => ex1 (fun F h => heldStringS_c _ r2 F (1 + cvReceiver r0 + cntL cntPacket r1) w h (by omega) (by omega)) (st.rL ((Weak.refl _)))) ?_
  refine goL ?_; intros
  refine ret () trivial rfl
theorem law_TickReceiver (v0 : Value) (x0 : Receiver) (F0 : List Nat) (x1 : Int) (w : World) (h0 : IsV EReceiver w v0 x0 F0) :
    Calls Tryz.prog 4 #[v0, .int .i64 x1] w fun e' w' => e' = .returned (.bool true) ∧ Below w.heap.size w w' := (law_TickReceiver_f v0 x0 F0 x1).val w (hol1 (h0))
end Go.Proofs.YtgogcgkocjpgoaaGreatDoor
/- The law FnExactTickReceiver, lifted. Written by wip/genlaw.py. -/
namespace Go.Proofs.YtgogcgkocjpgoaaGreatDoor
open Go.RowKit Go.ChangeShapes Go.WideShapes Go.ChangeAt
theorem reads_Slot : Reads Tryz.prog ESlot 234 := fun hh => by
  obtain ⟨y, F, hy⟩ := reads_struct (E := (EProd EBool (EProd EStr EUnit))) Tryz.underlying234 (by kernel_rfl) (.cons rfl (by kernel_rfl) (reads_bool Tryz.underlying4) (.cons rfl (by kernel_rfl) (reads_str Tryz.underlying9) (.nil _))) hh
  obtain ⟨_, _, _, _, rfl, rfl, ⟨rfl, rfl⟩, ⟨_, _, _, _, rfl, rfl, ⟨rfl, s1, rfl⟩, ⟨rfl, rfl⟩⟩⟩ := hy
  exact ⟨⟨y.1, y.2.1⟩, [], rfl, s1, rfl⟩
theorem reads_ReceiveWindow : Reads Tryz.prog EReceiveWindow 39 := fun hh => by
  obtain ⟨y, F, hy⟩ := reads_struct (E := (EProd EInt (EProd (ESl ESlot (by decide)) EUnit))) Tryz.underlying39 (by kernel_rfl) (.cons rfl (by kernel_rfl) (reads_int Tryz.underlying3) (.cons rfl (by kernel_rfl) (reads_slice Tryz.underlying37 (by kernel_rfl) (by decide) reads_Slot) (.nil _))) hh
  obtain ⟨_, _, _, _, rfl, rfl, ⟨rfl, rfl⟩, ⟨_, _, _, _, rfl, rfl, ⟨u1, rfl, hs1⟩, ⟨rfl, rfl⟩⟩⟩ := hy
  exact ⟨⟨y.1, y.2.1⟩, _, u1, rfl, by simpa using hs1⟩
theorem reads_Request : Reads Tryz.prog ERequest 196 := fun hh => by
  obtain ⟨y, F, hy⟩ := reads_struct (E := (EProd EInt (EProd EInt (EProd EInt (EProd EInt EUnit))))) Tryz.underlying196 (by kernel_rfl) (.cons rfl (by kernel_rfl) (reads_int Tryz.underlying3) (.cons rfl (by kernel_rfl) (reads_int Tryz.underlying3) (.cons rfl (by kernel_rfl) (reads_int Tryz.underlying3) (.cons rfl (by kernel_rfl) (reads_int Tryz.underlying3) (.nil _))))) hh
  obtain ⟨_, _, _, _, rfl, rfl, ⟨rfl, rfl⟩, ⟨_, _, _, _, rfl, rfl, ⟨rfl, rfl⟩, ⟨_, _, _, _, rfl, rfl, ⟨rfl, rfl⟩, ⟨_, _, _, _, rfl, rfl, ⟨rfl, rfl⟩, ⟨rfl, rfl⟩⟩⟩⟩⟩ := hy
  exact ⟨⟨y.1, y.2.1, y.2.2.1, y.2.2.2.1⟩, [], rfl, rfl⟩
theorem reads_Receiver : Reads Tryz.prog EReceiver 42 := fun hh => by
  obtain ⟨y, F, hy⟩ := reads_struct (E := (EProd EBool (EProd EInt (EProd EReceiveWindow (EProd (ESl ERequest (by decide)) EUnit))))) Tryz.underlying42 (by kernel_rfl) (.cons rfl (by kernel_rfl) (reads_bool Tryz.underlying4) (.cons rfl (by kernel_rfl) (reads_int Tryz.underlying3) (.cons rfl (by kernel_rfl) reads_ReceiveWindow (.cons rfl (by kernel_rfl) (reads_slice Tryz.underlying40 (by kernel_rfl) (by decide) reads_Request) (.nil _))))) hh
  obtain ⟨_, _, _, _, rfl, rfl, ⟨rfl, rfl⟩, ⟨_, _, _, _, rfl, rfl, ⟨rfl, rfl⟩, ⟨_, _, _, _, rfl, rfl, ⟨u2_0, rfl, hs2_0⟩, ⟨_, _, _, _, rfl, rfl, ⟨u3, rfl, hs3⟩, ⟨rfl, rfl⟩⟩⟩⟩⟩ := hy
  exact ⟨⟨y.1, y.2.1, y.2.2.1, y.2.2.2.1⟩, _, u2_0, u3, _, _, rfl, hs2_0, hs3, rfl⟩
set_option maxRecDepth 100000 in
theorem lifted_TickReceiver (os : Os) (started : os.Started) (H : Type) (enc : TypeId × Value → H) :
    ReturnsInHanded {} Tryz.checked os 4 .any (fun w args => (Rows.fnExactTickReceiverSpec.pre enc Tryz.prog Tryz.f4 Rows.fnExactTickReceiverRow.domain false w args ∧ laidMetH Tryz.prog Rows.fnExactTickReceiverRow.laid w) ∧ sizedMet enc Tryz.prog Tryz.f4 (OpenSpec.ofChange Rows.fnExactTickReceiverSpec) false w args)
      (Rows.fnExactTickReceiverSpec.post enc Tryz.prog Tryz.f4 false true false false) := by
  refine returnsInHanded_of_change_and (C := Tryz.checked) (X := fun w _ => laidMetH Tryz.prog Rows.fnExactTickReceiverRow.laid w) (fun _ _ _ hh h => h.of_heap hh) (by kernel_rfl) started (by kernel_rfl) Tryz.func4
    (ChangeSpec.witness_shaped (enc := enc) (C := Tryz.checked) (os := os) (X := fun w _ => laidMetH Tryz.prog Rows.fnExactTickReceiverRow.laid w) false (World.laidAll Tryz.prog os Rows.fnExactTickReceiverRow.laid) #[.agg #[.bool false, .int .i64 0, .int .i64 0, .slice none 0 0, .slice none 0 0], .int .i64 0] 8 (World.laidAll_os _ _ _)
      (World.shaped_of_ZipB (by kernel_rfl) (by kernel_rfl)) (by kernel_rfl) (by kernel_rfl) (by kernel_rfl)
      (by rw [MakeChecks.laidMetH_plain _ _ _ (by kernel_rfl)]; exact laidMet_laidAll _ (by kernel_rfl) (by kernel_rfl))) ?_
  intro W base args ds gs before hval0 hW hc_ _ hL _
  have hval : ∀ (j : Nat) t v, Tryz.f4.params[j]? = some t → args[j]? = some v → Value.okWide Tryz.prog W .any base t v := hval0
  have hW' := hW
  obtain ⟨p, q, hA0, hV, rfl, hfz, hnd⟩ := hW
  have hA : DataW.TrodAll enc Tryz.prog W 0 (fun _ => true) true Tryz.f4.params.toList args.toList ds p := hA0
  rw [Tryz.params4] at hA hval
  obtain ⟨v0, v1, d0, d1, p0, p1, rfl, rfl, rfl, h0, h1⟩ := trodAll_two hA
  obtain ⟨cs0, rfl, hsz0⟩ := okWide_struct Tryz.underlying42 (hval 0 42 v0 rfl rfl)
  obtain ⟨fuel0, hf0⟩ := h0
  obtain ⟨x0, F0, hx0⟩ := reads_Receiver hf0
  obtain ⟨c1, rfl⟩ := okWide_int Tryz.underlying3 (hval 1 3 v1 rfl rfl)
  refine (law_TickReceiver _ x0 F0 c1 W ⟨cs0.toList, by simp, by simpa [Value.cells] using hx0⟩).mono fun e W' ⟨he, hB⟩ => ⟨_, he, law_post (tb := 4) (by kernel_rfl) ?_ Tryz.underlying4 (by kernel_rfl) rfl rfl hW' hB⟩
  rw [Tryz.params4]
  intro t ht
  simp only [List.mem_cons, List.not_mem_nil, or_false] at ht
  rcases ht with rfl | rfl <;> exact ⟨by kernel_rfl, of_decide_eq_true (by kernel_rfl)⟩
end Go.Proofs.YtgogcgkocjpgoaaGreatDoor
/- The law FnExactTickReceiver: what is counted of the program, each count by itself. Written by wip/genlaw.py. -/
namespace Go.Proofs.YtgogcgkocjpgoaaGreatDoor
open Go.RowKit Go.ChangeShapes Go.WideShapes Go.ChangeAt
set_option maxRecDepth 100000 in
set_option maxHeartbeats 0 in
theorem jf_TickReceiver : joinedFacts Tryz.prog 4 Tryz.f4 Rows.fnExactTickReceiverSpec Rows.fnExactTickReceiverRow = true := by
  unfold joinedFacts
  simp only [Bool.and_eq_true]
  repeat' refine And.intro ?_ ?_
  all_goals (as_aux_lemma => kernel_rfl)
end Go.Proofs.YtgogcgkocjpgoaaGreatDoor
