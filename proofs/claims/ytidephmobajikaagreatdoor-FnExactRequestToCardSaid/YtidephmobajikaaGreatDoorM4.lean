/- Part 4 of the proof: 1 texts, one behind the other. -/
import Derived.Test.YtidephmobajikaaGreatDoorM3
/- The walk of the law FnExactRequestTo. Written by wip/genlaw2.py. -/
namespace Go.Proofs.YtidephmobajikaaGreatDoor
open Go.RowKit
structure JRequestTo where
  g0 : Nat
  L0 : List Value
  F0 : List Nat
  u1 : Value
  F1 : List Nat
set_option maxHeartbeats 4000000 in
set_option maxRecDepth 100000 in
theorem law_RequestTo_f (v0 : Value) (x0 : Source) (F0 : List Nat) (v1 : Value) (x1 : Packet) (F1 : List Nat) : Fn Tryz.prog 6 [v0, v1] [.isv ESource v0 x0 F0, .isv EPacket v1 x1 F1] [] (fun (_ : Unit) => True) (fun _ => .bool true) (fun _ => []) := by
  refine enter Tryz.func6 rfl Tryz.ntmps6 fun w0 => ?_
  refine t_aggI (E := ESource) (v := v0) (x := x0) (F := F0) one_ESource ?_
  rintro ca0 rfl hla0 hoa0
  refine openPacket (v := v1) (x := x1) (F := F1) ?_
  rintro _ rfl hs1
  have hI := fun V0 F0 => RequestTo_f x0 x1 V0 F0 hs1
  have hS := fun V0 F0 => specRequestTo_f x0 x1 V0 F0 hs1
  have hV := resRequestTo_cv x0 x1
  obtain ⟨r0, r1, r2, er⟩ : ∃ r0 r1 r2, resRequestTo x0 x1 = (r0, r1, r2) := ⟨_, _, _, rfl⟩
  rw [er] at hI hS hV
  dsimp only at hI hS hV
  repeat (first | apply c_seq | apply c_reg | (apply wO; apply oc; rfl; exact ydE) | (apply wO; apply oc; rfl; apply yd_ldw; rfl; exact memE; assumption) | apply w_nil | apply n_cd | (apply wg_t; rfl; rfl) | (apply wg_f; rfl; rfl; rfl; rfl) | (apply wg_u; rfl; rfl; rfl) | (apply c_t; rfl) | (apply c_f; rfl) | apply c_skip | apply c_block | apply n_blk | apply c_exit | apply e_hit | apply e_cd | apply e_lp | (apply e_miss; rfl) | apply c_ret | (apply wO; apply o_box; rfl; rfl; rfl; intro _) | (apply wO; apply o_alloc; rfl; intro _) | (apply wO; apply o_st; rfl; rfl; rfl; (first | exact AggC.s | exact OneC.s); rfl; exact rplE; exact putE; rfl) | (apply wO; apply o_stw; rfl; rfl; exact AggC.s; exact rplE; assumption; rfl; assumption) | (apply wO; apply o_call; rfl; kernel_rfl; exact evsE) | (refine c_if rfl (fun h => absurd h (by first | omega | simp)) (fun h => ?_); clear h) | (refine wg_if rfl rfl (fun h => absurd h (by first | omega | simp)) (fun h => ?_); clear h))
  refine cb (fun w st => ex1 (fun F h => szSource_c _ x0 F (1048576) w h (by omega) (by omega)) st.rI) ?_
  rcases szr_or (1048576) (wtSource x0) with ⟨e1, l1⟩ | ⟨e1, l1⟩
  · rw [e1]
    repeat (first | apply c_seq | apply c_reg | (apply wO; apply oc; rfl; exact ydE) | (apply wO; apply oc; rfl; apply yd_ldw; rfl; exact memE; assumption) | apply w_nil | apply n_cd | (apply wg_t; rfl; rfl) | (apply wg_f; rfl; rfl; rfl; rfl) | (apply wg_u; rfl; rfl; rfl) | (apply c_t; rfl) | (apply c_f; rfl) | apply c_skip | apply c_block | apply n_blk | apply c_exit | apply e_hit | apply e_cd | apply e_lp | (apply e_miss; rfl) | apply c_ret | (apply wO; apply o_box; rfl; rfl; rfl; intro _) | (apply wO; apply o_alloc; rfl; intro _) | (apply wO; apply o_st; rfl; rfl; rfl; (first | exact AggC.s | exact OneC.s); rfl; exact rplE; exact putE; rfl) | (apply wO; apply o_stw; rfl; rfl; exact AggC.s; exact rplE; assumption; rfl; assumption) | (apply wO; apply o_call; rfl; kernel_rfl; exact evsE) | (refine c_if rfl (fun h => absurd h (by first | omega | simp)) (fun h => ?_); clear h) | (refine wg_if rfl rfl (fun h => absurd h (by first | omega | simp)) (fun h => ?_); clear h))
    refine ret () trivial rfl
  rw [e1]
  clear e1
  have hw0 : wtSource x0 ≤ 1048576 := by omega
  repeat (first | apply c_seq | apply c_reg | (apply wO; apply oc; rfl; exact ydE) | (apply wO; apply oc; rfl; apply yd_ldw; rfl; exact memE; assumption) | apply w_nil | apply n_cd | (apply wg_t; rfl; rfl) | (apply wg_f; rfl; rfl; rfl; rfl) | (apply wg_u; rfl; rfl; rfl) | (apply c_t; rfl) | (apply c_f; rfl) | apply c_skip | apply c_block | apply n_blk | apply c_exit | apply e_hit | apply e_cd | apply e_lp | (apply e_miss; rfl) | apply c_ret | (apply wO; apply o_box; rfl; rfl; rfl; intro _) | (apply wO; apply o_alloc; rfl; intro _) | (apply wO; apply o_st; rfl; rfl; rfl; (first | exact AggC.s | exact OneC.s); rfl; exact rplE; exact putE; rfl) | (apply wO; apply o_stw; rfl; rfl; exact AggC.s; exact rplE; assumption; rfl; assumption) | (apply wO; apply o_call; rfl; kernel_rfl; exact evsE) | (refine c_if rfl (fun h => absurd h (by first | omega | simp)) (fun h => ?_); clear h) | (refine wg_if rfl rfl (fun h => absurd h (by first | omega | simp)) (fun h => ?_); clear h))
  repeat (first | apply c_seq | apply c_reg | (apply wO; apply oc; rfl; exact ydE) | (apply wO; apply oc; rfl; apply yd_ldw; rfl; exact memE; assumption) | apply w_nil | apply n_cd | (apply wg_t; rfl; rfl) | (apply wg_f; rfl; rfl; rfl; rfl) | (apply wg_u; rfl; rfl; rfl) | (apply c_t; rfl) | (apply c_f; rfl) | apply c_skip | apply c_block | apply n_blk | apply c_exit | apply e_hit | apply e_cd | apply e_lp | (apply e_miss; rfl) | apply c_ret | (apply wO; apply o_box; rfl; rfl; rfl; intro _) | (apply wO; apply o_alloc; rfl; intro _) | (apply wO; apply o_st; rfl; rfl; rfl; (first | exact AggC.s | exact OneC.s); rfl; exact rplE; exact putE; rfl) | (apply wO; apply o_stw; rfl; rfl; exact AggC.s; exact rplE; assumption; rfl; assumption) | (apply wO; apply o_call; rfl; kernel_rfl; exact evsE) | (refine c_if rfl (fun h => absurd h (by first | omega | simp)) (fun h => ?_); clear h) | (refine wg_if rfl rfl (fun h => absurd h (by first | omega | simp)) (fun h => ?_); clear h))
  repeat (first | apply c_seq | apply c_reg | (apply wO; apply oc; rfl; exact ydE) | (apply wO; apply oc; rfl; apply yd_ldw; rfl; exact memE; assumption) | apply w_nil | apply n_cd | (apply wg_t; rfl; rfl) | (apply wg_f; rfl; rfl; rfl; rfl) | (apply wg_u; rfl; rfl; rfl) | (apply c_t; rfl) | (apply c_f; rfl) | apply c_skip | apply c_block | apply n_blk | apply c_exit | apply e_hit | apply e_cd | apply e_lp | (apply e_miss; rfl) | apply c_ret | (apply wO; apply o_box; rfl; rfl; rfl; intro _) | (apply wO; apply o_alloc; rfl; intro _) | (apply wO; apply o_st; rfl; rfl; rfl; (first | exact AggC.s | exact OneC.s); rfl; exact rplE; exact putE; rfl) | (apply wO; apply o_stw; rfl; rfl; exact AggC.s; exact rplE; assumption; rfl; assumption) | (apply wO; apply o_call; rfl; kernel_rfl; exact evsE) | (refine c_if rfl (fun h => absurd h (by first | omega | simp)) (fun h => ?_); clear h) | (refine wg_if rfl rfl (fun h => absurd h (by first | omega | simp)) (fun h => ?_); clear h))
  refine cb (fun w st => ex1 (fun F h => szPacket_c _ x1 F (1048576 - (wtSource x0)) w h (by omega) (by omega)) st.rI) ?_
  rcases szr_or (1048576 - (wtSource x0)) (wtPacket x1) with ⟨e1, l1⟩ | ⟨e1, l1⟩
  · rw [e1]
    repeat (first | apply c_seq | apply c_reg | (apply wO; apply oc; rfl; exact ydE) | (apply wO; apply oc; rfl; apply yd_ldw; rfl; exact memE; assumption) | apply w_nil | apply n_cd | (apply wg_t; rfl; rfl) | (apply wg_f; rfl; rfl; rfl; rfl) | (apply wg_u; rfl; rfl; rfl) | (apply c_t; rfl) | (apply c_f; rfl) | apply c_skip | apply c_block | apply n_blk | apply c_exit | apply e_hit | apply e_cd | apply e_lp | (apply e_miss; rfl) | apply c_ret | (apply wO; apply o_box; rfl; rfl; rfl; intro _) | (apply wO; apply o_alloc; rfl; intro _) | (apply wO; apply o_st; rfl; rfl; rfl; (first | exact AggC.s | exact OneC.s); rfl; exact rplE; exact putE; rfl) | (apply wO; apply o_stw; rfl; rfl; exact AggC.s; exact rplE; assumption; rfl; assumption) | (apply wO; apply o_call; rfl; kernel_rfl; exact evsE) | (refine c_if rfl (fun h => absurd h (by first | omega | simp)) (fun h => ?_); clear h) | (refine wg_if rfl rfl (fun h => absurd h (by first | omega | simp)) (fun h => ?_); clear h))
    refine ret () trivial rfl
  rw [e1]
  clear e1
  have hw1 : wtPacket x1 ≤ 1048576 := by omega
  have hc0 := cvSource_wt x0 hw0
  obtain ⟨hV0, hV1⟩ := hV hw0 hw1
  repeat (first | apply c_seq | apply c_reg | (apply wO; apply oc; rfl; exact ydE) | (apply wO; apply oc; rfl; apply yd_ldw; rfl; exact memE; assumption) | apply w_nil | apply n_cd | (apply wg_t; rfl; rfl) | (apply wg_f; rfl; rfl; rfl; rfl) | (apply wg_u; rfl; rfl; rfl) | (apply c_t; rfl) | (apply c_f; rfl) | apply c_skip | apply c_block | apply n_blk | apply c_exit | apply e_hit | apply e_cd | apply e_lp | (apply e_miss; rfl) | apply c_ret | (apply wO; apply o_box; rfl; rfl; rfl; intro _) | (apply wO; apply o_alloc; rfl; intro _) | (apply wO; apply o_st; rfl; rfl; rfl; (first | exact AggC.s | exact OneC.s); rfl; exact rplE; exact putE; rfl) | (apply wO; apply o_stw; rfl; rfl; exact AggC.s; exact rplE; assumption; rfl; assumption) | (apply wO; apply o_call; rfl; kernel_rfl; exact evsE) | (refine c_if rfl (fun h => absurd h (by first | omega | simp)) (fun h => ?_); clear h) | (refine wg_if rfl rfl (fun h => absurd h (by first | omega | simp)) (fun h => ?_); clear h))
  repeat (first | apply c_seq | apply c_reg | (apply wO; apply oc; rfl; exact ydE) | (apply wO; apply oc; rfl; apply yd_ldw; rfl; exact memE; assumption) | apply w_nil | apply n_cd | (apply wg_t; rfl; rfl) | (apply wg_f; rfl; rfl; rfl; rfl) | (apply wg_u; rfl; rfl; rfl) | (apply c_t; rfl) | (apply c_f; rfl) | apply c_skip | apply c_block | apply n_blk | apply c_exit | apply e_hit | apply e_cd | apply e_lp | (apply e_miss; rfl) | apply c_ret | (apply wO; apply o_box; rfl; rfl; rfl; intro _) | (apply wO; apply o_alloc; rfl; intro _) | (apply wO; apply o_st; rfl; rfl; rfl; (first | exact AggC.s | exact OneC.s); rfl; exact rplE; exact putE; rfl) | (apply wO; apply o_stw; rfl; rfl; exact AggC.s; exact rplE; assumption; rfl; assumption) | (apply wO; apply o_call; rfl; kernel_rfl; exact evsE) | (refine c_if rfl (fun h => absurd h (by first | omega | simp)) (fun h => ?_); clear h) | (refine wg_if rfl rfl (fun h => absurd h (by first | omega | simp)) (fun h => ?_); clear h))
  repeat (first | apply c_seq | apply c_reg | (apply wO; apply oc; rfl; exact ydE) | (apply wO; apply oc; rfl; apply yd_ldw; rfl; exact memE; assumption) | apply w_nil | apply n_cd | (apply wg_t; rfl; rfl) | (apply wg_f; rfl; rfl; rfl; rfl) | (apply wg_u; rfl; rfl; rfl) | (apply c_t; rfl) | (apply c_f; rfl) | apply c_skip | apply c_block | apply n_blk | apply c_exit | apply e_hit | apply e_cd | apply e_lp | (apply e_miss; rfl) | apply c_ret | (apply wO; apply o_box; rfl; rfl; rfl; intro _) | (apply wO; apply o_alloc; rfl; intro _) | (apply wO; apply o_st; rfl; rfl; rfl; (first | exact AggC.s | exact OneC.s); rfl; exact rplE; exact putE; rfl) | (apply wO; apply o_stw; rfl; rfl; exact AggC.s; exact rplE; assumption; rfl; assumption) | (apply wO; apply o_call; rfl; kernel_rfl; exact evsE) | (refine c_if rfl (fun h => absurd h (by first | omega | simp)) (fun h => ?_); clear h) | (refine wg_if rfl rfl (fun h => absurd h (by first | omega | simp)) (fun h => ?_); clear h))
  refine c_joinA [2, 3, 4] (fun s : JRequestTo => [(6, ptr s.g0 0 0), (7, s.u1), (8, .bool r2)]) (fun s => [.row s.g0 55 0 [] s.L0 [], .isv ESource (.agg s.L0.toArray) r0 s.F0, .sl EPacket s.u1 r1 s.F1]) (fun _ => True) ?_ fun s _ => ?_
  · repeat (first | apply c_seq | apply c_reg | (apply wO; apply oc; rfl; exact ydE) | (apply wO; apply oc; rfl; apply yd_ldw; rfl; exact memE; assumption) | apply w_nil | apply n_cd | (apply wg_t; rfl; rfl) | (apply wg_f; rfl; rfl; rfl; rfl) | (apply wg_u; rfl; rfl; rfl) | (apply c_t; rfl) | (apply c_f; rfl) | apply c_skip | apply c_block | apply n_blk | apply c_exit | apply e_hit | apply e_cd | apply e_lp | (apply e_miss; rfl) | apply c_ret | (apply wO; apply o_box; rfl; rfl; rfl; intro _) | (apply wO; apply o_alloc; rfl; intro _) | (apply wO; apply o_st; rfl; rfl; rfl; (first | exact AggC.s | exact OneC.s); rfl; exact rplE; exact putE; rfl) | (apply wO; apply o_stw; rfl; rfl; exact AggC.s; exact rplE; assumption; rfl; assumption) | (apply wO; apply o_call; rfl; kernel_rfl; exact evsE) | (refine c_if rfl (fun h => absurd h (by first | omega | simp)) (fun h => ?_); clear h) | (refine wg_if rfl rfl (fun h => absurd h (by first | omega | simp)) (fun h => ?_); clear h))
    refine d_startA [] ?_
    refine dt 0 ?_ (hy := (by first | exact ydE | exact yd_ldw rfl (by exact memE) (by assumption)))
    refine dt 2 ?_ (hy := (by first | exact ydE | exact yd_ldw rfl (by exact memE) (by assumption)))
    refine dO2 1 9 (by kernel_rfl) (by rw [List.getElem?_toArray]; rfl) (by rw [List.getElem?_toArray]; rfl) ?_ ?_
    · apply o_call; rfl; kernel_rfl; exact evsE
      refine cv (fun w st => ex1 (fun F h => toSource_c _ x0 F w h hw0) st.rI) fun y0 K0 => ?_
      refine t_weakV weak_Source fun K0 => ?_
      refine dk ?_
      refine dO2 3 9 (by kernel_rfl) (by rw [List.getElem?_toArray]; rfl) (by rw [List.getElem?_toArray]; rfl) ?_ ?_
      · apply o_call; rfl; kernel_rfl; exact evsE
        refine cv (fun w st => ex1 (fun F h => toPacket_c _ x1 F w h hw1) st.rI) fun y1 K1 => ?_
        refine t_weakV (Weak.refl EPacket) fun K1 => ?_
        refine openPacket (x := x1) (F := K1) ?_
        rintro _ rfl -
        refine dk ?_
        refine dO2 4 9 (by kernel_rfl) (by rw [List.getElem?_toArray]; rfl) (by rw [List.getElem?_toArray]; rfl) ?_ ?_
        · apply o_call; rfl; kernel_rfl; exact evsE
          refine cf (hS _ _) fun z hz => ?_
          refine t_app ?_
          refine t_weakL (Weak.refl _) (xs := r1) fun Z1 => ?_
          refine dk ?_
          refine dt 5 ?_
          refine dt 6 ?_
          refine dt 7 ?_
          refine dt 8 ?_
          refine dO 9 (by kernel_rfl) (by rw [List.getElem?_toArray]; rfl) ?_
          apply o_alloc; rfl; intro _
          refine dk ?_
          refine dO 10 (by kernel_rfl) (by rw [List.getElem?_toArray]; rfl) ?_
          apply o_st; rfl; rfl; rfl; (first | exact AggC.s | exact OneC.s); rfl; exact rplE; exact putE; rfl
          refine dk ?_
          refine dt 11 ?_
          refine dt 12 ?_
          refine dd ?_
          repeat (first | apply c_seq | apply c_reg | (apply wO; apply oc; rfl; exact ydE) | (apply wO; apply oc; rfl; apply yd_ldw; rfl; exact memE; assumption) | apply w_nil | apply n_cd | (apply wg_t; rfl; rfl) | (apply wg_f; rfl; rfl; rfl; rfl) | (apply wg_u; rfl; rfl; rfl) | (apply c_t; rfl) | (apply c_f; rfl) | apply c_skip | apply c_block | apply n_blk | apply c_exit | apply e_hit | apply e_cd | apply e_lp | (apply e_miss; rfl) | apply c_ret | (apply wO; apply o_box; rfl; rfl; rfl; intro _) | (apply wO; apply o_alloc; rfl; intro _) | (apply wO; apply o_st; rfl; rfl; rfl; (first | exact AggC.s | exact OneC.s); rfl; exact rplE; exact putE; rfl) | (apply wO; apply o_stw; rfl; rfl; exact AggC.s; exact rplE; assumption; rfl; assumption) | (apply wO; apply o_call; rfl; kernel_rfl; exact evsE) | (refine c_if rfl (fun h => absurd h (by first | omega | simp)) (fun h => ?_); clear h) | (refine wg_if rfl rfl (fun h => absurd h (by first | omega | simp)) (fun h => ?_); clear h))
          refine n_join (⟨_, _, _, _, _⟩ : JRequestTo) trivial
        · apply o_alloc; rfl; intro _
          refine dk ?_
          refine dO 4 (by kernel_rfl) (by rw [List.getElem?_toArray]; rfl) ?_
          apply o_call; rfl; kernel_rfl; exact evsE
          refine cf (hS _ _) fun z hz => ?_
          refine t_app ?_
          refine t_weakL (Weak.refl _) (xs := r1) fun Z1 => ?_
          refine dk ?_
          refine dt 5 ?_
          refine dt 6 ?_
          refine dt 7 ?_
          refine dt 8 ?_
          refine dO 10 (by kernel_rfl) (by rw [List.getElem?_toArray]; rfl) ?_
          apply o_st; rfl; rfl; rfl; (first | exact AggC.s | exact OneC.s); rfl; exact rplE; exact putE; rfl
          refine dk ?_
          refine dt 11 ?_
          refine dt 12 ?_
          refine dd ?_
          repeat (first | apply c_seq | apply c_reg | (apply wO; apply oc; rfl; exact ydE) | (apply wO; apply oc; rfl; apply yd_ldw; rfl; exact memE; assumption) | apply w_nil | apply n_cd | (apply wg_t; rfl; rfl) | (apply wg_f; rfl; rfl; rfl; rfl) | (apply wg_u; rfl; rfl; rfl) | (apply c_t; rfl) | (apply c_f; rfl) | apply c_skip | apply c_block | apply n_blk | apply c_exit | apply e_hit | apply e_cd | apply e_lp | (apply e_miss; rfl) | apply c_ret | (apply wO; apply o_box; rfl; rfl; rfl; intro _) | (apply wO; apply o_alloc; rfl; intro _) | (apply wO; apply o_st; rfl; rfl; rfl; (first | exact AggC.s | exact OneC.s); rfl; exact rplE; exact putE; rfl) | (apply wO; apply o_stw; rfl; rfl; exact AggC.s; exact rplE; assumption; rfl; assumption) | (apply wO; apply o_call; rfl; kernel_rfl; exact evsE) | (refine c_if rfl (fun h => absurd h (by first | omega | simp)) (fun h => ?_); clear h) | (refine wg_if rfl rfl (fun h => absurd h (by first | omega | simp)) (fun h => ?_); clear h))
          refine n_join (⟨_, _, _, _, _⟩ : JRequestTo) trivial
      · apply o_alloc; rfl; intro _
        refine dk ?_
        refine dO 3 (by kernel_rfl) (by rw [List.getElem?_toArray]; rfl) ?_
        apply o_call; rfl; kernel_rfl; exact evsE
        refine cv (fun w st => ex1 (fun F h => toPacket_c _ x1 F w h hw1) st.rI) fun y1 K1 => ?_
        refine t_weakV (Weak.refl EPacket) fun K1 => ?_
        refine openPacket (x := x1) (F := K1) ?_
        rintro _ rfl -
        refine dk ?_
        refine dO 4 (by kernel_rfl) (by rw [List.getElem?_toArray]; rfl) ?_
        apply o_call; rfl; kernel_rfl; exact evsE
        refine cf (hS _ _) fun z hz => ?_
        refine t_app ?_
        refine t_weakL (Weak.refl _) (xs := r1) fun Z1 => ?_
        refine dk ?_
        refine dt 5 ?_
        refine dt 6 ?_
        refine dt 7 ?_
        refine dt 8 ?_
        refine dO 10 (by kernel_rfl) (by rw [List.getElem?_toArray]; rfl) ?_
        apply o_st; rfl; rfl; rfl; (first | exact AggC.s | exact OneC.s); rfl; exact rplE; exact putE; rfl
        refine dk ?_
        refine dt 11 ?_
        refine dt 12 ?_
        refine dd ?_
        repeat (first | apply c_seq | apply c_reg | (apply wO; apply oc; rfl; exact ydE) | (apply wO; apply oc; rfl; apply yd_ldw; rfl; exact memE; assumption) | apply w_nil | apply n_cd | (apply wg_t; rfl; rfl) | (apply wg_f; rfl; rfl; rfl; rfl) | (apply wg_u; rfl; rfl; rfl) | (apply c_t; rfl) | (apply c_f; rfl) | apply c_skip | apply c_block | apply n_blk | apply c_exit | apply e_hit | apply e_cd | apply e_lp | (apply e_miss; rfl) | apply c_ret | (apply wO; apply o_box; rfl; rfl; rfl; intro _) | (apply wO; apply o_alloc; rfl; intro _) | (apply wO; apply o_st; rfl; rfl; rfl; (first | exact AggC.s | exact OneC.s); rfl; exact rplE; exact putE; rfl) | (apply wO; apply o_stw; rfl; rfl; exact AggC.s; exact rplE; assumption; rfl; assumption) | (apply wO; apply o_call; rfl; kernel_rfl; exact evsE) | (refine c_if rfl (fun h => absurd h (by first | omega | simp)) (fun h => ?_); clear h) | (refine wg_if rfl rfl (fun h => absurd h (by first | omega | simp)) (fun h => ?_); clear h))
        refine n_join (⟨_, _, _, _, _⟩ : JRequestTo) trivial
    · apply o_alloc; rfl; intro _
      refine dk ?_
      refine dO 1 (by kernel_rfl) (by rw [List.getElem?_toArray]; rfl) ?_
      apply o_call; rfl; kernel_rfl; exact evsE
      refine cv (fun w st => ex1 (fun F h => toSource_c _ x0 F w h hw0) st.rI) fun y0 K0 => ?_
      refine t_weakV weak_Source fun K0 => ?_
      refine dk ?_
      refine dO 3 (by kernel_rfl) (by rw [List.getElem?_toArray]; rfl) ?_
      apply o_call; rfl; kernel_rfl; exact evsE
      refine cv (fun w st => ex1 (fun F h => toPacket_c _ x1 F w h hw1) st.rI) fun y1 K1 => ?_
      refine t_weakV (Weak.refl EPacket) fun K1 => ?_
      refine openPacket (x := x1) (F := K1) ?_
      rintro _ rfl -
      refine dk ?_
      refine dO 4 (by kernel_rfl) (by rw [List.getElem?_toArray]; rfl) ?_
      apply o_call; rfl; kernel_rfl; exact evsE
      refine cf (hS _ _) fun z hz => ?_
      refine t_app ?_
      refine t_weakL (Weak.refl _) (xs := r1) fun Z1 => ?_
      refine dk ?_
      refine dt 5 ?_
      refine dt 6 ?_
      refine dt 7 ?_
      refine dt 8 ?_
      refine dO 10 (by kernel_rfl) (by rw [List.getElem?_toArray]; rfl) ?_
      apply o_st; rfl; rfl; rfl; (first | exact AggC.s | exact OneC.s); rfl; exact rplE; exact putE; rfl
      refine dk ?_
      refine dt 11 ?_
      refine dt 12 ?_
      refine dd ?_
      repeat (first | apply c_seq | apply c_reg | (apply wO; apply oc; rfl; exact ydE) | (apply wO; apply oc; rfl; apply yd_ldw; rfl; exact memE; assumption) | apply w_nil | apply n_cd | (apply wg_t; rfl; rfl) | (apply wg_f; rfl; rfl; rfl; rfl) | (apply wg_u; rfl; rfl; rfl) | (apply c_t; rfl) | (apply c_f; rfl) | apply c_skip | apply c_block | apply n_blk | apply c_exit | apply e_hit | apply e_cd | apply e_lp | (apply e_miss; rfl) | apply c_ret | (apply wO; apply o_box; rfl; rfl; rfl; intro _) | (apply wO; apply o_alloc; rfl; intro _) | (apply wO; apply o_st; rfl; rfl; rfl; (first | exact AggC.s | exact OneC.s); rfl; exact rplE; exact putE; rfl) | (apply wO; apply o_stw; rfl; rfl; exact AggC.s; exact rplE; assumption; rfl; assumption) | (apply wO; apply o_call; rfl; kernel_rfl; exact evsE) | (refine c_if rfl (fun h => absurd h (by first | omega | simp)) (fun h => ?_); clear h) | (refine wg_if rfl rfl (fun h => absurd h (by first | omega | simp)) (fun h => ?_); clear h))
      refine n_join (⟨_, _, _, _, _⟩ : JRequestTo) trivial
  obtain ⟨g0w, L0w, F0w, u1w, F1w⟩ := s
  dsimp only
  refine t_aggI (E := ESource) (x := r0) (F := F0w) one_ESource ?_
  rintro cs e hl ho
  obtain rfl : L0w = cs := by simpa using e
  clear e
  have hl0w := hl; have ho0w := ho; clear hl ho
  repeat (first | apply c_seq | apply c_reg | (apply wO; apply oc; rfl; exact ydE) | (apply wO; apply oc; rfl; apply yd_ldw; rfl; exact memE; assumption) | apply w_nil | apply n_cd | (apply wg_t; rfl; rfl) | (apply wg_f; rfl; rfl; rfl; rfl) | (apply wg_u; rfl; rfl; rfl) | (apply c_t; rfl) | (apply c_f; rfl) | apply c_skip | apply c_block | apply n_blk | apply c_exit | apply e_hit | apply e_cd | apply e_lp | (apply e_miss; rfl) | apply c_ret | (apply wO; apply o_box; rfl; rfl; rfl; intro _) | (apply wO; apply o_alloc; rfl; intro _) | (apply wO; apply o_st; rfl; rfl; rfl; (first | exact AggC.s | exact OneC.s); rfl; exact rplE; exact putE; rfl) | (apply wO; apply o_stw; rfl; rfl; exact AggC.s; exact rplE; assumption; rfl; assumption) | (apply wO; apply o_call; rfl; kernel_rfl; exact evsE) | (refine c_if rfl (fun h => absurd h (by first | omega | simp)) (fun h => ?_); clear h) | (refine wg_if rfl rfl (fun h => absurd h (by first | omega | simp)) (fun h => ?_); clear h))
  refine cv (fun w st => ex1 (fun F h => toSource_c _ x0 F w h hw0) st.rI) fun yv0 KX0 => ?_
  refine t_aggO (E := OSource) (x := x0) (F := KX0) one_OSource ?_
  rintro cx0 rfl hlx0 hox0
  repeat (first | apply c_seq | apply c_reg | (apply wO; apply oc; rfl; exact ydE) | (apply wO; apply oc; rfl; apply yd_ldw; rfl; exact memE; assumption) | apply w_nil | apply n_cd | (apply wg_t; rfl; rfl) | (apply wg_f; rfl; rfl; rfl; rfl) | (apply wg_u; rfl; rfl; rfl) | (apply c_t; rfl) | (apply c_f; rfl) | apply c_skip | apply c_block | apply n_blk | apply c_exit | apply e_hit | apply e_cd | apply e_lp | (apply e_miss; rfl) | apply c_ret | (apply wO; apply o_box; rfl; rfl; rfl; intro _) | (apply wO; apply o_alloc; rfl; intro _) | (apply wO; apply o_st; rfl; rfl; rfl; (first | exact AggC.s | exact OneC.s); rfl; exact rplE; exact putE; rfl) | (apply wO; apply o_stw; rfl; rfl; exact AggC.s; exact rplE; assumption; rfl; assumption) | (apply wO; apply o_call; rfl; kernel_rfl; exact evsE) | (refine c_if rfl (fun h => absurd h (by first | omega | simp)) (fun h => ?_); clear h) | (refine wg_if rfl rfl (fun h => absurd h (by first | omega | simp)) (fun h => ?_); clear h))
  repeat (first | apply c_seq | apply c_reg | (apply wO; apply oc; rfl; exact ydE) | (apply wO; apply oc; rfl; apply yd_ldw; rfl; exact memE; assumption) | apply w_nil | apply n_cd | (apply wg_t; rfl; rfl) | (apply wg_f; rfl; rfl; rfl; rfl) | (apply wg_u; rfl; rfl; rfl) | (apply c_t; rfl) | (apply c_f; rfl) | apply c_skip | apply c_block | apply n_blk | apply c_exit | apply e_hit | apply e_cd | apply e_lp | (apply e_miss; rfl) | apply c_ret | (apply wO; apply o_box; rfl; rfl; rfl; intro _) | (apply wO; apply o_alloc; rfl; intro _) | (apply wO; apply o_st; rfl; rfl; rfl; (first | exact AggC.s | exact OneC.s); rfl; exact rplE; exact putE; rfl) | (apply wO; apply o_stw; rfl; rfl; exact AggC.s; exact rplE; assumption; rfl; assumption) | (apply wO; apply o_call; rfl; kernel_rfl; exact evsE) | (refine c_if rfl (fun h => absurd h (by first | omega | simp)) (fun h => ?_); clear h) | (refine wg_if rfl rfl (fun h => absurd h (by first | omega | simp)) (fun h => ?_); clear h))
  refine c_joinA [2, 3, 4, 6, 7, 8, 9] (fun s : JRequestTo => [(10, ptr s.g0 0 0), (11, s.u1), (12, .bool r2)]) (fun s => [.row s.g0 55 0 [] s.L0 [], .own OSource (.agg s.L0.toArray) r0 s.F0, .ow EPacket 76 s.u1 r1 s.F1]) (fun _ => True) ?_ fun s _ => ?_
  · repeat (first | apply c_seq | apply c_reg | (apply wO; apply oc; rfl; exact ydE) | (apply wO; apply oc; rfl; apply yd_ldw; rfl; exact memE; assumption) | apply w_nil | apply n_cd | (apply wg_t; rfl; rfl) | (apply wg_f; rfl; rfl; rfl; rfl) | (apply wg_u; rfl; rfl; rfl) | (apply c_t; rfl) | (apply c_f; rfl) | apply c_skip | apply c_block | apply n_blk | apply c_exit | apply e_hit | apply e_cd | apply e_lp | (apply e_miss; rfl) | apply c_ret | (apply wO; apply o_box; rfl; rfl; rfl; intro _) | (apply wO; apply o_alloc; rfl; intro _) | (apply wO; apply o_st; rfl; rfl; rfl; (first | exact AggC.s | exact OneC.s); rfl; exact rplE; exact putE; rfl) | (apply wO; apply o_stw; rfl; rfl; exact AggC.s; exact rplE; assumption; rfl; assumption) | (apply wO; apply o_call; rfl; kernel_rfl; exact evsE) | (refine c_if rfl (fun h => absurd h (by first | omega | simp)) (fun h => ?_); clear h) | (refine wg_if rfl rfl (fun h => absurd h (by first | omega | simp)) (fun h => ?_); clear h))
    refine d_startA [] ?_
    refine dt 0 ?_ (hy := (by first | exact ydE | exact yd_ldw rfl (by exact memE) (by assumption)))
    refine dt 1 ?_ (hy := (by first | exact ydE | exact yd_ldw rfl (by exact memE) (by assumption)))
    refine dO2 2 8 (by kernel_rfl) (by rw [List.getElem?_toArray]; rfl) (by rw [List.getElem?_toArray]; rfl) ?_ ?_
    · apply o_call; rfl; kernel_rfl; exact evsE
      refine cv (fun w st => ex1 (fun F h => toPacket_c _ x1 F w h hw1) st.rI) fun y1 K1 => ?_
      refine t_weakV (Weak.refl EPacket) fun K1 => ?_
      refine openPacket (x := x1) (F := K1) ?_
      rintro _ rfl -
      refine dk ?_
      refine dO2 3 8 (by kernel_rfl) (by rw [List.getElem?_toArray]; rfl) (by rw [List.getElem?_toArray]; rfl) ?_ ?_
      · apply o_call; rfl; kernel_rfl; exact evsE
        refine cm (fun w st => ex1 (fun F h => (hI _ F).made w (hol1 h) (fun _ => rfl)) (st.rO weak_Source)) fun z hz => ?_
        refine t_app ?_
        refine dk ?_
        refine dt 4 ?_
        refine dt 5 ?_
        refine dt 6 ?_
        refine dt 7 ?_
        refine dO 8 (by kernel_rfl) (by rw [List.getElem?_toArray]; rfl) ?_
        apply o_alloc; rfl; intro _
        refine dk ?_
        refine dO 9 (by kernel_rfl) (by rw [List.getElem?_toArray]; rfl) ?_
        apply o_st; rfl; rfl; rfl; (first | exact AggC.s | exact OneC.s); rfl; exact rplE; exact putE; rfl
        refine dk ?_
        refine dt 10 ?_
        refine dt 11 ?_
        refine dd ?_
        repeat (first | apply c_seq | apply c_reg | (apply wO; apply oc; rfl; exact ydE) | (apply wO; apply oc; rfl; apply yd_ldw; rfl; exact memE; assumption) | apply w_nil | apply n_cd | (apply wg_t; rfl; rfl) | (apply wg_f; rfl; rfl; rfl; rfl) | (apply wg_u; rfl; rfl; rfl) | (apply c_t; rfl) | (apply c_f; rfl) | apply c_skip | apply c_block | apply n_blk | apply c_exit | apply e_hit | apply e_cd | apply e_lp | (apply e_miss; rfl) | apply c_ret | (apply wO; apply o_box; rfl; rfl; rfl; intro _) | (apply wO; apply o_alloc; rfl; intro _) | (apply wO; apply o_st; rfl; rfl; rfl; (first | exact AggC.s | exact OneC.s); rfl; exact rplE; exact putE; rfl) | (apply wO; apply o_stw; rfl; rfl; exact AggC.s; exact rplE; assumption; rfl; assumption) | (apply wO; apply o_call; rfl; kernel_rfl; exact evsE) | (refine c_if rfl (fun h => absurd h (by first | omega | simp)) (fun h => ?_); clear h) | (refine wg_if rfl rfl (fun h => absurd h (by first | omega | simp)) (fun h => ?_); clear h))
        refine n_join (⟨_, _, _, _, _⟩ : JRequestTo) trivial
      · apply o_alloc; rfl; intro _
        refine dk ?_
        refine dO 3 (by kernel_rfl) (by rw [List.getElem?_toArray]; rfl) ?_
        apply o_call; rfl; kernel_rfl; exact evsE
        refine cm (fun w st => ex1 (fun F h => (hI _ F).made w (hol1 h) (fun _ => rfl)) (st.rO weak_Source)) fun z hz => ?_
        refine t_app ?_
        refine dk ?_
        refine dt 4 ?_
        refine dt 5 ?_
        refine dt 6 ?_
        refine dt 7 ?_
        refine dO 9 (by kernel_rfl) (by rw [List.getElem?_toArray]; rfl) ?_
        apply o_st; rfl; rfl; rfl; (first | exact AggC.s | exact OneC.s); rfl; exact rplE; exact putE; rfl
        refine dk ?_
        refine dt 10 ?_
        refine dt 11 ?_
        refine dd ?_
        repeat (first | apply c_seq | apply c_reg | (apply wO; apply oc; rfl; exact ydE) | (apply wO; apply oc; rfl; apply yd_ldw; rfl; exact memE; assumption) | apply w_nil | apply n_cd | (apply wg_t; rfl; rfl) | (apply wg_f; rfl; rfl; rfl; rfl) | (apply wg_u; rfl; rfl; rfl) | (apply c_t; rfl) | (apply c_f; rfl) | apply c_skip | apply c_block | apply n_blk | apply c_exit | apply e_hit | apply e_cd | apply e_lp | (apply e_miss; rfl) | apply c_ret | (apply wO; apply o_box; rfl; rfl; rfl; intro _) | (apply wO; apply o_alloc; rfl; intro _) | (apply wO; apply o_st; rfl; rfl; rfl; (first | exact AggC.s | exact OneC.s); rfl; exact rplE; exact putE; rfl) | (apply wO; apply o_stw; rfl; rfl; exact AggC.s; exact rplE; assumption; rfl; assumption) | (apply wO; apply o_call; rfl; kernel_rfl; exact evsE) | (refine c_if rfl (fun h => absurd h (by first | omega | simp)) (fun h => ?_); clear h) | (refine wg_if rfl rfl (fun h => absurd h (by first | omega | simp)) (fun h => ?_); clear h))
        refine n_join (⟨_, _, _, _, _⟩ : JRequestTo) trivial
    · apply o_alloc; rfl; intro _
      refine dk ?_
      refine dO 2 (by kernel_rfl) (by rw [List.getElem?_toArray]; rfl) ?_
      apply o_call; rfl; kernel_rfl; exact evsE
      refine cv (fun w st => ex1 (fun F h => toPacket_c _ x1 F w h hw1) st.rI) fun y1 K1 => ?_
      refine t_weakV (Weak.refl EPacket) fun K1 => ?_
      refine openPacket (x := x1) (F := K1) ?_
      rintro _ rfl -
      refine dk ?_
      refine dO 3 (by kernel_rfl) (by rw [List.getElem?_toArray]; rfl) ?_
      apply o_call; rfl; kernel_rfl; exact evsE
      refine cm (fun w st => ex1 (fun F h => (hI _ F).made w (hol1 h) (fun _ => rfl)) (st.rO weak_Source)) fun z hz => ?_
      refine t_app ?_
      refine dk ?_
      refine dt 4 ?_
      refine dt 5 ?_
      refine dt 6 ?_
      refine dt 7 ?_
      refine dO 9 (by kernel_rfl) (by rw [List.getElem?_toArray]; rfl) ?_
      apply o_st; rfl; rfl; rfl; (first | exact AggC.s | exact OneC.s); rfl; exact rplE; exact putE; rfl
      refine dk ?_
      refine dt 10 ?_
      refine dt 11 ?_
      refine dd ?_
      repeat (first | apply c_seq | apply c_reg | (apply wO; apply oc; rfl; exact ydE) | (apply wO; apply oc; rfl; apply yd_ldw; rfl; exact memE; assumption) | apply w_nil | apply n_cd | (apply wg_t; rfl; rfl) | (apply wg_f; rfl; rfl; rfl; rfl) | (apply wg_u; rfl; rfl; rfl) | (apply c_t; rfl) | (apply c_f; rfl) | apply c_skip | apply c_block | apply n_blk | apply c_exit | apply e_hit | apply e_cd | apply e_lp | (apply e_miss; rfl) | apply c_ret | (apply wO; apply o_box; rfl; rfl; rfl; intro _) | (apply wO; apply o_alloc; rfl; intro _) | (apply wO; apply o_st; rfl; rfl; rfl; (first | exact AggC.s | exact OneC.s); rfl; exact rplE; exact putE; rfl) | (apply wO; apply o_stw; rfl; rfl; exact AggC.s; exact rplE; assumption; rfl; assumption) | (apply wO; apply o_call; rfl; kernel_rfl; exact evsE) | (refine c_if rfl (fun h => absurd h (by first | omega | simp)) (fun h => ?_); clear h) | (refine wg_if rfl rfl (fun h => absurd h (by first | omega | simp)) (fun h => ?_); clear h))
      refine n_join (⟨_, _, _, _, _⟩ : JRequestTo) trivial
  obtain ⟨g0g, L0g, F0g, u1g, F1g⟩ := s
  dsimp only
  refine t_aggO (E := OSource) (x := r0) (F := F0g) one_OSource ?_
  rintro cs e hl ho
  obtain rfl : L0g = cs := by simpa using e
  clear e
  have hl0g := hl; have ho0g := ho; clear hl ho
  repeat (first | apply c_seq | apply c_reg | (apply wO; apply oc; rfl; exact ydE) | (apply wO; apply oc; rfl; apply yd_ldw; rfl; exact memE; assumption) | apply w_nil | apply n_cd | (apply wg_t; rfl; rfl) | (apply wg_f; rfl; rfl; rfl; rfl) | (apply wg_u; rfl; rfl; rfl) | (apply c_t; rfl) | (apply c_f; rfl) | apply c_skip | apply c_block | apply n_blk | apply c_exit | apply e_hit | apply e_cd | apply e_lp | (apply e_miss; rfl) | apply c_ret | (apply wO; apply o_box; rfl; rfl; rfl; intro _) | (apply wO; apply o_alloc; rfl; intro _) | (apply wO; apply o_st; rfl; rfl; rfl; (first | exact AggC.s | exact OneC.s); rfl; exact rplE; exact putE; rfl) | (apply wO; apply o_stw; rfl; rfl; exact AggC.s; exact rplE; assumption; rfl; assumption) | (apply wO; apply o_call; rfl; kernel_rfl; exact evsE) | (refine c_if rfl (fun h => absurd h (by first | omega | simp)) (fun h => ?_); clear h) | (refine wg_if rfl rfl (fun h => absurd h (by first | omega | simp)) (fun h => ?_); clear h))
  refine cb (fun w st => ex2 (fun Fa Fb ha hb => eqSource_c _ _ r0 Fa Fb w ha hb) (st.rO weak_Source) st.rI) ?_
  repeat (first | apply c_seq | apply c_reg | (apply wO; apply oc; rfl; exact ydE) | (apply wO; apply oc; rfl; apply yd_ldw; rfl; exact memE; assumption) | apply w_nil | apply n_cd | (apply wg_t; rfl; rfl) | (apply wg_f; rfl; rfl; rfl; rfl) | (apply wg_u; rfl; rfl; rfl) | (apply c_t; rfl) | (apply c_f; rfl) | apply c_skip | apply c_block | apply n_blk | apply c_exit | apply e_hit | apply e_cd | apply e_lp | (apply e_miss; rfl) | apply c_ret | (apply wO; apply o_box; rfl; rfl; rfl; intro _) | (apply wO; apply o_alloc; rfl; intro _) | (apply wO; apply o_st; rfl; rfl; rfl; (first | exact AggC.s | exact OneC.s); rfl; exact rplE; exact putE; rfl) | (apply wO; apply o_stw; rfl; rfl; exact AggC.s; exact rplE; assumption; rfl; assumption) | (apply wO; apply o_call; rfl; kernel_rfl; exact evsE) | (refine c_if rfl (fun h => absurd h (by first | omega | simp)) (fun h => ?_); clear h) | (refine wg_if rfl rfl (fun h => absurd h (by first | omega | simp)) (fun h => ?_); clear h))
  refine cb (fun w st => ex2 (fun Fa Fb ha hb => eqPacketS_c _ _ r1 Fa Fb w ha hb) (st.rL ((Weak.refl _))) st.rS) ?_
  repeat (first | apply c_seq | apply c_reg | (apply wO; apply oc; rfl; exact ydE) | (apply wO; apply oc; rfl; apply yd_ldw; rfl; exact memE; assumption) | apply w_nil | apply n_cd | (apply wg_t; rfl; rfl) | (apply wg_f; rfl; rfl; rfl; rfl) | (apply wg_u; rfl; rfl; rfl) | (apply c_t; rfl) | (apply c_f; rfl) | apply c_skip | apply c_block | apply n_blk | apply c_exit | apply e_hit | apply e_cd | apply e_lp | (apply e_miss; rfl) | apply c_ret | (apply wO; apply o_box; rfl; rfl; rfl; intro _) | (apply wO; apply o_alloc; rfl; intro _) | (apply wO; apply o_st; rfl; rfl; rfl; (first | exact AggC.s | exact OneC.s); rfl; exact rplE; exact putE; rfl) | (apply wO; apply o_stw; rfl; rfl; exact AggC.s; exact rplE; assumption; rfl; assumption) | (apply wO; apply o_call; rfl; kernel_rfl; exact evsE) | (refine c_if rfl (fun h => absurd h (by first | omega | simp)) (fun h => ?_); clear h) | (refine wg_if rfl rfl (fun h => absurd h (by first | omega | simp)) (fun h => ?_); clear h))
  repeat (first | apply c_seq | apply c_reg | (apply wO; apply oc; rfl; exact ydE) | (apply wO; apply oc; rfl; apply yd_ldw; rfl; exact memE; assumption) | apply w_nil | apply n_cd | (apply wg_t; rfl; rfl) | (apply wg_f; rfl; rfl; rfl; rfl) | (apply wg_u; rfl; rfl; rfl) | (apply c_t; rfl) | (apply c_f; rfl) | apply c_skip | apply c_block | apply n_blk | apply c_exit | apply e_hit | apply e_cd | apply e_lp | (apply e_miss; rfl) | apply c_ret | (apply wO; apply o_box; rfl; rfl; rfl; intro _) | (apply wO; apply o_alloc; rfl; intro _) | (apply wO; apply o_st; rfl; rfl; rfl; (first | exact AggC.s | exact OneC.s); rfl; exact rplE; exact putE; rfl) | (apply wO; apply o_stw; rfl; rfl; exact AggC.s; exact rplE; assumption; rfl; assumption) | (apply wO; apply o_call; rfl; kernel_rfl; exact evsE) | (refine c_if rfl (fun h => absurd h (by first | omega | simp)) (fun h => ?_); clear h) | (refine wg_if rfl rfl (fun h => absurd h (by first | omega | simp)) (fun h => ?_); clear h))
  repeat (first | apply c_seq | apply c_reg | (apply wO; apply oc; rfl; exact ydE) | (apply wO; apply oc; rfl; apply yd_ldw; rfl; exact memE; assumption) | apply w_nil | apply n_cd | (apply wg_t; rfl; rfl) | (apply wg_f; rfl; rfl; rfl; rfl) | (apply wg_u; rfl; rfl; rfl) | (apply c_t; rfl) | (apply c_f; rfl) | apply c_skip | apply c_block | apply n_blk | apply c_exit | apply e_hit | apply e_cd | apply e_lp | (apply e_miss; rfl) | apply c_ret | (apply wO; apply o_box; rfl; rfl; rfl; intro _) | (apply wO; apply o_alloc; rfl; intro _) | (apply wO; apply o_st; rfl; rfl; rfl; (first | exact AggC.s | exact OneC.s); rfl; exact rplE; exact putE; rfl) | (apply wO; apply o_stw; rfl; rfl; exact AggC.s; exact rplE; assumption; rfl; assumption) | (apply wO; apply o_call; rfl; kernel_rfl; exact evsE) | (refine c_if rfl (fun h => absurd h (by first | omega | simp)) (fun h => ?_); clear h) | (refine wg_if rfl rfl (fun h => absurd h (by first | omega | simp)) (fun h => ?_); clear h))
  refine d_startA [] ?_
  refine dt 0 ?_ (hy := (by first | exact ydE | exact yd_ldw rfl (by exact memE) (by assumption)))
  refine dt 1 ?_ (hy := (by first | exact ydE | exact yd_ldw rfl (by exact memE) (by assumption)))
  refine dO 2 (by kernel_rfl) (by rw [List.getElem?_toArray]; rfl) ?_
  apply o_call; rfl; kernel_rfl; exact evsE
  refine cv (fun w st => ex1 (fun F h => toSource_c _ x0 F w h hw0) st.rI) fun y0 K0 => ?_
  refine t_weakV weak_Source fun K0 => ?_
  refine dk ?_
  refine dO 3 (by kernel_rfl) (by rw [List.getElem?_toArray]; rfl) ?_
  apply o_call; rfl; kernel_rfl; exact evsE
  refine cb (fun w st => ex2 (fun Fa Fb ha hb => eqSource_c _ _ x0 Fa Fb w ha hb) (st.rO weak_Source) st.rI) ?_
  refine dk ?_
  refine dt 4 ?_
  refine dd ?_
  repeat (first | apply c_seq | apply c_reg | (apply wO; apply oc; rfl; exact ydE) | (apply wO; apply oc; rfl; apply yd_ldw; rfl; exact memE; assumption) | apply w_nil | apply n_cd | (apply wg_t; rfl; rfl) | (apply wg_f; rfl; rfl; rfl; rfl) | (apply wg_u; rfl; rfl; rfl) | (apply c_t; rfl) | (apply c_f; rfl) | apply c_skip | apply c_block | apply n_blk | apply c_exit | apply e_hit | apply e_cd | apply e_lp | (apply e_miss; rfl) | apply c_ret | (apply wO; apply o_box; rfl; rfl; rfl; intro _) | (apply wO; apply o_alloc; rfl; intro _) | (apply wO; apply o_st; rfl; rfl; rfl; (first | exact AggC.s | exact OneC.s); rfl; exact rplE; exact putE; rfl) | (apply wO; apply o_stw; rfl; rfl; exact AggC.s; exact rplE; assumption; rfl; assumption) | (apply wO; apply o_call; rfl; kernel_rfl; exact evsE) | (refine c_if rfl (fun h => absurd h (by first | omega | simp)) (fun h => ?_); clear h) | (refine wg_if rfl rfl (fun h => absurd h (by first | omega | simp)) (fun h => ?_); clear h))
  repeat (first | apply c_seq | apply c_reg | (apply wO; apply oc; rfl; exact ydE) | (apply wO; apply oc; rfl; apply yd_ldw; rfl; exact memE; assumption) | apply w_nil | apply n_cd | (apply wg_t; rfl; rfl) | (apply wg_f; rfl; rfl; rfl; rfl) | (apply wg_u; rfl; rfl; rfl) | (apply c_t; rfl) | (apply c_f; rfl) | apply c_skip | apply c_block | apply n_blk | apply c_exit | apply e_hit | apply e_cd | apply e_lp | (apply e_miss; rfl) | apply c_ret | (apply wO; apply o_box; rfl; rfl; rfl; intro _) | (apply wO; apply o_alloc; rfl; intro _) | (apply wO; apply o_st; rfl; rfl; rfl; (first | exact AggC.s | exact OneC.s); rfl; exact rplE; exact putE; rfl) | (apply wO; apply o_stw; rfl; rfl; exact AggC.s; exact rplE; assumption; rfl; assumption) | (apply wO; apply o_call; rfl; kernel_rfl; exact evsE) | (refine c_if rfl (fun h => absurd h (by first | omega | simp)) (fun h => ?_); clear h) | (refine wg_if rfl rfl (fun h => absurd h (by first | omega | simp)) (fun h => ?_); clear h))
  refine cf (fn_markV (fun w h hn => markSource_c _ x0 _ (1) w h hn (by omega) (by omega))) fun _ _ => ?_
  refine t_app ?_
  repeat (first | apply c_seq | apply c_reg | (apply wO; apply oc; rfl; exact ydE) | (apply wO; apply oc; rfl; apply yd_ldw; rfl; exact memE; assumption) | apply w_nil | apply n_cd | (apply wg_t; rfl; rfl) | (apply wg_f; rfl; rfl; rfl; rfl) | (apply wg_u; rfl; rfl; rfl) | (apply c_t; rfl) | (apply c_f; rfl) | apply c_skip | apply c_block | apply n_blk | apply c_exit | apply e_hit | apply e_cd | apply e_lp | (apply e_miss; rfl) | apply c_ret | (apply wO; apply o_box; rfl; rfl; rfl; intro _) | (apply wO; apply o_alloc; rfl; intro _) | (apply wO; apply o_st; rfl; rfl; rfl; (first | exact AggC.s | exact OneC.s); rfl; exact rplE; exact putE; rfl) | (apply wO; apply o_stw; rfl; rfl; exact AggC.s; exact rplE; assumption; rfl; assumption) | (apply wO; apply o_call; rfl; kernel_rfl; exact evsE) | (refine c_if rfl (fun h => absurd h (by first | omega | simp)) (fun h => ?_); clear h) | (refine wg_if rfl rfl (fun h => absurd h (by first | omega | simp)) (fun h => ?_); clear h))
  repeat (first | apply c_seq | apply c_reg | (apply wO; apply oc; rfl; exact ydE) | (apply wO; apply oc; rfl; apply yd_ldw; rfl; exact memE; assumption) | apply w_nil | apply n_cd | (apply wg_t; rfl; rfl) | (apply wg_f; rfl; rfl; rfl; rfl) | (apply wg_u; rfl; rfl; rfl) | (apply c_t; rfl) | (apply c_f; rfl) | apply c_skip | apply c_block | apply n_blk | apply c_exit | apply e_hit | apply e_cd | apply e_lp | (apply e_miss; rfl) | apply c_ret | (apply wO; apply o_box; rfl; rfl; rfl; intro _) | (apply wO; apply o_alloc; rfl; intro _) | (apply wO; apply o_st; rfl; rfl; rfl; (first | exact AggC.s | exact OneC.s); rfl; exact rplE; exact putE; rfl) | (apply wO; apply o_stw; rfl; rfl; exact AggC.s; exact rplE; assumption; rfl; assumption) | (apply wO; apply o_call; rfl; kernel_rfl; exact evsE) | (refine c_if rfl (fun h => absurd h (by first | omega | simp)) (fun h => ?_); clear h) | (refine wg_if rfl rfl (fun h => absurd h (by first | omega | simp)) (fun h => ?_); clear h))
  refine cb (fun w st => ex2 (fun Fa Fb ha hb => eqSource_c _ _ r0 Fa Fb w ha hb) (st.rO weak_Source) st.rI) ?_
  repeat (first | apply c_seq | apply c_reg | (apply wO; apply oc; rfl; exact ydE) | (apply wO; apply oc; rfl; apply yd_ldw; rfl; exact memE; assumption) | apply w_nil | apply n_cd | (apply wg_t; rfl; rfl) | (apply wg_f; rfl; rfl; rfl; rfl) | (apply wg_u; rfl; rfl; rfl) | (apply c_t; rfl) | (apply c_f; rfl) | apply c_skip | apply c_block | apply n_blk | apply c_exit | apply e_hit | apply e_cd | apply e_lp | (apply e_miss; rfl) | apply c_ret | (apply wO; apply o_box; rfl; rfl; rfl; intro _) | (apply wO; apply o_alloc; rfl; intro _) | (apply wO; apply o_st; rfl; rfl; rfl; (first | exact AggC.s | exact OneC.s); rfl; exact rplE; exact putE; rfl) | (apply wO; apply o_stw; rfl; rfl; exact AggC.s; exact rplE; assumption; rfl; assumption) | (apply wO; apply o_call; rfl; kernel_rfl; exact evsE) | (refine c_if rfl (fun h => absurd h (by first | omega | simp)) (fun h => ?_); clear h) | (refine wg_if rfl rfl (fun h => absurd h (by first | omega | simp)) (fun h => ?_); clear h))
  refine cb (fun w st => ex2 (fun Fa Fb ha hb => eqPacketS_c _ _ r1 Fa Fb w ha hb) (st.rL ((Weak.refl _))) st.rS) ?_
  repeat (first | apply c_seq | apply c_reg | (apply wO; apply oc; rfl; exact ydE) | (apply wO; apply oc; rfl; apply yd_ldw; rfl; exact memE; assumption) | apply w_nil | apply n_cd | (apply wg_t; rfl; rfl) | (apply wg_f; rfl; rfl; rfl; rfl) | (apply wg_u; rfl; rfl; rfl) | (apply c_t; rfl) | (apply c_f; rfl) | apply c_skip | apply c_block | apply n_blk | apply c_exit | apply e_hit | apply e_cd | apply e_lp | (apply e_miss; rfl) | apply c_ret | (apply wO; apply o_box; rfl; rfl; rfl; intro _) | (apply wO; apply o_alloc; rfl; intro _) | (apply wO; apply o_st; rfl; rfl; rfl; (first | exact AggC.s | exact OneC.s); rfl; exact rplE; exact putE; rfl) | (apply wO; apply o_stw; rfl; rfl; exact AggC.s; exact rplE; assumption; rfl; assumption) | (apply wO; apply o_call; rfl; kernel_rfl; exact evsE) | (refine c_if rfl (fun h => absurd h (by first | omega | simp)) (fun h => ?_); clear h) | (refine wg_if rfl rfl (fun h => absurd h (by first | omega | simp)) (fun h => ?_); clear h))
  repeat (first | apply c_seq | apply c_reg | (apply wO; apply oc; rfl; exact ydE) | (apply wO; apply oc; rfl; apply yd_ldw; rfl; exact memE; assumption) | apply w_nil | apply n_cd | (apply wg_t; rfl; rfl) | (apply wg_f; rfl; rfl; rfl; rfl) | (apply wg_u; rfl; rfl; rfl) | (apply c_t; rfl) | (apply c_f; rfl) | apply c_skip | apply c_block | apply n_blk | apply c_exit | apply e_hit | apply e_cd | apply e_lp | (apply e_miss; rfl) | apply c_ret | (apply wO; apply o_box; rfl; rfl; rfl; intro _) | (apply wO; apply o_alloc; rfl; intro _) | (apply wO; apply o_st; rfl; rfl; rfl; (first | exact AggC.s | exact OneC.s); rfl; exact rplE; exact putE; rfl) | (apply wO; apply o_stw; rfl; rfl; exact AggC.s; exact rplE; assumption; rfl; assumption) | (apply wO; apply o_call; rfl; kernel_rfl; exact evsE) | (refine c_if rfl (fun h => absurd h (by first | omega | simp)) (fun h => ?_); clear h) | (refine wg_if rfl rfl (fun h => absurd h (by first | omega | simp)) (fun h => ?_); clear h))
  repeat (first | apply c_seq | apply c_reg | (apply wO; apply oc; rfl; exact ydE) | (apply wO; apply oc; rfl; apply yd_ldw; rfl; exact memE; assumption) | apply w_nil | apply n_cd | (apply wg_t; rfl; rfl) | (apply wg_f; rfl; rfl; rfl; rfl) | (apply wg_u; rfl; rfl; rfl) | (apply c_t; rfl) | (apply c_f; rfl) | apply c_skip | apply c_block | apply n_blk | apply c_exit | apply e_hit | apply e_cd | apply e_lp | (apply e_miss; rfl) | apply c_ret | (apply wO; apply o_box; rfl; rfl; rfl; intro _) | (apply wO; apply o_alloc; rfl; intro _) | (apply wO; apply o_st; rfl; rfl; rfl; (first | exact AggC.s | exact OneC.s); rfl; exact rplE; exact putE; rfl) | (apply wO; apply o_stw; rfl; rfl; exact AggC.s; exact rplE; assumption; rfl; assumption) | (apply wO; apply o_call; rfl; kernel_rfl; exact evsE) | (refine c_if rfl (fun h => absurd h (by first | omega | simp)) (fun h => ?_); clear h) | (refine wg_if rfl rfl (fun h => absurd h (by first | omega | simp)) (fun h => ?_); clear h))
  refine cf (fn_markV (fun w h hn => markSource_c _ r0 _ (1) w h hn (by omega) (by omega))) fun _ _ => ?_
  refine t_app ?_
  repeat (first | apply c_seq | apply c_reg | (apply wO; apply oc; rfl; exact ydE) | (apply wO; apply oc; rfl; apply yd_ldw; rfl; exact memE; assumption) | apply w_nil | apply n_cd | (apply wg_t; rfl; rfl) | (apply wg_f; rfl; rfl; rfl; rfl) | (apply wg_u; rfl; rfl; rfl) | (apply c_t; rfl) | (apply c_f; rfl) | apply c_skip | apply c_block | apply n_blk | apply c_exit | apply e_hit | apply e_cd | apply e_lp | (apply e_miss; rfl) | apply c_ret | (apply wO; apply o_box; rfl; rfl; rfl; intro _) | (apply wO; apply o_alloc; rfl; intro _) | (apply wO; apply o_st; rfl; rfl; rfl; (first | exact AggC.s | exact OneC.s); rfl; exact rplE; exact putE; rfl) | (apply wO; apply o_stw; rfl; rfl; exact AggC.s; exact rplE; assumption; rfl; assumption) | (apply wO; apply o_call; rfl; kernel_rfl; exact evsE) | (refine c_if rfl (fun h => absurd h (by first | omega | simp)) (fun h => ?_); clear h) | (refine wg_if rfl rfl (fun h => absurd h (by first | omega | simp)) (fun h => ?_); clear h))
  repeat (first | apply c_seq | apply c_reg | (apply wO; apply oc; rfl; exact ydE) | (apply wO; apply oc; rfl; apply yd_ldw; rfl; exact memE; assumption) | apply w_nil | apply n_cd | (apply wg_t; rfl; rfl) | (apply wg_f; rfl; rfl; rfl; rfl) | (apply wg_u; rfl; rfl; rfl) | (apply c_t; rfl) | (apply c_f; rfl) | apply c_skip | apply c_block | apply n_blk | apply c_exit | apply e_hit | apply e_cd | apply e_lp | (apply e_miss; rfl) | apply c_ret | (apply wO; apply o_box; rfl; rfl; rfl; intro _) | (apply wO; apply o_alloc; rfl; intro _) | (apply wO; apply o_st; rfl; rfl; rfl; (first | exact AggC.s | exact OneC.s); rfl; exact rplE; exact putE; rfl) | (apply wO; apply o_stw; rfl; rfl; exact AggC.s; exact rplE; assumption; rfl; assumption) | (apply wO; apply o_call; rfl; kernel_rfl; exact evsE) | (refine c_if rfl (fun h => absurd h (by first | omega | simp)) (fun h => ?_); clear h) | (refine wg_if rfl rfl (fun h => absurd h (by first | omega | simp)) (fun h => ?_); clear h))
  refine cf (fn_markL (fun w h hn => markPacketS_c _ r1 _ (1 + cvSource r0) w h hn (by omega) (by omega))) fun _ _ => ?_
  refine t_app ?_
  repeat (first | apply c_seq | apply c_reg | (apply wO; apply oc; rfl; exact ydE) | (apply wO; apply oc; rfl; apply yd_ldw; rfl; exact memE; assumption) | apply w_nil | apply n_cd | (apply wg_t; rfl; rfl) | (apply wg_f; rfl; rfl; rfl; rfl) | (apply wg_u; rfl; rfl; rfl) | (apply c_t; rfl) | (apply c_f; rfl) | apply c_skip | apply c_block | apply n_blk | apply c_exit | apply e_hit | apply e_cd | apply e_lp | (apply e_miss; rfl) | apply c_ret | (apply wO; apply o_box; rfl; rfl; rfl; intro _) | (apply wO; apply o_alloc; rfl; intro _) | (apply wO; apply o_st; rfl; rfl; rfl; (first | exact AggC.s | exact OneC.s); rfl; exact rplE; exact putE; rfl) | (apply wO; apply o_stw; rfl; rfl; exact AggC.s; exact rplE; assumption; rfl; assumption) | (apply wO; apply o_call; rfl; kernel_rfl; exact evsE) | (refine c_if rfl (fun h => absurd h (by first | omega | simp)) (fun h => ?_); clear h) | (refine wg_if rfl rfl (fun h => absurd h (by first | omega | simp)) (fun h => ?_); clear h))
  repeat (first | apply c_seq | apply c_reg | (apply wO; apply oc; rfl; exact ydE) | (apply wO; apply oc; rfl; apply yd_ldw; rfl; exact memE; assumption) | apply w_nil | apply n_cd | (apply wg_t; rfl; rfl) | (apply wg_f; rfl; rfl; rfl; rfl) | (apply wg_u; rfl; rfl; rfl) | (apply c_t; rfl) | (apply c_f; rfl) | apply c_skip | apply c_block | apply n_blk | apply c_exit | apply e_hit | apply e_cd | apply e_lp | (apply e_miss; rfl) | apply c_ret | (apply wO; apply o_box; rfl; rfl; rfl; intro _) | (apply wO; apply o_alloc; rfl; intro _) | (apply wO; apply o_st; rfl; rfl; rfl; (first | exact AggC.s | exact OneC.s); rfl; exact rplE; exact putE; rfl) | (apply wO; apply o_stw; rfl; rfl; exact AggC.s; exact rplE; assumption; rfl; assumption) | (apply wO; apply o_call; rfl; kernel_rfl; exact evsE) | (refine c_if rfl (fun h => absurd h (by first | omega | simp)) (fun h => ?_); clear h) | (refine wg_if rfl rfl (fun h => absurd h (by first | omega | simp)) (fun h => ?_); clear h))
  refine cb (fun w st => ex1 (fun F h => heldSource_c _ r0 F (1) w h (by omega) (by omega)) (st.rO weak_Source)) ?_
  repeat (first | apply c_seq | apply c_reg | (apply wO; apply oc; rfl; exact ydE) | (apply wO; apply oc; rfl; apply yd_ldw; rfl; exact memE; assumption) | apply w_nil | apply n_cd | (apply wg_t; rfl; rfl) | (apply wg_f; rfl; rfl; rfl; rfl) | (apply wg_u; rfl; rfl; rfl) | (apply c_t; rfl) | (apply c_f; rfl) | apply c_skip | apply c_block | apply n_blk | apply c_exit | apply e_hit | apply e_cd | apply e_lp | (apply e_miss; rfl) | apply c_ret | (apply wO; apply o_box; rfl; rfl; rfl; intro _) | (apply wO; apply o_alloc; rfl; intro _) | (apply wO; apply o_st; rfl; rfl; rfl; (first | exact AggC.s | exact OneC.s); rfl; exact rplE; exact putE; rfl) | (apply wO; apply o_stw; rfl; rfl; exact AggC.s; exact rplE; assumption; rfl; assumption) | (apply wO; apply o_call; rfl; kernel_rfl; exact evsE) | (refine c_if rfl (fun h => absurd h (by first | omega | simp)) (fun h => ?_); clear h) | (refine wg_if rfl rfl (fun h => absurd h (by first | omega | simp)) (fun h => ?_); clear h))
  repeat (first | apply c_seq | apply c_reg | (apply wO; apply oc; rfl; exact ydE) | (apply wO; apply oc; rfl; apply yd_ldw; rfl; exact memE; assumption) | apply w_nil | apply n_cd | (apply wg_t; rfl; rfl) | (apply wg_f; rfl; rfl; rfl; rfl) | (apply wg_u; rfl; rfl; rfl) | (apply c_t; rfl) | (apply c_f; rfl) | apply c_skip | apply c_block | apply n_blk | apply c_exit | apply e_hit | apply e_cd | apply e_lp | (apply e_miss; rfl) | apply c_ret | (apply wO; apply o_box; rfl; rfl; rfl; intro _) | (apply wO; apply o_alloc; rfl; intro _) | (apply wO; apply o_st; rfl; rfl; rfl; (first | exact AggC.s | exact OneC.s); rfl; exact rplE; exact putE; rfl) | (apply wO; apply o_stw; rfl; rfl; exact AggC.s; exact rplE; assumption; rfl; assumption) | (apply wO; apply o_call; rfl; kernel_rfl; exact evsE) | (refine c_if rfl (fun h => absurd h (by first | omega | simp)) (fun h => ?_); clear h) | (refine wg_if rfl rfl (fun h => absurd h (by first | omega | simp)) (fun h => ?_); clear h))
  repeat (first | apply c_seq | apply c_reg | (apply wO; apply oc; rfl; exact ydE) | (apply wO; apply oc; rfl; apply yd_ldw; rfl; exact memE; assumption) | apply w_nil | apply n_cd | (apply wg_t; rfl; rfl) | (apply wg_f; rfl; rfl; rfl; rfl) | (apply wg_u; rfl; rfl; rfl) | (apply c_t; rfl) | (apply c_f; rfl) | apply c_skip | apply c_block | apply n_blk | apply c_exit | apply e_hit | apply e_cd | apply e_lp | (apply e_miss; rfl) | apply c_ret | (apply wO; apply o_box; rfl; rfl; rfl; intro _) | (apply wO; apply o_alloc; rfl; intro _) | (apply wO; apply o_st; rfl; rfl; rfl; (first | exact AggC.s | exact OneC.s); rfl; exact rplE; exact putE; rfl) | (apply wO; apply o_stw; rfl; rfl; exact AggC.s; exact rplE; assumption; rfl; assumption) | (apply wO; apply o_call; rfl; kernel_rfl; exact evsE) | (refine c_if rfl (fun h => absurd h (by first | omega | simp)) (fun h => ?_); clear h) | (refine wg_if rfl rfl (fun h => absurd h (by first | omega | simp)) (fun h => ?_); clear h))
  refine cb (fun w st => ex1 (fun F h => heldPacketS_c _ r1 F (1 + cvSource r0) w h (by omega) (by omega)) (st.rL ((Weak.refl _)))) ?_
  repeat (first | apply c_seq | apply c_reg | (apply wO; apply oc; rfl; exact ydE) | (apply wO; apply oc; rfl; apply yd_ldw; rfl; exact memE; assumption) | apply w_nil | apply n_cd | (apply wg_t; rfl; rfl) | (apply wg_f; rfl; rfl; rfl; rfl) | (apply wg_u; rfl; rfl; rfl) | (apply c_t; rfl) | (apply c_f; rfl) | apply c_skip | apply c_block | apply n_blk | apply c_exit | apply e_hit | apply e_cd | apply e_lp | (apply e_miss; rfl) | apply c_ret | (apply wO; apply o_box; rfl; rfl; rfl; intro _) | (apply wO; apply o_alloc; rfl; intro _) | (apply wO; apply o_st; rfl; rfl; rfl; (first | exact AggC.s | exact OneC.s); rfl; exact rplE; exact putE; rfl) | (apply wO; apply o_stw; rfl; rfl; exact AggC.s; exact rplE; assumption; rfl; assumption) | (apply wO; apply o_call; rfl; kernel_rfl; exact evsE) | (refine c_if rfl (fun h => absurd h (by first | omega | simp)) (fun h => ?_); clear h) | (refine wg_if rfl rfl (fun h => absurd h (by first | omega | simp)) (fun h => ?_); clear h))
  repeat (first | apply c_seq | apply c_reg | (apply wO; apply oc; rfl; exact ydE) | (apply wO; apply oc; rfl; apply yd_ldw; rfl; exact memE; assumption) | apply w_nil | apply n_cd | (apply wg_t; rfl; rfl) | (apply wg_f; rfl; rfl; rfl; rfl) | (apply wg_u; rfl; rfl; rfl) | (apply c_t; rfl) | (apply c_f; rfl) | apply c_skip | apply c_block | apply n_blk | apply c_exit | apply e_hit | apply e_cd | apply e_lp | (apply e_miss; rfl) | apply c_ret | (apply wO; apply o_box; rfl; rfl; rfl; intro _) | (apply wO; apply o_alloc; rfl; intro _) | (apply wO; apply o_st; rfl; rfl; rfl; (first | exact AggC.s | exact OneC.s); rfl; exact rplE; exact putE; rfl) | (apply wO; apply o_stw; rfl; rfl; exact AggC.s; exact rplE; assumption; rfl; assumption) | (apply wO; apply o_call; rfl; kernel_rfl; exact evsE) | (refine c_if rfl (fun h => absurd h (by first | omega | simp)) (fun h => ?_); clear h) | (refine wg_if rfl rfl (fun h => absurd h (by first | omega | simp)) (fun h => ?_); clear h))
  repeat (first | apply c_seq | apply c_reg | (apply wO; apply oc; rfl; exact ydE) | (apply wO; apply oc; rfl; apply yd_ldw; rfl; exact memE; assumption) | apply w_nil | apply n_cd | (apply wg_t; rfl; rfl) | (apply wg_f; rfl; rfl; rfl; rfl) | (apply wg_u; rfl; rfl; rfl) | (apply c_t; rfl) | (apply c_f; rfl) | apply c_skip | apply c_block | apply n_blk | apply c_exit | apply e_hit | apply e_cd | apply e_lp | (apply e_miss; rfl) | apply c_ret | (apply wO; apply o_box; rfl; rfl; rfl; intro _) | (apply wO; apply o_alloc; rfl; intro _) | (apply wO; apply o_st; rfl; rfl; rfl; (first | exact AggC.s | exact OneC.s); rfl; exact rplE; exact putE; rfl) | (apply wO; apply o_stw; rfl; rfl; exact AggC.s; exact rplE; assumption; rfl; assumption) | (apply wO; apply o_call; rfl; kernel_rfl; exact evsE) | (refine c_if rfl (fun h => absurd h (by first | omega | simp)) (fun h => ?_); clear h) | (refine wg_if rfl rfl (fun h => absurd h (by first | omega | simp)) (fun h => ?_); clear h))
  repeat (first | apply c_seq | apply c_reg | (apply wO; apply oc; rfl; exact ydE) | (apply wO; apply oc; rfl; apply yd_ldw; rfl; exact memE; assumption) | apply w_nil | apply n_cd | (apply wg_t; rfl; rfl) | (apply wg_f; rfl; rfl; rfl; rfl) | (apply wg_u; rfl; rfl; rfl) | (apply c_t; rfl) | (apply c_f; rfl) | apply c_skip | apply c_block | apply n_blk | apply c_exit | apply e_hit | apply e_cd | apply e_lp | (apply e_miss; rfl) | apply c_ret | (apply wO; apply o_box; rfl; rfl; rfl; intro _) | (apply wO; apply o_alloc; rfl; intro _) | (apply wO; apply o_st; rfl; rfl; rfl; (first | exact AggC.s | exact OneC.s); rfl; exact rplE; exact putE; rfl) | (apply wO; apply o_stw; rfl; rfl; exact AggC.s; exact rplE; assumption; rfl; assumption) | (apply wO; apply o_call; rfl; kernel_rfl; exact evsE) | (refine c_if rfl (fun h => absurd h (by first | omega | simp)) (fun h => ?_); clear h) | (refine wg_if rfl rfl (fun h => absurd h (by first | omega | simp)) (fun h => ?_); clear h))
  refine c_joinA [4, 6, 7, 8, 10, 11, 14, 15] (fun s : JRequestTo => [(16, ptr s.g0 0 0), (17, s.u1), (18, .bool r2)]) (fun s => [.row s.g0 55 0 [] s.L0 [], .own OSource (.agg s.L0.toArray) r0 s.F0, .ow EPacket 76 s.u1 r1 s.F1]) (fun _ => True) ?_ fun s _ => ?_
  · repeat (first | apply c_seq | apply c_reg | (apply wO; apply oc; rfl; exact ydE) | (apply wO; apply oc; rfl; apply yd_ldw; rfl; exact memE; assumption) | apply w_nil | apply n_cd | (apply wg_t; rfl; rfl) | (apply wg_f; rfl; rfl; rfl; rfl) | (apply wg_u; rfl; rfl; rfl) | (apply c_t; rfl) | (apply c_f; rfl) | apply c_skip | apply c_block | apply n_blk | apply c_exit | apply e_hit | apply e_cd | apply e_lp | (apply e_miss; rfl) | apply c_ret | (apply wO; apply o_box; rfl; rfl; rfl; intro _) | (apply wO; apply o_alloc; rfl; intro _) | (apply wO; apply o_st; rfl; rfl; rfl; (first | exact AggC.s | exact OneC.s); rfl; exact rplE; exact putE; rfl) | (apply wO; apply o_stw; rfl; rfl; exact AggC.s; exact rplE; assumption; rfl; assumption) | (apply wO; apply o_call; rfl; kernel_rfl; exact evsE) | (refine c_if rfl (fun h => absurd h (by first | omega | simp)) (fun h => ?_); clear h) | (refine wg_if rfl rfl (fun h => absurd h (by first | omega | simp)) (fun h => ?_); clear h))
    refine d_startA [] ?_
    refine dt 0 ?_ (hy := (by first | exact ydE | exact yd_ldw rfl (by exact memE) (by assumption)))
    refine dt 2 ?_ (hy := (by first | exact ydE | exact yd_ldw rfl (by exact memE) (by assumption)))
    refine dO2 1 9 (by kernel_rfl) (by rw [List.getElem?_toArray]; rfl) (by rw [List.getElem?_toArray]; rfl) ?_ ?_
    · apply o_call; rfl; kernel_rfl; exact evsE
      refine cv (fun w st => ex1 (fun F h => toSource_c _ x0 F w h hw0) st.rI) fun y0 K0 => ?_
      refine t_weakV weak_Source fun K0 => ?_
      refine dk ?_
      refine dO2 3 9 (by kernel_rfl) (by rw [List.getElem?_toArray]; rfl) (by rw [List.getElem?_toArray]; rfl) ?_ ?_
      · apply o_call; rfl; kernel_rfl; exact evsE
        refine cv (fun w st => ex1 (fun F h => toPacket_c _ x1 F w h hw1) st.rI) fun y1 K1 => ?_
        refine t_weakV (Weak.refl EPacket) fun K1 => ?_
        refine openPacket (x := x1) (F := K1) ?_
        rintro _ rfl -
        refine dk ?_
        refine dO2 4 9 (by kernel_rfl) (by rw [List.getElem?_toArray]; rfl) (by rw [List.getElem?_toArray]; rfl) ?_ ?_
        · apply o_call; rfl; kernel_rfl; exact evsE
          refine cm (fun w st => ex1 (fun F h => (hI _ F).made w (hol1 h) (fun _ => rfl)) (st.rI)) fun z hz => ?_
          refine t_app ?_
          refine dk ?_
          refine dt 5 ?_
          refine dt 6 ?_
          refine dt 7 ?_
          refine dt 8 ?_
          refine dO 9 (by kernel_rfl) (by rw [List.getElem?_toArray]; rfl) ?_
          apply o_alloc; rfl; intro _
          refine dk ?_
          refine dO 10 (by kernel_rfl) (by rw [List.getElem?_toArray]; rfl) ?_
          apply o_st; rfl; rfl; rfl; (first | exact AggC.s | exact OneC.s); rfl; exact rplE; exact putE; rfl
          refine dk ?_
          refine dt 11 ?_
          refine dt 12 ?_
          refine dd ?_
          repeat (first | apply c_seq | apply c_reg | (apply wO; apply oc; rfl; exact ydE) | (apply wO; apply oc; rfl; apply yd_ldw; rfl; exact memE; assumption) | apply w_nil | apply n_cd | (apply wg_t; rfl; rfl) | (apply wg_f; rfl; rfl; rfl; rfl) | (apply wg_u; rfl; rfl; rfl) | (apply c_t; rfl) | (apply c_f; rfl) | apply c_skip | apply c_block | apply n_blk | apply c_exit | apply e_hit | apply e_cd | apply e_lp | (apply e_miss; rfl) | apply c_ret | (apply wO; apply o_box; rfl; rfl; rfl; intro _) | (apply wO; apply o_alloc; rfl; intro _) | (apply wO; apply o_st; rfl; rfl; rfl; (first | exact AggC.s | exact OneC.s); rfl; exact rplE; exact putE; rfl) | (apply wO; apply o_stw; rfl; rfl; exact AggC.s; exact rplE; assumption; rfl; assumption) | (apply wO; apply o_call; rfl; kernel_rfl; exact evsE) | (refine c_if rfl (fun h => absurd h (by first | omega | simp)) (fun h => ?_); clear h) | (refine wg_if rfl rfl (fun h => absurd h (by first | omega | simp)) (fun h => ?_); clear h))
          refine n_join (⟨_, _, _, _, _⟩ : JRequestTo) trivial
        · apply o_alloc; rfl; intro _
          refine dk ?_
          refine dO 4 (by kernel_rfl) (by rw [List.getElem?_toArray]; rfl) ?_
          apply o_call; rfl; kernel_rfl; exact evsE
          refine cm (fun w st => ex1 (fun F h => (hI _ F).made w (hol1 h) (fun _ => rfl)) (st.rI)) fun z hz => ?_
          refine t_app ?_
          refine dk ?_
          refine dt 5 ?_
          refine dt 6 ?_
          refine dt 7 ?_
          refine dt 8 ?_
          refine dO 10 (by kernel_rfl) (by rw [List.getElem?_toArray]; rfl) ?_
          apply o_st; rfl; rfl; rfl; (first | exact AggC.s | exact OneC.s); rfl; exact rplE; exact putE; rfl
          refine dk ?_
          refine dt 11 ?_
          refine dt 12 ?_
          refine dd ?_
          repeat (first | apply c_seq | apply c_reg | (apply wO; apply oc; rfl; exact ydE) | (apply wO; apply oc; rfl; apply yd_ldw; rfl; exact memE; assumption) | apply w_nil | apply n_cd | (apply wg_t; rfl; rfl) | (apply wg_f; rfl; rfl; rfl; rfl) | (apply wg_u; rfl; rfl; rfl) | (apply c_t; rfl) | (apply c_f; rfl) | apply c_skip | apply c_block | apply n_blk | apply c_exit | apply e_hit | apply e_cd | apply e_lp | (apply e_miss; rfl) | apply c_ret | (apply wO; apply o_box; rfl; rfl; rfl; intro _) | (apply wO; apply o_alloc; rfl; intro _) | (apply wO; apply o_st; rfl; rfl; rfl; (first | exact AggC.s | exact OneC.s); rfl; exact rplE; exact putE; rfl) | (apply wO; apply o_stw; rfl; rfl; exact AggC.s; exact rplE; assumption; rfl; assumption) | (apply wO; apply o_call; rfl; kernel_rfl; exact evsE) | (refine c_if rfl (fun h => absurd h (by first | omega | simp)) (fun h => ?_); clear h) | (refine wg_if rfl rfl (fun h => absurd h (by first | omega | simp)) (fun h => ?_); clear h))
          refine n_join (⟨_, _, _, _, _⟩ : JRequestTo) trivial
      · apply o_alloc; rfl; intro _
        refine dk ?_
        refine dO 3 (by kernel_rfl) (by rw [List.getElem?_toArray]; rfl) ?_
        apply o_call; rfl; kernel_rfl; exact evsE
        refine cv (fun w st => ex1 (fun F h => toPacket_c _ x1 F w h hw1) st.rI) fun y1 K1 => ?_
        refine t_weakV (Weak.refl EPacket) fun K1 => ?_
        refine openPacket (x := x1) (F := K1) ?_
        rintro _ rfl -
        refine dk ?_
        refine dO 4 (by kernel_rfl) (by rw [List.getElem?_toArray]; rfl) ?_
        apply o_call; rfl; kernel_rfl; exact evsE
        refine cm (fun w st => ex1 (fun F h => (hI _ F).made w (hol1 h) (fun _ => rfl)) (st.rI)) fun z hz => ?_
        refine t_app ?_
        refine dk ?_
        refine dt 5 ?_
        refine dt 6 ?_
        refine dt 7 ?_
        refine dt 8 ?_
        refine dO 10 (by kernel_rfl) (by rw [List.getElem?_toArray]; rfl) ?_
        apply o_st; rfl; rfl; rfl; (first | exact AggC.s | exact OneC.s); rfl; exact rplE; exact putE; rfl
        refine dk ?_
        refine dt 11 ?_
        refine dt 12 ?_
        refine dd ?_
        repeat (first | apply c_seq | apply c_reg | (apply wO; apply oc; rfl; exact ydE) | (apply wO; apply oc; rfl; apply yd_ldw; rfl; exact memE; assumption) | apply w_nil | apply n_cd | (apply wg_t; rfl; rfl) | (apply wg_f; rfl; rfl; rfl; rfl) | (apply wg_u; rfl; rfl; rfl) | (apply c_t; rfl) | (apply c_f; rfl) | apply c_skip | apply c_block | apply n_blk | apply c_exit | apply e_hit | apply e_cd | apply e_lp | (apply e_miss; rfl) | apply c_ret | (apply wO; apply o_box; rfl; rfl; rfl; intro _) | (apply wO; apply o_alloc; rfl; intro _) | (apply wO; apply o_st; rfl; rfl; rfl; (first | exact AggC.s | exact OneC.s); rfl; exact rplE; exact putE; rfl) | (apply wO; apply o_stw; rfl; rfl; exact AggC.s; exact rplE; assumption; rfl; assumption) | (apply wO; apply o_call; rfl; kernel_rfl; exact evsE) | (refine c_if rfl (fun h => absurd h (by first | omega | simp)) (fun h => ?_); clear h) | (refine wg_if rfl rfl (fun h => absurd h (by first | omega | simp)) (fun h => ?_); clear h))
        refine n_join (⟨_, _, _, _, _⟩ : JRequestTo) trivial
    · apply o_alloc; rfl; intro _
      refine dk ?_
      refine dO 1 (by kernel_rfl) (by rw [List.getElem?_toArray]; rfl) ?_
      apply o_call; rfl; kernel_rfl; exact evsE
      refine cv (fun w st => ex1 (fun F h => toSource_c _ x0 F w h hw0) st.rI) fun y0 K0 => ?_
      refine t_weakV weak_Source fun K0 => ?_
      refine dk ?_
      refine dO 3 (by kernel_rfl) (by rw [List.getElem?_toArray]; rfl) ?_
      apply o_call; rfl; kernel_rfl; exact evsE
      refine cv (fun w st => ex1 (fun F h => toPacket_c _ x1 F w h hw1) st.rI) fun y1 K1 => ?_
      refine t_weakV (Weak.refl EPacket) fun K1 => ?_
      refine openPacket (x := x1) (F := K1) ?_
      rintro _ rfl -
      refine dk ?_
      refine dO 4 (by kernel_rfl) (by rw [List.getElem?_toArray]; rfl) ?_
      apply o_call; rfl; kernel_rfl; exact evsE
      refine cm (fun w st => ex1 (fun F h => (hI _ F).made w (hol1 h) (fun _ => rfl)) (st.rI)) fun z hz => ?_
      refine t_app ?_
      refine dk ?_
      refine dt 5 ?_
      refine dt 6 ?_
      refine dt 7 ?_
      refine dt 8 ?_
      refine dO 10 (by kernel_rfl) (by rw [List.getElem?_toArray]; rfl) ?_
      apply o_st; rfl; rfl; rfl; (first | exact AggC.s | exact OneC.s); rfl; exact rplE; exact putE; rfl
      refine dk ?_
      refine dt 11 ?_
      refine dt 12 ?_
      refine dd ?_
      repeat (first | apply c_seq | apply c_reg | (apply wO; apply oc; rfl; exact ydE) | (apply wO; apply oc; rfl; apply yd_ldw; rfl; exact memE; assumption) | apply w_nil | apply n_cd | (apply wg_t; rfl; rfl) | (apply wg_f; rfl; rfl; rfl; rfl) | (apply wg_u; rfl; rfl; rfl) | (apply c_t; rfl) | (apply c_f; rfl) | apply c_skip | apply c_block | apply n_blk | apply c_exit | apply e_hit | apply e_cd | apply e_lp | (apply e_miss; rfl) | apply c_ret | (apply wO; apply o_box; rfl; rfl; rfl; intro _) | (apply wO; apply o_alloc; rfl; intro _) | (apply wO; apply o_st; rfl; rfl; rfl; (first | exact AggC.s | exact OneC.s); rfl; exact rplE; exact putE; rfl) | (apply wO; apply o_stw; rfl; rfl; exact AggC.s; exact rplE; assumption; rfl; assumption) | (apply wO; apply o_call; rfl; kernel_rfl; exact evsE) | (refine c_if rfl (fun h => absurd h (by first | omega | simp)) (fun h => ?_); clear h) | (refine wg_if rfl rfl (fun h => absurd h (by first | omega | simp)) (fun h => ?_); clear h))
      refine n_join (⟨_, _, _, _, _⟩ : JRequestTo) trivial
  obtain ⟨g0h, L0h, F0h, u1h, F1h⟩ := s
  dsimp only
  refine t_aggO (E := OSource) (x := r0) (F := F0h) one_OSource ?_
  rintro cs e hl ho
  obtain rfl : L0h = cs := by simpa using e
  clear e
  have hl0h := hl; have ho0h := ho; clear hl ho
  repeat (first | apply c_seq | apply c_reg | (apply wO; apply oc; rfl; exact ydE) | (apply wO; apply oc; rfl; apply yd_ldw; rfl; exact memE; assumption) | apply w_nil | apply n_cd | (apply wg_t; rfl; rfl) | (apply wg_f; rfl; rfl; rfl; rfl) | (apply wg_u; rfl; rfl; rfl) | (apply c_t; rfl) | (apply c_f; rfl) | apply c_skip | apply c_block | apply n_blk | apply c_exit | apply e_hit | apply e_cd | apply e_lp | (apply e_miss; rfl) | apply c_ret | (apply wO; apply o_box; rfl; rfl; rfl; intro _) | (apply wO; apply o_alloc; rfl; intro _) | (apply wO; apply o_st; rfl; rfl; rfl; (first | exact AggC.s | exact OneC.s); rfl; exact rplE; exact putE; rfl) | (apply wO; apply o_stw; rfl; rfl; exact AggC.s; exact rplE; assumption; rfl; assumption) | (apply wO; apply o_call; rfl; kernel_rfl; exact evsE) | (refine c_if rfl (fun h => absurd h (by first | omega | simp)) (fun h => ?_); clear h) | (refine wg_if rfl rfl (fun h => absurd h (by first | omega | simp)) (fun h => ?_); clear h))
  refine cb (fun w st => ex2 (fun Fa Fb ha hb => eqSource_c _ _ r0 Fa Fb w ha hb) (st.rO weak_Source) st.rI) ?_
  repeat (first | apply c_seq | apply c_reg | (apply wO; apply oc; rfl; exact ydE) | (apply wO; apply oc; rfl; apply yd_ldw; rfl; exact memE; assumption) | apply w_nil | apply n_cd | (apply wg_t; rfl; rfl) | (apply wg_f; rfl; rfl; rfl; rfl) | (apply wg_u; rfl; rfl; rfl) | (apply c_t; rfl) | (apply c_f; rfl) | apply c_skip | apply c_block | apply n_blk | apply c_exit | apply e_hit | apply e_cd | apply e_lp | (apply e_miss; rfl) | apply c_ret | (apply wO; apply o_box; rfl; rfl; rfl; intro _) | (apply wO; apply o_alloc; rfl; intro _) | (apply wO; apply o_st; rfl; rfl; rfl; (first | exact AggC.s | exact OneC.s); rfl; exact rplE; exact putE; rfl) | (apply wO; apply o_stw; rfl; rfl; exact AggC.s; exact rplE; assumption; rfl; assumption) | (apply wO; apply o_call; rfl; kernel_rfl; exact evsE) | (refine c_if rfl (fun h => absurd h (by first | omega | simp)) (fun h => ?_); clear h) | (refine wg_if rfl rfl (fun h => absurd h (by first | omega | simp)) (fun h => ?_); clear h))
  refine cb (fun w st => ex2 (fun Fa Fb ha hb => eqPacketS_c _ _ r1 Fa Fb w ha hb) (st.rL ((Weak.refl _))) st.rS) ?_
  repeat (first | apply c_seq | apply c_reg | (apply wO; apply oc; rfl; exact ydE) | (apply wO; apply oc; rfl; apply yd_ldw; rfl; exact memE; assumption) | apply w_nil | apply n_cd | (apply wg_t; rfl; rfl) | (apply wg_f; rfl; rfl; rfl; rfl) | (apply wg_u; rfl; rfl; rfl) | (apply c_t; rfl) | (apply c_f; rfl) | apply c_skip | apply c_block | apply n_blk | apply c_exit | apply e_hit | apply e_cd | apply e_lp | (apply e_miss; rfl) | apply c_ret | (apply wO; apply o_box; rfl; rfl; rfl; intro _) | (apply wO; apply o_alloc; rfl; intro _) | (apply wO; apply o_st; rfl; rfl; rfl; (first | exact AggC.s | exact OneC.s); rfl; exact rplE; exact putE; rfl) | (apply wO; apply o_stw; rfl; rfl; exact AggC.s; exact rplE; assumption; rfl; assumption) | (apply wO; apply o_call; rfl; kernel_rfl; exact evsE) | (refine c_if rfl (fun h => absurd h (by first | omega | simp)) (fun h => ?_); clear h) | (refine wg_if rfl rfl (fun h => absurd h (by first | omega | simp)) (fun h => ?_); clear h))
  repeat (first | apply c_seq | apply c_reg | (apply wO; apply oc; rfl; exact ydE) | (apply wO; apply oc; rfl; apply yd_ldw; rfl; exact memE; assumption) | apply w_nil | apply n_cd | (apply wg_t; rfl; rfl) | (apply wg_f; rfl; rfl; rfl; rfl) | (apply wg_u; rfl; rfl; rfl) | (apply c_t; rfl) | (apply c_f; rfl) | apply c_skip | apply c_block | apply n_blk | apply c_exit | apply e_hit | apply e_cd | apply e_lp | (apply e_miss; rfl) | apply c_ret | (apply wO; apply o_box; rfl; rfl; rfl; intro _) | (apply wO; apply o_alloc; rfl; intro _) | (apply wO; apply o_st; rfl; rfl; rfl; (first | exact AggC.s | exact OneC.s); rfl; exact rplE; exact putE; rfl) | (apply wO; apply o_stw; rfl; rfl; exact AggC.s; exact rplE; assumption; rfl; assumption) | (apply wO; apply o_call; rfl; kernel_rfl; exact evsE) | (refine c_if rfl (fun h => absurd h (by first | omega | simp)) (fun h => ?_); clear h) | (refine wg_if rfl rfl (fun h => absurd h (by first | omega | simp)) (fun h => ?_); clear h))
  repeat (first | apply c_seq | apply c_reg | (apply wO; apply oc; rfl; exact ydE) | (apply wO; apply oc; rfl; apply yd_ldw; rfl; exact memE; assumption) | apply w_nil | apply n_cd | (apply wg_t; rfl; rfl) | (apply wg_f; rfl; rfl; rfl; rfl) | (apply wg_u; rfl; rfl; rfl) | (apply c_t; rfl) | (apply c_f; rfl) | apply c_skip | apply c_block | apply n_blk | apply c_exit | apply e_hit | apply e_cd | apply e_lp | (apply e_miss; rfl) | apply c_ret | (apply wO; apply o_box; rfl; rfl; rfl; intro _) | (apply wO; apply o_alloc; rfl; intro _) | (apply wO; apply o_st; rfl; rfl; rfl; (first | exact AggC.s | exact OneC.s); rfl; exact rplE; exact putE; rfl) | (apply wO; apply o_stw; rfl; rfl; exact AggC.s; exact rplE; assumption; rfl; assumption) | (apply wO; apply o_call; rfl; kernel_rfl; exact evsE) | (refine c_if rfl (fun h => absurd h (by first | omega | simp)) (fun h => ?_); clear h) | (refine wg_if rfl rfl (fun h => absurd h (by first | omega | simp)) (fun h => ?_); clear h))
  refine cb (fun w st => ex1 (fun F h => heldSource_c _ r0 F (1) w h (by omega) (by omega)) (st.rO weak_Source)) ?_
  repeat (first | apply c_seq | apply c_reg | (apply wO; apply oc; rfl; exact ydE) | (apply wO; apply oc; rfl; apply yd_ldw; rfl; exact memE; assumption) | apply w_nil | apply n_cd | (apply wg_t; rfl; rfl) | (apply wg_f; rfl; rfl; rfl; rfl) | (apply wg_u; rfl; rfl; rfl) | (apply c_t; rfl) | (apply c_f; rfl) | apply c_skip | apply c_block | apply n_blk | apply c_exit | apply e_hit | apply e_cd | apply e_lp | (apply e_miss; rfl) | apply c_ret | (apply wO; apply o_box; rfl; rfl; rfl; intro _) | (apply wO; apply o_alloc; rfl; intro _) | (apply wO; apply o_st; rfl; rfl; rfl; (first | exact AggC.s | exact OneC.s); rfl; exact rplE; exact putE; rfl) | (apply wO; apply o_stw; rfl; rfl; exact AggC.s; exact rplE; assumption; rfl; assumption) | (apply wO; apply o_call; rfl; kernel_rfl; exact evsE) | (refine c_if rfl (fun h => absurd h (by first | omega | simp)) (fun h => ?_); clear h) | (refine wg_if rfl rfl (fun h => absurd h (by first | omega | simp)) (fun h => ?_); clear h))
  repeat (first | apply c_seq | apply c_reg | (apply wO; apply oc; rfl; exact ydE) | (apply wO; apply oc; rfl; apply yd_ldw; rfl; exact memE; assumption) | apply w_nil | apply n_cd | (apply wg_t; rfl; rfl) | (apply wg_f; rfl; rfl; rfl; rfl) | (apply wg_u; rfl; rfl; rfl) | (apply c_t; rfl) | (apply c_f; rfl) | apply c_skip | apply c_block | apply n_blk | apply c_exit | apply e_hit | apply e_cd | apply e_lp | (apply e_miss; rfl) | apply c_ret | (apply wO; apply o_box; rfl; rfl; rfl; intro _) | (apply wO; apply o_alloc; rfl; intro _) | (apply wO; apply o_st; rfl; rfl; rfl; (first | exact AggC.s | exact OneC.s); rfl; exact rplE; exact putE; rfl) | (apply wO; apply o_stw; rfl; rfl; exact AggC.s; exact rplE; assumption; rfl; assumption) | (apply wO; apply o_call; rfl; kernel_rfl; exact evsE) | (refine c_if rfl (fun h => absurd h (by first | omega | simp)) (fun h => ?_); clear h) | (refine wg_if rfl rfl (fun h => absurd h (by first | omega | simp)) (fun h => ?_); clear h))
  repeat (first | apply c_seq | apply c_reg | (apply wO; apply oc; rfl; exact ydE) | (apply wO; apply oc; rfl; apply yd_ldw; rfl; exact memE; assumption) | apply w_nil | apply n_cd | (apply wg_t; rfl; rfl) | (apply wg_f; rfl; rfl; rfl; rfl) | (apply wg_u; rfl; rfl; rfl) | (apply c_t; rfl) | (apply c_f; rfl) | apply c_skip | apply c_block | apply n_blk | apply c_exit | apply e_hit | apply e_cd | apply e_lp | (apply e_miss; rfl) | apply c_ret | (apply wO; apply o_box; rfl; rfl; rfl; intro _) | (apply wO; apply o_alloc; rfl; intro _) | (apply wO; apply o_st; rfl; rfl; rfl; (first | exact AggC.s | exact OneC.s); rfl; exact rplE; exact putE; rfl) | (apply wO; apply o_stw; rfl; rfl; exact AggC.s; exact rplE; assumption; rfl; assumption) | (apply wO; apply o_call; rfl; kernel_rfl; exact evsE) | (refine c_if rfl (fun h => absurd h (by first | omega | simp)) (fun h => ?_); clear h) | (refine wg_if rfl rfl (fun h => absurd h (by first | omega | simp)) (fun h => ?_); clear h))
  refine cb (fun w st => ex1 (fun F h => heldPacketS_c _ r1 F (1 + cvSource r0) w h (by omega) (by omega)) (st.rL ((Weak.refl _)))) ?_
  repeat (first | apply c_seq | apply c_reg | (apply wO; apply oc; rfl; exact ydE) | (apply wO; apply oc; rfl; apply yd_ldw; rfl; exact memE; assumption) | apply w_nil | apply n_cd | (apply wg_t; rfl; rfl) | (apply wg_f; rfl; rfl; rfl; rfl) | (apply wg_u; rfl; rfl; rfl) | (apply c_t; rfl) | (apply c_f; rfl) | apply c_skip | apply c_block | apply n_blk | apply c_exit | apply e_hit | apply e_cd | apply e_lp | (apply e_miss; rfl) | apply c_ret | (apply wO; apply o_box; rfl; rfl; rfl; intro _) | (apply wO; apply o_alloc; rfl; intro _) | (apply wO; apply o_st; rfl; rfl; rfl; (first | exact AggC.s | exact OneC.s); rfl; exact rplE; exact putE; rfl) | (apply wO; apply o_stw; rfl; rfl; exact AggC.s; exact rplE; assumption; rfl; assumption) | (apply wO; apply o_call; rfl; kernel_rfl; exact evsE) | (refine c_if rfl (fun h => absurd h (by first | omega | simp)) (fun h => ?_); clear h) | (refine wg_if rfl rfl (fun h => absurd h (by first | omega | simp)) (fun h => ?_); clear h))
  repeat (first | apply c_seq | apply c_reg | (apply wO; apply oc; rfl; exact ydE) | (apply wO; apply oc; rfl; apply yd_ldw; rfl; exact memE; assumption) | apply w_nil | apply n_cd | (apply wg_t; rfl; rfl) | (apply wg_f; rfl; rfl; rfl; rfl) | (apply wg_u; rfl; rfl; rfl) | (apply c_t; rfl) | (apply c_f; rfl) | apply c_skip | apply c_block | apply n_blk | apply c_exit | apply e_hit | apply e_cd | apply e_lp | (apply e_miss; rfl) | apply c_ret | (apply wO; apply o_box; rfl; rfl; rfl; intro _) | (apply wO; apply o_alloc; rfl; intro _) | (apply wO; apply o_st; rfl; rfl; rfl; (first | exact AggC.s | exact OneC.s); rfl; exact rplE; exact putE; rfl) | (apply wO; apply o_stw; rfl; rfl; exact AggC.s; exact rplE; assumption; rfl; assumption) | (apply wO; apply o_call; rfl; kernel_rfl; exact evsE) | (refine c_if rfl (fun h => absurd h (by first | omega | simp)) (fun h => ?_); clear h) | (refine wg_if rfl rfl (fun h => absurd h (by first | omega | simp)) (fun h => ?_); clear h))
  repeat (first | apply c_seq | apply c_reg | (apply wO; apply oc; rfl; exact ydE) | (apply wO; apply oc; rfl; apply yd_ldw; rfl; exact memE; assumption) | apply w_nil | apply n_cd | (apply wg_t; rfl; rfl) | (apply wg_f; rfl; rfl; rfl; rfl) | (apply wg_u; rfl; rfl; rfl) | (apply c_t; rfl) | (apply c_f; rfl) | apply c_skip | apply c_block | apply n_blk | apply c_exit | apply e_hit | apply e_cd | apply e_lp | (apply e_miss; rfl) | apply c_ret | (apply wO; apply o_box; rfl; rfl; rfl; intro _) | (apply wO; apply o_alloc; rfl; intro _) | (apply wO; apply o_st; rfl; rfl; rfl; (first | exact AggC.s | exact OneC.s); rfl; exact rplE; exact putE; rfl) | (apply wO; apply o_stw; rfl; rfl; exact AggC.s; exact rplE; assumption; rfl; assumption) | (apply wO; apply o_call; rfl; kernel_rfl; exact evsE) | (refine c_if rfl (fun h => absurd h (by first | omega | simp)) (fun h => ?_); clear h) | (refine wg_if rfl rfl (fun h => absurd h (by first | omega | simp)) (fun h => ?_); clear h))
  repeat (first | apply c_seq | apply c_reg | (apply wO; apply oc; rfl; exact ydE) | (apply wO; apply oc; rfl; apply yd_ldw; rfl; exact memE; assumption) | apply w_nil | apply n_cd | (apply wg_t; rfl; rfl) | (apply wg_f; rfl; rfl; rfl; rfl) | (apply wg_u; rfl; rfl; rfl) | (apply c_t; rfl) | (apply c_f; rfl) | apply c_skip | apply c_block | apply n_blk | apply c_exit | apply e_hit | apply e_cd | apply e_lp | (apply e_miss; rfl) | apply c_ret | (apply wO; apply o_box; rfl; rfl; rfl; intro _) | (apply wO; apply o_alloc; rfl; intro _) | (apply wO; apply o_st; rfl; rfl; rfl; (first | exact AggC.s | exact OneC.s); rfl; exact rplE; exact putE; rfl) | (apply wO; apply o_stw; rfl; rfl; exact AggC.s; exact rplE; assumption; rfl; assumption) | (apply wO; apply o_call; rfl; kernel_rfl; exact evsE) | (refine c_if rfl (fun h => absurd h (by first | omega | simp)) (fun h => ?_); clear h) | (refine wg_if rfl rfl (fun h => absurd h (by first | omega | simp)) (fun h => ?_); clear h))
  refine ret () trivial rfl
theorem law_RequestTo (v0 : Value) (x0 : Source) (F0 : List Nat) (v1 : Value) (x1 : Packet) (F1 : List Nat) (w : World) (h0 : IsV ESource w v0 x0 F0) (h1 : IsV EPacket w v1 x1 F1) :
    Calls Tryz.prog 6 #[v0, v1] w fun e' w' => e' = .returned (.bool true) ∧ Below w.heap.size w w' := (law_RequestTo_f v0 x0 F0 v1 x1 F1).val w (hol2 (h0) (h1))
end Go.Proofs.YtidephmobajikaaGreatDoor
