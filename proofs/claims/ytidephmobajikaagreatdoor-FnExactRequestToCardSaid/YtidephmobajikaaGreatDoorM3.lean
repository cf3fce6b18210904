/- Part 3 of the proof: 9 texts, one behind the other. -/
import Derived.ProofKit
import Derived.OpenShut
import Derived.Test.YtidephmobajikaaGreatDoorM2
/- Send windows: what is held, answered, told, on both sides. -/
namespace Go.Proofs.YtidephmobajikaaGreatDoor
open Go.RowKit
theorem resAnswer_no {x : SendWindow} {p : Packet} (h : okAnswer x p = false) : resAnswer x p = (zPk, false) := by unfold resAnswer; rw [h]; rfl
theorem resAnswer_yes {x : SendWindow} {p : Packet} (h : okAnswer x p = true) : resAnswer x p = (ansP x p.number, true) := by unfold resAnswer; rw [h]; rfl
theorem held_lt {x : SendWindow} {n : Int} (h : heldB x n = true) : (gp x.trail n).toNat < x.items.length := by
  have b := gp_bd x.trail n
  unfold heldB at h
  simp only [decide_eq_true_eq] at h
  omega
theorem itemAt_lt {x : SendWindow} {n : Int} (h : (gp x.trail n).toNat < x.items.length) : itemAt x n = x.items[(gp x.trail n).toNat] := by
  unfold itemAt
  rw [List.getD_eq_getElem?_getD, List.getElem?_eq_getElem h]; rfl
theorem goodPk_num {p : Packet} (h : goodPk p = true) : 0 ≤ p.number ∧ p.number ≤ 65535 := by
  unfold goodPk at h
  simp only [Bool.and_eq_true] at h
  exact isSer_iff.1 h.1.1.1.1.1.2
set_option maxRecDepth 100000 in
theorem IsValidPacket_f (p : Packet) (hs : p.data.size ≤ maxLen) : Fn Tryz.prog 112 [.agg #[.int .i64 p.kind, .int .i64 p.number, .int .i64 p.trail, .int .i64 p.lead, .string p.data]] [] [] (fun (_ : Unit) => True) (fun _ => .bool (goodPk p)) (fun _ => []) := by
  refine enter Tryz.func112 rfl Tryz.ntmps112 fun w0 => ?_
  repeat (first | apply c_seq | apply c_reg | (apply wO; apply oc; rfl; exact ydE) | apply w_nil | apply n_cd | (apply wg_t; rfl; rfl) | (apply wg_f; rfl; rfl; rfl; rfl) | (apply wg_u; rfl; rfl; rfl) | (apply c_t; rfl) | (apply c_f; rfl) | apply c_skip | apply c_block | apply n_blk | apply c_exit | apply e_hit | apply e_cd | apply e_lp | (apply e_miss; rfl) | apply c_ret | (apply wO; apply o_box; rfl; rfl; rfl; intro _) | (apply wO; apply o_alloc; rfl; intro _) | (apply wO; apply o_st; rfl; rfl; rfl; (first | exact AggC.s | exact OneC.s); rfl; exact rplE; exact putE; rfl) | (apply wO; apply o_bs0; rfl; intro _) | (apply wO; apply o_bs; rfl; rfl; rfl; rfl; exact rptE; exact filE; intro _) | (apply wO; apply o_call; rfl; kernel_rfl; exact evsE))
  refine ce (fun w s => within_c _ _ _ _) ?_
  cases g1 : btw 1 p.kind 5
  · repeat (first | apply c_seq | apply c_reg | (apply wO; apply oc; rfl; exact ydE) | apply w_nil | apply n_cd | (apply wg_t; rfl; rfl) | (apply wg_f; rfl; rfl; rfl; rfl) | (apply wg_u; rfl; rfl; rfl) | (apply c_t; rfl) | (apply c_f; rfl) | apply c_skip | apply c_block | apply n_blk | apply c_exit | apply e_hit | apply e_cd | apply e_lp | (apply e_miss; rfl) | apply c_ret | (apply wO; apply o_box; rfl; rfl; rfl; intro _) | (apply wO; apply o_alloc; rfl; intro _) | (apply wO; apply o_st; rfl; rfl; rfl; (first | exact AggC.s | exact OneC.s); rfl; exact rplE; exact putE; rfl) | (apply wO; apply o_bs0; rfl; intro _) | (apply wO; apply o_bs; rfl; rfl; rfl; rfl; exact rptE; exact filE; intro _) | (apply wO; apply o_call; rfl; kernel_rfl; exact evsE))
    refine ret () trivial ?_
    show Value.bool _ = Value.bool _; congr 1; unfold goodPk; simp [g1]
  repeat (first | apply c_seq | apply c_reg | (apply wO; apply oc; rfl; exact ydE) | apply w_nil | apply n_cd | (apply wg_t; rfl; rfl) | (apply wg_f; rfl; rfl; rfl; rfl) | (apply wg_u; rfl; rfl; rfl) | (apply c_t; rfl) | (apply c_f; rfl) | apply c_skip | apply c_block | apply n_blk | apply c_exit | apply e_hit | apply e_cd | apply e_lp | (apply e_miss; rfl) | apply c_ret | (apply wO; apply o_box; rfl; rfl; rfl; intro _) | (apply wO; apply o_alloc; rfl; intro _) | (apply wO; apply o_st; rfl; rfl; rfl; (first | exact AggC.s | exact OneC.s); rfl; exact rplE; exact putE; rfl) | (apply wO; apply o_bs0; rfl; intro _) | (apply wO; apply o_bs; rfl; rfl; rfl; rfl; exact rptE; exact filE; intro _) | (apply wO; apply o_call; rfl; kernel_rfl; exact evsE))
  refine ce (fun w s => IsSerial_c _ _) ?_
  cases g2 : isSer p.number
  · repeat (first | apply c_seq | apply c_reg | (apply wO; apply oc; rfl; exact ydE) | apply w_nil | apply n_cd | (apply wg_t; rfl; rfl) | (apply wg_f; rfl; rfl; rfl; rfl) | (apply wg_u; rfl; rfl; rfl) | (apply c_t; rfl) | (apply c_f; rfl) | apply c_skip | apply c_block | apply n_blk | apply c_exit | apply e_hit | apply e_cd | apply e_lp | (apply e_miss; rfl) | apply c_ret | (apply wO; apply o_box; rfl; rfl; rfl; intro _) | (apply wO; apply o_alloc; rfl; intro _) | (apply wO; apply o_st; rfl; rfl; rfl; (first | exact AggC.s | exact OneC.s); rfl; exact rplE; exact putE; rfl) | (apply wO; apply o_bs0; rfl; intro _) | (apply wO; apply o_bs; rfl; rfl; rfl; rfl; exact rptE; exact filE; intro _) | (apply wO; apply o_call; rfl; kernel_rfl; exact evsE))
    refine ret () trivial ?_
    show Value.bool _ = Value.bool _; congr 1; unfold goodPk; simp [g2]
  repeat (first | apply c_seq | apply c_reg | (apply wO; apply oc; rfl; exact ydE) | apply w_nil | apply n_cd | (apply wg_t; rfl; rfl) | (apply wg_f; rfl; rfl; rfl; rfl) | (apply wg_u; rfl; rfl; rfl) | (apply c_t; rfl) | (apply c_f; rfl) | apply c_skip | apply c_block | apply n_blk | apply c_exit | apply e_hit | apply e_cd | apply e_lp | (apply e_miss; rfl) | apply c_ret | (apply wO; apply o_box; rfl; rfl; rfl; intro _) | (apply wO; apply o_alloc; rfl; intro _) | (apply wO; apply o_st; rfl; rfl; rfl; (first | exact AggC.s | exact OneC.s); rfl; exact rplE; exact putE; rfl) | (apply wO; apply o_bs0; rfl; intro _) | (apply wO; apply o_bs; rfl; rfl; rfl; rfl; exact rptE; exact filE; intro _) | (apply wO; apply o_call; rfl; kernel_rfl; exact evsE))
  refine ce (fun w s => IsSerial_c _ _) ?_
  cases g3 : isSer p.trail
  · repeat (first | apply c_seq | apply c_reg | (apply wO; apply oc; rfl; exact ydE) | apply w_nil | apply n_cd | (apply wg_t; rfl; rfl) | (apply wg_f; rfl; rfl; rfl; rfl) | (apply wg_u; rfl; rfl; rfl) | (apply c_t; rfl) | (apply c_f; rfl) | apply c_skip | apply c_block | apply n_blk | apply c_exit | apply e_hit | apply e_cd | apply e_lp | (apply e_miss; rfl) | apply c_ret | (apply wO; apply o_box; rfl; rfl; rfl; intro _) | (apply wO; apply o_alloc; rfl; intro _) | (apply wO; apply o_st; rfl; rfl; rfl; (first | exact AggC.s | exact OneC.s); rfl; exact rplE; exact putE; rfl) | (apply wO; apply o_bs0; rfl; intro _) | (apply wO; apply o_bs; rfl; rfl; rfl; rfl; exact rptE; exact filE; intro _) | (apply wO; apply o_call; rfl; kernel_rfl; exact evsE))
    refine ret () trivial ?_
    show Value.bool _ = Value.bool _; congr 1; unfold goodPk; simp [g3]
  repeat (first | apply c_seq | apply c_reg | (apply wO; apply oc; rfl; exact ydE) | apply w_nil | apply n_cd | (apply wg_t; rfl; rfl) | (apply wg_f; rfl; rfl; rfl; rfl) | (apply wg_u; rfl; rfl; rfl) | (apply c_t; rfl) | (apply c_f; rfl) | apply c_skip | apply c_block | apply n_blk | apply c_exit | apply e_hit | apply e_cd | apply e_lp | (apply e_miss; rfl) | apply c_ret | (apply wO; apply o_box; rfl; rfl; rfl; intro _) | (apply wO; apply o_alloc; rfl; intro _) | (apply wO; apply o_st; rfl; rfl; rfl; (first | exact AggC.s | exact OneC.s); rfl; exact rplE; exact putE; rfl) | (apply wO; apply o_bs0; rfl; intro _) | (apply wO; apply o_bs; rfl; rfl; rfl; rfl; exact rptE; exact filE; intro _) | (apply wO; apply o_call; rfl; kernel_rfl; exact evsE))
  refine ce (fun w s => IsSerial_c _ _) ?_
  cases g4 : isSer p.lead
  · repeat (first | apply c_seq | apply c_reg | (apply wO; apply oc; rfl; exact ydE) | apply w_nil | apply n_cd | (apply wg_t; rfl; rfl) | (apply wg_f; rfl; rfl; rfl; rfl) | (apply wg_u; rfl; rfl; rfl) | (apply c_t; rfl) | (apply c_f; rfl) | apply c_skip | apply c_block | apply n_blk | apply c_exit | apply e_hit | apply e_cd | apply e_lp | (apply e_miss; rfl) | apply c_ret | (apply wO; apply o_box; rfl; rfl; rfl; intro _) | (apply wO; apply o_alloc; rfl; intro _) | (apply wO; apply o_st; rfl; rfl; rfl; (first | exact AggC.s | exact OneC.s); rfl; exact rplE; exact putE; rfl) | (apply wO; apply o_bs0; rfl; intro _) | (apply wO; apply o_bs; rfl; rfl; rfl; rfl; exact rptE; exact filE; intro _) | (apply wO; apply o_call; rfl; kernel_rfl; exact evsE))
    refine ret () trivial ?_
    show Value.bool _ = Value.bool _; congr 1; unfold goodPk; simp [g4]
  repeat (first | apply c_seq | apply c_reg | (apply wO; apply oc; rfl; exact ydE) | apply w_nil | apply n_cd | (apply wg_t; rfl; rfl) | (apply wg_f; rfl; rfl; rfl; rfl) | (apply wg_u; rfl; rfl; rfl) | (apply c_t; rfl) | (apply c_f; rfl) | apply c_skip | apply c_block | apply n_blk | apply c_exit | apply e_hit | apply e_cd | apply e_lp | (apply e_miss; rfl) | apply c_ret | (apply wO; apply o_box; rfl; rfl; rfl; intro _) | (apply wO; apply o_alloc; rfl; intro _) | (apply wO; apply o_st; rfl; rfl; rfl; (first | exact AggC.s | exact OneC.s); rfl; exact rplE; exact putE; rfl) | (apply wO; apply o_bs0; rfl; intro _) | (apply wO; apply o_bs; rfl; rfl; rfl; rfl; exact rptE; exact filE; intro _) | (apply wO; apply o_call; rfl; kernel_rfl; exact evsE))
  refine cb (fun w s => isItem_c _ _ hs) ?_
  cases g5 : itm p.data
  · repeat (first | apply c_seq | apply c_reg | (apply wO; apply oc; rfl; exact ydE) | apply w_nil | apply n_cd | (apply wg_t; rfl; rfl) | (apply wg_f; rfl; rfl; rfl; rfl) | (apply wg_u; rfl; rfl; rfl) | (apply c_t; rfl) | (apply c_f; rfl) | apply c_skip | apply c_block | apply n_blk | apply c_exit | apply e_hit | apply e_cd | apply e_lp | (apply e_miss; rfl) | apply c_ret | (apply wO; apply o_box; rfl; rfl; rfl; intro _) | (apply wO; apply o_alloc; rfl; intro _) | (apply wO; apply o_st; rfl; rfl; rfl; (first | exact AggC.s | exact OneC.s); rfl; exact rplE; exact putE; rfl) | (apply wO; apply o_bs0; rfl; intro _) | (apply wO; apply o_bs; rfl; rfl; rfl; rfl; exact rptE; exact filE; intro _) | (apply wO; apply o_call; rfl; kernel_rfl; exact evsE))
    refine ret () trivial ?_
    show Value.bool _ = Value.bool _; congr 1; unfold goodPk; simp [g5]
  obtain ⟨t0, t1⟩ := isSer_iff.1 g3
  obtain ⟨l0, l1⟩ := isSer_iff.1 g4
  repeat (first | apply c_seq | apply c_reg | (apply wO; apply oc; rfl; exact ydE) | apply w_nil | apply n_cd | (apply wg_t; rfl; rfl) | (apply wg_f; rfl; rfl; rfl; rfl) | (apply wg_u; rfl; rfl; rfl) | (apply c_t; rfl) | (apply c_f; rfl) | apply c_skip | apply c_block | apply n_blk | apply c_exit | apply e_hit | apply e_cd | apply e_lp | (apply e_miss; rfl) | apply c_ret | (apply wO; apply o_box; rfl; rfl; rfl; intro _) | (apply wO; apply o_alloc; rfl; intro _) | (apply wO; apply o_st; rfl; rfl; rfl; (first | exact AggC.s | exact OneC.s); rfl; exact rplE; exact putE; rfl) | (apply wO; apply o_bs0; rfl; intro _) | (apply wO; apply o_bs; rfl; rfl; rfl; rfl; exact rptE; exact filE; intro _) | (apply wO; apply o_call; rfl; kernel_rfl; exact evsE))
  refine ce (fun w s => gap_c _ _ _ (by omega) (by omega) (by omega) (by omega)) ?_
  repeat (first | apply c_seq | apply c_reg | (apply wO; apply oc; rfl; exact ydE) | apply w_nil | apply n_cd | (apply wg_t; rfl; rfl) | (apply wg_f; rfl; rfl; rfl; rfl) | (apply wg_u; rfl; rfl; rfl) | (apply c_t; rfl) | (apply c_f; rfl) | apply c_skip | apply c_block | apply n_blk | apply c_exit | apply e_hit | apply e_cd | apply e_lp | (apply e_miss; rfl) | apply c_ret | (apply wO; apply o_box; rfl; rfl; rfl; intro _) | (apply wO; apply o_alloc; rfl; intro _) | (apply wO; apply o_st; rfl; rfl; rfl; (first | exact AggC.s | exact OneC.s); rfl; exact rplE; exact putE; rfl) | (apply wO; apply o_bs0; rfl; intro _) | (apply wO; apply o_bs; rfl; rfl; rfl; rfl; exact rptE; exact filE; intro _) | (apply wO; apply o_call; rfl; kernel_rfl; exact evsE))
  refine wg_if rfl rfl (fun h6 => ?_) (fun h6 => ?_)
  · repeat (first | apply c_seq | apply c_reg | (apply wO; apply oc; rfl; exact ydE) | apply w_nil | apply n_cd | (apply wg_t; rfl; rfl) | (apply wg_f; rfl; rfl; rfl; rfl) | (apply wg_u; rfl; rfl; rfl) | (apply c_t; rfl) | (apply c_f; rfl) | apply c_skip | apply c_block | apply n_blk | apply c_exit | apply e_hit | apply e_cd | apply e_lp | (apply e_miss; rfl) | apply c_ret | (apply wO; apply o_box; rfl; rfl; rfl; intro _) | (apply wO; apply o_alloc; rfl; intro _) | (apply wO; apply o_st; rfl; rfl; rfl; (first | exact AggC.s | exact OneC.s); rfl; exact rplE; exact putE; rfl) | (apply wO; apply o_bs0; rfl; intro _) | (apply wO; apply o_bs; rfl; rfl; rfl; rfl; exact rptE; exact filE; intro _) | (apply wO; apply o_call; rfl; kernel_rfl; exact evsE))
    refine wg_if rfl rfl (fun h7 => ?_) (fun h7 => ?_)
    · repeat (first | apply c_seq | apply c_reg | (apply wO; apply oc; rfl; exact ydE) | apply w_nil | apply n_cd | (apply wg_t; rfl; rfl) | (apply wg_f; rfl; rfl; rfl; rfl) | (apply wg_u; rfl; rfl; rfl) | (apply c_t; rfl) | (apply c_f; rfl) | apply c_skip | apply c_block | apply n_blk | apply c_exit | apply e_hit | apply e_cd | apply e_lp | (apply e_miss; rfl) | apply c_ret | (apply wO; apply o_box; rfl; rfl; rfl; intro _) | (apply wO; apply o_alloc; rfl; intro _) | (apply wO; apply o_st; rfl; rfl; rfl; (first | exact AggC.s | exact OneC.s); rfl; exact rplE; exact putE; rfl) | (apply wO; apply o_bs0; rfl; intro _) | (apply wO; apply o_bs; rfl; rfl; rfl; rfl; exact rptE; exact filE; intro _) | (apply wO; apply o_call; rfl; kernel_rfl; exact evsE))
      refine ret () trivial ?_
      show Value.bool _ = Value.bool _; congr 1; unfold goodPk; rw [g1, g2, g3, g4, g5, decide_eq_true h6, decide_eq_true h7]; rfl
    repeat (first | apply c_seq | apply c_reg | (apply wO; apply oc; rfl; exact ydE) | apply w_nil | apply n_cd | (apply wg_t; rfl; rfl) | (apply wg_f; rfl; rfl; rfl; rfl) | (apply wg_u; rfl; rfl; rfl) | (apply c_t; rfl) | (apply c_f; rfl) | apply c_skip | apply c_block | apply n_blk | apply c_exit | apply e_hit | apply e_cd | apply e_lp | (apply e_miss; rfl) | apply c_ret | (apply wO; apply o_box; rfl; rfl; rfl; intro _) | (apply wO; apply o_alloc; rfl; intro _) | (apply wO; apply o_st; rfl; rfl; rfl; (first | exact AggC.s | exact OneC.s); rfl; exact rplE; exact putE; rfl) | (apply wO; apply o_bs0; rfl; intro _) | (apply wO; apply o_bs; rfl; rfl; rfl; rfl; exact rptE; exact filE; intro _) | (apply wO; apply o_call; rfl; kernel_rfl; exact evsE))
    refine wg_if rfl rfl (fun h8 => ?_) (fun h8 => ?_)
    · repeat (first | apply c_seq | apply c_reg | (apply wO; apply oc; rfl; exact ydE) | apply w_nil | apply n_cd | (apply wg_t; rfl; rfl) | (apply wg_f; rfl; rfl; rfl; rfl) | (apply wg_u; rfl; rfl; rfl) | (apply c_t; rfl) | (apply c_f; rfl) | apply c_skip | apply c_block | apply n_blk | apply c_exit | apply e_hit | apply e_cd | apply e_lp | (apply e_miss; rfl) | apply c_ret | (apply wO; apply o_box; rfl; rfl; rfl; intro _) | (apply wO; apply o_alloc; rfl; intro _) | (apply wO; apply o_st; rfl; rfl; rfl; (first | exact AggC.s | exact OneC.s); rfl; exact rplE; exact putE; rfl) | (apply wO; apply o_bs0; rfl; intro _) | (apply wO; apply o_bs; rfl; rfl; rfl; rfl; exact rptE; exact filE; intro _) | (apply wO; apply o_call; rfl; kernel_rfl; exact evsE))
      refine ret () trivial ?_
      show Value.bool _ = Value.bool _; congr 1; unfold goodPk; rw [g1, g2, g3, g4, g5, decide_eq_true h6, decide_eq_true h8]; simp
    · repeat (first | apply c_seq | apply c_reg | (apply wO; apply oc; rfl; exact ydE) | apply w_nil | apply n_cd | (apply wg_t; rfl; rfl) | (apply wg_f; rfl; rfl; rfl; rfl) | (apply wg_u; rfl; rfl; rfl) | (apply c_t; rfl) | (apply c_f; rfl) | apply c_skip | apply c_block | apply n_blk | apply c_exit | apply e_hit | apply e_cd | apply e_lp | (apply e_miss; rfl) | apply c_ret | (apply wO; apply o_box; rfl; rfl; rfl; intro _) | (apply wO; apply o_alloc; rfl; intro _) | (apply wO; apply o_st; rfl; rfl; rfl; (first | exact AggC.s | exact OneC.s); rfl; exact rplE; exact putE; rfl) | (apply wO; apply o_bs0; rfl; intro _) | (apply wO; apply o_bs; rfl; rfl; rfl; rfl; exact rptE; exact filE; intro _) | (apply wO; apply o_call; rfl; kernel_rfl; exact evsE))
      refine ret () trivial ?_
      show Value.bool _ = Value.bool _; congr 1; unfold goodPk; rw [g1, g2, g3, g4, g5, decide_eq_true h6, decide_eq_false h7, decide_eq_false h8]; rfl
  · repeat (first | apply c_seq | apply c_reg | (apply wO; apply oc; rfl; exact ydE) | apply w_nil | apply n_cd | (apply wg_t; rfl; rfl) | (apply wg_f; rfl; rfl; rfl; rfl) | (apply wg_u; rfl; rfl; rfl) | (apply c_t; rfl) | (apply c_f; rfl) | apply c_skip | apply c_block | apply n_blk | apply c_exit | apply e_hit | apply e_cd | apply e_lp | (apply e_miss; rfl) | apply c_ret | (apply wO; apply o_box; rfl; rfl; rfl; intro _) | (apply wO; apply o_alloc; rfl; intro _) | (apply wO; apply o_st; rfl; rfl; rfl; (first | exact AggC.s | exact OneC.s); rfl; exact rplE; exact putE; rfl) | (apply wO; apply o_bs0; rfl; intro _) | (apply wO; apply o_bs; rfl; rfl; rfl; rfl; exact rptE; exact filE; intro _) | (apply wO; apply o_call; rfl; kernel_rfl; exact evsE))
    refine ret () trivial ?_
    show Value.bool _ = Value.bool _; congr 1; unfold goodPk; simp [h6]
set_option maxRecDepth 100000 in
theorem l4Good_f (p : Packet) (hs : p.data.size ≤ maxLen) : Fn Tryz.prog 114 [.agg #[.int .i64 p.kind, .int .i64 p.number, .int .i64 p.trail, .int .i64 p.lead, .string p.data]] [] [] (fun (_ : Unit) => True) (fun _ => .bool (goodPk p)) (fun _ => []) := by
  refine enter Tryz.func114 rfl Tryz.ntmps114 fun w0 => ?_
  repeat (first | apply c_seq | apply c_reg | (apply wO; apply oc; rfl; exact ydE) | apply w_nil | apply n_cd | (apply wg_t; rfl; rfl) | (apply wg_f; rfl; rfl; rfl; rfl) | (apply wg_u; rfl; rfl; rfl) | (apply c_t; rfl) | (apply c_f; rfl) | apply c_skip | apply c_block | apply n_blk | apply c_exit | apply e_hit | apply e_cd | apply e_lp | (apply e_miss; rfl) | apply c_ret | (apply wO; apply o_box; rfl; rfl; rfl; intro _) | (apply wO; apply o_alloc; rfl; intro _) | (apply wO; apply o_st; rfl; rfl; rfl; (first | exact AggC.s | exact OneC.s); rfl; exact rplE; exact putE; rfl) | (apply wO; apply o_bs0; rfl; intro _) | (apply wO; apply o_bs; rfl; rfl; rfl; rfl; exact rptE; exact filE; intro _) | (apply wO; apply o_call; rfl; kernel_rfl; exact evsE))
  refine ce (fun w s => l1In_c _ _ _ _) ?_
  cases g1 : btw 1 p.kind 5
  · repeat (first | apply c_seq | apply c_reg | (apply wO; apply oc; rfl; exact ydE) | apply w_nil | apply n_cd | (apply wg_t; rfl; rfl) | (apply wg_f; rfl; rfl; rfl; rfl) | (apply wg_u; rfl; rfl; rfl) | (apply c_t; rfl) | (apply c_f; rfl) | apply c_skip | apply c_block | apply n_blk | apply c_exit | apply e_hit | apply e_cd | apply e_lp | (apply e_miss; rfl) | apply c_ret | (apply wO; apply o_box; rfl; rfl; rfl; intro _) | (apply wO; apply o_alloc; rfl; intro _) | (apply wO; apply o_st; rfl; rfl; rfl; (first | exact AggC.s | exact OneC.s); rfl; exact rplE; exact putE; rfl) | (apply wO; apply o_bs0; rfl; intro _) | (apply wO; apply o_bs; rfl; rfl; rfl; rfl; exact rptE; exact filE; intro _) | (apply wO; apply o_call; rfl; kernel_rfl; exact evsE))
    refine ret () trivial ?_
    show Value.bool _ = Value.bool _; congr 1; unfold goodPk; simp [g1]
  repeat (first | apply c_seq | apply c_reg | (apply wO; apply oc; rfl; exact ydE) | apply w_nil | apply n_cd | (apply wg_t; rfl; rfl) | (apply wg_f; rfl; rfl; rfl; rfl) | (apply wg_u; rfl; rfl; rfl) | (apply c_t; rfl) | (apply c_f; rfl) | apply c_skip | apply c_block | apply n_blk | apply c_exit | apply e_hit | apply e_cd | apply e_lp | (apply e_miss; rfl) | apply c_ret | (apply wO; apply o_box; rfl; rfl; rfl; intro _) | (apply wO; apply o_alloc; rfl; intro _) | (apply wO; apply o_st; rfl; rfl; rfl; (first | exact AggC.s | exact OneC.s); rfl; exact rplE; exact putE; rfl) | (apply wO; apply o_bs0; rfl; intro _) | (apply wO; apply o_bs; rfl; rfl; rfl; rfl; exact rptE; exact filE; intro _) | (apply wO; apply o_call; rfl; kernel_rfl; exact evsE))
  refine ce (fun w s => l2Good_c _ _) ?_
  cases g2 : isSer p.number
  · repeat (first | apply c_seq | apply c_reg | (apply wO; apply oc; rfl; exact ydE) | apply w_nil | apply n_cd | (apply wg_t; rfl; rfl) | (apply wg_f; rfl; rfl; rfl; rfl) | (apply wg_u; rfl; rfl; rfl) | (apply c_t; rfl) | (apply c_f; rfl) | apply c_skip | apply c_block | apply n_blk | apply c_exit | apply e_hit | apply e_cd | apply e_lp | (apply e_miss; rfl) | apply c_ret | (apply wO; apply o_box; rfl; rfl; rfl; intro _) | (apply wO; apply o_alloc; rfl; intro _) | (apply wO; apply o_st; rfl; rfl; rfl; (first | exact AggC.s | exact OneC.s); rfl; exact rplE; exact putE; rfl) | (apply wO; apply o_bs0; rfl; intro _) | (apply wO; apply o_bs; rfl; rfl; rfl; rfl; exact rptE; exact filE; intro _) | (apply wO; apply o_call; rfl; kernel_rfl; exact evsE))
    refine ret () trivial ?_
    show Value.bool _ = Value.bool _; congr 1; unfold goodPk; simp [g2]
  repeat (first | apply c_seq | apply c_reg | (apply wO; apply oc; rfl; exact ydE) | apply w_nil | apply n_cd | (apply wg_t; rfl; rfl) | (apply wg_f; rfl; rfl; rfl; rfl) | (apply wg_u; rfl; rfl; rfl) | (apply c_t; rfl) | (apply c_f; rfl) | apply c_skip | apply c_block | apply n_blk | apply c_exit | apply e_hit | apply e_cd | apply e_lp | (apply e_miss; rfl) | apply c_ret | (apply wO; apply o_box; rfl; rfl; rfl; intro _) | (apply wO; apply o_alloc; rfl; intro _) | (apply wO; apply o_st; rfl; rfl; rfl; (first | exact AggC.s | exact OneC.s); rfl; exact rplE; exact putE; rfl) | (apply wO; apply o_bs0; rfl; intro _) | (apply wO; apply o_bs; rfl; rfl; rfl; rfl; exact rptE; exact filE; intro _) | (apply wO; apply o_call; rfl; kernel_rfl; exact evsE))
  refine ce (fun w s => l2Good_c _ _) ?_
  cases g3 : isSer p.trail
  · repeat (first | apply c_seq | apply c_reg | (apply wO; apply oc; rfl; exact ydE) | apply w_nil | apply n_cd | (apply wg_t; rfl; rfl) | (apply wg_f; rfl; rfl; rfl; rfl) | (apply wg_u; rfl; rfl; rfl) | (apply c_t; rfl) | (apply c_f; rfl) | apply c_skip | apply c_block | apply n_blk | apply c_exit | apply e_hit | apply e_cd | apply e_lp | (apply e_miss; rfl) | apply c_ret | (apply wO; apply o_box; rfl; rfl; rfl; intro _) | (apply wO; apply o_alloc; rfl; intro _) | (apply wO; apply o_st; rfl; rfl; rfl; (first | exact AggC.s | exact OneC.s); rfl; exact rplE; exact putE; rfl) | (apply wO; apply o_bs0; rfl; intro _) | (apply wO; apply o_bs; rfl; rfl; rfl; rfl; exact rptE; exact filE; intro _) | (apply wO; apply o_call; rfl; kernel_rfl; exact evsE))
    refine ret () trivial ?_
    show Value.bool _ = Value.bool _; congr 1; unfold goodPk; simp [g3]
  repeat (first | apply c_seq | apply c_reg | (apply wO; apply oc; rfl; exact ydE) | apply w_nil | apply n_cd | (apply wg_t; rfl; rfl) | (apply wg_f; rfl; rfl; rfl; rfl) | (apply wg_u; rfl; rfl; rfl) | (apply c_t; rfl) | (apply c_f; rfl) | apply c_skip | apply c_block | apply n_blk | apply c_exit | apply e_hit | apply e_cd | apply e_lp | (apply e_miss; rfl) | apply c_ret | (apply wO; apply o_box; rfl; rfl; rfl; intro _) | (apply wO; apply o_alloc; rfl; intro _) | (apply wO; apply o_st; rfl; rfl; rfl; (first | exact AggC.s | exact OneC.s); rfl; exact rplE; exact putE; rfl) | (apply wO; apply o_bs0; rfl; intro _) | (apply wO; apply o_bs; rfl; rfl; rfl; rfl; exact rptE; exact filE; intro _) | (apply wO; apply o_call; rfl; kernel_rfl; exact evsE))
  refine ce (fun w s => l2Good_c _ _) ?_
  cases g4 : isSer p.lead
  · repeat (first | apply c_seq | apply c_reg | (apply wO; apply oc; rfl; exact ydE) | apply w_nil | apply n_cd | (apply wg_t; rfl; rfl) | (apply wg_f; rfl; rfl; rfl; rfl) | (apply wg_u; rfl; rfl; rfl) | (apply c_t; rfl) | (apply c_f; rfl) | apply c_skip | apply c_block | apply n_blk | apply c_exit | apply e_hit | apply e_cd | apply e_lp | (apply e_miss; rfl) | apply c_ret | (apply wO; apply o_box; rfl; rfl; rfl; intro _) | (apply wO; apply o_alloc; rfl; intro _) | (apply wO; apply o_st; rfl; rfl; rfl; (first | exact AggC.s | exact OneC.s); rfl; exact rplE; exact putE; rfl) | (apply wO; apply o_bs0; rfl; intro _) | (apply wO; apply o_bs; rfl; rfl; rfl; rfl; exact rptE; exact filE; intro _) | (apply wO; apply o_call; rfl; kernel_rfl; exact evsE))
    refine ret () trivial ?_
    show Value.bool _ = Value.bool _; congr 1; unfold goodPk; simp [g4]
  obtain ⟨t0, t1⟩ := isSer_iff.1 g3
  obtain ⟨l0, l1⟩ := isSer_iff.1 g4
  repeat (first | apply c_seq | apply c_reg | (apply wO; apply oc; rfl; exact ydE) | apply w_nil | apply n_cd | (apply wg_t; rfl; rfl) | (apply wg_f; rfl; rfl; rfl; rfl) | (apply wg_u; rfl; rfl; rfl) | (apply c_t; rfl) | (apply c_f; rfl) | apply c_skip | apply c_block | apply n_blk | apply c_exit | apply e_hit | apply e_cd | apply e_lp | (apply e_miss; rfl) | apply c_ret | (apply wO; apply o_box; rfl; rfl; rfl; intro _) | (apply wO; apply o_alloc; rfl; intro _) | (apply wO; apply o_st; rfl; rfl; rfl; (first | exact AggC.s | exact OneC.s); rfl; exact rplE; exact putE; rfl) | (apply wO; apply o_bs0; rfl; intro _) | (apply wO; apply o_bs; rfl; rfl; rfl; rfl; exact rptE; exact filE; intro _) | (apply wO; apply o_call; rfl; kernel_rfl; exact evsE))
  refine ce (fun w s => l2Gap_c _ _ _ (by omega) (by omega)) ?_
  repeat (first | apply c_seq | apply c_reg | (apply wO; apply oc; rfl; exact ydE) | apply w_nil | apply n_cd | (apply wg_t; rfl; rfl) | (apply wg_f; rfl; rfl; rfl; rfl) | (apply wg_u; rfl; rfl; rfl) | (apply c_t; rfl) | (apply c_f; rfl) | apply c_skip | apply c_block | apply n_blk | apply c_exit | apply e_hit | apply e_cd | apply e_lp | (apply e_miss; rfl) | apply c_ret | (apply wO; apply o_box; rfl; rfl; rfl; intro _) | (apply wO; apply o_alloc; rfl; intro _) | (apply wO; apply o_st; rfl; rfl; rfl; (first | exact AggC.s | exact OneC.s); rfl; exact rplE; exact putE; rfl) | (apply wO; apply o_bs0; rfl; intro _) | (apply wO; apply o_bs; rfl; rfl; rfl; rfl; exact rptE; exact filE; intro _) | (apply wO; apply o_call; rfl; kernel_rfl; exact evsE))
  refine wg_if rfl rfl (fun h6 => ?_) (fun h6 => ?_)
  · repeat (first | apply c_seq | apply c_reg | (apply wO; apply oc; rfl; exact ydE) | apply w_nil | apply n_cd | (apply wg_t; rfl; rfl) | (apply wg_f; rfl; rfl; rfl; rfl) | (apply wg_u; rfl; rfl; rfl) | (apply c_t; rfl) | (apply c_f; rfl) | apply c_skip | apply c_block | apply n_blk | apply c_exit | apply e_hit | apply e_cd | apply e_lp | (apply e_miss; rfl) | apply c_ret | (apply wO; apply o_box; rfl; rfl; rfl; intro _) | (apply wO; apply o_alloc; rfl; intro _) | (apply wO; apply o_st; rfl; rfl; rfl; (first | exact AggC.s | exact OneC.s); rfl; exact rplE; exact putE; rfl) | (apply wO; apply o_bs0; rfl; intro _) | (apply wO; apply o_bs; rfl; rfl; rfl; rfl; exact rptE; exact filE; intro _) | (apply wO; apply o_call; rfl; kernel_rfl; exact evsE))
    refine ret () trivial ?_
    have h6 : ¬ gp p.trail p.lead ≤ 32767 := by omega
    show Value.bool _ = Value.bool _; congr 1; unfold goodPk; simp [h6]
  have h6 : gp p.trail p.lead ≤ 32767 := by omega
  repeat (first | apply c_seq | apply c_reg | (apply wO; apply oc; rfl; exact ydE) | apply w_nil | apply n_cd | (apply wg_t; rfl; rfl) | (apply wg_f; rfl; rfl; rfl; rfl) | (apply wg_u; rfl; rfl; rfl) | (apply c_t; rfl) | (apply c_f; rfl) | apply c_skip | apply c_block | apply n_blk | apply c_exit | apply e_hit | apply e_cd | apply e_lp | (apply e_miss; rfl) | apply c_ret | (apply wO; apply o_box; rfl; rfl; rfl; intro _) | (apply wO; apply o_alloc; rfl; intro _) | (apply wO; apply o_st; rfl; rfl; rfl; (first | exact AggC.s | exact OneC.s); rfl; exact rplE; exact putE; rfl) | (apply wO; apply o_bs0; rfl; intro _) | (apply wO; apply o_bs; rfl; rfl; rfl; rfl; exact rptE; exact filE; intro _) | (apply wO; apply o_call; rfl; kernel_rfl; exact evsE))
  refine ce (fun w s => l4Letters_c _ _ _ hs) ?_
  rw [show (decide ((p.data.size : Int) ≤ 8) && lows p.data.data.toList) = itm p.data from rfl]
  cases g5 : itm p.data
  · repeat (first | apply c_seq | apply c_reg | (apply wO; apply oc; rfl; exact ydE) | apply w_nil | apply n_cd | (apply wg_t; rfl; rfl) | (apply wg_f; rfl; rfl; rfl; rfl) | (apply wg_u; rfl; rfl; rfl) | (apply c_t; rfl) | (apply c_f; rfl) | apply c_skip | apply c_block | apply n_blk | apply c_exit | apply e_hit | apply e_cd | apply e_lp | (apply e_miss; rfl) | apply c_ret | (apply wO; apply o_box; rfl; rfl; rfl; intro _) | (apply wO; apply o_alloc; rfl; intro _) | (apply wO; apply o_st; rfl; rfl; rfl; (first | exact AggC.s | exact OneC.s); rfl; exact rplE; exact putE; rfl) | (apply wO; apply o_bs0; rfl; intro _) | (apply wO; apply o_bs; rfl; rfl; rfl; rfl; exact rptE; exact filE; intro _) | (apply wO; apply o_call; rfl; kernel_rfl; exact evsE))
    refine ret () trivial ?_
    show Value.bool _ = Value.bool _; congr 1; unfold goodPk; simp [g5]
  repeat (first | apply c_seq | apply c_reg | (apply wO; apply oc; rfl; exact ydE) | apply w_nil | apply n_cd | (apply wg_t; rfl; rfl) | (apply wg_f; rfl; rfl; rfl; rfl) | (apply wg_u; rfl; rfl; rfl) | (apply c_t; rfl) | (apply c_f; rfl) | apply c_skip | apply c_block | apply n_blk | apply c_exit | apply e_hit | apply e_cd | apply e_lp | (apply e_miss; rfl) | apply c_ret | (apply wO; apply o_box; rfl; rfl; rfl; intro _) | (apply wO; apply o_alloc; rfl; intro _) | (apply wO; apply o_st; rfl; rfl; rfl; (first | exact AggC.s | exact OneC.s); rfl; exact rplE; exact putE; rfl) | (apply wO; apply o_bs0; rfl; intro _) | (apply wO; apply o_bs; rfl; rfl; rfl; rfl; exact rptE; exact filE; intro _) | (apply wO; apply o_call; rfl; kernel_rfl; exact evsE))
  refine wg_if rfl rfl (fun h7 => ?_) (fun h7 => ?_)
  · repeat (first | apply c_seq | apply c_reg | (apply wO; apply oc; rfl; exact ydE) | apply w_nil | apply n_cd | (apply wg_t; rfl; rfl) | (apply wg_f; rfl; rfl; rfl; rfl) | (apply wg_u; rfl; rfl; rfl) | (apply c_t; rfl) | (apply c_f; rfl) | apply c_skip | apply c_block | apply n_blk | apply c_exit | apply e_hit | apply e_cd | apply e_lp | (apply e_miss; rfl) | apply c_ret | (apply wO; apply o_box; rfl; rfl; rfl; intro _) | (apply wO; apply o_alloc; rfl; intro _) | (apply wO; apply o_st; rfl; rfl; rfl; (first | exact AggC.s | exact OneC.s); rfl; exact rplE; exact putE; rfl) | (apply wO; apply o_bs0; rfl; intro _) | (apply wO; apply o_bs; rfl; rfl; rfl; rfl; exact rptE; exact filE; intro _) | (apply wO; apply o_call; rfl; kernel_rfl; exact evsE))
    refine ret () trivial ?_
    show Value.bool _ = Value.bool _; congr 1; unfold goodPk; rw [g1, g2, g3, g4, g5, decide_eq_true h6, decide_eq_true h7]; rfl
  repeat (first | apply c_seq | apply c_reg | (apply wO; apply oc; rfl; exact ydE) | apply w_nil | apply n_cd | (apply wg_t; rfl; rfl) | (apply wg_f; rfl; rfl; rfl; rfl) | (apply wg_u; rfl; rfl; rfl) | (apply c_t; rfl) | (apply c_f; rfl) | apply c_skip | apply c_block | apply n_blk | apply c_exit | apply e_hit | apply e_cd | apply e_lp | (apply e_miss; rfl) | apply c_ret | (apply wO; apply o_box; rfl; rfl; rfl; intro _) | (apply wO; apply o_alloc; rfl; intro _) | (apply wO; apply o_st; rfl; rfl; rfl; (first | exact AggC.s | exact OneC.s); rfl; exact rplE; exact putE; rfl) | (apply wO; apply o_bs0; rfl; intro _) | (apply wO; apply o_bs; rfl; rfl; rfl; rfl; exact rptE; exact filE; intro _) | (apply wO; apply o_call; rfl; kernel_rfl; exact evsE))
  refine wg_if rfl rfl (fun h8 => ?_) (fun h8 => ?_)
  · repeat (first | apply c_seq | apply c_reg | (apply wO; apply oc; rfl; exact ydE) | apply w_nil | apply n_cd | (apply wg_t; rfl; rfl) | (apply wg_f; rfl; rfl; rfl; rfl) | (apply wg_u; rfl; rfl; rfl) | (apply c_t; rfl) | (apply c_f; rfl) | apply c_skip | apply c_block | apply n_blk | apply c_exit | apply e_hit | apply e_cd | apply e_lp | (apply e_miss; rfl) | apply c_ret | (apply wO; apply o_box; rfl; rfl; rfl; intro _) | (apply wO; apply o_alloc; rfl; intro _) | (apply wO; apply o_st; rfl; rfl; rfl; (first | exact AggC.s | exact OneC.s); rfl; exact rplE; exact putE; rfl) | (apply wO; apply o_bs0; rfl; intro _) | (apply wO; apply o_bs; rfl; rfl; rfl; rfl; exact rptE; exact filE; intro _) | (apply wO; apply o_call; rfl; kernel_rfl; exact evsE))
    refine ret () trivial ?_
    show Value.bool _ = Value.bool _; congr 1; unfold goodPk; rw [g1, g2, g3, g4, g5, decide_eq_true h6, decide_eq_true h8]; simp
  · repeat (first | apply c_seq | apply c_reg | (apply wO; apply oc; rfl; exact ydE) | apply w_nil | apply n_cd | (apply wg_t; rfl; rfl) | (apply wg_f; rfl; rfl; rfl; rfl) | (apply wg_u; rfl; rfl; rfl) | (apply c_t; rfl) | (apply c_f; rfl) | apply c_skip | apply c_block | apply n_blk | apply c_exit | apply e_hit | apply e_cd | apply e_lp | (apply e_miss; rfl) | apply c_ret | (apply wO; apply o_box; rfl; rfl; rfl; intro _) | (apply wO; apply o_alloc; rfl; intro _) | (apply wO; apply o_st; rfl; rfl; rfl; (first | exact AggC.s | exact OneC.s); rfl; exact rplE; exact putE; rfl) | (apply wO; apply o_bs0; rfl; intro _) | (apply wO; apply o_bs; rfl; rfl; rfl; rfl; exact rptE; exact filE; intro _) | (apply wO; apply o_call; rfl; kernel_rfl; exact evsE))
    refine ret () trivial ?_
    show Value.bool _ = Value.bool _; congr 1; unfold goodPk; rw [g1, g2, g3, g4, g5, decide_eq_true h6, decide_eq_false h7, decide_eq_false h8]; rfl
set_option maxRecDepth 100000 in
theorem AnswerTo_f (x : SendWindow) (p : Packet) (v : Value) (F : List Nat) (hs : p.data.size ≤ maxLen) : Fn Tryz.prog 170 [v, .agg #[.int .i64 p.kind, .int .i64 p.number, .int .i64 p.trail, .int .i64 p.lead, .string p.data]] [.isv ESendWindow v x F] [] (fun (_ : Unit) => True) (fun _ => .tuple #[.agg #[.int .i64 (resAnswer x p).1.kind, .int .i64 (resAnswer x p).1.number, .int .i64 (resAnswer x p).1.trail, .int .i64 (resAnswer x p).1.lead, .string (resAnswer x p).1.data], .bool (resAnswer x p).2]) (fun _ => []) := by
  refine enter Tryz.func170 rfl Tryz.ntmps170 fun w0 => ?_
  refine openSendWindow ?_
  rintro a1 c1 F1 rfl l1
  repeat (first | apply c_seq | apply c_reg | (apply wO; apply oc; rfl; exact ydE) | apply w_nil | apply n_cd | (apply wg_t; rfl; rfl) | (apply wg_f; rfl; rfl; rfl; rfl) | (apply wg_u; rfl; rfl; rfl) | (apply c_t; rfl) | (apply c_f; rfl) | apply c_skip | apply c_block | apply n_blk | apply c_exit | apply e_hit | apply e_cd | apply e_lp | (apply e_miss; rfl) | apply c_ret | (apply wO; apply o_box; rfl; rfl; rfl; intro _) | (apply wO; apply o_alloc; rfl; intro _) | (apply wO; apply o_st; rfl; rfl; rfl; (first | exact AggC.s | exact OneC.s); rfl; exact rplE; exact putE; rfl) | (apply wO; apply o_bs0; rfl; intro _) | (apply wO; apply o_bs; rfl; rfl; rfl; rfl; exact rptE; exact filE; intro _) | (apply wO; apply o_call; rfl; kernel_rfl; exact evsE))
  refine cb (fun w st => IsValidSendWindow_c _ x _ w (st.get (p := .isv ESendWindow (.agg #[.int .i64 x.trail, .int .i64 x.size, .slice a1 x.items.length c1]) x F) (by simp))) ?_
  cases g1 : goodWin x
  · repeat (first | apply c_seq | apply c_reg | (apply wO; apply oc; rfl; exact ydE) | apply w_nil | apply n_cd | (apply wg_t; rfl; rfl) | (apply wg_f; rfl; rfl; rfl; rfl) | (apply wg_u; rfl; rfl; rfl) | (apply c_t; rfl) | (apply c_f; rfl) | apply c_skip | apply c_block | apply n_blk | apply c_exit | apply e_hit | apply e_cd | apply e_lp | (apply e_miss; rfl) | apply c_ret | (apply wO; apply o_box; rfl; rfl; rfl; intro _) | (apply wO; apply o_alloc; rfl; intro _) | (apply wO; apply o_st; rfl; rfl; rfl; (first | exact AggC.s | exact OneC.s); rfl; exact rplE; exact putE; rfl) | (apply wO; apply o_bs0; rfl; intro _) | (apply wO; apply o_bs; rfl; rfl; rfl; rfl; exact rptE; exact filE; intro _) | (apply wO; apply o_call; rfl; kernel_rfl; exact evsE))
    rw [resAnswer_no (by unfold okAnswer; rw [g1]; rfl)]
    refine ret () trivial rfl
  obtain ⟨⟨t0, t1⟩, ⟨z0, z1⟩, hl, hi⟩ := goodWin_iff.1 g1
  have hl6 : x.items.length ≤ 6 := by omega
  repeat (first | apply c_seq | apply c_reg | (apply wO; apply oc; rfl; exact ydE) | apply w_nil | apply n_cd | (apply wg_t; rfl; rfl) | (apply wg_f; rfl; rfl; rfl; rfl) | (apply wg_u; rfl; rfl; rfl) | (apply c_t; rfl) | (apply c_f; rfl) | apply c_skip | apply c_block | apply n_blk | apply c_exit | apply e_hit | apply e_cd | apply e_lp | (apply e_miss; rfl) | apply c_ret | (apply wO; apply o_box; rfl; rfl; rfl; intro _) | (apply wO; apply o_alloc; rfl; intro _) | (apply wO; apply o_st; rfl; rfl; rfl; (first | exact AggC.s | exact OneC.s); rfl; exact rplE; exact putE; rfl) | (apply wO; apply o_bs0; rfl; intro _) | (apply wO; apply o_bs; rfl; rfl; rfl; rfl; exact rptE; exact filE; intro _) | (apply wO; apply o_call; rfl; kernel_rfl; exact evsE))
  refine cf (IsValidPacket_f p hs) fun _ _ => ?_
  refine t_app ?_
  cases g2 : goodPk p
  · repeat (first | apply c_seq | apply c_reg | (apply wO; apply oc; rfl; exact ydE) | apply w_nil | apply n_cd | (apply wg_t; rfl; rfl) | (apply wg_f; rfl; rfl; rfl; rfl) | (apply wg_u; rfl; rfl; rfl) | (apply c_t; rfl) | (apply c_f; rfl) | apply c_skip | apply c_block | apply n_blk | apply c_exit | apply e_hit | apply e_cd | apply e_lp | (apply e_miss; rfl) | apply c_ret | (apply wO; apply o_box; rfl; rfl; rfl; intro _) | (apply wO; apply o_alloc; rfl; intro _) | (apply wO; apply o_st; rfl; rfl; rfl; (first | exact AggC.s | exact OneC.s); rfl; exact rplE; exact putE; rfl) | (apply wO; apply o_bs0; rfl; intro _) | (apply wO; apply o_bs; rfl; rfl; rfl; rfl; exact rptE; exact filE; intro _) | (apply wO; apply o_call; rfl; kernel_rfl; exact evsE))
    rw [resAnswer_no (by unfold okAnswer; rw [g1, g2]; rfl)]
    refine ret () trivial rfl
  obtain ⟨n0, n1⟩ := goodPk_num g2
  repeat (first | apply c_seq | apply c_reg | (apply wO; apply oc; rfl; exact ydE) | apply w_nil | apply n_cd | (apply wg_t; rfl; rfl) | (apply wg_f; rfl; rfl; rfl; rfl) | (apply wg_u; rfl; rfl; rfl) | (apply c_t; rfl) | (apply c_f; rfl) | apply c_skip | apply c_block | apply n_blk | apply c_exit | apply e_hit | apply e_cd | apply e_lp | (apply e_miss; rfl) | apply c_ret | (apply wO; apply o_box; rfl; rfl; rfl; intro _) | (apply wO; apply o_alloc; rfl; intro _) | (apply wO; apply o_st; rfl; rfl; rfl; (first | exact AggC.s | exact OneC.s); rfl; exact rplE; exact putE; rfl) | (apply wO; apply o_bs0; rfl; intro _) | (apply wO; apply o_bs; rfl; rfl; rfl; rfl; exact rptE; exact filE; intro _) | (apply wO; apply o_call; rfl; kernel_rfl; exact evsE))
  refine wg_if rfl rfl (fun h3 => ?_) (fun h3 => ?_)
  · repeat (first | apply c_seq | apply c_reg | (apply wO; apply oc; rfl; exact ydE) | apply w_nil | apply n_cd | (apply wg_t; rfl; rfl) | (apply wg_f; rfl; rfl; rfl; rfl) | (apply wg_u; rfl; rfl; rfl) | (apply c_t; rfl) | (apply c_f; rfl) | apply c_skip | apply c_block | apply n_blk | apply c_exit | apply e_hit | apply e_cd | apply e_lp | (apply e_miss; rfl) | apply c_ret | (apply wO; apply o_box; rfl; rfl; rfl; intro _) | (apply wO; apply o_alloc; rfl; intro _) | (apply wO; apply o_st; rfl; rfl; rfl; (first | exact AggC.s | exact OneC.s); rfl; exact rplE; exact putE; rfl) | (apply wO; apply o_bs0; rfl; intro _) | (apply wO; apply o_bs; rfl; rfl; rfl; rfl; exact rptE; exact filE; intro _) | (apply wO; apply o_call; rfl; kernel_rfl; exact evsE))
    rw [resAnswer_no (by unfold okAnswer; rw [g1, g2, decide_eq_false h3]; rfl)]
    refine ret () trivial rfl
  have h3 := Decidable.not_not.1 h3
  repeat (first | apply c_seq | apply c_reg | (apply wO; apply oc; rfl; exact ydE) | apply w_nil | apply n_cd | (apply wg_t; rfl; rfl) | (apply wg_f; rfl; rfl; rfl; rfl) | (apply wg_u; rfl; rfl; rfl) | (apply c_t; rfl) | (apply c_f; rfl) | apply c_skip | apply c_block | apply n_blk | apply c_exit | apply e_hit | apply e_cd | apply e_lp | (apply e_miss; rfl) | apply c_ret | (apply wO; apply o_box; rfl; rfl; rfl; intro _) | (apply wO; apply o_alloc; rfl; intro _) | (apply wO; apply o_st; rfl; rfl; rfl; (first | exact AggC.s | exact OneC.s); rfl; exact rplE; exact putE; rfl) | (apply wO; apply o_bs0; rfl; intro _) | (apply wO; apply o_bs; rfl; rfl; rfl; rfl; exact rptE; exact filE; intro _) | (apply wO; apply o_call; rfl; kernel_rfl; exact evsE))
  refine cb (fun w st => (isHeld_f x p.number _ F t0 t1 n0 n1).val w (hol1 (st.get (p := .isv ESendWindow (.agg #[.int .i64 x.trail, .int .i64 x.size, .slice a1 x.items.length c1]) x F) (by simp)))) ?_
  cases g3 : heldB x p.number
  · repeat (first | apply c_seq | apply c_reg | (apply wO; apply oc; rfl; exact ydE) | apply w_nil | apply n_cd | (apply wg_t; rfl; rfl) | (apply wg_f; rfl; rfl; rfl; rfl) | (apply wg_u; rfl; rfl; rfl) | (apply c_t; rfl) | (apply c_f; rfl) | apply c_skip | apply c_block | apply n_blk | apply c_exit | apply e_hit | apply e_cd | apply e_lp | (apply e_miss; rfl) | apply c_ret | (apply wO; apply o_box; rfl; rfl; rfl; intro _) | (apply wO; apply o_alloc; rfl; intro _) | (apply wO; apply o_st; rfl; rfl; rfl; (first | exact AggC.s | exact OneC.s); rfl; exact rplE; exact putE; rfl) | (apply wO; apply o_bs0; rfl; intro _) | (apply wO; apply o_bs; rfl; rfl; rfl; rfl; exact rptE; exact filE; intro _) | (apply wO; apply o_call; rfl; kernel_rfl; exact evsE))
    rw [resAnswer_no (by unfold okAnswer; rw [g1, g2, g3]; simp)]
    refine ret () trivial rfl
  rw [resAnswer_yes (by unfold okAnswer; rw [g1, g2, g3, decide_eq_true h3]; rfl)]
  have b := gp_bd x.trail p.number
  have hk3 := held_lt g3
  rw [show ansP x p.number = ⟨2, p.number, x.trail, leadW x, x.items[(gp x.trail p.number).toNat]⟩ by unfold ansP; rw [itemAt_lt hk3]]
  refine at_str (xs := x.items) (gp x.trail p.number).toNat ?_
  rintro hi b2 o2 e s1
  rw [e]
  repeat (first | apply c_seq | apply c_reg | (apply wO; apply oc; rfl; exact ydE) | apply w_nil | apply n_cd | (apply wg_t; rfl; rfl) | (apply wg_f; rfl; rfl; rfl; rfl) | (apply wg_u; rfl; rfl; rfl) | (apply c_t; rfl) | (apply c_f; rfl) | apply c_skip | apply c_block | apply n_blk | apply c_exit | apply e_hit | apply e_cd | apply e_lp | (apply e_miss; rfl) | apply c_ret | (apply wO; apply o_box; rfl; rfl; rfl; intro _) | (apply wO; apply o_alloc; rfl; intro _) | (apply wO; apply o_st; rfl; rfl; rfl; (first | exact AggC.s | exact OneC.s); rfl; exact rplE; exact putE; rfl) | (apply wO; apply o_bs0; rfl; intro _) | (apply wO; apply o_bs; rfl; rfl; rfl; rfl; exact rptE; exact filE; intro _))
  refine d_start [0, 2, 3] [] ?_
  refine dt 0 ?_
  refine dt 1 ?_
  refine dt 2 ?_
  refine dt 3 ?_
  refine dt 4 ?_
  refine dt 6 ?_
  refine dt 7 ?_
  refine dt 8 ?_
  refine dt 9 ?_
  refine dt 10 ?_
  refine dt 11 ?_
  refine dO 5 (by kernel_rfl) (by rw [List.getElem?_toArray]; rfl) ?_
  apply o_call; rfl; kernel_rfl; exact evsE
  refine cb (fun w _ => SendWindow_lead_c _ _ _ _ _ w t0 t1 (by omega)) ?_
  refine dk ?_
  refine dO 12 (by kernel_rfl) (by rw [List.getElem?_toArray]; rfl) ?_
  apply o_call; rfl; kernel_rfl; exact evsE
  refine ce (fun w s => gap_c _ _ _ (by omega) (by omega) (by omega) (by omega)) ?_
  refine dk ?_
  refine dt 13 ?_
  refine dt 14 ?_
  refine dt 15 ?_
  refine dO 16 (by kernel_rfl) (by rw [List.getElem?_toArray]; rfl) ?_
  apply o_st; rfl; rfl; rfl; (first | exact AggC.s | exact OneC.s); rfl; exact rplE; exact putE; rfl
  refine dk ?_
  refine dt 17 ?_
  refine dd ?_
  repeat (first | apply c_seq | apply c_reg | (apply wO; apply oc; rfl; exact ydE) | apply w_nil | apply n_cd | (apply wg_t; rfl; rfl) | (apply wg_f; rfl; rfl; rfl; rfl) | (apply wg_u; rfl; rfl; rfl) | (apply c_t; rfl) | (apply c_f; rfl) | apply c_skip | apply c_block | apply n_blk | apply c_exit | apply e_hit | apply e_cd | apply e_lp | (apply e_miss; rfl) | apply c_ret | (apply wO; apply o_box; rfl; rfl; rfl; intro _) | (apply wO; apply o_alloc; rfl; intro _) | (apply wO; apply o_st; rfl; rfl; rfl; (first | exact AggC.s | exact OneC.s); rfl; exact rplE; exact putE; rfl) | (apply wO; apply o_bs0; rfl; intro _) | (apply wO; apply o_bs; rfl; rfl; rfl; rfl; exact rptE; exact filE; intro _) | (apply wO; apply o_call; rfl; kernel_rfl; exact evsE))
  refine ret () trivial rfl
set_option maxRecDepth 100000 in
theorem specAnswerTo_f (x : SendWindow) (p : Packet) (v : Value) (F : List Nat) (hs : p.data.size ≤ maxLen) : Fn Tryz.prog 173 [v, .agg #[.int .i64 p.kind, .int .i64 p.number, .int .i64 p.trail, .int .i64 p.lead, .string p.data]] [.isv ESendWindow v x F] [] (fun (_ : Unit) => True) (fun _ => .tuple #[.agg #[.int .i64 (resAnswer x p).1.kind, .int .i64 (resAnswer x p).1.number, .int .i64 (resAnswer x p).1.trail, .int .i64 (resAnswer x p).1.lead, .string (resAnswer x p).1.data], .bool (resAnswer x p).2]) (fun _ => []) := by
  refine enter Tryz.func173 rfl Tryz.ntmps173 fun w0 => ?_
  refine openSendWindow ?_
  rintro a1 c1 F1 rfl l1
  repeat (first | apply c_seq | apply c_reg | (apply wO; apply oc; rfl; exact ydE) | apply w_nil | apply n_cd | (apply wg_t; rfl; rfl) | (apply wg_f; rfl; rfl; rfl; rfl) | (apply wg_u; rfl; rfl; rfl) | (apply c_t; rfl) | (apply c_f; rfl) | apply c_skip | apply c_block | apply n_blk | apply c_exit | apply e_hit | apply e_cd | apply e_lp | (apply e_miss; rfl) | apply c_ret | (apply wO; apply o_box; rfl; rfl; rfl; intro _) | (apply wO; apply o_alloc; rfl; intro _) | (apply wO; apply o_st; rfl; rfl; rfl; (first | exact AggC.s | exact OneC.s); rfl; exact rplE; exact putE; rfl) | (apply wO; apply o_bs0; rfl; intro _) | (apply wO; apply o_bs; rfl; rfl; rfl; rfl; exact rptE; exact filE; intro _) | (apply wO; apply o_call; rfl; kernel_rfl; exact evsE))
  refine cb (fun w st => l9Good_c _ x _ w (st.get (p := .isv ESendWindow (.agg #[.int .i64 x.trail, .int .i64 x.size, .slice a1 x.items.length c1]) x F) (by simp))) ?_
  cases g1 : goodWin x
  · repeat (first | apply c_seq | apply c_reg | (apply wO; apply oc; rfl; exact ydE) | apply w_nil | apply n_cd | (apply wg_t; rfl; rfl) | (apply wg_f; rfl; rfl; rfl; rfl) | (apply wg_u; rfl; rfl; rfl) | (apply c_t; rfl) | (apply c_f; rfl) | apply c_skip | apply c_block | apply n_blk | apply c_exit | apply e_hit | apply e_cd | apply e_lp | (apply e_miss; rfl) | apply c_ret | (apply wO; apply o_box; rfl; rfl; rfl; intro _) | (apply wO; apply o_alloc; rfl; intro _) | (apply wO; apply o_st; rfl; rfl; rfl; (first | exact AggC.s | exact OneC.s); rfl; exact rplE; exact putE; rfl) | (apply wO; apply o_bs0; rfl; intro _) | (apply wO; apply o_bs; rfl; rfl; rfl; rfl; exact rptE; exact filE; intro _) | (apply wO; apply o_call; rfl; kernel_rfl; exact evsE))
    rw [resAnswer_no (by unfold okAnswer; rw [g1]; rfl)]
    refine ret () trivial rfl
  obtain ⟨⟨t0, t1⟩, ⟨z0, z1⟩, hl, hi⟩ := goodWin_iff.1 g1
  have hl6 : x.items.length ≤ 6 := by omega
  repeat (first | apply c_seq | apply c_reg | (apply wO; apply oc; rfl; exact ydE) | apply w_nil | apply n_cd | (apply wg_t; rfl; rfl) | (apply wg_f; rfl; rfl; rfl; rfl) | (apply wg_u; rfl; rfl; rfl) | (apply c_t; rfl) | (apply c_f; rfl) | apply c_skip | apply c_block | apply n_blk | apply c_exit | apply e_hit | apply e_cd | apply e_lp | (apply e_miss; rfl) | apply c_ret | (apply wO; apply o_box; rfl; rfl; rfl; intro _) | (apply wO; apply o_alloc; rfl; intro _) | (apply wO; apply o_st; rfl; rfl; rfl; (first | exact AggC.s | exact OneC.s); rfl; exact rplE; exact putE; rfl) | (apply wO; apply o_bs0; rfl; intro _) | (apply wO; apply o_bs; rfl; rfl; rfl; rfl; exact rptE; exact filE; intro _) | (apply wO; apply o_call; rfl; kernel_rfl; exact evsE))
  refine cf (l4Good_f p hs) fun _ _ => ?_
  refine t_app ?_
  cases g2 : goodPk p
  · repeat (first | apply c_seq | apply c_reg | (apply wO; apply oc; rfl; exact ydE) | apply w_nil | apply n_cd | (apply wg_t; rfl; rfl) | (apply wg_f; rfl; rfl; rfl; rfl) | (apply wg_u; rfl; rfl; rfl) | (apply c_t; rfl) | (apply c_f; rfl) | apply c_skip | apply c_block | apply n_blk | apply c_exit | apply e_hit | apply e_cd | apply e_lp | (apply e_miss; rfl) | apply c_ret | (apply wO; apply o_box; rfl; rfl; rfl; intro _) | (apply wO; apply o_alloc; rfl; intro _) | (apply wO; apply o_st; rfl; rfl; rfl; (first | exact AggC.s | exact OneC.s); rfl; exact rplE; exact putE; rfl) | (apply wO; apply o_bs0; rfl; intro _) | (apply wO; apply o_bs; rfl; rfl; rfl; rfl; exact rptE; exact filE; intro _) | (apply wO; apply o_call; rfl; kernel_rfl; exact evsE))
    rw [resAnswer_no (by unfold okAnswer; rw [g1, g2]; rfl)]
    refine ret () trivial rfl
  obtain ⟨n0, n1⟩ := goodPk_num g2
  repeat (first | apply c_seq | apply c_reg | (apply wO; apply oc; rfl; exact ydE) | apply w_nil | apply n_cd | (apply wg_t; rfl; rfl) | (apply wg_f; rfl; rfl; rfl; rfl) | (apply wg_u; rfl; rfl; rfl) | (apply c_t; rfl) | (apply c_f; rfl) | apply c_skip | apply c_block | apply n_blk | apply c_exit | apply e_hit | apply e_cd | apply e_lp | (apply e_miss; rfl) | apply c_ret | (apply wO; apply o_box; rfl; rfl; rfl; intro _) | (apply wO; apply o_alloc; rfl; intro _) | (apply wO; apply o_st; rfl; rfl; rfl; (first | exact AggC.s | exact OneC.s); rfl; exact rplE; exact putE; rfl) | (apply wO; apply o_bs0; rfl; intro _) | (apply wO; apply o_bs; rfl; rfl; rfl; rfl; exact rptE; exact filE; intro _) | (apply wO; apply o_call; rfl; kernel_rfl; exact evsE))
  refine wg_if rfl rfl (fun h3 => ?_) (fun h3 => ?_)
  · repeat (first | apply c_seq | apply c_reg | (apply wO; apply oc; rfl; exact ydE) | apply w_nil | apply n_cd | (apply wg_t; rfl; rfl) | (apply wg_f; rfl; rfl; rfl; rfl) | (apply wg_u; rfl; rfl; rfl) | (apply c_t; rfl) | (apply c_f; rfl) | apply c_skip | apply c_block | apply n_blk | apply c_exit | apply e_hit | apply e_cd | apply e_lp | (apply e_miss; rfl) | apply c_ret | (apply wO; apply o_box; rfl; rfl; rfl; intro _) | (apply wO; apply o_alloc; rfl; intro _) | (apply wO; apply o_st; rfl; rfl; rfl; (first | exact AggC.s | exact OneC.s); rfl; exact rplE; exact putE; rfl) | (apply wO; apply o_bs0; rfl; intro _) | (apply wO; apply o_bs; rfl; rfl; rfl; rfl; exact rptE; exact filE; intro _) | (apply wO; apply o_call; rfl; kernel_rfl; exact evsE))
    rw [resAnswer_no (by unfold okAnswer; rw [g1, g2, decide_eq_false h3]; rfl)]
    refine ret () trivial rfl
  have h3 := Decidable.not_not.1 h3
  repeat (first | apply c_seq | apply c_reg | (apply wO; apply oc; rfl; exact ydE) | apply w_nil | apply n_cd | (apply wg_t; rfl; rfl) | (apply wg_f; rfl; rfl; rfl; rfl) | (apply wg_u; rfl; rfl; rfl) | (apply c_t; rfl) | (apply c_f; rfl) | apply c_skip | apply c_block | apply n_blk | apply c_exit | apply e_hit | apply e_cd | apply e_lp | (apply e_miss; rfl) | apply c_ret | (apply wO; apply o_box; rfl; rfl; rfl; intro _) | (apply wO; apply o_alloc; rfl; intro _) | (apply wO; apply o_st; rfl; rfl; rfl; (first | exact AggC.s | exact OneC.s); rfl; exact rplE; exact putE; rfl) | (apply wO; apply o_bs0; rfl; intro _) | (apply wO; apply o_bs; rfl; rfl; rfl; rfl; exact rptE; exact filE; intro _) | (apply wO; apply o_call; rfl; kernel_rfl; exact evsE))
  refine cb (fun w st => (l9Held_f x p.number _ F t0 t1 n0 n1).val w (hol1 (st.get (p := .isv ESendWindow (.agg #[.int .i64 x.trail, .int .i64 x.size, .slice a1 x.items.length c1]) x F) (by simp)))) ?_
  cases g3 : heldB x p.number
  · repeat (first | apply c_seq | apply c_reg | (apply wO; apply oc; rfl; exact ydE) | apply w_nil | apply n_cd | (apply wg_t; rfl; rfl) | (apply wg_f; rfl; rfl; rfl; rfl) | (apply wg_u; rfl; rfl; rfl) | (apply c_t; rfl) | (apply c_f; rfl) | apply c_skip | apply c_block | apply n_blk | apply c_exit | apply e_hit | apply e_cd | apply e_lp | (apply e_miss; rfl) | apply c_ret | (apply wO; apply o_box; rfl; rfl; rfl; intro _) | (apply wO; apply o_alloc; rfl; intro _) | (apply wO; apply o_st; rfl; rfl; rfl; (first | exact AggC.s | exact OneC.s); rfl; exact rplE; exact putE; rfl) | (apply wO; apply o_bs0; rfl; intro _) | (apply wO; apply o_bs; rfl; rfl; rfl; rfl; exact rptE; exact filE; intro _) | (apply wO; apply o_call; rfl; kernel_rfl; exact evsE))
    rw [resAnswer_no (by unfold okAnswer; rw [g1, g2, g3]; simp)]
    refine ret () trivial rfl
  rw [resAnswer_yes (by unfold okAnswer; rw [g1, g2, g3, decide_eq_true h3]; rfl)]
  have b := gp_bd x.trail p.number
  have hk3 := held_lt g3
  rw [show ansP x p.number = ⟨2, p.number, x.trail, leadW x, x.items[(gp x.trail p.number).toNat]⟩ by unfold ansP; rw [itemAt_lt hk3]]
  refine at_str (xs := x.items) (gp x.trail p.number).toNat ?_
  rintro hi b2 o2 e s1
  rw [e]
  repeat (first | apply c_seq | apply c_reg | (apply wO; apply oc; rfl; exact ydE) | apply w_nil | apply n_cd | (apply wg_t; rfl; rfl) | (apply wg_f; rfl; rfl; rfl; rfl) | (apply wg_u; rfl; rfl; rfl) | (apply c_t; rfl) | (apply c_f; rfl) | apply c_skip | apply c_block | apply n_blk | apply c_exit | apply e_hit | apply e_cd | apply e_lp | (apply e_miss; rfl) | apply c_ret | (apply wO; apply o_box; rfl; rfl; rfl; intro _) | (apply wO; apply o_alloc; rfl; intro _) | (apply wO; apply o_st; rfl; rfl; rfl; (first | exact AggC.s | exact OneC.s); rfl; exact rplE; exact putE; rfl) | (apply wO; apply o_bs0; rfl; intro _) | (apply wO; apply o_bs; rfl; rfl; rfl; rfl; exact rptE; exact filE; intro _))
  refine d_start [0, 2, 3] [] ?_
  refine dt 0 ?_
  refine dt 1 ?_
  refine dt 2 ?_
  refine dt 3 ?_
  refine dt 4 ?_
  refine dt 6 ?_
  refine dt 7 ?_
  refine dt 8 ?_
  refine dt 9 ?_
  refine dt 10 ?_
  refine dt 11 ?_
  refine dO 5 (by kernel_rfl) (by rw [List.getElem?_toArray]; rfl) ?_
  apply o_call; rfl; kernel_rfl; exact evsE
  refine cb (fun w _ => l9Lead_c _ _ _ _ _ w t0 t1 (by omega)) ?_
  refine dk ?_
  refine dO 12 (by kernel_rfl) (by rw [List.getElem?_toArray]; rfl) ?_
  apply o_call; rfl; kernel_rfl; exact evsE
  refine ce (fun w s => l2Gap_c _ _ _ (by omega) (by omega)) ?_
  refine dk ?_
  refine dt 13 ?_
  refine dt 14 ?_
  refine dt 15 ?_
  refine dO 16 (by kernel_rfl) (by rw [List.getElem?_toArray]; rfl) ?_
  apply o_st; rfl; rfl; rfl; (first | exact AggC.s | exact OneC.s); rfl; exact rplE; exact putE; rfl
  refine dk ?_
  refine dt 17 ?_
  refine dd ?_
  repeat (first | apply c_seq | apply c_reg | (apply wO; apply oc; rfl; exact ydE) | apply w_nil | apply n_cd | (apply wg_t; rfl; rfl) | (apply wg_f; rfl; rfl; rfl; rfl) | (apply wg_u; rfl; rfl; rfl) | (apply c_t; rfl) | (apply c_f; rfl) | apply c_skip | apply c_block | apply n_blk | apply c_exit | apply e_hit | apply e_cd | apply e_lp | (apply e_miss; rfl) | apply c_ret | (apply wO; apply o_box; rfl; rfl; rfl; intro _) | (apply wO; apply o_alloc; rfl; intro _) | (apply wO; apply o_st; rfl; rfl; rfl; (first | exact AggC.s | exact OneC.s); rfl; exact rplE; exact putE; rfl) | (apply wO; apply o_bs0; rfl; intro _) | (apply wO; apply o_bs; rfl; rfl; rfl; rfl; exact rptE; exact filE; intro _) | (apply wO; apply o_call; rfl; kernel_rfl; exact evsE))
  refine ret () trivial rfl
end Go.Proofs.YtidephmobajikaaGreatDoor
/- Sources: what a request brings, that sources stay valid; plain laws. -/
namespace Go.Proofs.YtidephmobajikaaGreatDoor
open Go.RowKit
theorem gp_inj {t a b : Int} (ha : 0 ≤ a ∧ a ≤ 65535) (hb : 0 ≤ b ∧ b ≤ 65535) (h : gp t a = gp t b) : a = b := by unfold gp at h; omega
theorem tw_len {α : Type} {p : α → Bool} : ∀ {xs : List α} {k : Nat}, k ≤ xs.length → (∀ j (_ : j < k) (h : j < xs.length), p xs[j] = true) → (∀ h : k < xs.length, p xs[k] = false) → (xs.takeWhile p).length = k
  | [], k, hk, _, _ => by simp at hk; simp [hk]
  | x :: r, 0, _, _, h2 => by have := h2 (by simp); simp at this; simp [this]
  | x :: r, k + 1, hk, h1, h2 => by
    have hx : p x = true := h1 0 (by omega) (by simp)
    rw [List.takeWhile_cons_of_pos hx, List.length_cons, tw_len (xs := r) (k := k) (by simpa using hk) (fun j hj h => by have := h1 (j + 1) (by omega) (by simpa using h); simpa using this) (fun h => by have := h2 (by simpa using h); simpa using this)]
theorem tw_spec {α : Type} {p : α → Bool} : ∀ {xs : List α}, (xs.takeWhile p).length ≤ xs.length ∧ (∀ j (_ : j < (xs.takeWhile p).length) (h : j < xs.length), p xs[j] = true) ∧ ∀ h : (xs.takeWhile p).length < xs.length, p xs[(xs.takeWhile p).length] = false
  | [] => by simp
  | x :: r => by
    cases hx : p x
    · rw [List.takeWhile_cons_of_neg (by simp [hx])]; simp [hx]
    · rw [List.takeWhile_cons_of_pos hx]
      obtain ⟨h1, h2, h3⟩ := tw_spec (p := p) (xs := r)
      refine ⟨by simpa using h1, fun j hj h => ?_, fun h => ?_⟩
      · cases j with
        | zero => simpa using hx
        | succ j => simpa using h2 j (by simpa using hj) (by simpa using h)
      · simpa using h3 (by simpa using h)
def hitB {α : Type} (f : α → Int) : Option α → Bool
  | some x => decide (f x = 0)
  | none => false
def srt (t : Int) (hs : List Hold) : Prop := hs.Pairwise fun a b => gp t a.number < gp t b.number
theorem goodSrc_iff {x : Source} : goodSrc x = true ↔ goodWin x.window = true ∧ isClk x.clock = true ∧ btw 0 x.quiet 3 = true ∧ (∀ h ∈ x.holds, isSer h.number = true ∧ heldB x.window h.number = true ∧ btw (x.clock + 1) h.untl (x.clock + 3) = true) ∧ srt x.window.trail x.holds := by
  unfold goodSrc
  simp only [Bool.and_eq_true, List.all_eq_true, List.mem_range]
  constructor
  · rintro ⟨⟨⟨h1, h2⟩, h3⟩, h4⟩
    refine ⟨h1, h2, h3, fun h hh => ?_, ?_⟩
    · obtain ⟨i, hi, rfl⟩ := List.getElem_of_mem hh
      have := h4 i hi
      rw [chkH_at hi] at this
      simp only [Bool.and_eq_true] at this
      exact ⟨this.1.1.1, this.1.1.2, this.1.2⟩
    · have step : ∀ i (hi : i + 1 < x.holds.length), gp x.window.trail x.holds[i].number < gp x.window.trail x.holds[i + 1].number := fun i hi => by
        have := h4 (i + 1) hi
        rw [chkH_at hi] at this
        simp only [Bool.and_eq_true, Bool.or_eq_true, decide_eq_true_eq, Bool.not_eq_true', decide_eq_false_iff_not] at this
        have h := this.2
        rcases h with h | h
        · omega
        · simpa using h
      refine List.pairwise_iff_getElem.2 fun i j hi hj hij => ?_
      obtain ⟨d, rfl⟩ : ∃ d, j = i + 1 + d := ⟨j - i - 1, by omega⟩
      clear hij
      induction d with
      | zero => exact step i hj
      | succ d ih => exact Int.lt_trans (ih (by omega)) (step (i + 1 + d) hj)
  · rintro ⟨h1, h2, h3, h4, h5⟩
    refine ⟨⟨⟨h1, h2⟩, h3⟩, fun i hi => ?_⟩
    rw [chkH_at hi]
    obtain ⟨a, b, c⟩ := h4 x.holds[i] (List.getElem_mem hi)
    rw [a, b, c]
    simp only [Bool.true_and, Bool.or_eq_true, decide_eq_true_eq, Bool.not_eq_true', decide_eq_false_iff_not]
    rcases Nat.eq_zero_or_pos i with h0 | h0
    · exact .inl h0
    · have := List.pairwise_iff_getElem.1 h5 (i - 1) i (by omega) hi (by omega)
      right; omega
def holdAt (t : Int) (hs : List Hold) (n : Int) : Nat := (hs.takeWhile fun h => decide (gp t h.number < gp t n)).length
def thereB (t : Int) (hs : List Hold) (n : Int) : Bool := match hs[holdAt t hs n]? with | some h => decide (h.number = n) | none => false
def addHold (hs : List Hold) (k : Nat) (h : Hold) : List Hold := hs.take k ++ h :: hs.drop k
def confP (W : SendWindow) (n : Int) : Packet := ⟨4, n, W.trail, leadW W, ⟨#[]⟩⟩
def reqSU (x : Source) (n : Int) : Source := if heldB x.window n && !thereB x.window.trail x.holds n then ⟨x.window, x.clock, x.quiet, addHold x.holds (holdAt x.window.trail x.holds n) ⟨n, x.clock + 3⟩⟩ else withU x x.window
def reqP (x : Source) (p : Packet) : List Packet := if heldB x.window p.number then (if thereB x.window.trail x.holds p.number then [confP x.window p.number] else [confP x.window p.number, (resAnswer x.window p).1]) else [statP x.window]
def reqS (x : Source) (n : Int) : Source := if heldB x.window n && !thereB x.window.trail x.holds n then ⟨x.window, x.clock, x.quiet, addHold x.holds (holdAt x.window.trail x.holds n) ⟨n, x.clock + 3⟩⟩ else x
def okRequestTo (x : Source) (p : Packet) : Bool := goodSrc x && goodPk p && decide (p.kind = 3)
def resRequestTo (x : Source) (p : Packet) : Source × List Packet × Bool := if okRequestTo x p then (reqS x p.number, reqP x p, true) else (zSrc, [], false)
theorem resReq_no {x : Source} {p : Packet} (h : okRequestTo x p = false) : resRequestTo x p = (zSrc, [], false) := by unfold resRequestTo; rw [h]; rfl
theorem resReq_yes {x : Source} {p : Packet} (h : okRequestTo x p = true) : resRequestTo x p = (reqS x p.number, reqP x p, true) := by unfold resRequestTo; rw [h]; rfl
theorem keepU_same {x : Source} (hg : goodSrc x = true) : keepU x.window x.clock x.holds = x.holds := by
  obtain ⟨-, -, -, h4, -⟩ := goodSrc_iff.1 hg
  unfold keepU
  refine List.filter_eq_self.2 fun h hh => ?_
  obtain ⟨a, b, c⟩ := h4 h hh
  unfold btw at c
  simp only [Bool.and_eq_true, decide_eq_true_eq] at c
  rw [b, decide_eq_true (by omega)]; rfl
theorem reqSU_eq {x : Source} (hg : goodSrc x = true) (n : Int) : reqSU x n = reqS x n := by
  unfold reqSU reqS withU
  rw [keepU_same hg]
theorem holdAt_le (t : Int) (hs : List Hold) (n : Int) : holdAt t hs n ≤ hs.length := tw_spec.1
end Go.Proofs.YtidephmobajikaaGreatDoor
/- Insertion and search in lists of holds. -/
namespace Go.Proofs.YtidephmobajikaaGreatDoor
open Go.RowKit
theorem rep1_Hold (y : Hold) (w : World) : Flat EHold w [.int .i64 y.number, .int .i64 y.untl] [y] [] := ⟨_, [], [], [], by simp, by simp, ⟨rfl, rfl⟩, rfl, rfl⟩
set_option maxRecDepth 100000 in
set_option maxHeartbeats 1000000 in
theorem InsHold_f (xs : List Hold) (y : Hold) (i : Nat) (a : Option Addr) (c vb : Nat) (F : List Nat) (hi : i ≤ xs.length) (hl : xs.length ≤ 1000000) :
    Fn Tryz.prog 169 [.slice a xs.length c, .int .i64 i, .slice (some ⟨vb, 0, none⟩) 1 1] [] [.ow EHold 131 (.slice a xs.length c) xs F, .row vb 131 0 [] [.int .i64 y.number, .int .i64 y.untl] []] (fun (_ : Option Addr × Nat × List Nat) => True)
      (fun z => .slice z.1 (xs.take i ++ y :: xs.drop i).length z.2.1) (fun z => [.ow EHold 131 (.slice z.1 (xs.take i ++ y :: xs.drop i).length z.2.1) (xs.take i ++ y :: xs.drop i) z.2.2]) := by
  have hone : ∀ w' : World, ∀ cs : List Value, Flat EHold w' cs xs [] → ∀ u ∈ cs, u.oneCell' = true := fun w' cs h => h.one' one_EHold
  have hy := rep1_Hold y
  have h1y : ∀ u ∈ ([.int .i64 y.number, .int .i64 y.untl] : List Value), u.oneCell' = true := by intro u hu; simp at hu; rcases hu with rfl | rfl | rfl | rfl <;> rfl
  refine enter Tryz.func169 rfl Tryz.ntmps169 fun w0 => ?_
  refine t_cap (E := EHold) fun hc1 hc2 => ?_
  repeat (first | apply c_seq | apply c_reg | (apply wO; apply oc; rfl; exact ydE) | apply w_nil | apply n_cd | (apply wg_t; rfl; rfl) | (apply wg_f; rfl; rfl; rfl; rfl) | (apply wg_u; rfl; rfl; rfl) | (apply c_t; rfl) | (apply c_f; rfl) | apply c_skip | apply c_block | apply n_blk | apply c_exit | apply e_hit | apply e_cd | apply e_lp | (apply e_miss; rfl) | apply c_ret | (apply wO; apply o_box; rfl; rfl; rfl; intro _) | (apply wO; apply o_alloc; rfl; intro _) | (apply wO; apply o_st; rfl; rfl; rfl; (first | exact AggC.s | exact OneC.s); rfl; exact rplE; exact putE; rfl) | (apply wO; apply o_bs0; rfl; intro _) | (apply wO; apply o_bs; rfl; rfl; rfl; rfl; exact rptE; exact filE; intro _) | (apply wO; apply o_call; rfl; kernel_rfl; exact evsE))
  apply wO
  refine o_slany rfl rfl rfl rfl hi (fun _ => ?_) hc1
  repeat (first | apply c_seq | apply c_reg | (apply wO; apply oc; rfl; exact ydE) | apply w_nil | apply n_cd | (apply wg_t; rfl; rfl) | (apply wg_f; rfl; rfl; rfl; rfl) | (apply wg_u; rfl; rfl; rfl) | (apply c_t; rfl) | (apply c_f; rfl) | apply c_skip | apply c_block | apply n_blk | apply c_exit | apply e_hit | apply e_cd | apply e_lp | (apply e_miss; rfl) | apply c_ret | (apply wO; apply o_box; rfl; rfl; rfl; intro _) | (apply wO; apply o_alloc; rfl; intro _) | (apply wO; apply o_st; rfl; rfl; rfl; (first | exact AggC.s | exact OneC.s); rfl; exact rplE; exact putE; rfl) | (apply wO; apply o_bs0; rfl; intro _) | (apply wO; apply o_bs; rfl; rfl; rfl; rfl; exact rptE; exact filE; intro _) | (apply wO; apply o_call; rfl; kernel_rfl; exact evsE))
  refine c_if rfl (fun h1 => ?_) (fun h1 => ?_)
  · have hin : i = xs.length := by omega
    subst hin
    have e : xs.take xs.length ++ y :: xs.drop xs.length = xs ++ [y] := by simp
    repeat (first | apply c_seq | apply c_reg | (apply wO; apply oc; rfl; exact ydE) | apply w_nil | apply n_cd | (apply wg_t; rfl; rfl) | (apply wg_f; rfl; rfl; rfl; rfl) | (apply wg_u; rfl; rfl; rfl) | (apply c_t; rfl) | (apply c_f; rfl) | apply c_skip | apply c_block | apply n_blk | apply c_exit | apply e_hit | apply e_cd | apply e_lp | (apply e_miss; rfl) | apply c_ret | (apply wO; apply o_box; rfl; rfl; rfl; intro _) | (apply wO; apply o_alloc; rfl; intro _) | (apply wO; apply o_st; rfl; rfl; rfl; (first | exact AggC.s | exact OneC.s); rfl; exact rplE; exact putE; rfl) | (apply wO; apply o_bs0; rfl; intro _) | (apply wO; apply o_bs; rfl; rfl; rfl; rfl; exact rptE; exact filE; intro _) | (apply wO; apply o_call; rfl; kernel_rfl; exact evsE))
    apply wO
    refine ap1 hy one_EHold fun a2 c2 F2 => ?_
    rw [e]
    repeat (first | apply c_seq | apply c_reg | (apply wO; apply oc; rfl; exact ydE) | apply w_nil | apply n_cd | (apply wg_t; rfl; rfl) | (apply wg_f; rfl; rfl; rfl; rfl) | (apply wg_u; rfl; rfl; rfl) | (apply c_t; rfl) | (apply c_f; rfl) | apply c_skip | apply c_block | apply n_blk | apply c_exit | apply e_hit | apply e_cd | apply e_lp | (apply e_miss; rfl) | apply c_ret | (apply wO; apply o_box; rfl; rfl; rfl; intro _) | (apply wO; apply o_alloc; rfl; intro _) | (apply wO; apply o_st; rfl; rfl; rfl; (first | exact AggC.s | exact OneC.s); rfl; exact rplE; exact putE; rfl) | (apply wO; apply o_bs0; rfl; intro _) | (apply wO; apply o_bs; rfl; rfl; rfl; rfl; exact rptE; exact filE; intro _) | (apply wO; apply o_call; rfl; kernel_rfl; exact evsE))
    refine ret (a2, c2, F2) trivial rfl
  · have hlt : i < xs.length := by omega
    refine t_rowof (xs := xs) scal_EHold (by rintro rfl; simp at hlt) ?_
    rintro g cs rest rfl - - - hcl hcr hfl
    rw [show EHold.sz = 2 from rfl] at hcl hcr
    have h1c := hone w0 cs (hfl w0)
    obtain ⟨A, B, hcs, hA, hB⟩ : ∃ A B, cs = A ++ B ∧ A = cs.take (i * 2) ∧ B = cs.drop (i * 2) := ⟨_, _, (List.take_append_drop _ _).symm, rfl, rfl⟩
    have hAl : A.length = i * 2 := by rw [hA, List.length_take]; omega
    have hBl : B.length = (xs.length - i) * 2 := by rw [hB, List.length_drop]; omega
    have hins : ∀ w, Flat EHold w (A ++ [.int .i64 y.number, .int .i64 y.untl] ++ B) (xs.take i ++ y :: xs.drop i) [] := fun w => by rw [hA, hB]; exact (hfl w).insL (hy w) i hi
    have h1A : ∀ u ∈ A, u.oneCell' = true := fun u hu => h1c u (by rw [hcs]; simp [hu])
    have h1B : ∀ u ∈ B, u.oneCell' = true := fun u hu => h1c u (by rw [hcs]; simp [hu])
    have hlen : (xs.take i ++ y :: xs.drop i).length = xs.length + 1 := by simp; omega
    clear hA hB hfl hone
    subst hcs
    have eA : A = ((A ++ B ++ rest).drop 0).take (i * 2) := by rw [List.drop_zero, List.append_assoc, List.take_left' hAl]
    have eB : B = ((A ++ B ++ rest).drop (0 + i * 2)).take ((xs.length - i) * 2) := by rw [Nat.zero_add, List.append_assoc, List.drop_left' hAl, List.take_left' hBl]
    rw [hlen]
    repeat (first | apply c_seq | apply c_reg | (apply wO; apply oc; rfl; exact ydE) | apply w_nil | apply n_cd | (apply wg_t; rfl; rfl) | (apply wg_f; rfl; rfl; rfl; rfl) | (apply wg_u; rfl; rfl; rfl) | (apply c_t; rfl) | (apply c_f; rfl) | apply c_skip | apply c_block | apply n_blk | apply c_exit | apply e_hit | apply e_cd | apply e_lp | (apply e_miss; rfl) | apply c_ret | (apply wO; apply o_box; rfl; rfl; rfl; intro _) | (apply wO; apply o_alloc; rfl; intro _) | (apply wO; apply o_st; rfl; rfl; rfl; (first | exact AggC.s | exact OneC.s); rfl; exact rplE; exact putE; rfl) | (apply wO; apply o_bs0; rfl; intro _) | (apply wO; apply o_bs; rfl; rfl; rfl; rfl; exact rptE; exact filE; intro _) | (apply wO; apply o_call; rfl; kernel_rfl; exact evsE))
    apply wO; apply oc; rfl; exact yd_cap rfl
    repeat (first | apply c_seq | apply c_reg | (apply wO; apply oc; rfl; exact ydE) | apply w_nil | apply n_cd | (apply wg_t; rfl; rfl) | (apply wg_f; rfl; rfl; rfl; rfl) | (apply wg_u; rfl; rfl; rfl) | (apply c_t; rfl) | (apply c_f; rfl) | apply c_skip | apply c_block | apply n_blk | apply c_exit | apply e_hit | apply e_cd | apply e_lp | (apply e_miss; rfl) | apply c_ret | (apply wO; apply o_box; rfl; rfl; rfl; intro _) | (apply wO; apply o_alloc; rfl; intro _) | (apply wO; apply o_st; rfl; rfl; rfl; (first | exact AggC.s | exact OneC.s); rfl; exact rplE; exact putE; rfl) | (apply wO; apply o_bs0; rfl; intro _) | (apply wO; apply o_bs; rfl; rfl; rfl; rfl; exact rptE; exact filE; intro _) | (apply wO; apply o_call; rfl; kernel_rfl; exact evsE))
    refine c_if rfl (fun h2 => ?_) (fun h2 => ?_)
    · repeat (first | apply c_seq | apply c_reg | (apply wO; apply oc; rfl; exact ydE) | apply w_nil | apply n_cd | (apply wg_t; rfl; rfl) | (apply wg_f; rfl; rfl; rfl; rfl) | (apply wg_u; rfl; rfl; rfl) | (apply c_t; rfl) | (apply c_f; rfl) | apply c_skip | apply c_block | apply n_blk | apply c_exit | apply e_hit | apply e_cd | apply e_lp | (apply e_miss; rfl) | apply c_ret | (apply wO; apply o_box; rfl; rfl; rfl; intro _) | (apply wO; apply o_alloc; rfl; intro _) | (apply wO; apply o_st; rfl; rfl; rfl; (first | exact AggC.s | exact OneC.s); rfl; exact rplE; exact putE; rfl) | (apply wO; apply o_bs0; rfl; intro _) | (apply wO; apply o_bs; rfl; rfl; rfl; rfl; exact rptE; exact filE; intro _) | (apply wO; apply o_call; rfl; kernel_rfl; exact evsE))
      apply wO; apply oc; rfl; exact yd_slt (i := i) rfl rfl rfl (by omega) (by omega)
      repeat (first | apply c_seq | apply c_reg | (apply wO; apply oc; rfl; exact ydE) | apply w_nil | apply n_cd | (apply wg_t; rfl; rfl) | (apply wg_f; rfl; rfl; rfl; rfl) | (apply wg_u; rfl; rfl; rfl) | (apply c_t; rfl) | (apply c_f; rfl) | apply c_skip | apply c_block | apply n_blk | apply c_exit | apply e_hit | apply e_cd | apply e_lp | (apply e_miss; rfl) | apply c_ret | (apply wO; apply o_box; rfl; rfl; rfl; intro _) | (apply wO; apply o_alloc; rfl; intro _) | (apply wO; apply o_st; rfl; rfl; rfl; (first | exact AggC.s | exact OneC.s); rfl; exact rplE; exact putE; rfl) | (apply wO; apply o_bs0; rfl; intro _) | (apply wO; apply o_bs; rfl; rfl; rfl; rfl; exact rptE; exact filE; intro _) | (apply wO; apply o_call; rfl; kernel_rfl; exact evsE))
      apply wO
      refine o_apgz (k := xs.length + 1 - i) (olds := A) rfl rfl rfl (by omega) (src_row (m := i * 2) (.head _) eA) (by omega) (by decide) (by omega) (by omega) (by omega) (by omega) fun g' cp' Z rest' h3 h4 h5 h6 => ?_
      rw [show i + (xs.length + 1 - i) = xs.length + 1 by omega] at h3 ⊢
      obtain ⟨Z1, Z2, rfl, hZ1, hZ2⟩ : ∃ Z1 Z2, Z = Z1 ++ Z2 ∧ Z1.length = 2 ∧ Z2.length = B.length := ⟨Z.take 2, Z.drop 2, (List.take_append_drop _ _).symm, by rw [List.length_take]; omega, by rw [List.length_drop]; omega⟩
      repeat (first | apply c_seq | apply c_reg | (apply wO; apply oc; rfl; exact ydE) | apply w_nil | apply n_cd | (apply wg_t; rfl; rfl) | (apply wg_f; rfl; rfl; rfl; rfl) | (apply wg_u; rfl; rfl; rfl) | (apply c_t; rfl) | (apply c_f; rfl) | apply c_skip | apply c_block | apply n_blk | apply c_exit | apply e_hit | apply e_cd | apply e_lp | (apply e_miss; rfl) | apply c_ret | (apply wO; apply o_box; rfl; rfl; rfl; intro _) | (apply wO; apply o_alloc; rfl; intro _) | (apply wO; apply o_st; rfl; rfl; rfl; (first | exact AggC.s | exact OneC.s); rfl; exact rplE; exact putE; rfl) | (apply wO; apply o_bs0; rfl; intro _) | (apply wO; apply o_bs; rfl; rfl; rfl; rfl; exact rptE; exact filE; intro _) | (apply wO; apply o_call; rfl; kernel_rfl; exact evsE))
      apply wO; apply oc; rfl; exact yd_slv (i := i) rfl rfl rfl (by omega) (by omega) (by omega)
      repeat (first | apply c_seq | apply c_reg | (apply wO; apply oc; rfl; exact ydE) | apply w_nil | apply n_cd | (apply wg_t; rfl; rfl) | (apply wg_f; rfl; rfl; rfl; rfl) | (apply wg_u; rfl; rfl; rfl) | (apply c_t; rfl) | (apply c_f; rfl) | apply c_skip | apply c_block | apply n_blk | apply c_exit | apply e_hit | apply e_cd | apply e_lp | (apply e_miss; rfl) | apply c_ret | (apply wO; apply o_box; rfl; rfl; rfl; intro _) | (apply wO; apply o_alloc; rfl; intro _) | (apply wO; apply o_st; rfl; rfl; rfl; (first | exact AggC.s | exact OneC.s); rfl; exact rplE; exact putE; rfl) | (apply wO; apply o_bs0; rfl; intro _) | (apply wO; apply o_bs; rfl; rfl; rfl; rfl; exact rptE; exact filE; intro _) | (apply wO; apply o_call; rfl; kernel_rfl; exact evsE))
      apply wO
      refine o_cpy (cs := [.int .i64 y.number, .int .i64 y.untl]) (L' := A ++ [.int .i64 y.number, .int .i64 y.untl] ++ (Z2 ++ rest')) rfl rfl rfl (src_row (L := [.int .i64 y.number, .int .i64 y.untl]) (o := 0) (m := 2) (by exact memE) rfl) .here (cpyM (M := Z1) (by simp [List.append_assoc]) (by omega) (by simpa using hZ1)) (by show 2 = min 1 (xs.length + 1 - i) * 2; omega) (by simp only [List.length_append, List.length_cons, List.length_nil]; omega) h1y ?_
      repeat (first | apply c_seq | apply c_reg | (apply wO; apply oc; rfl; exact ydE) | apply w_nil | apply n_cd | (apply wg_t; rfl; rfl) | (apply wg_f; rfl; rfl; rfl; rfl) | (apply wg_u; rfl; rfl; rfl) | (apply c_t; rfl) | (apply c_f; rfl) | apply c_skip | apply c_block | apply n_blk | apply c_exit | apply e_hit | apply e_cd | apply e_lp | (apply e_miss; rfl) | apply c_ret | (apply wO; apply o_box; rfl; rfl; rfl; intro _) | (apply wO; apply o_alloc; rfl; intro _) | (apply wO; apply o_st; rfl; rfl; rfl; (first | exact AggC.s | exact OneC.s); rfl; exact rplE; exact putE; rfl) | (apply wO; apply o_bs0; rfl; intro _) | (apply wO; apply o_bs; rfl; rfl; rfl; rfl; exact rptE; exact filE; intro _) | (apply wO; apply o_call; rfl; kernel_rfl; exact evsE))
      refine d_start [] [] ?_
      refine dt 0 ?_
      refine dt 1 ?_
      refine dt 2 ?_
      refine dt 3 ?_
      refine dt 4 ?_ (hy := yd_slv (i := i + 1) rfl rfl (by omega) (by omega) (by omega) (by omega))
      refine dt 5 ?_
      refine dt 6 ?_
      refine dt 7 ?_ (hy := yd_slv (i := i) rfl rfl (by omega) (by omega) (by omega) (by omega))
      refine dO 8 (by kernel_rfl) (by rw [List.getElem?_toArray]; rfl) ?_
      refine o_cpy (cs := B) (L' := A ++ [.int .i64 y.number, .int .i64 y.untl] ++ B ++ rest') rfl rfl rfl (src_row (by exact memE) eB) .here (cpyM (P := A ++ [.int .i64 y.number, .int .i64 y.untl]) (M := Z2) (by simp [List.append_assoc]) (by simp only [List.length_append, List.length_cons, List.length_nil]; omega) hZ2) (by rw [hBl]; congr 1; show _ = min (xs.length - i) (xs.length + 1 - (i + 1)); omega) (by simp only [List.length_append, List.length_cons, List.length_nil]; omega) h1B ?_
      refine dk ?_
      refine dd ?_
      refine t_owof (cs := A ++ [.int .i64 y.number, .int .i64 y.untl] ++ B) (rest := rest') (xs := xs.take i ++ y :: xs.drop i) cp' rfl hins (by omega) h4 (by rw [show EHold.sz = 2 from rfl]; simp only [List.length_append, List.length_cons, List.length_nil] at h6 ⊢; omega) ?_
      rw [hlen]
      repeat (first | apply c_seq | apply c_reg | (apply wO; apply oc; rfl; exact ydE) | apply w_nil | apply n_cd | (apply wg_t; rfl; rfl) | (apply wg_f; rfl; rfl; rfl; rfl) | (apply wg_u; rfl; rfl; rfl) | (apply c_t; rfl) | (apply c_f; rfl) | apply c_skip | apply c_block | apply n_blk | apply c_exit | apply e_hit | apply e_cd | apply e_lp | (apply e_miss; rfl) | apply c_ret | (apply wO; apply o_box; rfl; rfl; rfl; intro _) | (apply wO; apply o_alloc; rfl; intro _) | (apply wO; apply o_st; rfl; rfl; rfl; (first | exact AggC.s | exact OneC.s); rfl; exact rplE; exact putE; rfl) | (apply wO; apply o_bs0; rfl; intro _) | (apply wO; apply o_bs; rfl; rfl; rfl; rfl; exact rptE; exact filE; intro _) | (apply wO; apply o_call; rfl; kernel_rfl; exact evsE))
      refine ret (_, cp', [g']) trivial rfl
    · have hcx : xs.length + 1 ≤ c := by omega
      obtain ⟨X, Y, hXY, hX, hY⟩ := shiftL (B := B) (R := rest) 2 (by omega)
      repeat (first | apply c_seq | apply c_reg | (apply wO; apply oc; rfl; exact ydE) | apply w_nil | apply n_cd | (apply wg_t; rfl; rfl) | (apply wg_f; rfl; rfl; rfl; rfl) | (apply wg_u; rfl; rfl; rfl) | (apply c_t; rfl) | (apply c_f; rfl) | apply c_skip | apply c_block | apply n_blk | apply c_exit | apply e_hit | apply e_cd | apply e_lp | (apply e_miss; rfl) | apply c_ret | (apply wO; apply o_box; rfl; rfl; rfl; intro _) | (apply wO; apply o_alloc; rfl; intro _) | (apply wO; apply o_st; rfl; rfl; rfl; (first | exact AggC.s | exact OneC.s); rfl; exact rplE; exact putE; rfl) | (apply wO; apply o_bs0; rfl; intro _) | (apply wO; apply o_bs; rfl; rfl; rfl; rfl; exact rptE; exact filE; intro _) | (apply wO; apply o_call; rfl; kernel_rfl; exact evsE))
      apply wO; apply oc; rfl; exact yd_slt (i := xs.length + 1) rfl rfl (by omega) (by omega) (by omega)
      repeat (first | apply c_seq | apply c_reg | (apply wO; apply oc; rfl; exact ydE) | apply w_nil | apply n_cd | (apply wg_t; rfl; rfl) | (apply wg_f; rfl; rfl; rfl; rfl) | (apply wg_u; rfl; rfl; rfl) | (apply c_t; rfl) | (apply c_f; rfl) | apply c_skip | apply c_block | apply n_blk | apply c_exit | apply e_hit | apply e_cd | apply e_lp | (apply e_miss; rfl) | apply c_ret | (apply wO; apply o_box; rfl; rfl; rfl; intro _) | (apply wO; apply o_alloc; rfl; intro _) | (apply wO; apply o_st; rfl; rfl; rfl; (first | exact AggC.s | exact OneC.s); rfl; exact rplE; exact putE; rfl) | (apply wO; apply o_bs0; rfl; intro _) | (apply wO; apply o_bs; rfl; rfl; rfl; rfl; exact rptE; exact filE; intro _) | (apply wO; apply o_call; rfl; kernel_rfl; exact evsE))
      apply wO; apply oc; rfl; exact yd_slv (i := i + 1) rfl rfl (by omega) (by omega) (by omega) (by omega)
      repeat (first | apply c_seq | apply c_reg | (apply wO; apply oc; rfl; exact ydE) | apply w_nil | apply n_cd | (apply wg_t; rfl; rfl) | (apply wg_f; rfl; rfl; rfl; rfl) | (apply wg_u; rfl; rfl; rfl) | (apply c_t; rfl) | (apply c_f; rfl) | apply c_skip | apply c_block | apply n_blk | apply c_exit | apply e_hit | apply e_cd | apply e_lp | (apply e_miss; rfl) | apply c_ret | (apply wO; apply o_box; rfl; rfl; rfl; intro _) | (apply wO; apply o_alloc; rfl; intro _) | (apply wO; apply o_st; rfl; rfl; rfl; (first | exact AggC.s | exact OneC.s); rfl; exact rplE; exact putE; rfl) | (apply wO; apply o_bs0; rfl; intro _) | (apply wO; apply o_bs; rfl; rfl; rfl; rfl; exact rptE; exact filE; intro _))
      apply wO
      refine o_ext rfl evsE (ovl (tS := 53) (tR := 4) (run_callFunc_extern Tryz.func205 (by kernel_rfl) (by kernel_rfl) (by kernel_rfl) (e := Extern.SlicesOverlaps.overlaps #[53, 53] #[4]) (by kernel_rfl)) (.there .here) (.head _) (by intro e; have := congrArg List.length e; simp only [List.length_append, List.length_nil] at this; omega)) ?_
      repeat (first | apply c_seq | apply c_reg | (apply wO; apply oc; rfl; exact ydE) | apply w_nil | apply n_cd | (apply wg_t; rfl; rfl) | (apply wg_f; rfl; rfl; rfl; rfl) | (apply wg_u; rfl; rfl; rfl) | (apply c_t; rfl) | (apply c_f; rfl) | apply c_skip | apply c_block | apply n_blk | apply c_exit | apply e_hit | apply e_cd | apply e_lp | (apply e_miss; rfl) | apply c_ret | (apply wO; apply o_box; rfl; rfl; rfl; intro _) | (apply wO; apply o_alloc; rfl; intro _) | (apply wO; apply o_st; rfl; rfl; rfl; (first | exact AggC.s | exact OneC.s); rfl; exact rplE; exact putE; rfl) | (apply wO; apply o_bs0; rfl; intro _) | (apply wO; apply o_bs; rfl; rfl; rfl; rfl; exact rptE; exact filE; intro _) | (apply wO; apply o_call; rfl; kernel_rfl; exact evsE))
      refine d_start [] [] ?_
      refine dt 0 ?_
      refine dt 1 ?_
      refine dt 2 ?_
      refine dt 3 ?_
      refine dt 4 ?_ (hy := yd_slv (i := i + 1) rfl rfl (by omega) (by omega) (by omega) (by omega))
      refine dt 5 ?_
      refine dt 6 ?_
      refine dt 7 ?_ (hy := yd_slv (i := i) rfl rfl (by omega) (by omega) (by omega) (by omega))
      refine dO 8 (by kernel_rfl) (by rw [List.getElem?_toArray]; rfl) ?_
      refine o_cpy (cs := B) (L' := A ++ X ++ B ++ rest.drop 2) rfl rfl rfl (src_row (by exact memE) eB) .here (cpyM (P := A ++ X) (M := Y) (by rw [List.append_assoc A B rest, hXY]; simp [List.append_assoc]) (by simp only [List.length_append]; omega) hY) (by rw [hBl]; congr 1; show _ = min (xs.length + 1 - i) (xs.length + 1 - (i + 1)); omega) (by simp only [List.length_append]; omega) h1B ?_
      refine dk ?_
      refine dd ?_
      repeat (first | apply c_seq | apply c_reg | (apply wO; apply oc; rfl; exact ydE) | apply w_nil | apply n_cd | (apply wg_t; rfl; rfl) | (apply wg_f; rfl; rfl; rfl; rfl) | (apply wg_u; rfl; rfl; rfl) | (apply c_t; rfl) | (apply c_f; rfl) | apply c_skip | apply c_block | apply n_blk | apply c_exit | apply e_hit | apply e_cd | apply e_lp | (apply e_miss; rfl) | apply c_ret | (apply wO; apply o_box; rfl; rfl; rfl; intro _) | (apply wO; apply o_alloc; rfl; intro _) | (apply wO; apply o_st; rfl; rfl; rfl; (first | exact AggC.s | exact OneC.s); rfl; exact rplE; exact putE; rfl) | (apply wO; apply o_bs0; rfl; intro _) | (apply wO; apply o_bs; rfl; rfl; rfl; rfl; exact rptE; exact filE; intro _) | (apply wO; apply o_call; rfl; kernel_rfl; exact evsE))
      apply wO; apply oc; rfl; exact yd_slv (i := i) rfl rfl rfl (by omega) (by omega) (by omega)
      repeat (first | apply c_seq | apply c_reg | (apply wO; apply oc; rfl; exact ydE) | apply w_nil | apply n_cd | (apply wg_t; rfl; rfl) | (apply wg_f; rfl; rfl; rfl; rfl) | (apply wg_u; rfl; rfl; rfl) | (apply c_t; rfl) | (apply c_f; rfl) | apply c_skip | apply c_block | apply n_blk | apply c_exit | apply e_hit | apply e_cd | apply e_lp | (apply e_miss; rfl) | apply c_ret | (apply wO; apply o_box; rfl; rfl; rfl; intro _) | (apply wO; apply o_alloc; rfl; intro _) | (apply wO; apply o_st; rfl; rfl; rfl; (first | exact AggC.s | exact OneC.s); rfl; exact rplE; exact putE; rfl) | (apply wO; apply o_bs0; rfl; intro _) | (apply wO; apply o_bs; rfl; rfl; rfl; rfl; exact rptE; exact filE; intro _) | (apply wO; apply o_call; rfl; kernel_rfl; exact evsE))
      apply wO
      refine o_cpy (cs := [.int .i64 y.number, .int .i64 y.untl]) (L' := A ++ [.int .i64 y.number, .int .i64 y.untl] ++ (B ++ rest.drop 2)) rfl rfl rfl (src_row (L := [.int .i64 y.number, .int .i64 y.untl]) (o := 0) (m := 2) (by exact memE) rfl) .here (cpyM (M := X) (by simp [List.append_assoc]) (by omega) (by simpa using hX)) (by show 2 = min 1 (xs.length + 1 - i) * 2; omega) (by simp only [List.length_append, List.length_cons, List.length_nil]; omega) h1y ?_
      repeat (first | apply c_seq | apply c_reg | (apply wO; apply oc; rfl; exact ydE) | apply w_nil | apply n_cd | (apply wg_t; rfl; rfl) | (apply wg_f; rfl; rfl; rfl; rfl) | (apply wg_u; rfl; rfl; rfl) | (apply c_t; rfl) | (apply c_f; rfl) | apply c_skip | apply c_block | apply n_blk | apply c_exit | apply e_hit | apply e_cd | apply e_lp | (apply e_miss; rfl) | apply c_ret | (apply wO; apply o_box; rfl; rfl; rfl; intro _) | (apply wO; apply o_alloc; rfl; intro _) | (apply wO; apply o_st; rfl; rfl; rfl; (first | exact AggC.s | exact OneC.s); rfl; exact rplE; exact putE; rfl) | (apply wO; apply o_bs0; rfl; intro _) | (apply wO; apply o_bs; rfl; rfl; rfl; rfl; exact rptE; exact filE; intro _) | (apply wO; apply o_call; rfl; kernel_rfl; exact evsE))
      refine t_owof (L := A ++ [.int .i64 y.number, .int .i64 y.untl] ++ (B ++ rest.drop 2)) (cs := A ++ [.int .i64 y.number, .int .i64 y.untl] ++ B) (rest := rest.drop 2) (xs := xs.take i ++ y :: xs.drop i) c (by simp [List.append_assoc]) hins (by omega) (by omega) (by rw [show EHold.sz = 2 from rfl]; simp only [List.length_append, List.length_cons, List.length_nil, List.length_drop]; omega) ?_
      rw [hlen]
      refine ret (_, c, [g]) trivial rfl

instance : IntC Tryz.prog 210 .u64 := ⟨Tryz.underlying210⟩

set_option maxRecDepth 100000 in
theorem SrchHold_f (fid : FuncId) (caps : List Value) (A : List Pc) (hA : A.all (fun p => !p.mu) = true) (xs : List Hold) (a : Option Addr) (c : Nat) (F : List Nat) (tv : Value) (f : Hold → Int) (hm : ∀ i j (_ : i ≤ j) (hj : j < xs.length), f xs[j] < 0 → f (xs[i]'(by omega)) < 0) (hb : bodyB Tryz.prog fid = true) (hl : xs.length ≤ 1000000)
    (hp : ∀ x ∈ xs, ∀ w, Hol A w → Calls Tryz.prog fid ([.agg #[.int .i64 x.number, .int .i64 x.untl], tv] ++ caps).toArray w fun e w' => e = .returned (.int .i64 (f x)) ∧ Below w.heap.size w w') :
    Fn Tryz.prog 203 [.slice a xs.length c, tv, .func (.func fid) #[] caps.toArray] (.sl EHold (.slice a xs.length c) xs F :: A) [] (fun (_ : Unit) => True) (fun _ => .tuple #[.int .i64 ((xs.takeWhile fun x => decide (f x < 0)).length : Nat), .bool (hitB f xs[(xs.takeWhile fun x => decide (f x < 0)).length]?)]) (fun _ => []) := by
  refine enter Tryz.func203 rfl Tryz.ntmps203 (fun w0 => ?_) rfl (by simpa [Pc.mu] using hA) .nil
  repeat (first | apply c_seq | apply c_reg | (apply wO; apply oc; rfl; exact ydE) | apply w_nil | apply n_cd | (apply wg_t; rfl; rfl) | (apply wg_f; rfl; rfl; rfl; rfl) | (apply wg_u; rfl; rfl; rfl) | (apply c_t; rfl) | (apply c_f; rfl) | apply c_skip | apply c_block | apply n_blk | apply c_exit | apply e_hit | apply e_cd | apply e_lp | (apply e_miss; rfl) | apply c_ret | (apply wO; apply o_box; rfl; rfl; rfl; intro _) | (apply wO; apply o_alloc; rfl; intro _) | (apply wO; apply o_st; rfl; rfl; rfl; (first | exact AggC.s | exact OneC.s); rfl; exact rplE; exact putE; rfl) | (apply wO; apply o_bs0; rfl; intro _) | (apply wO; apply o_bs; rfl; rfl; rfl; rfl; exact rptE; exact filE; intro _) | (apply wO; apply o_call; rfl; kernel_rfl; exact evsE))
  refine c_loopR [0, 1, 2, 6, 7, 8] (fun s : Nat × Nat => [(9, .int .i64 (s.1 : Nat)), (10, .int .i64 (s.2 : Nat))]) (fun s => s.1 ≤ s.2 ∧ s.2 ≤ xs.length ∧ (∀ j (_ : j < s.1) (h : j < xs.length), f xs[j] < 0) ∧ (∀ j (_ : s.2 ≤ j) (h : j < xs.length), ¬ f xs[j] < 0)) (fun s => s.2 - s.1) (0, xs.length) ⟨Nat.zero_le _, Nat.le_refl _, fun j h => by omega, fun j h1 h2 => by omega⟩ fun s hs => ?_
  obtain ⟨i, j⟩ := s
  obtain ⟨h1, h2, h3, h4⟩ := hs
  dsimp only at h1 h2 h3 h4 ⊢
  repeat (first | apply c_seq | apply c_reg | (apply wO; apply oc; rfl; exact ydE) | apply w_nil | apply n_cd | (apply wg_t; rfl; rfl) | (apply wg_f; rfl; rfl; rfl; rfl) | (apply wg_u; rfl; rfl; rfl) | (apply c_t; rfl) | (apply c_f; rfl) | apply c_skip | apply c_block | apply n_blk | apply c_exit | apply e_hit | apply e_cd | apply e_lp | (apply e_miss; rfl) | apply c_ret | (apply wO; apply o_box; rfl; rfl; rfl; intro _) | (apply wO; apply o_alloc; rfl; intro _) | (apply wO; apply o_st; rfl; rfl; rfl; (first | exact AggC.s | exact OneC.s); rfl; exact rplE; exact putE; rfl) | (apply wO; apply o_bs0; rfl; intro _) | (apply wO; apply o_bs; rfl; rfl; rfl; rfl; exact rptE; exact filE; intro _) | (apply wO; apply o_call; rfl; kernel_rfl; exact evsE))
  refine c_if rfl (fun h5 => ?_) (fun h5 => ?_)
  · have hh : (i + j) / 2 < xs.length := by omega
    have e2 : ((i : Int) + (j : Int)) / 2 = (((i + j) / 2 : Nat) : Int) := by omega
    repeat (first | apply c_seq | apply c_reg | (apply wO; apply oc; rfl; exact ydE) | apply w_nil | apply n_cd | (apply wg_t; rfl; rfl) | (apply wg_f; rfl; rfl; rfl; rfl) | (apply wg_u; rfl; rfl; rfl) | (apply c_t; rfl) | (apply c_f; rfl) | apply c_skip | apply c_block | apply n_blk | apply c_exit | apply e_hit | apply e_cd | apply e_lp | (apply e_miss; rfl) | apply c_ret | (apply wO; apply o_box; rfl; rfl; rfl; intro _) | (apply wO; apply o_alloc; rfl; intro _) | (apply wO; apply o_st; rfl; rfl; rfl; (first | exact AggC.s | exact OneC.s); rfl; exact rplE; exact putE; rfl) | (apply wO; apply o_bs0; rfl; intro _) | (apply wO; apply o_bs; rfl; rfl; rfl; rfl; exact rptE; exact filE; intro _) | (apply wO; apply o_call; rfl; kernel_rfl; exact evsE))
    apply wO; apply oc; rfl; exact yd_cvu rfl (by omega) (by omega)
    repeat (first | apply c_seq | apply c_reg | (apply wO; apply oc; rfl; exact ydE) | apply w_nil | apply n_cd | (apply wg_t; rfl; rfl) | (apply wg_f; rfl; rfl; rfl; rfl) | (apply wg_u; rfl; rfl; rfl) | (apply c_t; rfl) | (apply c_f; rfl) | apply c_skip | apply c_block | apply n_blk | apply c_exit | apply e_hit | apply e_cd | apply e_lp | (apply e_miss; rfl) | apply c_ret | (apply wO; apply o_box; rfl; rfl; rfl; intro _) | (apply wO; apply o_alloc; rfl; intro _) | (apply wO; apply o_st; rfl; rfl; rfl; (first | exact AggC.s | exact OneC.s); rfl; exact rplE; exact putE; rfl) | (apply wO; apply o_bs0; rfl; intro _) | (apply wO; apply o_bs; rfl; rfl; rfl; rfl; exact rptE; exact filE; intro _) | (apply wO; apply o_call; rfl; kernel_rfl; exact evsE))
    apply wO; apply oc; rfl; exact yd_shr1 rfl
    rw [e2]
    apply wO; apply oc; rfl; exact yd_cv rfl (by omega) (by omega)
    generalize hq : (i + j) / 2 = q at hh
    repeat (first | apply c_seq | apply c_reg | (apply wO; apply oc; rfl; exact ydE) | apply w_nil | apply n_cd | (apply wg_t; rfl; rfl) | (apply wg_f; rfl; rfl; rfl; rfl) | (apply wg_u; rfl; rfl; rfl) | (apply c_t; rfl) | (apply c_f; rfl) | apply c_skip | apply c_block | apply n_blk | apply c_exit | apply e_hit | apply e_cd | apply e_lp | (apply e_miss; rfl) | apply c_ret | (apply wO; apply o_box; rfl; rfl; rfl; intro _) | (apply wO; apply o_alloc; rfl; intro _) | (apply wO; apply o_st; rfl; rfl; rfl; (first | exact AggC.s | exact OneC.s); rfl; exact rplE; exact putE; rfl) | (apply wO; apply o_bs0; rfl; intro _) | (apply wO; apply o_bs; rfl; rfl; rfl; rfl; exact rptE; exact filE; intro _) | (apply wO; apply o_call; rfl; kernel_rfl; exact evsE))
    refine atHold (xs := xs) q ?_
    rintro hi b o e
    rw [e]
    repeat (first | apply c_seq | apply c_reg | (apply wO; apply oc; rfl; exact ydE) | apply w_nil | apply n_cd | (apply wg_t; rfl; rfl) | (apply wg_f; rfl; rfl; rfl; rfl) | (apply wg_u; rfl; rfl; rfl) | (apply c_t; rfl) | (apply c_f; rfl) | apply c_skip | apply c_block | apply n_blk | apply c_exit | apply e_hit | apply e_cd | apply e_lp | (apply e_miss; rfl) | apply c_ret | (apply wO; apply o_box; rfl; rfl; rfl; intro _) | (apply wO; apply o_alloc; rfl; intro _) | (apply wO; apply o_st; rfl; rfl; rfl; (first | exact AggC.s | exact OneC.s); rfl; exact rplE; exact putE; rfl) | (apply wO; apply o_bs0; rfl; intro _) | (apply wO; apply o_bs; rfl; rfl; rfl; rfl; exact rptE; exact filE; intro _) | (apply wO; apply o_call; rfl; kernel_rfl; exact evsE))
    apply wO
    refine o_callv rfl rfl hb evsE ?_
    refine cb (fun w st => hp xs[q] (List.getElem_mem hh) w (fun p hp => st.on p (by simp [hp]))) ?_
    repeat (first | apply c_seq | apply c_reg | (apply wO; apply oc; rfl; exact ydE) | apply w_nil | apply n_cd | (apply wg_t; rfl; rfl) | (apply wg_f; rfl; rfl; rfl; rfl) | (apply wg_u; rfl; rfl; rfl) | (apply c_t; rfl) | (apply c_f; rfl) | apply c_skip | apply c_block | apply n_blk | apply c_exit | apply e_hit | apply e_cd | apply e_lp | (apply e_miss; rfl) | apply c_ret | (apply wO; apply o_box; rfl; rfl; rfl; intro _) | (apply wO; apply o_alloc; rfl; intro _) | (apply wO; apply o_st; rfl; rfl; rfl; (first | exact AggC.s | exact OneC.s); rfl; exact rplE; exact putE; rfl) | (apply wO; apply o_bs0; rfl; intro _) | (apply wO; apply o_bs; rfl; rfl; rfl; rfl; exact rptE; exact filE; intro _) | (apply wO; apply o_call; rfl; kernel_rfl; exact evsE))
    refine c_if rfl (fun h6 => ?_) (fun h6 => ?_)
    · repeat (first | apply c_seq | apply c_reg | (apply wO; apply oc; rfl; exact ydE) | apply w_nil | apply n_cd | (apply wg_t; rfl; rfl) | (apply wg_f; rfl; rfl; rfl; rfl) | (apply wg_u; rfl; rfl; rfl) | (apply c_t; rfl) | (apply c_f; rfl) | apply c_skip | apply c_block | apply n_blk | apply c_exit | apply e_hit | apply e_cd | apply e_lp | (apply e_miss; rfl) | apply c_ret | (apply wO; apply o_box; rfl; rfl; rfl; intro _) | (apply wO; apply o_alloc; rfl; intro _) | (apply wO; apply o_st; rfl; rfl; rfl; (first | exact AggC.s | exact OneC.s); rfl; exact rplE; exact putE; rfl) | (apply wO; apply o_bs0; rfl; intro _) | (apply wO; apply o_bs; rfl; rfl; rfl; rfl; exact rptE; exact filE; intro _) | (apply wO; apply o_call; rfl; kernel_rfl; exact evsE))
      refine t_drop ?_
      refine n_lp (hH := hsub_refl _) (q + 1, j) ⟨by show q + 1 ≤ j; omega, h2, fun k hk h => hm k q (by have : k < q + 1 := hk; omega) hh h6, h4⟩ (by show j - (q + 1) < j - i; omega)
    · repeat (first | apply c_seq | apply c_reg | (apply wO; apply oc; rfl; exact ydE) | apply w_nil | apply n_cd | (apply wg_t; rfl; rfl) | (apply wg_f; rfl; rfl; rfl; rfl) | (apply wg_u; rfl; rfl; rfl) | (apply c_t; rfl) | (apply c_f; rfl) | apply c_skip | apply c_block | apply n_blk | apply c_exit | apply e_hit | apply e_cd | apply e_lp | (apply e_miss; rfl) | apply c_ret | (apply wO; apply o_box; rfl; rfl; rfl; intro _) | (apply wO; apply o_alloc; rfl; intro _) | (apply wO; apply o_st; rfl; rfl; rfl; (first | exact AggC.s | exact OneC.s); rfl; exact rplE; exact putE; rfl) | (apply wO; apply o_bs0; rfl; intro _) | (apply wO; apply o_bs; rfl; rfl; rfl; rfl; exact rptE; exact filE; intro _) | (apply wO; apply o_call; rfl; kernel_rfl; exact evsE))
      refine t_drop ?_
      refine n_lp (hH := hsub_refl _) (i, q) ⟨by show i ≤ q; omega, by show q ≤ xs.length; omega, h3, fun k hk h hn => h6 (hm q k hk h hn)⟩ (by show q - i < j - i; omega)
  · have hij : i = j := by omega
    subst hij
    have hk : (xs.takeWhile fun x => decide (f x < 0)).length = i := tw_len h2 (fun j hj h => decide_eq_true (h3 j hj h)) (fun h => decide_eq_false (h4 i (Nat.le_refl _) h))
    rw [hk]
    repeat (first | apply c_seq | apply c_reg | (apply wO; apply oc; rfl; exact ydE) | apply w_nil | apply n_cd | (apply wg_t; rfl; rfl) | (apply wg_f; rfl; rfl; rfl; rfl) | (apply wg_u; rfl; rfl; rfl) | (apply c_t; rfl) | (apply c_f; rfl) | apply c_skip | apply c_block | apply n_blk | apply c_exit | apply e_hit | apply e_cd | apply e_lp | (apply e_miss; rfl) | apply c_ret | (apply wO; apply o_box; rfl; rfl; rfl; intro _) | (apply wO; apply o_alloc; rfl; intro _) | (apply wO; apply o_st; rfl; rfl; rfl; (first | exact AggC.s | exact OneC.s); rfl; exact rplE; exact putE; rfl) | (apply wO; apply o_bs0; rfl; intro _) | (apply wO; apply o_bs; rfl; rfl; rfl; rfl; exact rptE; exact filE; intro _) | (apply wO; apply o_call; rfl; kernel_rfl; exact evsE))
    refine wg_if rfl rfl (fun h6 => ?_) (fun h6 => ?_)
    · have hh : i < xs.length := by omega
      rw [List.getElem?_eq_getElem hh]
      repeat (first | apply c_seq | apply c_reg | (apply wO; apply oc; rfl; exact ydE) | apply w_nil | apply n_cd | (apply wg_t; rfl; rfl) | (apply wg_f; rfl; rfl; rfl; rfl) | (apply wg_u; rfl; rfl; rfl) | (apply c_t; rfl) | (apply c_f; rfl) | apply c_skip | apply c_block | apply n_blk | apply c_exit | apply e_hit | apply e_cd | apply e_lp | (apply e_miss; rfl) | apply c_ret | (apply wO; apply o_box; rfl; rfl; rfl; intro _) | (apply wO; apply o_alloc; rfl; intro _) | (apply wO; apply o_st; rfl; rfl; rfl; (first | exact AggC.s | exact OneC.s); rfl; exact rplE; exact putE; rfl) | (apply wO; apply o_bs0; rfl; intro _) | (apply wO; apply o_bs; rfl; rfl; rfl; rfl; exact rptE; exact filE; intro _) | (apply wO; apply o_call; rfl; kernel_rfl; exact evsE))
      refine atHold (xs := xs) i ?_
      rintro hi b o e
      rw [e]
      repeat (first | apply c_seq | apply c_reg | (apply wO; apply oc; rfl; exact ydE) | apply w_nil | apply n_cd | (apply wg_t; rfl; rfl) | (apply wg_f; rfl; rfl; rfl; rfl) | (apply wg_u; rfl; rfl; rfl) | (apply c_t; rfl) | (apply c_f; rfl) | apply c_skip | apply c_block | apply n_blk | apply c_exit | apply e_hit | apply e_cd | apply e_lp | (apply e_miss; rfl) | apply c_ret | (apply wO; apply o_box; rfl; rfl; rfl; intro _) | (apply wO; apply o_alloc; rfl; intro _) | (apply wO; apply o_st; rfl; rfl; rfl; (first | exact AggC.s | exact OneC.s); rfl; exact rplE; exact putE; rfl) | (apply wO; apply o_bs0; rfl; intro _) | (apply wO; apply o_bs; rfl; rfl; rfl; rfl; exact rptE; exact filE; intro _) | (apply wO; apply o_call; rfl; kernel_rfl; exact evsE))
      apply wO
      refine o_callv rfl rfl hb evsE ?_
      refine cb (fun w st => hp xs[i] (List.getElem_mem hh) w (fun p hp => st.on p (by simp [hp]))) ?_
      repeat (first | apply c_seq | apply c_reg | (apply wO; apply oc; rfl; exact ydE) | apply w_nil | apply n_cd | (apply wg_t; rfl; rfl) | (apply wg_f; rfl; rfl; rfl; rfl) | (apply wg_u; rfl; rfl; rfl) | (apply c_t; rfl) | (apply c_f; rfl) | apply c_skip | apply c_block | apply n_blk | apply c_exit | apply e_hit | apply e_cd | apply e_lp | (apply e_miss; rfl) | apply c_ret | (apply wO; apply o_box; rfl; rfl; rfl; intro _) | (apply wO; apply o_alloc; rfl; intro _) | (apply wO; apply o_st; rfl; rfl; rfl; (first | exact AggC.s | exact OneC.s); rfl; exact rplE; exact putE; rfl) | (apply wO; apply o_bs0; rfl; intro _) | (apply wO; apply o_bs; rfl; rfl; rfl; rfl; exact rptE; exact filE; intro _) | (apply wO; apply o_call; rfl; kernel_rfl; exact evsE))
      refine ret () trivial rfl
    · rw [List.getElem?_eq_none (by omega)]
      repeat (first | apply c_seq | apply c_reg | (apply wO; apply oc; rfl; exact ydE) | apply w_nil | apply n_cd | (apply wg_t; rfl; rfl) | (apply wg_f; rfl; rfl; rfl; rfl) | (apply wg_u; rfl; rfl; rfl) | (apply c_t; rfl) | (apply c_f; rfl) | apply c_skip | apply c_block | apply n_blk | apply c_exit | apply e_hit | apply e_cd | apply e_lp | (apply e_miss; rfl) | apply c_ret | (apply wO; apply o_box; rfl; rfl; rfl; intro _) | (apply wO; apply o_alloc; rfl; intro _) | (apply wO; apply o_st; rfl; rfl; rfl; (first | exact AggC.s | exact OneC.s); rfl; exact rplE; exact putE; rfl) | (apply wO; apply o_bs0; rfl; intro _) | (apply wO; apply o_bs; rfl; rfl; rfl; rfl; exact rptE; exact filE; intro _) | (apply wO; apply o_call; rfl; kernel_rfl; exact evsE))
      refine ret () trivial rfl
end Go.Proofs.YtidephmobajikaaGreatDoor
/- Sources: RequestTo of the program. -/
namespace Go.Proofs.YtidephmobajikaaGreatDoor
open Go.RowKit
theorem ans_size {W : SendWindow} {p : Packet} (hg : goodWin W = true) : (resAnswer W p).1.data.size ≤ maxLen := by
  unfold resAnswer
  split
  · rename_i h
    unfold okAnswer at h
    simp only [Bool.and_eq_true] at h
    have hk := held_lt h.2
    show (itemAt W p.number).size ≤ maxLen
    rw [itemAt_lt hk]
    have := List.all_eq_true.1 (goodWin_iff.1 hg).2.2.2 _ (List.getElem_mem hk)
    unfold itm at this
    simp only [Bool.and_eq_true, decide_eq_true_eq] at this
    unfold maxLen
    omega
  · decide
theorem srch_hold {t n : Int} {hs : List Hold} (hser : ∀ h ∈ hs, isSer h.number = true) (hn : 0 ≤ n ∧ n ≤ 65535) : (hs.takeWhile fun x => decide (gp t x.number - gp t n < 0)).length = holdAt t hs n ∧
    hitB (fun x : Hold => gp t x.number - gp t n) hs[(hs.takeWhile fun x => decide (gp t x.number - gp t n < 0)).length]? = thereB t hs n := by
  have e : (fun x : Hold => decide (gp t x.number - gp t n < 0)) = fun h => decide (gp t h.number < gp t n) := by
    funext x; rw [decide_eq_decide]; omega
  have e1 : (hs.takeWhile fun x => decide (gp t x.number - gp t n < 0)).length = holdAt t hs n := by unfold holdAt; rw [e]
  refine ⟨e1, ?_⟩
  rw [e1]
  unfold thereB
  cases hq : hs[holdAt t hs n]? with
  | none => rfl
  | some z =>
    show decide (gp t z.number - gp t n = 0) = decide (z.number = n)
    rw [decide_eq_decide]
    have hz := isSer_iff.1 (hser z (List.mem_of_getElem? hq))
    exact ⟨fun h => gp_inj (t := t) hz hn (by omega), fun h => by rw [h]; omega⟩
set_option maxRecDepth 100000 in
theorem fh1_f (h : Hold) (n t : Int) (gb g o : Nat) (v1 v2 v3 v4 v5 : Value) (t0 : 0 ≤ t) (t1 : t ≤ 65535) (n0 : 0 ≤ n) (n1 : n ≤ 65535) (m0 : 0 ≤ h.number) (m1 : h.number ≤ 65535) :
    Fn Tryz.prog 204 [.agg #[.int .i64 h.number, .int .i64 h.untl], .int .i64 n, ptr gb 0 0] [.cel gb 0 [ptr g o 0], .cel g o [.int .i64 t, v1, v2, v3, v4, v5]] [] (fun (_ : Unit) => True) (fun _ => .int .i64 (gp t h.number - gp t n)) (fun _ => []) := by
  have b1 := gp_bd t h.number
  have b2 := gp_bd t n
  refine enter Tryz.func204 rfl Tryz.ntmps204 fun w0 => ?_
  repeat (first | apply c_seq | apply c_reg | (apply wO; apply oc; rfl; exact ydE) | apply w_nil | apply n_cd | (apply wg_t; rfl; rfl) | (apply wg_f; rfl; rfl; rfl; rfl) | (apply wg_u; rfl; rfl; rfl) | (apply c_t; rfl) | (apply c_f; rfl) | apply c_skip | apply c_block | apply n_blk | apply c_exit | apply e_hit | apply e_cd | apply e_lp | (apply e_miss; rfl) | apply c_ret | (apply wO; apply o_box; rfl; rfl; rfl; intro _) | (apply wO; apply o_alloc; rfl; intro _) | (apply wO; apply o_st; rfl; rfl; rfl; (first | exact AggC.s | exact OneC.s); rfl; exact rplE; exact putE; rfl) | (apply wO; apply o_bs0; rfl; intro _) | (apply wO; apply o_bs; rfl; rfl; rfl; rfl; exact rptE; exact filE; intro _) | (apply wO; apply o_call; rfl; kernel_rfl; exact evsE))
  refine d_start [0, 1, 2] [] ?_
  refine dt 0 ?_
  refine dt 1 ?_
  refine dt 2 ?_
  refine dt 3 ?_
  refine dt 4 ?_
  refine dt 5 ?_
  refine dt 6 ?_
  refine dt 8 ?_
  refine dt 9 ?_
  refine dt 10 ?_
  refine dt 11 ?_
  refine dt 12 ?_
  refine dt 13 ?_
  refine dO 7 (by kernel_rfl) (by rw [List.getElem?_toArray]; rfl) ?_
  apply o_call; rfl; kernel_rfl; exact evsE
  refine ce (fun w s => gap_c _ _ _ (by omega) (by omega) (by omega) (by omega)) ?_
  refine dk ?_
  refine dO 14 (by kernel_rfl) (by rw [List.getElem?_toArray]; rfl) ?_
  apply o_call; rfl; kernel_rfl; exact evsE
  refine ce (fun w s => gap_c _ _ _ (by omega) (by omega) (by omega) (by omega)) ?_
  refine dk ?_
  refine dt 15 ?_
  refine dt 16 ?_
  refine dd ?_
  repeat (first | apply c_seq | apply c_reg | (apply wO; apply oc; rfl; exact ydE) | apply w_nil | apply n_cd | (apply wg_t; rfl; rfl) | (apply wg_f; rfl; rfl; rfl; rfl) | (apply wg_u; rfl; rfl; rfl) | (apply c_t; rfl) | (apply c_f; rfl) | apply c_skip | apply c_block | apply n_blk | apply c_exit | apply e_hit | apply e_cd | apply e_lp | (apply e_miss; rfl) | apply c_ret | (apply wO; apply o_box; rfl; rfl; rfl; intro _) | (apply wO; apply o_alloc; rfl; intro _) | (apply wO; apply o_st; rfl; rfl; rfl; (first | exact AggC.s | exact OneC.s); rfl; exact rplE; exact putE; rfl) | (apply wO; apply o_bs0; rfl; intro _) | (apply wO; apply o_bs; rfl; rfl; rfl; rfl; exact rptE; exact filE; intro _) | (apply wO; apply o_call; rfl; kernel_rfl; exact evsE))
  refine ret () trivial rfl
set_option maxRecDepth 100000 in
theorem findHold_f (W : SendWindow) (hs : List Hold) (n : Int) (g t o : Nat) (A B : List Value) (a a2 : Option Addr) (c c2 : Nat) (cl q : Int) (F2 : List Nat) (t0 : 0 ≤ W.trail) (t1 : W.trail ≤ 65535) (n0 : 0 ≤ n) (n1 : n ≤ 65535) (hser : ∀ h ∈ hs, isSer h.number = true) (hsr : srt W.trail hs) (hl : hs.length ≤ 1000000) :
    Fn Tryz.prog 168 [ptr g o 0, .int .i64 n] [] [.row g t o A [.int .i64 W.trail, .int .i64 W.size, .slice a W.items.length c, .int .i64 cl, .int .i64 q, .slice a2 hs.length c2] B, .ow EHold 131 (.slice a2 hs.length c2) hs F2] (fun (_ : Unit) => True) (fun _ => .tuple #[.int .i64 (holdAt W.trail hs n : Nat), .bool (thereB W.trail hs n)]) (fun _ => [.row g t o A [.int .i64 W.trail, .int .i64 W.size, .slice a W.items.length c, .int .i64 cl, .int .i64 q, .slice a2 hs.length c2] B, .ow EHold 131 (.slice a2 hs.length c2) hs F2]) := by
  have hs1 := srch_hold (t := W.trail) hser ⟨n0, n1⟩
  refine enter Tryz.func168 rfl Tryz.ntmps168 fun w0 => ?_
  repeat (first | apply c_seq | apply c_reg | (apply wO; apply oc; rfl; exact ydE) | apply w_nil | apply n_cd | (apply wg_t; rfl; rfl) | (apply wg_f; rfl; rfl; rfl; rfl) | (apply wg_u; rfl; rfl; rfl) | (apply c_t; rfl) | (apply c_f; rfl) | apply c_skip | apply c_block | apply n_blk | apply c_exit | apply e_hit | apply e_cd | apply e_lp | (apply e_miss; rfl) | apply c_ret | (apply wO; apply o_box; rfl; rfl; rfl; intro _) | (apply wO; apply o_alloc; rfl; intro _) | (apply wO; apply o_st; rfl; rfl; rfl; (first | exact AggC.s | exact OneC.s); rfl; exact rplE; exact putE; rfl) | (apply wO; apply o_bs0; rfl; intro _) | (apply wO; apply o_bs; rfl; rfl; rfl; rfl; exact rptE; exact filE; intro _) | (apply wO; apply o_call; rfl; kernel_rfl; exact evsE))
  rename_i gb
  refine cb (fun w st => by
    have r1 := st.get (p := .row gb 174 0 [] [ptr g o 0] []) (by simp)
    have r2 := st.get (p := .row g t o A [.int .i64 W.trail, .int .i64 W.size, .slice a W.items.length c, .int .i64 cl, .int .i64 q, .slice a2 hs.length c2] B) (by simp)
    obtain ⟨Fw, -, hw⟩ := (st.get (p := .ow EHold 131 (.slice a2 hs.length c2) hs F2) (by simp)).2.read
    refine (SrchHold_f 204 [ptr gb 0 0] [.cel gb 0 [ptr g o 0], .cel g o [.int .i64 W.trail, .int .i64 W.size, .slice a W.items.length c, .int .i64 cl, .int .i64 q, .slice a2 hs.length c2]] rfl hs a2 c2 Fw (.int .i64 n) (fun h => gp W.trail h.number - gp W.trail n) (fun i j hij hj h => ?_) (by kernel_rfl) hl fun x hx w' hA => ?_).val w ?_
    · rcases Nat.lt_or_eq_of_le hij with h2 | rfl
      · have := List.pairwise_iff_getElem.1 hsr i j (by omega) hj h2; omega
      · exact h
    · obtain ⟨m0, m1⟩ := isSer_iff.1 (hser x hx)
      exact (fh1_f x n W.trail gb g o _ _ _ _ _ t0 t1 n0 n1 m0 m1).val w' hA
    · intro p hp
      simp only [List.mem_cons, List.not_mem_nil, or_false] at hp
      rcases hp with rfl | rfl | rfl
      · exact ⟨by decide, hw⟩
      · exact ⟨by simp, row_range r1⟩
      · exact ⟨by simp, row_range r2⟩) ?_
  rw [hs1.2]
  rw [hs1.1]
  repeat (first | apply c_seq | apply c_reg | (apply wO; apply oc; rfl; exact ydE) | apply w_nil | apply n_cd | (apply wg_t; rfl; rfl) | (apply wg_f; rfl; rfl; rfl; rfl) | (apply wg_u; rfl; rfl; rfl) | (apply c_t; rfl) | (apply c_f; rfl) | apply c_skip | apply c_block | apply n_blk | apply c_exit | apply e_hit | apply e_cd | apply e_lp | (apply e_miss; rfl) | apply c_ret | (apply wO; apply o_box; rfl; rfl; rfl; intro _) | (apply wO; apply o_alloc; rfl; intro _) | (apply wO; apply o_st; rfl; rfl; rfl; (first | exact AggC.s | exact OneC.s); rfl; exact rplE; exact putE; rfl) | (apply wO; apply o_bs0; rfl; intro _) | (apply wO; apply o_bs; rfl; rfl; rfl; rfl; exact rptE; exact filE; intro _) | (apply wO; apply o_call; rfl; kernel_rfl; exact evsE))
  refine ret () trivial rfl
structure ReS where
  a : Option Addr
  c : Nat
  a2 : Option Addr
  c2 : Nat
  F : List Nat
  ae : Option Addr
  ce : Nat
  Fe : List Nat
set_option maxRecDepth 100000 in
theorem Srequest_f (W : SendWindow) (hs : List Hold) (p : Packet) (g t o : Nat) (A B : List Value) (a a2 : Option Addr) (c c2 : Nat) (cl q : Int) (F F2 : List Nat) (hg : goodSrc ⟨W, cl, q, hs⟩ = true) (n0 : 0 ≤ p.number) (n1 : p.number ≤ 65535) (hps : p.data.size ≤ maxLen) :
    Fn Tryz.prog 113 [ptr g o 0, .agg #[.int .i64 p.kind, .int .i64 p.number, .int .i64 p.trail, .int .i64 p.lead, .string p.data]] [] [.row g t o A [.int .i64 W.trail, .int .i64 W.size, .slice a W.items.length c, .int .i64 cl, .int .i64 q, .slice a2 hs.length c2] B, .ow EHold 131 (.slice a2 hs.length c2) hs F2, .ow EStr 9 (.slice a W.items.length c) W.items F] (fun (_ : ReS) => True)
      (fun z => .slice z.ae (reqP ⟨W, cl, q, hs⟩ p).length z.ce) (fun z => [.row g t o A [.int .i64 W.trail, .int .i64 W.size, .slice a W.items.length c, .int .i64 cl, .int .i64 q, .slice z.a2 (reqS ⟨W, cl, q, hs⟩ p.number).holds.length z.c2] B, .ow EHold 131 (.slice z.a2 (reqS ⟨W, cl, q, hs⟩ p.number).holds.length z.c2) (reqS ⟨W, cl, q, hs⟩ p.number).holds z.F, .ow EStr 9 (.slice a W.items.length c) W.items F, .ow EPacket 76 (.slice z.ae (reqP ⟨W, cl, q, hs⟩ p).length z.ce) (reqP ⟨W, cl, q, hs⟩ p) z.Fe]) := by
  obtain ⟨gw, hl, t0, t1, k0, k1, hm, hn, hu, hbb⟩ := goodS_of hg
  have hsr := (goodSrc_iff.1 hg).2.2.2.2
  dsimp only at gw hl t0 t1 k0 k1 hm hn hu hbb hsr
  have hl2 : hs.length ≤ 1000000 := by omega
  have hW : goodWin W = true := gw
  refine enter Tryz.func113 rfl Tryz.ntmps113 fun w0 => ?_
  cases hb : heldB W p.number
  · have e1 : reqS ⟨W, cl, q, hs⟩ p.number = ⟨W, cl, q, hs⟩ := by unfold reqS; dsimp only; rw [hb]; rfl
    have e2 : reqP ⟨W, cl, q, hs⟩ p = [statP W] := by unfold reqP; dsimp only; rw [hb]; rfl
    rw [e1, e2]
    repeat (first | apply c_seq | apply c_reg | (apply wO; apply oc; rfl; exact ydE) | apply w_nil | apply n_cd | (apply wg_t; rfl; rfl) | (apply wg_f; rfl; rfl; rfl; rfl) | (apply wg_u; rfl; rfl; rfl) | (apply c_t; rfl) | (apply c_f; rfl) | apply c_skip | apply c_block | apply n_blk | apply c_exit | apply e_hit | apply e_cd | apply e_lp | (apply e_miss; rfl) | apply c_ret | (apply wO; apply o_box; rfl; rfl; rfl; intro _) | (apply wO; apply o_alloc; rfl; intro _) | (apply wO; apply o_st; rfl; rfl; rfl; (first | exact AggC.s | exact OneC.s); rfl; exact rplE; exact putE; rfl) | (apply wO; apply o_bs0; rfl; intro _) | (apply wO; apply o_bs; rfl; rfl; rfl; rfl; exact rptE; exact filE; intro _) | (apply wO; apply o_call; rfl; kernel_rfl; exact evsE))
    refine d_start [0, 1] [] ?_
    refine dt 0 ?_
    refine dt 1 ?_
    refine dt 2 ?_
    refine dt 3 ?_
    refine dt 4 ?_
    refine dt 5 ?_
    refine dO 6 (by kernel_rfl) (by rw [List.getElem?_toArray]; rfl) ?_
    apply o_call; rfl; kernel_rfl; exact evsE
    refine cb (fun w st => by obtain ⟨Fw, -, hw⟩ := (st.get (p := .ow EStr 9 (.slice a W.items.length c) W.items F) (by simp)).2.read; exact (isHeld_f W p.number (.agg #[.int .i64 W.trail, .int .i64 W.size, .slice a W.items.length c]) Fw t0 t1 n0 n1).val w (hol1 ⟨_, rfl, _, rfl, hw⟩)) ?_
    rw [hb]
    refine dk ?_
    refine dt 7 ?_
    refine dd ?_
    repeat (first | apply c_seq | apply c_reg | (apply wO; apply oc; rfl; exact ydE) | apply w_nil | apply n_cd | (apply wg_t; rfl; rfl) | (apply wg_f; rfl; rfl; rfl; rfl) | (apply wg_u; rfl; rfl; rfl) | (apply c_t; rfl) | (apply c_f; rfl) | apply c_skip | apply c_block | apply n_blk | apply c_exit | apply e_hit | apply e_cd | apply e_lp | (apply e_miss; rfl) | apply c_ret | (apply wO; apply o_box; rfl; rfl; rfl; intro _) | (apply wO; apply o_alloc; rfl; intro _) | (apply wO; apply o_st; rfl; rfl; rfl; (first | exact AggC.s | exact OneC.s); rfl; exact rplE; exact putE; rfl) | (apply wO; apply o_bs0; rfl; intro _) | (apply wO; apply o_bs; rfl; rfl; rfl; rfl; exact rptE; exact filE; intro _) | (apply wO; apply o_call; rfl; kernel_rfl; exact evsE))
    refine cf (status_f W.trail W.size a W.items.length c t0 t1 (by omega)) fun _ _ => ?_
    refine t_app ?_
    repeat (first | apply c_seq | apply c_reg | (apply wO; apply oc; rfl; exact ydE) | apply w_nil | apply n_cd | (apply wg_t; rfl; rfl) | (apply wg_f; rfl; rfl; rfl; rfl) | (apply wg_u; rfl; rfl; rfl) | (apply c_t; rfl) | (apply c_f; rfl) | apply c_skip | apply c_block | apply n_blk | apply c_exit | apply e_hit | apply e_cd | apply e_lp | (apply e_miss; rfl) | apply c_ret | (apply wO; apply o_box; rfl; rfl; rfl; intro _) | (apply wO; apply o_alloc; rfl; intro _) | (apply wO; apply o_st; rfl; rfl; rfl; (first | exact AggC.s | exact OneC.s); rfl; exact rplE; exact putE; rfl) | (apply wO; apply o_bs0; rfl; intro _) | (apply wO; apply o_bs; rfl; rfl; rfl; rfl; exact rptE; exact filE; intro _) | (apply wO; apply o_call; rfl; kernel_rfl; exact evsE))
    refine t_row (xs := [statP W]) (flatPacket _ (by show (⟨#[]⟩ : ByteArray).size ≤ maxLen; decide)) ?_ (by simp)
    refine ret ⟨a, c, a2, c2, F2, _, _, _⟩ trivial rfl
  repeat (first | apply c_seq | apply c_reg | (apply wO; apply oc; rfl; exact ydE) | apply w_nil | apply n_cd | (apply wg_t; rfl; rfl) | (apply wg_f; rfl; rfl; rfl; rfl) | (apply wg_u; rfl; rfl; rfl) | (apply c_t; rfl) | (apply c_f; rfl) | apply c_skip | apply c_block | apply n_blk | apply c_exit | apply e_hit | apply e_cd | apply e_lp | (apply e_miss; rfl) | apply c_ret | (apply wO; apply o_box; rfl; rfl; rfl; intro _) | (apply wO; apply o_alloc; rfl; intro _) | (apply wO; apply o_st; rfl; rfl; rfl; (first | exact AggC.s | exact OneC.s); rfl; exact rplE; exact putE; rfl) | (apply wO; apply o_bs0; rfl; intro _) | (apply wO; apply o_bs; rfl; rfl; rfl; rfl; exact rptE; exact filE; intro _) | (apply wO; apply o_call; rfl; kernel_rfl; exact evsE))
  refine d_start [0, 1] [] ?_
  refine dt 0 ?_
  refine dt 1 ?_
  refine dt 2 ?_
  refine dt 3 ?_
  refine dt 4 ?_
  refine dt 5 ?_
  refine dO 6 (by kernel_rfl) (by rw [List.getElem?_toArray]; rfl) ?_
  apply o_call; rfl; kernel_rfl; exact evsE
  refine cb (fun w st => by obtain ⟨Fw, -, hw⟩ := (st.get (p := .ow EStr 9 (.slice a W.items.length c) W.items F) (by simp)).2.read; exact (isHeld_f W p.number (.agg #[.int .i64 W.trail, .int .i64 W.size, .slice a W.items.length c]) Fw t0 t1 n0 n1).val w (hol1 ⟨_, rfl, _, rfl, hw⟩)) ?_
  rw [hb]
  refine dk ?_
  refine dt 7 ?_
  refine dd ?_
  repeat (first | apply c_seq | apply c_reg | (apply wO; apply oc; rfl; exact ydE) | apply w_nil | apply n_cd | (apply wg_t; rfl; rfl) | (apply wg_f; rfl; rfl; rfl; rfl) | (apply wg_u; rfl; rfl; rfl) | (apply c_t; rfl) | (apply c_f; rfl) | apply c_skip | apply c_block | apply n_blk | apply c_exit | apply e_hit | apply e_cd | apply e_lp | (apply e_miss; rfl) | apply c_ret | (apply wO; apply o_box; rfl; rfl; rfl; intro _) | (apply wO; apply o_alloc; rfl; intro _) | (apply wO; apply o_st; rfl; rfl; rfl; (first | exact AggC.s | exact OneC.s); rfl; exact rplE; exact putE; rfl) | (apply wO; apply o_bs0; rfl; intro _) | (apply wO; apply o_bs; rfl; rfl; rfl; rfl; exact rptE; exact filE; intro _) | (apply wO; apply o_call; rfl; kernel_rfl; exact evsE))
  refine d_start [0, 1] [] ?_
  refine dt 0 ?_
  refine dt 1 ?_
  refine dt 2 ?_
  refine dt 3 ?_
  refine dt 4 ?_
  refine dt 5 ?_
  refine dt 6 ?_
  refine dt 7 ?_
  refine dt 8 ?_
  refine dt 9 ?_
  refine dt 10 ?_
  refine dO 11 (by kernel_rfl) (by rw [List.getElem?_toArray]; rfl) ?_
  apply o_call; rfl; kernel_rfl; exact evsE
  refine cb (fun w _ => SendWindow_lead_c _ _ _ _ _ w t0 t1 (by omega)) ?_
  refine dk ?_
  refine dt 12 ?_
  refine dO 13 (by kernel_rfl) (by rw [List.getElem?_toArray]; rfl) ?_
  apply o_bs; rfl; rfl; rfl; rfl; exact rptE; exact filE; intro _
  refine dk ?_
  refine dt 14 ?_
  refine dd ?_
  repeat (first | apply c_seq | apply c_reg | (apply wO; apply oc; rfl; exact ydE) | apply w_nil | apply n_cd | (apply wg_t; rfl; rfl) | (apply wg_f; rfl; rfl; rfl; rfl) | (apply wg_u; rfl; rfl; rfl) | (apply c_t; rfl) | (apply c_f; rfl) | apply c_skip | apply c_block | apply n_blk | apply c_exit | apply e_hit | apply e_cd | apply e_lp | (apply e_miss; rfl) | apply c_ret | (apply wO; apply o_box; rfl; rfl; rfl; intro _) | (apply wO; apply o_alloc; rfl; intro _) | (apply wO; apply o_st; rfl; rfl; rfl; (first | exact AggC.s | exact OneC.s); rfl; exact rplE; exact putE; rfl) | (apply wO; apply o_bs0; rfl; intro _) | (apply wO; apply o_bs; rfl; rfl; rfl; rfl; exact rptE; exact filE; intro _))
  refine t_row (xs := [confP W p.number]) (flatPacket _ (by show (⟨#[]⟩ : ByteArray).size ≤ maxLen; decide)) ?_ (by simp)
  repeat (first | apply c_seq | apply c_reg | (apply wO; apply oc; rfl; exact ydE) | apply w_nil | apply n_cd | (apply wg_t; rfl; rfl) | (apply wg_f; rfl; rfl; rfl; rfl) | (apply wg_u; rfl; rfl; rfl) | (apply c_t; rfl) | (apply c_f; rfl) | apply c_skip | apply c_block | apply n_blk | apply c_exit | apply e_hit | apply e_cd | apply e_lp | (apply e_miss; rfl) | apply c_ret | (apply wO; apply o_box; rfl; rfl; rfl; intro _) | (apply wO; apply o_alloc; rfl; intro _) | (apply wO; apply o_st; rfl; rfl; rfl; (first | exact AggC.s | exact OneC.s); rfl; exact rplE; exact putE; rfl) | (apply wO; apply o_bs0; rfl; intro _) | (apply wO; apply o_bs; rfl; rfl; rfl; rfl; exact rptE; exact filE; intro _) | (apply wO; apply o_call; rfl; kernel_rfl; exact evsE))
  refine cf (findHold_f W hs p.number g t o A B a a2 c c2 cl q F2 t0 t1 n0 n1 hn hsr hl2) fun _ _ => ?_
  refine t_app ?_
  cases ht : thereB W.trail hs p.number
  · have e1 : reqS ⟨W, cl, q, hs⟩ p.number = ⟨W, cl, q, addHold hs (holdAt W.trail hs p.number) ⟨p.number, cl + 3⟩⟩ := by unfold reqS; dsimp only; rw [hb, ht]; rfl
    have e2 : reqP ⟨W, cl, q, hs⟩ p = [confP W p.number] ++ [(resAnswer W p).1] := by unfold reqP; dsimp only; rw [hb, ht]; rfl
    rw [e1, e2]
    repeat (first | apply c_seq | apply c_reg | (apply wO; apply oc; rfl; exact ydE) | apply w_nil | apply n_cd | (apply wg_t; rfl; rfl) | (apply wg_f; rfl; rfl; rfl; rfl) | (apply wg_u; rfl; rfl; rfl) | (apply c_t; rfl) | (apply c_f; rfl) | apply c_skip | apply c_block | apply n_blk | apply c_exit | apply e_hit | apply e_cd | apply e_lp | (apply e_miss; rfl) | apply c_ret | (apply wO; apply o_box; rfl; rfl; rfl; intro _) | (apply wO; apply o_alloc; rfl; intro _) | (apply wO; apply o_st; rfl; rfl; rfl; (first | exact AggC.s | exact OneC.s); rfl; exact rplE; exact putE; rfl) | (apply wO; apply o_bs0; rfl; intro _) | (apply wO; apply o_bs; rfl; rfl; rfl; rfl; exact rptE; exact filE; intro _) | (apply wO; apply o_call; rfl; kernel_rfl; exact evsE))
    refine d_start [0, 3] [18] ?_
    refine dt 0 ?_
    refine dt 1 ?_
    refine dt 2 ?_
    refine dt 3 ?_
    refine dt 4 ?_
    refine dt 5 ?_
    refine dt 6 ?_
    refine dt 7 ?_
    refine dt 8 ?_
    refine dt 9 ?_
    refine dt 10 ?_
    refine dt 11 ?_
    refine dt 12 ?_
    refine dt 13 ?_
    refine dO 14 (by kernel_rfl) (by rw [List.getElem?_toArray]; rfl) ?_
    apply o_bs; rfl; rfl; rfl; rfl; exact rptE; exact filE; intro _
    refine dk ?_
    refine dO 15 (by kernel_rfl) (by rw [List.getElem?_toArray]; rfl) ?_
    apply o_call; rfl; kernel_rfl; exact evsE
    refine cf (InsHold_f hs ⟨p.number, cl + 3⟩ (holdAt W.trail hs p.number) a2 c2 _ F2 (holdAt_le _ _ _) hl2) fun z _ => ?_
    refine t_app ?_
    refine dk ?_
    refine dt 16 ?_
    refine dt 17 ?_
    refine dO 18 (by kernel_rfl) (by rw [List.getElem?_toArray]; rfl) ?_
    apply o_st; rfl; rfl; rfl; (first | exact AggC.s | exact OneC.s); rfl; exact rplE; exact putE; rfl
    refine dkx ?_
    refine dd ?_
    repeat (first | apply c_seq | apply c_reg | (apply wO; apply oc; rfl; exact ydE) | apply w_nil | apply n_cd | (apply wg_t; rfl; rfl) | (apply wg_f; rfl; rfl; rfl; rfl) | (apply wg_u; rfl; rfl; rfl) | (apply c_t; rfl) | (apply c_f; rfl) | apply c_skip | apply c_block | apply n_blk | apply c_exit | apply e_hit | apply e_cd | apply e_lp | (apply e_miss; rfl) | apply c_ret | (apply wO; apply o_box; rfl; rfl; rfl; intro _) | (apply wO; apply o_alloc; rfl; intro _) | (apply wO; apply o_st; rfl; rfl; rfl; (first | exact AggC.s | exact OneC.s); rfl; exact rplE; exact putE; rfl) | (apply wO; apply o_bs0; rfl; intro _) | (apply wO; apply o_bs; rfl; rfl; rfl; rfl; exact rptE; exact filE; intro _) | (apply wO; apply o_call; rfl; kernel_rfl; exact evsE))
    refine d_start [1, 3] [] ?_
    refine dt 0 ?_
    refine dt 1 ?_
    refine dt 2 ?_
    refine dt 3 ?_
    refine dt 4 ?_
    refine dO2 5 9 (by kernel_rfl) (by rw [List.getElem?_toArray]; rfl) (by rw [List.getElem?_toArray]; rfl) ?_ ?_
    · apply o_call; rfl; kernel_rfl; exact evsE
      refine cb (fun w st => by obtain ⟨Fw, -, hw⟩ := (st.get (p := .ow EStr 9 (.slice a W.items.length c) W.items F) (by simp)).2.read; exact (AnswerTo_f W p (.agg #[.int .i64 W.trail, .int .i64 W.size, .slice a W.items.length c]) Fw hps).val w (hol1 ⟨_, rfl, _, rfl, hw⟩)) ?_
      refine dk ?_
      refine dt 6 ?_
      refine dt 7 ?_
      refine dt 8 ?_
      refine dO 9 (by kernel_rfl) (by rw [List.getElem?_toArray]; rfl) ?_
      apply o_alloc; rfl; intro _
      refine dk ?_
      refine dO 10 (by kernel_rfl) (by rw [List.getElem?_toArray]; rfl) ?_
      apply o_st; rfl; rfl; rfl; (first | exact AggC.s | exact OneC.s); rfl; exact rplE; exact putE; rfl
      refine dk ?_
      refine dt 11 ?_
      refine dd ?_
      repeat (first | apply c_seq | apply c_reg | (apply wO; apply oc; rfl; exact ydE) | apply w_nil | apply n_cd | (apply wg_t; rfl; rfl) | (apply wg_f; rfl; rfl; rfl; rfl) | (apply wg_u; rfl; rfl; rfl) | (apply c_t; rfl) | (apply c_f; rfl) | apply c_skip | apply c_block | apply n_blk | apply c_exit | apply e_hit | apply e_cd | apply e_lp | (apply e_miss; rfl) | apply c_ret | (apply wO; apply o_box; rfl; rfl; rfl; intro _) | (apply wO; apply o_alloc; rfl; intro _) | (apply wO; apply o_st; rfl; rfl; rfl; (first | exact AggC.s | exact OneC.s); rfl; exact rplE; exact putE; rfl) | (apply wO; apply o_bs0; rfl; intro _) | (apply wO; apply o_bs; rfl; rfl; rfl; rfl; exact rptE; exact filE; intro _) | (apply wO; apply o_call; rfl; kernel_rfl; exact evsE))
      apply wO
      refine ap1 (flatPacket (resAnswer W p).1 (ans_size hW)) one_EPacket fun a9 c9 F9 => ?_
      repeat (first | apply c_seq | apply c_reg | (apply wO; apply oc; rfl; exact ydE) | apply w_nil | apply n_cd | (apply wg_t; rfl; rfl) | (apply wg_f; rfl; rfl; rfl; rfl) | (apply wg_u; rfl; rfl; rfl) | (apply c_t; rfl) | (apply c_f; rfl) | apply c_skip | apply c_block | apply n_blk | apply c_exit | apply e_hit | apply e_cd | apply e_lp | (apply e_miss; rfl) | apply c_ret | (apply wO; apply o_box; rfl; rfl; rfl; intro _) | (apply wO; apply o_alloc; rfl; intro _) | (apply wO; apply o_st; rfl; rfl; rfl; (first | exact AggC.s | exact OneC.s); rfl; exact rplE; exact putE; rfl) | (apply wO; apply o_bs0; rfl; intro _) | (apply wO; apply o_bs; rfl; rfl; rfl; rfl; exact rptE; exact filE; intro _) | (apply wO; apply o_call; rfl; kernel_rfl; exact evsE))
      refine ret ⟨a, c, z.1, z.2.1, _, a9, c9, F9⟩ trivial rfl
    · apply o_alloc; rfl; intro _
      refine dk ?_
      refine dO 5 (by kernel_rfl) (by rw [List.getElem?_toArray]; rfl) ?_
      apply o_call; rfl; kernel_rfl; exact evsE
      refine cb (fun w st => by obtain ⟨Fw, -, hw⟩ := (st.get (p := .ow EStr 9 (.slice a W.items.length c) W.items F) (by simp)).2.read; exact (AnswerTo_f W p (.agg #[.int .i64 W.trail, .int .i64 W.size, .slice a W.items.length c]) Fw hps).val w (hol1 ⟨_, rfl, _, rfl, hw⟩)) ?_
      refine dk ?_
      refine dt 6 ?_
      refine dt 7 ?_
      refine dt 8 ?_
      refine dO 10 (by kernel_rfl) (by rw [List.getElem?_toArray]; rfl) ?_
      apply o_st; rfl; rfl; rfl; (first | exact AggC.s | exact OneC.s); rfl; exact rplE; exact putE; rfl
      refine dk ?_
      refine dt 11 ?_
      refine dd ?_
      repeat (first | apply c_seq | apply c_reg | (apply wO; apply oc; rfl; exact ydE) | apply w_nil | apply n_cd | (apply wg_t; rfl; rfl) | (apply wg_f; rfl; rfl; rfl; rfl) | (apply wg_u; rfl; rfl; rfl) | (apply c_t; rfl) | (apply c_f; rfl) | apply c_skip | apply c_block | apply n_blk | apply c_exit | apply e_hit | apply e_cd | apply e_lp | (apply e_miss; rfl) | apply c_ret | (apply wO; apply o_box; rfl; rfl; rfl; intro _) | (apply wO; apply o_alloc; rfl; intro _) | (apply wO; apply o_st; rfl; rfl; rfl; (first | exact AggC.s | exact OneC.s); rfl; exact rplE; exact putE; rfl) | (apply wO; apply o_bs0; rfl; intro _) | (apply wO; apply o_bs; rfl; rfl; rfl; rfl; exact rptE; exact filE; intro _) | (apply wO; apply o_call; rfl; kernel_rfl; exact evsE))
      apply wO
      refine ap1 (flatPacket (resAnswer W p).1 (ans_size hW)) one_EPacket fun a9 c9 F9 => ?_
      repeat (first | apply c_seq | apply c_reg | (apply wO; apply oc; rfl; exact ydE) | apply w_nil | apply n_cd | (apply wg_t; rfl; rfl) | (apply wg_f; rfl; rfl; rfl; rfl) | (apply wg_u; rfl; rfl; rfl) | (apply c_t; rfl) | (apply c_f; rfl) | apply c_skip | apply c_block | apply n_blk | apply c_exit | apply e_hit | apply e_cd | apply e_lp | (apply e_miss; rfl) | apply c_ret | (apply wO; apply o_box; rfl; rfl; rfl; intro _) | (apply wO; apply o_alloc; rfl; intro _) | (apply wO; apply o_st; rfl; rfl; rfl; (first | exact AggC.s | exact OneC.s); rfl; exact rplE; exact putE; rfl) | (apply wO; apply o_bs0; rfl; intro _) | (apply wO; apply o_bs; rfl; rfl; rfl; rfl; exact rptE; exact filE; intro _) | (apply wO; apply o_call; rfl; kernel_rfl; exact evsE))
      refine ret ⟨a, c, z.1, z.2.1, _, a9, c9, F9⟩ trivial rfl
  · have e1 : reqS ⟨W, cl, q, hs⟩ p.number = ⟨W, cl, q, hs⟩ := by unfold reqS; dsimp only; rw [hb, ht]; rfl
    have e2 : reqP ⟨W, cl, q, hs⟩ p = [confP W p.number] := by unfold reqP; dsimp only; rw [hb, ht]; rfl
    rw [e1, e2]
    repeat (first | apply c_seq | apply c_reg | (apply wO; apply oc; rfl; exact ydE) | apply w_nil | apply n_cd | (apply wg_t; rfl; rfl) | (apply wg_f; rfl; rfl; rfl; rfl) | (apply wg_u; rfl; rfl; rfl) | (apply c_t; rfl) | (apply c_f; rfl) | apply c_skip | apply c_block | apply n_blk | apply c_exit | apply e_hit | apply e_cd | apply e_lp | (apply e_miss; rfl) | apply c_ret | (apply wO; apply o_box; rfl; rfl; rfl; intro _) | (apply wO; apply o_alloc; rfl; intro _) | (apply wO; apply o_st; rfl; rfl; rfl; (first | exact AggC.s | exact OneC.s); rfl; exact rplE; exact putE; rfl) | (apply wO; apply o_bs0; rfl; intro _) | (apply wO; apply o_bs; rfl; rfl; rfl; rfl; exact rptE; exact filE; intro _) | (apply wO; apply o_call; rfl; kernel_rfl; exact evsE))
    refine ret ⟨a, c, a2, c2, F2, _, _, _⟩ trivial rfl
set_option maxRecDepth 100000 in
theorem RequestTo_f (x : Source) (p : Packet) (v : Value) (F : List Nat) (hps : p.data.size ≤ maxLen) :
    Fn Tryz.prog 45 [v, .agg #[.int .i64 p.kind, .int .i64 p.number, .int .i64 p.trail, .int .i64 p.lead, .string p.data]] [.isv ESource v x F] [] (fun (_ : TiS) => True)
      (fun s => .tuple #[.agg #[.int .i64 (resRequestTo x p).1.window.trail, .int .i64 (resRequestTo x p).1.window.size, .slice s.a (resRequestTo x p).1.window.items.length s.c, .int .i64 (resRequestTo x p).1.clock, .int .i64 (resRequestTo x p).1.quiet, .slice s.a2 (resRequestTo x p).1.holds.length s.c2], .slice s.ae (resRequestTo x p).2.1.length s.ce, .bool (resRequestTo x p).2.2]) (fun s => [.own OSource (.agg #[.int .i64 (resRequestTo x p).1.window.trail, .int .i64 (resRequestTo x p).1.window.size, .slice s.a (resRequestTo x p).1.window.items.length s.c, .int .i64 (resRequestTo x p).1.clock, .int .i64 (resRequestTo x p).1.quiet, .slice s.a2 (resRequestTo x p).1.holds.length s.c2]) (resRequestTo x p).1 s.F, .ow EPacket 76 (.slice s.ae (resRequestTo x p).2.1.length s.ce) (resRequestTo x p).2.1 s.Fe]) := by
  refine enter Tryz.func45 rfl Tryz.ntmps45 fun w0 => ?_
  refine t_nilow EStr 9 ?_
  refine t_nilow EHold 131 ?_
  refine closeOSource zSrc ?_
  refine t_nilow EPacket 76 ?_
  refine openSource ?_
  rintro a1 c1 F1 a2 c2 F2 rfl l1 l2
  repeat (first | apply c_seq | apply c_reg | (apply wO; apply oc; rfl; exact ydE) | apply w_nil | apply n_cd | (apply wg_t; rfl; rfl) | (apply wg_f; rfl; rfl; rfl; rfl) | (apply wg_u; rfl; rfl; rfl) | (apply c_t; rfl) | (apply c_f; rfl) | apply c_skip | apply c_block | apply n_blk | apply c_exit | apply e_hit | apply e_cd | apply e_lp | (apply e_miss; rfl) | apply c_ret | (apply wO; apply o_box; rfl; rfl; rfl; intro _) | (apply wO; apply o_alloc; rfl; intro _) | (apply wO; apply o_st; rfl; rfl; rfl; (first | exact AggC.s | exact OneC.s); rfl; exact rplE; exact putE; rfl) | (apply wO; apply o_bs0; rfl; intro _) | (apply wO; apply o_bs; rfl; rfl; rfl; rfl; exact rptE; exact filE; intro _) | (apply wO; apply o_call; rfl; kernel_rfl; exact evsE))
  refine cb (fun w st => (IsValidSource_f x _ F).val w (hol1 (st.get (p := .isv ESource (.agg #[.int .i64 x.window.trail, .int .i64 x.window.size, .slice a1 x.window.items.length c1, .int .i64 x.clock, .int .i64 x.quiet, .slice a2 x.holds.length c2]) x F) (by simp)))) ?_
  cases g1 : goodSrc x
  · repeat (first | apply c_seq | apply c_reg | (apply wO; apply oc; rfl; exact ydE) | apply w_nil | apply n_cd | (apply wg_t; rfl; rfl) | (apply wg_f; rfl; rfl; rfl; rfl) | (apply wg_u; rfl; rfl; rfl) | (apply c_t; rfl) | (apply c_f; rfl) | apply c_skip | apply c_block | apply n_blk | apply c_exit | apply e_hit | apply e_cd | apply e_lp | (apply e_miss; rfl) | apply c_ret | (apply wO; apply o_box; rfl; rfl; rfl; intro _) | (apply wO; apply o_alloc; rfl; intro _) | (apply wO; apply o_st; rfl; rfl; rfl; (first | exact AggC.s | exact OneC.s); rfl; exact rplE; exact putE; rfl) | (apply wO; apply o_bs0; rfl; intro _) | (apply wO; apply o_bs; rfl; rfl; rfl; rfl; exact rptE; exact filE; intro _) | (apply wO; apply o_call; rfl; kernel_rfl; exact evsE))
    rw [resReq_no (by unfold okRequestTo; rw [g1]; rfl)]
    refine ret ⟨none, 0, none, 0, _, none, 0, _⟩ trivial rfl
  obtain ⟨gw, hl, t0, t1, k0, k1, hm, hn, hu, hb⟩ := goodS_of g1
  repeat (first | apply c_seq | apply c_reg | (apply wO; apply oc; rfl; exact ydE) | apply w_nil | apply n_cd | (apply wg_t; rfl; rfl) | (apply wg_f; rfl; rfl; rfl; rfl) | (apply wg_u; rfl; rfl; rfl) | (apply c_t; rfl) | (apply c_f; rfl) | apply c_skip | apply c_block | apply n_blk | apply c_exit | apply e_hit | apply e_cd | apply e_lp | (apply e_miss; rfl) | apply c_ret | (apply wO; apply o_box; rfl; rfl; rfl; intro _) | (apply wO; apply o_alloc; rfl; intro _) | (apply wO; apply o_st; rfl; rfl; rfl; (first | exact AggC.s | exact OneC.s); rfl; exact rplE; exact putE; rfl) | (apply wO; apply o_bs0; rfl; intro _) | (apply wO; apply o_bs; rfl; rfl; rfl; rfl; exact rptE; exact filE; intro _) | (apply wO; apply o_call; rfl; kernel_rfl; exact evsE))
  refine cf (IsValidPacket_f p hps) fun _ _ => ?_
  refine t_app ?_
  cases g2 : goodPk p
  · repeat (first | apply c_seq | apply c_reg | (apply wO; apply oc; rfl; exact ydE) | apply w_nil | apply n_cd | (apply wg_t; rfl; rfl) | (apply wg_f; rfl; rfl; rfl; rfl) | (apply wg_u; rfl; rfl; rfl) | (apply c_t; rfl) | (apply c_f; rfl) | apply c_skip | apply c_block | apply n_blk | apply c_exit | apply e_hit | apply e_cd | apply e_lp | (apply e_miss; rfl) | apply c_ret | (apply wO; apply o_box; rfl; rfl; rfl; intro _) | (apply wO; apply o_alloc; rfl; intro _) | (apply wO; apply o_st; rfl; rfl; rfl; (first | exact AggC.s | exact OneC.s); rfl; exact rplE; exact putE; rfl) | (apply wO; apply o_bs0; rfl; intro _) | (apply wO; apply o_bs; rfl; rfl; rfl; rfl; exact rptE; exact filE; intro _) | (apply wO; apply o_call; rfl; kernel_rfl; exact evsE))
    rw [resReq_no (by unfold okRequestTo; rw [g1, g2]; rfl)]
    refine ret ⟨none, 0, none, 0, _, none, 0, _⟩ trivial rfl
  obtain ⟨n0, n1⟩ := goodPk_num g2
  repeat (first | apply c_seq | apply c_reg | (apply wO; apply oc; rfl; exact ydE) | apply w_nil | apply n_cd | (apply wg_t; rfl; rfl) | (apply wg_f; rfl; rfl; rfl; rfl) | (apply wg_u; rfl; rfl; rfl) | (apply c_t; rfl) | (apply c_f; rfl) | apply c_skip | apply c_block | apply n_blk | apply c_exit | apply e_hit | apply e_cd | apply e_lp | (apply e_miss; rfl) | apply c_ret | (apply wO; apply o_box; rfl; rfl; rfl; intro _) | (apply wO; apply o_alloc; rfl; intro _) | (apply wO; apply o_st; rfl; rfl; rfl; (first | exact AggC.s | exact OneC.s); rfl; exact rplE; exact putE; rfl) | (apply wO; apply o_bs0; rfl; intro _) | (apply wO; apply o_bs; rfl; rfl; rfl; rfl; exact rptE; exact filE; intro _) | (apply wO; apply o_call; rfl; kernel_rfl; exact evsE))
  refine c_if rfl (fun h2 => ?_) (fun h2 => ?_)
  · repeat (first | apply c_seq | apply c_reg | (apply wO; apply oc; rfl; exact ydE) | apply w_nil | apply n_cd | (apply wg_t; rfl; rfl) | (apply wg_f; rfl; rfl; rfl; rfl) | (apply wg_u; rfl; rfl; rfl) | (apply c_t; rfl) | (apply c_f; rfl) | apply c_skip | apply c_block | apply n_blk | apply c_exit | apply e_hit | apply e_cd | apply e_lp | (apply e_miss; rfl) | apply c_ret | (apply wO; apply o_box; rfl; rfl; rfl; intro _) | (apply wO; apply o_alloc; rfl; intro _) | (apply wO; apply o_st; rfl; rfl; rfl; (first | exact AggC.s | exact OneC.s); rfl; exact rplE; exact putE; rfl) | (apply wO; apply o_bs0; rfl; intro _) | (apply wO; apply o_bs; rfl; rfl; rfl; rfl; exact rptE; exact filE; intro _) | (apply wO; apply o_call; rfl; kernel_rfl; exact evsE))
    rw [resReq_no (by unfold okRequestTo; rw [g1, g2, decide_eq_false h2]; rfl)]
    refine ret ⟨none, 0, none, 0, _, none, 0, _⟩ trivial rfl
  have h2 := Decidable.not_not.1 h2
  rw [resReq_yes (by unfold okRequestTo; rw [g1, g2, decide_eq_true h2]; rfl)]
  repeat (first | apply c_seq | apply c_reg | (apply wO; apply oc; rfl; exact ydE) | apply w_nil | apply n_cd | (apply wg_t; rfl; rfl) | (apply wg_f; rfl; rfl; rfl; rfl) | (apply wg_u; rfl; rfl; rfl) | (apply c_t; rfl) | (apply c_f; rfl) | apply c_skip | apply c_block | apply n_blk | apply c_exit | apply e_hit | apply e_cd | apply e_lp | (apply e_miss; rfl) | apply c_ret | (apply wO; apply o_box; rfl; rfl; rfl; intro _) | (apply wO; apply o_alloc; rfl; intro _) | (apply wO; apply o_st; rfl; rfl; rfl; (first | exact AggC.s | exact OneC.s); rfl; exact rplE; exact putE; rfl) | (apply wO; apply o_bs0; rfl; intro _) | (apply wO; apply o_bs; rfl; rfl; rfl; rfl; exact rptE; exact filE; intro _) | (apply wO; apply o_call; rfl; kernel_rfl; exact evsE))
  refine cf (Sclone_f x _ F (by omega) (by omega)) fun z _ => ?_
  refine t_app ?_
  refine openOSource ?_
  rintro a5 c5 F5 a6 c6 F6 e5 l5 l6
  rw [e5]
  repeat (first | apply c_seq | apply c_reg | (apply wO; apply oc; rfl; exact ydE) | apply w_nil | apply n_cd | (apply wg_t; rfl; rfl) | (apply wg_f; rfl; rfl; rfl; rfl) | (apply wg_u; rfl; rfl; rfl) | (apply c_t; rfl) | (apply c_f; rfl) | apply c_skip | apply c_block | apply n_blk | apply c_exit | apply e_hit | apply e_cd | apply e_lp | (apply e_miss; rfl) | apply c_ret | (apply wO; apply o_box; rfl; rfl; rfl; intro _) | (apply wO; apply o_alloc; rfl; intro _) | (apply wO; apply o_st; rfl; rfl; rfl; (first | exact AggC.s | exact OneC.s); rfl; exact rplE; exact putE; rfl) | (apply wO; apply o_bs0; rfl; intro _) | (apply wO; apply o_bs; rfl; rfl; rfl; rfl; exact rptE; exact filE; intro _) | (apply wO; apply o_call; rfl; kernel_rfl; exact evsE))
  refine cf (Srequest_f x.window x.holds p _ _ _ _ _ a5 a6 c5 c6 x.clock x.quiet F5 F6 g1 n0 n1 hps) fun q _ => ?_
  refine t_app ?_
  have eq : (⟨x.window, x.clock, x.quiet, x.holds⟩ : Source) = x := rfl
  rw [eq]
  have er : (reqS x p.number).window = x.window ∧ (reqS x p.number).clock = x.clock ∧ (reqS x p.number).quiet = x.quiet := by unfold reqS; split <;> exact ⟨rfl, rfl, rfl⟩
  rw [← er.1, ← er.2.1, ← er.2.2]
  repeat (first | apply c_seq | apply c_reg | (apply wO; apply oc; rfl; exact ydE) | apply w_nil | apply n_cd | (apply wg_t; rfl; rfl) | (apply wg_f; rfl; rfl; rfl; rfl) | (apply wg_u; rfl; rfl; rfl) | (apply c_t; rfl) | (apply c_f; rfl) | apply c_skip | apply c_block | apply n_blk | apply c_exit | apply e_hit | apply e_cd | apply e_lp | (apply e_miss; rfl) | apply c_ret | (apply wO; apply o_box; rfl; rfl; rfl; intro _) | (apply wO; apply o_alloc; rfl; intro _) | (apply wO; apply o_st; rfl; rfl; rfl; (first | exact AggC.s | exact OneC.s); rfl; exact rplE; exact putE; rfl) | (apply wO; apply o_bs0; rfl; intro _) | (apply wO; apply o_bs; rfl; rfl; rfl; rfl; exact rptE; exact filE; intro _) | (apply wO; apply o_call; rfl; kernel_rfl; exact evsE))
  refine closeOSource (reqS x p.number) ?_
  refine ret ⟨_, _, _, _, _, _, _, _⟩ trivial rfl
end Go.Proofs.YtidephmobajikaaGreatDoor
/- Sources: RequestTo of the reference. -/
namespace Go.Proofs.YtidephmobajikaaGreatDoor
open Go.RowKit
structure RjS where
  g : Nat
  a : Option Addr
  c : Nat
  a2 : Option Addr
  c2 : Nat
  F : List Nat
structure CpS3 where
  a : Option Addr
  c : Nat
  F : List Nat
set_option maxRecDepth 100000 in
theorem l11Hold_f (x : Source) (n : Int) (v : Value) (F : List Nat) (t0 : 0 ≤ x.window.trail) (t1 : x.window.trail ≤ 65535) (hm : x.holds.length ≤ 1000) (hn : wideH x.holds) (n0 : -1 ≤ n) (n1 : n ≤ 65536) :
    Fn Tryz.prog 110 [v, .int .i64 n] [.isv ESource v x F] [] (fun (_ : Unit) => True) (fun _ => .tuple #[.int .i64 (holdAt x.window.trail x.holds n : Nat), .bool (thereB x.window.trail x.holds n)]) (fun _ => []) := by
  refine enter Tryz.func110 rfl Tryz.ntmps110 fun w0 => ?_
  refine openSource ?_
  rintro a1 c1 F1 a2 c2 F2 rfl l1 l2
  repeat (first | apply c_seq | apply c_reg | (apply wO; apply oc; rfl; exact ydE) | apply w_nil | apply n_cd | (apply wg_t; rfl; rfl) | (apply wg_f; rfl; rfl; rfl; rfl) | (apply wg_u; rfl; rfl; rfl) | (apply c_t; rfl) | (apply c_f; rfl) | apply c_skip | apply c_block | apply n_blk | apply c_exit | apply e_hit | apply e_cd | apply e_lp | (apply e_miss; rfl) | apply c_ret | (apply wO; apply o_box; rfl; rfl; rfl; intro _) | (apply wO; apply o_alloc; rfl; intro _) | (apply wO; apply o_st; rfl; rfl; rfl; (first | exact AggC.s | exact OneC.s); rfl; exact rplE; exact putE; rfl) | (apply wO; apply o_bs0; rfl; intro _) | (apply wO; apply o_bs; rfl; rfl; rfl; rfl; exact rptE; exact filE; intro _) | (apply wO; apply o_call; rfl; kernel_rfl; exact evsE))
  refine c_loopR [1, 2, 4, 5] (fun k : Nat => [(6, .int .i64 (k : Nat))]) (fun k => k ≤ x.holds.length ∧ ∀ j (_ : j < k) (h : j < x.holds.length), gp x.window.trail x.holds[j].number < gp x.window.trail n) (fun k => x.holds.length - k) 0 ⟨Nat.zero_le _, fun j h => by omega⟩ fun k hk => ?_
  obtain ⟨hk1, hk2⟩ := hk
  by_cases hlt : k < x.holds.length
  · obtain ⟨m0, m1⟩ := hn x.holds[k] (List.getElem_mem hlt)
    refine atHold (xs := x.holds) k ?_
    rintro hi b o e
    rw [e]
    repeat (first | apply c_seq | apply c_reg | (apply wO; apply oc; rfl; exact ydE) | apply w_nil | apply n_cd | (apply wg_t; rfl; rfl) | (apply wg_f; rfl; rfl; rfl; rfl) | (apply wg_u; rfl; rfl; rfl) | (apply c_t; rfl) | (apply c_f; rfl) | apply c_skip | apply c_block | apply n_blk | apply c_exit | apply e_hit | apply e_cd | apply e_lp | (apply e_miss; rfl) | apply c_ret | (apply wO; apply o_box; rfl; rfl; rfl; intro _) | (apply wO; apply o_alloc; rfl; intro _) | (apply wO; apply o_st; rfl; rfl; rfl; (first | exact AggC.s | exact OneC.s); rfl; exact rplE; exact putE; rfl) | (apply wO; apply o_bs0; rfl; intro _) | (apply wO; apply o_bs; rfl; rfl; rfl; rfl; exact rptE; exact filE; intro _) | (apply wO; apply o_call; rfl; kernel_rfl; exact evsE))
    refine d_start [0, 1] [] ?_
    refine dt 0 ?_
    refine dt 1 ?_
    refine dt 2 ?_
    refine dt 3 ?_
    refine dt 4 ?_
    rw [decide_eq_true (show (k : Int) < x.holds.length by omega)]
    refine dt 5 ?_
    refine dtg 6 ?_
    refine dtg 7 ?_
    refine dtg 8 ?_
    refine dtg 9 ?_
    refine dtg 10 ?_
    refine dtg 11 ?_
    refine dtg 12 ?_
    refine dtg 13 ?_
    refine dtg 14 ?_
    refine dtg 16 ?_
    refine dtg 17 ?_
    refine dtg 18 ?_
    refine dtg 19 ?_
    refine d1g 15 ?_
    apply On.h
    apply o_call; rfl; kernel_rfl; exact evsE
    refine ce (fun w s => l2Gap_c _ _ _ (by omega) (by omega)) ?_
    refine dk ?_
    refine d1g 20 ?_
    apply On.h
    apply o_call; rfl; kernel_rfl; exact evsE
    refine ce (fun w s => l2Gap_c _ _ _ (by omega) (by omega)) ?_
    refine dk ?_
    refine dtg 21 ?_
    refine dt 22 ?_
    refine dd ?_
    repeat (first | apply c_seq | apply c_reg | (apply wO; apply oc; rfl; exact ydE) | apply w_nil | apply n_cd | (apply wg_t; rfl; rfl) | (apply wg_f; rfl; rfl; rfl; rfl) | (apply wg_u; rfl; rfl; rfl) | (apply c_t; rfl) | (apply c_f; rfl) | apply c_skip | apply c_block | apply n_blk | apply c_exit | apply e_hit | apply e_cd | apply e_lp | (apply e_miss; rfl) | apply c_ret | (apply wO; apply o_box; rfl; rfl; rfl; intro _) | (apply wO; apply o_alloc; rfl; intro _) | (apply wO; apply o_st; rfl; rfl; rfl; (first | exact AggC.s | exact OneC.s); rfl; exact rplE; exact putE; rfl) | (apply wO; apply o_bs0; rfl; intro _) | (apply wO; apply o_bs; rfl; rfl; rfl; rfl; exact rptE; exact filE; intro _) | (apply wO; apply o_call; rfl; kernel_rfl; exact evsE))
    refine c_if rfl (fun h => ?_) (fun h => ?_)
    · repeat (first | apply c_seq | apply c_reg | (apply wO; apply oc; rfl; exact ydE) | apply w_nil | apply n_cd | (apply wg_t; rfl; rfl) | (apply wg_f; rfl; rfl; rfl; rfl) | (apply wg_u; rfl; rfl; rfl) | (apply c_t; rfl) | (apply c_f; rfl) | apply c_skip | apply c_block | apply n_blk | apply c_exit | apply e_hit | apply e_cd | apply e_lp | (apply e_miss; rfl) | apply c_ret | (apply wO; apply o_box; rfl; rfl; rfl; intro _) | (apply wO; apply o_alloc; rfl; intro _) | (apply wO; apply o_st; rfl; rfl; rfl; (first | exact AggC.s | exact OneC.s); rfl; exact rplE; exact putE; rfl) | (apply wO; apply o_bs0; rfl; intro _) | (apply wO; apply o_bs; rfl; rfl; rfl; rfl; exact rptE; exact filE; intro _) | (apply wO; apply o_call; rfl; kernel_rfl; exact evsE))
      refine n_lp (k + 1) ⟨hlt, fun j hj hh => ?_⟩ (by omega)
      rcases Nat.lt_or_eq_of_le (Nat.lt_succ_iff.1 hj) with h2 | rfl
      · exact hk2 j h2 hh
      · exact h
    · have hh : holdAt x.window.trail x.holds n = k := tw_len hk1 (fun j hj h => decide_eq_true (hk2 j hj h)) (fun _ => decide_eq_false h)
      have ht : thereB x.window.trail x.holds n = decide (x.holds[k].number = n) := by unfold thereB; rw [hh, List.getElem?_eq_getElem hlt]
      rw [ht, hh]
      repeat (first | apply c_seq | apply c_reg | (apply wO; apply oc; rfl; exact ydE) | apply w_nil | apply n_cd | (apply wg_t; rfl; rfl) | (apply wg_f; rfl; rfl; rfl; rfl) | (apply wg_u; rfl; rfl; rfl) | (apply c_t; rfl) | (apply c_f; rfl) | apply c_skip | apply c_block | apply n_blk | apply c_exit | apply e_hit | apply e_cd | apply e_lp | (apply e_miss; rfl) | apply c_ret | (apply wO; apply o_box; rfl; rfl; rfl; intro _) | (apply wO; apply o_alloc; rfl; intro _) | (apply wO; apply o_st; rfl; rfl; rfl; (first | exact AggC.s | exact OneC.s); rfl; exact rplE; exact putE; rfl) | (apply wO; apply o_bs0; rfl; intro _) | (apply wO; apply o_bs; rfl; rfl; rfl; rfl; exact rptE; exact filE; intro _) | (apply wO; apply o_call; rfl; kernel_rfl; exact evsE))
      refine d_start [0, 1] [] ?_
      refine dt 0 ?_
      refine dt 1 ?_
      refine dt 2 ?_
      refine dt 3 ?_
      refine dt 4 ?_
      refine dt 5 ?_
      rw [decide_eq_true (show (k : Int) < x.holds.length by omega)]
      refine dt 6 ?_
      refine dtg 7 ?_
      refine dtg 8 ?_
      refine dtg 9 ?_
      refine dtg 10 ?_
      refine dtg 11 ?_
      refine dtg 12 ?_
      refine dtg 13 ?_
      refine dtg 14 ?_
      refine dt 15 ?_
      refine dt 16 ?_
      refine dt 17 ?_
      refine dd ?_
      repeat (first | apply c_seq | apply c_reg | (apply wO; apply oc; rfl; exact ydE) | apply w_nil | apply n_cd | (apply wg_t; rfl; rfl) | (apply wg_f; rfl; rfl; rfl; rfl) | (apply wg_u; rfl; rfl; rfl) | (apply c_t; rfl) | (apply c_f; rfl) | apply c_skip | apply c_block | apply n_blk | apply c_exit | apply e_hit | apply e_cd | apply e_lp | (apply e_miss; rfl) | apply c_ret | (apply wO; apply o_box; rfl; rfl; rfl; intro _) | (apply wO; apply o_alloc; rfl; intro _) | (apply wO; apply o_st; rfl; rfl; rfl; (first | exact AggC.s | exact OneC.s); rfl; exact rplE; exact putE; rfl) | (apply wO; apply o_bs0; rfl; intro _) | (apply wO; apply o_bs; rfl; rfl; rfl; rfl; exact rptE; exact filE; intro _) | (apply wO; apply o_call; rfl; kernel_rfl; exact evsE))
      refine ret () trivial rfl
  · have hh : holdAt x.window.trail x.holds n = k := tw_len hk1 (fun j hj h => decide_eq_true (hk2 j hj h)) (fun h => absurd h hlt)
    have ht : thereB x.window.trail x.holds n = false := by unfold thereB; rw [hh, List.getElem?_eq_none (by omega)]
    rw [ht, hh]
    repeat (first | apply c_seq | apply c_reg | (apply wO; apply oc; rfl; exact ydE) | apply w_nil | apply n_cd | (apply wg_t; rfl; rfl) | (apply wg_f; rfl; rfl; rfl; rfl) | (apply wg_u; rfl; rfl; rfl) | (apply c_t; rfl) | (apply c_f; rfl) | apply c_skip | apply c_block | apply n_blk | apply c_exit | apply e_hit | apply e_cd | apply e_lp | (apply e_miss; rfl) | apply c_ret | (apply wO; apply o_box; rfl; rfl; rfl; intro _) | (apply wO; apply o_alloc; rfl; intro _) | (apply wO; apply o_st; rfl; rfl; rfl; (first | exact AggC.s | exact OneC.s); rfl; exact rplE; exact putE; rfl) | (apply wO; apply o_bs0; rfl; intro _) | (apply wO; apply o_bs; rfl; rfl; rfl; rfl; exact rptE; exact filE; intro _) | (apply wO; apply o_call; rfl; kernel_rfl; exact evsE))
    refine d_start [0] [] ?_
    refine dt 0 ?_
    refine dt 1 ?_
    refine dt 2 ?_
    refine dt 3 ?_
    refine dt 4 ?_
    rw [decide_eq_false (show ¬ (k : Int) < x.holds.length by omega)]
    refine dt 5 ?_
    refine ds 6 ?_
    refine ds 7 ?_
    refine ds 8 ?_
    refine ds 9 ?_
    refine ds 10 ?_
    refine ds 11 ?_
    refine ds 12 ?_
    refine ds 13 ?_
    refine ds 14 ?_
    refine ds 15 ?_
    refine ds 16 ?_
    refine ds 17 ?_
    refine ds 18 ?_
    refine ds 19 ?_
    refine ds 20 ?_
    refine ds 21 ?_
    refine dt 22 ?_
    refine dd ?_
    repeat (first | apply c_seq | apply c_reg | (apply wO; apply oc; rfl; exact ydE) | apply w_nil | apply n_cd | (apply wg_t; rfl; rfl) | (apply wg_f; rfl; rfl; rfl; rfl) | (apply wg_u; rfl; rfl; rfl) | (apply c_t; rfl) | (apply c_f; rfl) | apply c_skip | apply c_block | apply n_blk | apply c_exit | apply e_hit | apply e_cd | apply e_lp | (apply e_miss; rfl) | apply c_ret | (apply wO; apply o_box; rfl; rfl; rfl; intro _) | (apply wO; apply o_alloc; rfl; intro _) | (apply wO; apply o_st; rfl; rfl; rfl; (first | exact AggC.s | exact OneC.s); rfl; exact rplE; exact putE; rfl) | (apply wO; apply o_bs0; rfl; intro _) | (apply wO; apply o_bs; rfl; rfl; rfl; rfl; exact rptE; exact filE; intro _) | (apply wO; apply o_call; rfl; kernel_rfl; exact evsE))
    refine d_start [0] [] ?_
    refine dt 0 ?_
    refine dt 1 ?_
    refine dt 2 ?_
    refine dt 3 ?_
    refine dt 4 ?_
    refine dt 5 ?_
    rw [decide_eq_false (show ¬ (k : Int) < x.holds.length by omega)]
    refine dt 6 ?_
    refine ds 7 ?_
    refine ds 8 ?_
    refine ds 9 ?_
    refine ds 10 ?_
    refine ds 11 ?_
    refine ds 12 ?_
    refine ds 13 ?_
    refine ds 14 ?_
    refine dt 15 ?_
    refine dt 16 ?_
    refine dt 17 ?_
    refine dd ?_
    repeat (first | apply c_seq | apply c_reg | (apply wO; apply oc; rfl; exact ydE) | apply w_nil | apply n_cd | (apply wg_t; rfl; rfl) | (apply wg_f; rfl; rfl; rfl; rfl) | (apply wg_u; rfl; rfl; rfl) | (apply c_t; rfl) | (apply c_f; rfl) | apply c_skip | apply c_block | apply n_blk | apply c_exit | apply e_hit | apply e_cd | apply e_lp | (apply e_miss; rfl) | apply c_ret | (apply wO; apply o_box; rfl; rfl; rfl; intro _) | (apply wO; apply o_alloc; rfl; intro _) | (apply wO; apply o_st; rfl; rfl; rfl; (first | exact AggC.s | exact OneC.s); rfl; exact rplE; exact putE; rfl) | (apply wO; apply o_bs0; rfl; intro _) | (apply wO; apply o_bs; rfl; rfl; rfl; rfl; exact rptE; exact filE; intro _) | (apply wO; apply o_call; rfl; kernel_rfl; exact evsE))
    refine ret () trivial rfl
set_option maxRecDepth 100000 in
theorem l11RequestU_f (x : Source) (p : Packet) (v : Value) (F : List Nat) (t0 : 0 ≤ x.window.trail) (t1 : x.window.trail ≤ 65535) (hl : x.window.items.length ≤ 6) (k0 : 0 ≤ x.clock) (k1 : x.clock ≤ 99999) (hm : x.holds.length ≤ 900) (hn : wideH x.holds) (n0 : -1 ≤ p.number) (n1 : p.number ≤ 65536) (hps : p.data.size ≤ maxLen) (hans : (resAnswer x.window p).1.data.size ≤ maxLen) :
    Fn Tryz.prog 115 [v, .agg #[.int .i64 p.kind, .int .i64 p.number, .int .i64 p.trail, .int .i64 p.lead, .string p.data]] [.isv ESource v x F] [] (fun (_ : TiS) => True) (fun s => .tuple #[.agg #[.int .i64 (reqSU x p.number).window.trail, .int .i64 (reqSU x p.number).window.size, .slice s.a (reqSU x p.number).window.items.length s.c, .int .i64 (reqSU x p.number).clock, .int .i64 (reqSU x p.number).quiet, .slice s.a2 (reqSU x p.number).holds.length s.c2], .slice s.ae (reqP x p).length s.ce])
      (fun s => [.isv ESource (.agg #[.int .i64 (reqSU x p.number).window.trail, .int .i64 (reqSU x p.number).window.size, .slice s.a (reqSU x p.number).window.items.length s.c, .int .i64 (reqSU x p.number).clock, .int .i64 (reqSU x p.number).quiet, .slice s.a2 (reqSU x p.number).holds.length s.c2]) (reqSU x p.number) s.F, .ow EPacket 76 (.slice s.ae (reqP x p).length s.ce) (reqP x p) s.Fe]) := by
  refine enter Tryz.func115 rfl Tryz.ntmps115 fun w0 => ?_
  refine openSource ?_
  rintro a1 c1 F1 a2 c2 F2 rfl l1 l2
  refine closeSendWindow x.window (a1 := a1) ?_
  generalize F1 = F3
  repeat (first | apply c_seq | apply c_reg | (apply wO; apply oc; rfl; exact ydE) | apply w_nil | apply n_cd | (apply wg_t; rfl; rfl) | (apply wg_f; rfl; rfl; rfl; rfl) | (apply wg_u; rfl; rfl; rfl) | (apply c_t; rfl) | (apply c_f; rfl) | apply c_skip | apply c_block | apply n_blk | apply c_exit | apply e_hit | apply e_cd | apply e_lp | (apply e_miss; rfl) | apply c_ret | (apply wO; apply o_box; rfl; rfl; rfl; intro _) | (apply wO; apply o_alloc; rfl; intro _) | (apply wO; apply o_st; rfl; rfl; rfl; (first | exact AggC.s | exact OneC.s); rfl; exact rplE; exact putE; rfl) | (apply wO; apply o_bs0; rfl; intro _) | (apply wO; apply o_bs; rfl; rfl; rfl; rfl; exact rptE; exact filE; intro _) | (apply wO; apply o_call; rfl; kernel_rfl; exact evsE))
  refine c_joinS [2, 3, 4, 5] [0, 1, 2, 3, 4, 5, 6] (fun s : RjS => [(6, ptr s.g 0 0)]) (fun s => [.row s.g 55 0 [] [.int .i64 x.window.trail, .int .i64 x.window.size, .slice s.a x.window.items.length s.c, .int .i64 x.clock, .int .i64 x.quiet, .slice s.a2 (keepU x.window x.clock x.holds).length s.c2] [], .isv ESource (.agg #[.int .i64 x.window.trail, .int .i64 x.window.size, .slice s.a x.window.items.length s.c, .int .i64 x.clock, .int .i64 x.quiet, .slice s.a2 (keepU x.window x.clock x.holds).length s.c2]) (withU x x.window) s.F]) (fun _ => True) ?_ fun s _ => ?_
  · repeat (first | apply c_seq | apply c_reg | (apply wO; apply oc; rfl; exact ydE) | apply w_nil | apply n_cd | (apply wg_t; rfl; rfl) | (apply wg_f; rfl; rfl; rfl; rfl) | (apply wg_u; rfl; rfl; rfl) | (apply c_t; rfl) | (apply c_f; rfl) | apply c_skip | apply c_block | apply n_blk | apply c_exit | apply e_hit | apply e_cd | apply e_lp | (apply e_miss; rfl) | apply c_ret | (apply wO; apply o_box; rfl; rfl; rfl; intro _) | (apply wO; apply o_alloc; rfl; intro _) | (apply wO; apply o_st; rfl; rfl; rfl; (first | exact AggC.s | exact OneC.s); rfl; exact rplE; exact putE; rfl) | (apply wO; apply o_bs0; rfl; intro _) | (apply wO; apply o_bs; rfl; rfl; rfl; rfl; exact rptE; exact filE; intro _))
    refine d_start [1, 2] [] ?_
    refine dt 0 ?_
    refine dt 1 ?_
    refine dt 2 ?_
    refine dO2 3 5 (by kernel_rfl) (by rw [List.getElem?_toArray]; rfl) (by rw [List.getElem?_toArray]; rfl) ?_ ?_
    · apply o_call; rfl; kernel_rfl; exact evsE
      refine cf (l9Drop0_f x.window _ F3 t0 t1 (by omega)) fun y _ => ?_
      refine t_app ?_
      refine openOSendWindow ?_
      rintro a5 c5 F5 e5 l5
      rw [e5]
      refine t_read (xs := x.window.items) fun F8 => ?_
      refine closeSendWindow x.window (a1 := a5) ?_
      refine dk ?_
      refine dO2 4 5 (by kernel_rfl) (by rw [List.getElem?_toArray]; rfl) (by rw [List.getElem?_toArray]; rfl) ?_ ?_
      · apply o_call; rfl; kernel_rfl; exact evsE
        refine cf (l11WithU_f x x.window _ _ F _ t0 t1 (by omega) hn) fun z _ => ?_
        refine t_app ?_
        refine dk ?_
        refine dO 5 (by kernel_rfl) (by rw [List.getElem?_toArray]; rfl) ?_
        apply o_alloc; rfl; intro _
        refine dk ?_
        refine dO 6 (by kernel_rfl) (by rw [List.getElem?_toArray]; rfl) ?_
        apply o_st; rfl; rfl; rfl; (first | exact AggC.s | exact OneC.s); rfl; exact rplE; exact putE; rfl
        refine dk ?_
        refine dd ?_
        repeat (first | apply c_seq | apply c_reg | (apply wO; apply oc; rfl; exact ydE) | apply w_nil | apply n_cd | (apply wg_t; rfl; rfl) | (apply wg_f; rfl; rfl; rfl; rfl) | (apply wg_u; rfl; rfl; rfl) | (apply c_t; rfl) | (apply c_f; rfl) | apply c_skip | apply c_block | apply n_blk | apply c_exit | apply e_hit | apply e_cd | apply e_lp | (apply e_miss; rfl) | apply c_ret | (apply wO; apply o_box; rfl; rfl; rfl; intro _) | (apply wO; apply o_alloc; rfl; intro _) | (apply wO; apply o_st; rfl; rfl; rfl; (first | exact AggC.s | exact OneC.s); rfl; exact rplE; exact putE; rfl) | (apply wO; apply o_bs0; rfl; intro _) | (apply wO; apply o_bs; rfl; rfl; rfl; rfl; exact rptE; exact filE; intro _) | (apply wO; apply o_call; rfl; kernel_rfl; exact evsE))
        refine n_join (⟨_, z.a, z.c, z.a2, z.c2, z.F⟩ : RjS) trivial
      · apply o_alloc; rfl; intro _
        refine dk ?_
        refine dO 4 (by kernel_rfl) (by rw [List.getElem?_toArray]; rfl) ?_
        apply o_call; rfl; kernel_rfl; exact evsE
        refine cf (l11WithU_f x x.window _ _ F _ t0 t1 (by omega) hn) fun z _ => ?_
        refine t_app ?_
        refine dk ?_
        refine dO 6 (by kernel_rfl) (by rw [List.getElem?_toArray]; rfl) ?_
        apply o_st; rfl; rfl; rfl; (first | exact AggC.s | exact OneC.s); rfl; exact rplE; exact putE; rfl
        refine dk ?_
        refine dd ?_
        repeat (first | apply c_seq | apply c_reg | (apply wO; apply oc; rfl; exact ydE) | apply w_nil | apply n_cd | (apply wg_t; rfl; rfl) | (apply wg_f; rfl; rfl; rfl; rfl) | (apply wg_u; rfl; rfl; rfl) | (apply c_t; rfl) | (apply c_f; rfl) | apply c_skip | apply c_block | apply n_blk | apply c_exit | apply e_hit | apply e_cd | apply e_lp | (apply e_miss; rfl) | apply c_ret | (apply wO; apply o_box; rfl; rfl; rfl; intro _) | (apply wO; apply o_alloc; rfl; intro _) | (apply wO; apply o_st; rfl; rfl; rfl; (first | exact AggC.s | exact OneC.s); rfl; exact rplE; exact putE; rfl) | (apply wO; apply o_bs0; rfl; intro _) | (apply wO; apply o_bs; rfl; rfl; rfl; rfl; exact rptE; exact filE; intro _) | (apply wO; apply o_call; rfl; kernel_rfl; exact evsE))
        refine n_join (⟨_, z.a, z.c, z.a2, z.c2, z.F⟩ : RjS) trivial
    · apply o_alloc; rfl; intro _
      refine dk ?_
      refine dO 3 (by kernel_rfl) (by rw [List.getElem?_toArray]; rfl) ?_
      apply o_call; rfl; kernel_rfl; exact evsE
      refine cf (l9Drop0_f x.window _ F3 t0 t1 (by omega)) fun y _ => ?_
      refine t_app ?_
      refine openOSendWindow ?_
      rintro a5 c5 F5 e5 l5
      rw [e5]
      refine t_read (xs := x.window.items) fun F8 => ?_
      refine closeSendWindow x.window (a1 := a5) ?_
      refine dk ?_
      refine dO 4 (by kernel_rfl) (by rw [List.getElem?_toArray]; rfl) ?_
      apply o_call; rfl; kernel_rfl; exact evsE
      refine cf (l11WithU_f x x.window _ _ F _ t0 t1 (by omega) hn) fun z _ => ?_
      refine t_app ?_
      refine dk ?_
      refine dO 6 (by kernel_rfl) (by rw [List.getElem?_toArray]; rfl) ?_
      apply o_st; rfl; rfl; rfl; (first | exact AggC.s | exact OneC.s); rfl; exact rplE; exact putE; rfl
      refine dk ?_
      refine dd ?_
      repeat (first | apply c_seq | apply c_reg | (apply wO; apply oc; rfl; exact ydE) | apply w_nil | apply n_cd | (apply wg_t; rfl; rfl) | (apply wg_f; rfl; rfl; rfl; rfl) | (apply wg_u; rfl; rfl; rfl) | (apply c_t; rfl) | (apply c_f; rfl) | apply c_skip | apply c_block | apply n_blk | apply c_exit | apply e_hit | apply e_cd | apply e_lp | (apply e_miss; rfl) | apply c_ret | (apply wO; apply o_box; rfl; rfl; rfl; intro _) | (apply wO; apply o_alloc; rfl; intro _) | (apply wO; apply o_st; rfl; rfl; rfl; (first | exact AggC.s | exact OneC.s); rfl; exact rplE; exact putE; rfl) | (apply wO; apply o_bs0; rfl; intro _) | (apply wO; apply o_bs; rfl; rfl; rfl; rfl; exact rptE; exact filE; intro _) | (apply wO; apply o_call; rfl; kernel_rfl; exact evsE))
      refine n_join (⟨_, z.a, z.c, z.a2, z.c2, z.F⟩ : RjS) trivial
  repeat (first | apply c_seq | apply c_reg | (apply wO; apply oc; rfl; exact ydE) | apply w_nil | apply n_cd | (apply wg_t; rfl; rfl) | (apply wg_f; rfl; rfl; rfl; rfl) | (apply wg_u; rfl; rfl; rfl) | (apply c_t; rfl) | (apply c_f; rfl) | apply c_skip | apply c_block | apply n_blk | apply c_exit | apply e_hit | apply e_cd | apply e_lp | (apply e_miss; rfl) | apply c_ret | (apply wO; apply o_box; rfl; rfl; rfl; intro _) | (apply wO; apply o_alloc; rfl; intro _) | (apply wO; apply o_st; rfl; rfl; rfl; (first | exact AggC.s | exact OneC.s); rfl; exact rplE; exact putE; rfl) | (apply wO; apply o_bs0; rfl; intro _) | (apply wO; apply o_bs; rfl; rfl; rfl; rfl; exact rptE; exact filE; intro _) | (apply wO; apply o_call; rfl; kernel_rfl; exact evsE))
  refine cb (fun w st => (l9HeldW_f x.window p.number _ F3 t0 t1 n0 n1).val w (hol1 (st.get (p := .isv ESendWindow (.agg #[.int .i64 x.window.trail, .int .i64 x.window.size, .slice a1 x.window.items.length c1]) x.window F3) (by simp)))) ?_
  cases hb : heldB x.window p.number
  · have e1 : reqSU x p.number = withU x x.window := by unfold reqSU; rw [hb]; rfl
    have e2 : reqP x p = [statP x.window] := by unfold reqP; rw [hb]; rfl
    rw [e1, e2]
    repeat (first | apply c_seq | apply c_reg | (apply wO; apply oc; rfl; exact ydE) | apply w_nil | apply n_cd | (apply wg_t; rfl; rfl) | (apply wg_f; rfl; rfl; rfl; rfl) | (apply wg_u; rfl; rfl; rfl) | (apply c_t; rfl) | (apply c_f; rfl) | apply c_skip | apply c_block | apply n_blk | apply c_exit | apply e_hit | apply e_cd | apply e_lp | (apply e_miss; rfl) | apply c_ret | (apply wO; apply o_box; rfl; rfl; rfl; intro _) | (apply wO; apply o_alloc; rfl; intro _) | (apply wO; apply o_st; rfl; rfl; rfl; (first | exact AggC.s | exact OneC.s); rfl; exact rplE; exact putE; rfl) | (apply wO; apply o_bs0; rfl; intro _) | (apply wO; apply o_bs; rfl; rfl; rfl; rfl; exact rptE; exact filE; intro _) | (apply wO; apply o_call; rfl; kernel_rfl; exact evsE))
    refine d_start [0, 4] [] ?_
    refine dt 0 ?_
    refine dt 1 ?_
    refine dt 2 ?_
    refine dO 3 (by kernel_rfl) (by rw [List.getElem?_toArray]; rfl) ?_
    apply o_call; rfl; kernel_rfl; exact evsE
    refine cf (l9Status_f x.window.trail x.window.size _ x.window.items.length _ t0 t1 (by omega)) fun _ _ => ?_
    refine t_app ?_
    refine dk ?_
    refine dO2 4 5 (by kernel_rfl) (by rw [List.getElem?_toArray]; rfl) (by rw [List.getElem?_toArray]; rfl) ?_ ?_
    · apply o_bs; rfl; rfl; rfl; rfl; exact rptE; exact filE; intro _
      refine dk ?_
      refine dO 5 (by kernel_rfl) (by rw [List.getElem?_toArray]; rfl) ?_
      apply o_st; rfl; rfl; rfl; (first | exact AggC.s | exact OneC.s); rfl; exact rplE; exact putE; rfl
      refine dk ?_
      refine dt 6 ?_
      refine dd ?_
      repeat (first | apply c_seq | apply c_reg | (apply wO; apply oc; rfl; exact ydE) | apply w_nil | apply n_cd | (apply wg_t; rfl; rfl) | (apply wg_f; rfl; rfl; rfl; rfl) | (apply wg_u; rfl; rfl; rfl) | (apply c_t; rfl) | (apply c_f; rfl) | apply c_skip | apply c_block | apply n_blk | apply c_exit | apply e_hit | apply e_cd | apply e_lp | (apply e_miss; rfl) | apply c_ret | (apply wO; apply o_box; rfl; rfl; rfl; intro _) | (apply wO; apply o_alloc; rfl; intro _) | (apply wO; apply o_st; rfl; rfl; rfl; (first | exact AggC.s | exact OneC.s); rfl; exact rplE; exact putE; rfl) | (apply wO; apply o_bs0; rfl; intro _) | (apply wO; apply o_bs; rfl; rfl; rfl; rfl; exact rptE; exact filE; intro _) | (apply wO; apply o_call; rfl; kernel_rfl; exact evsE))
      refine t_row (xs := [statP x.window]) (flatPacket _ (by show (⟨#[]⟩ : ByteArray).size ≤ maxLen; decide)) ?_ (by simp)
      refine ret ⟨s.a, s.c, s.a2, s.c2, s.F, _, _, _⟩ trivial rfl
    · apply o_st; rfl; rfl; rfl; (first | exact AggC.s | exact OneC.s); rfl; exact rplE; exact putE; rfl
      refine dk ?_
      refine dO 4 (by kernel_rfl) (by rw [List.getElem?_toArray]; rfl) ?_
      apply o_bs; rfl; rfl; rfl; rfl; exact rptE; exact filE; intro _
      refine dk ?_
      refine dt 6 ?_
      refine dd ?_
      repeat (first | apply c_seq | apply c_reg | (apply wO; apply oc; rfl; exact ydE) | apply w_nil | apply n_cd | (apply wg_t; rfl; rfl) | (apply wg_f; rfl; rfl; rfl; rfl) | (apply wg_u; rfl; rfl; rfl) | (apply c_t; rfl) | (apply c_f; rfl) | apply c_skip | apply c_block | apply n_blk | apply c_exit | apply e_hit | apply e_cd | apply e_lp | (apply e_miss; rfl) | apply c_ret | (apply wO; apply o_box; rfl; rfl; rfl; intro _) | (apply wO; apply o_alloc; rfl; intro _) | (apply wO; apply o_st; rfl; rfl; rfl; (first | exact AggC.s | exact OneC.s); rfl; exact rplE; exact putE; rfl) | (apply wO; apply o_bs0; rfl; intro _) | (apply wO; apply o_bs; rfl; rfl; rfl; rfl; exact rptE; exact filE; intro _) | (apply wO; apply o_call; rfl; kernel_rfl; exact evsE))
      refine t_row (xs := [statP x.window]) (flatPacket _ (by show (⟨#[]⟩ : ByteArray).size ≤ maxLen; decide)) ?_ (by simp)
      refine ret ⟨s.a, s.c, s.a2, s.c2, s.F, _, _, _⟩ trivial rfl
  repeat (first | apply c_seq | apply c_reg | (apply wO; apply oc; rfl; exact ydE) | apply w_nil | apply n_cd | (apply wg_t; rfl; rfl) | (apply wg_f; rfl; rfl; rfl; rfl) | (apply wg_u; rfl; rfl; rfl) | (apply c_t; rfl) | (apply c_f; rfl) | apply c_skip | apply c_block | apply n_blk | apply c_exit | apply e_hit | apply e_cd | apply e_lp | (apply e_miss; rfl) | apply c_ret | (apply wO; apply o_box; rfl; rfl; rfl; intro _) | (apply wO; apply o_alloc; rfl; intro _) | (apply wO; apply o_st; rfl; rfl; rfl; (first | exact AggC.s | exact OneC.s); rfl; exact rplE; exact putE; rfl) | (apply wO; apply o_bs0; rfl; intro _) | (apply wO; apply o_bs; rfl; rfl; rfl; rfl; exact rptE; exact filE; intro _) | (apply wO; apply o_call; rfl; kernel_rfl; exact evsE))
  refine d_start [3, 4] [] ?_
  refine dt 0 ?_
  refine dt 1 ?_
  refine dt 2 ?_
  refine dt 3 ?_
  refine dt 4 ?_
  refine dt 5 ?_
  refine dt 6 ?_
  refine dO 7 (by kernel_rfl) (by rw [List.getElem?_toArray]; rfl) ?_
  apply o_call; rfl; kernel_rfl; exact evsE
  refine cb (fun w _ => l9Lead_c _ _ _ _ _ w t0 t1 (by omega)) ?_
  refine dk ?_
  refine dt 8 ?_
  refine dO 9 (by kernel_rfl) (by rw [List.getElem?_toArray]; rfl) ?_
  apply o_bs; rfl; rfl; rfl; rfl; exact rptE; exact filE; intro _
  refine dk ?_
  refine dt 10 ?_
  refine dd ?_
  repeat (first | apply c_seq | apply c_reg | (apply wO; apply oc; rfl; exact ydE) | apply w_nil | apply n_cd | (apply wg_t; rfl; rfl) | (apply wg_f; rfl; rfl; rfl; rfl) | (apply wg_u; rfl; rfl; rfl) | (apply c_t; rfl) | (apply c_f; rfl) | apply c_skip | apply c_block | apply n_blk | apply c_exit | apply e_hit | apply e_cd | apply e_lp | (apply e_miss; rfl) | apply c_ret | (apply wO; apply o_box; rfl; rfl; rfl; intro _) | (apply wO; apply o_alloc; rfl; intro _) | (apply wO; apply o_st; rfl; rfl; rfl; (first | exact AggC.s | exact OneC.s); rfl; exact rplE; exact putE; rfl) | (apply wO; apply o_bs0; rfl; intro _) | (apply wO; apply o_bs; rfl; rfl; rfl; rfl; exact rptE; exact filE; intro _))
  refine t_row (xs := [confP x.window p.number]) (flatPacket _ (by show (⟨#[]⟩ : ByteArray).size ≤ maxLen; decide)) ?_ (by simp)
  repeat (first | apply c_seq | apply c_reg | (apply wO; apply oc; rfl; exact ydE) | apply w_nil | apply n_cd | (apply wg_t; rfl; rfl) | (apply wg_f; rfl; rfl; rfl; rfl) | (apply wg_u; rfl; rfl; rfl) | (apply c_t; rfl) | (apply c_f; rfl) | apply c_skip | apply c_block | apply n_blk | apply c_exit | apply e_hit | apply e_cd | apply e_lp | (apply e_miss; rfl) | apply c_ret | (apply wO; apply o_box; rfl; rfl; rfl; intro _) | (apply wO; apply o_alloc; rfl; intro _) | (apply wO; apply o_st; rfl; rfl; rfl; (first | exact AggC.s | exact OneC.s); rfl; exact rplE; exact putE; rfl) | (apply wO; apply o_bs0; rfl; intro _) | (apply wO; apply o_bs; rfl; rfl; rfl; rfl; exact rptE; exact filE; intro _) | (apply wO; apply o_call; rfl; kernel_rfl; exact evsE))
  refine cf (l11Hold_f x p.number _ F t0 t1 (by omega) hn n0 n1) fun _ _ => ?_
  refine t_app ?_
  cases ht : thereB x.window.trail x.holds p.number
  · have e1 : reqSU x p.number = ⟨x.window, x.clock, x.quiet, (addHold x.holds (holdAt x.window.trail x.holds p.number) ⟨p.number, x.clock + 3⟩)⟩ := by unfold reqSU; rw [hb, ht]; rfl
    have e2 : reqP x p = [confP x.window p.number] ++ [(resAnswer x.window p).1] := by unfold reqP; rw [hb, ht]; rfl
    rw [e1, e2]
    have hkk := holdAt_le x.window.trail x.holds p.number
    refine t_sl (E := EHold) (xs := x.holds) ?_
    rintro _ _ e8 q1 q2
    cases e8
    repeat (first | apply c_seq | apply c_reg | (apply wO; apply oc; rfl; exact ydE) | apply w_nil | apply n_cd | (apply wg_t; rfl; rfl) | (apply wg_f; rfl; rfl; rfl; rfl) | (apply wg_u; rfl; rfl; rfl) | (apply c_t; rfl) | (apply c_f; rfl) | apply c_skip | apply c_block | apply n_blk | apply c_exit | apply e_hit | apply e_cd | apply e_lp | (apply e_miss; rfl) | apply c_ret | (apply wO; apply o_box; rfl; rfl; rfl; intro _) | (apply wO; apply o_alloc; rfl; intro _) | (apply wO; apply o_st; rfl; rfl; rfl; (first | exact AggC.s | exact OneC.s); rfl; exact rplE; exact putE; rfl) | (apply wO; apply o_bs0; rfl; intro _) | (apply wO; apply o_bs; rfl; rfl; rfl; rfl; exact rptE; exact filE; intro _) | (apply wO; apply o_call; rfl; kernel_rfl; exact evsE))
    refine cb (fun w st => (specAnswerTo_f x.window p _ F3 hps).val w (hol1 (st.get (p := .isv ESendWindow (.agg #[.int .i64 x.window.trail, .int .i64 x.window.size, .slice a1 x.window.items.length c1]) x.window F3) (by simp)))) ?_
    repeat (first | apply c_seq | apply c_reg | (apply wO; apply oc; rfl; exact ydE) | apply w_nil | apply n_cd | (apply wg_t; rfl; rfl) | (apply wg_f; rfl; rfl; rfl; rfl) | (apply wg_u; rfl; rfl; rfl) | (apply c_t; rfl) | (apply c_f; rfl) | apply c_skip | apply c_block | apply n_blk | apply c_exit | apply e_hit | apply e_cd | apply e_lp | (apply e_miss; rfl) | apply c_ret | (apply wO; apply o_box; rfl; rfl; rfl; intro _) | (apply wO; apply o_alloc; rfl; intro _) | (apply wO; apply o_st; rfl; rfl; rfl; (first | exact AggC.s | exact OneC.s); rfl; exact rplE; exact putE; rfl) | (apply wO; apply o_bs0; rfl; intro _) | (apply wO; apply o_bs; rfl; rfl; rfl; rfl; exact rptE; exact filE; intro _) | (apply wO; apply o_call; rfl; kernel_rfl; exact evsE))
    refine t_rtake (E := EHold) (xs := x.holds) (holdAt x.window.trail x.holds p.number) (fun FT => ?_) hkk
    obtain ⟨T1, hT1⟩ : ∃ T1, T1 = x.holds.take (holdAt x.window.trail x.holds p.number) := ⟨_, rfl⟩
    have hT1l : T1.length = holdAt x.window.trail x.holds p.number := by rw [hT1, List.length_take]; omega
    rw [← hT1]
    have hAdd : T1 ++ [⟨p.number, x.clock + 3⟩] ++ x.holds.drop (holdAt x.window.trail x.holds p.number) = (addHold x.holds (holdAt x.window.trail x.holds p.number) ⟨p.number, x.clock + 3⟩) := by rw [hT1]; unfold addHold; simp
    refine c_joinS [4, 5, 6, 7, 10] [0, 1, 2, 3, 5, 6, 7, 8, 9, 10, 11, 12] (fun _ : CpS3 => []) (fun z => [.row s.g 55 0 [] [.int .i64 x.window.trail, .int .i64 x.window.size, .slice s.a x.window.items.length s.c, .int .i64 x.clock, .int .i64 x.quiet, .slice z.a (addHold x.holds (holdAt x.window.trail x.holds p.number) ⟨p.number, x.clock + 3⟩).length z.c] [], .ow EHold 131 (.slice z.a (addHold x.holds (holdAt x.window.trail x.holds p.number) ⟨p.number, x.clock + 3⟩).length z.c) (addHold x.holds (holdAt x.window.trail x.holds p.number) ⟨p.number, x.clock + 3⟩) z.F]) (fun _ => True) ?_ fun z _ => ?_
    · repeat (first | apply c_seq | apply c_reg | (apply wO; apply oc; rfl; exact ydE) | apply w_nil | apply n_cd | (apply wg_t; rfl; rfl) | (apply wg_f; rfl; rfl; rfl; rfl) | (apply wg_u; rfl; rfl; rfl) | (apply c_t; rfl) | (apply c_f; rfl) | apply c_skip | apply c_block | apply n_blk | apply c_exit | apply e_hit | apply e_cd | apply e_lp | (apply e_miss; rfl) | apply c_ret | (apply wO; apply o_box; rfl; rfl; rfl; intro _) | (apply wO; apply o_alloc; rfl; intro _) | (apply wO; apply o_st; rfl; rfl; rfl; (first | exact AggC.s | exact OneC.s); rfl; exact rplE; exact putE; rfl) | (apply wO; apply o_bs0; rfl; intro _) | (apply wO; apply o_bs; rfl; rfl; rfl; rfl; exact rptE; exact filE; intro _))
      refine d_start [1, 8] [] ?_
      refine dt 1 ?_
      refine dt 2 ?_
      refine dt 3 ?_
      refine dt 4 ?_ (hy := yd_slt (i := T1.length) rfl rfl (by rw [hT1l]) (by omega) (by omega))
      refine dt 6 ?_
      refine dt 9 ?_
      refine dt 10 ?_
      refine dt 11 ?_
      refine dsld 12 (holdAt x.window.trail x.holds p.number) (fun a6 c6 F6 => ?_)
      refine dO2 0 7 (by kernel_rfl) (by rw [List.getElem?_toArray]; rfl) (by rw [List.getElem?_toArray]; rfl) ?_ ?_
      · apply o_bs0; rfl; intro _
        refine t_emp EHold ?_
        refine dk ?_
        refine dO2 5 7 (by kernel_rfl) (by rw [List.getElem?_toArray]; rfl) (by rw [List.getElem?_toArray]; rfl) ?_ ?_
        · refine aps (ys := T1) one_EHold scal_EHold fun a7 c7 F7 => ?_
          rw [List.nil_append]
          refine dk ?_
          refine dO 7 (by kernel_rfl) (by rw [List.getElem?_toArray]; rfl) ?_
          apply o_bs; rfl; rfl; rfl; rfl; exact rptE; exact filE; intro _
          refine dk ?_
          refine dO 8 (by kernel_rfl) (by rw [List.getElem?_toArray]; rfl) ?_
          refine ap1 (rep1_Hold ⟨p.number, x.clock + 3⟩) one_EHold fun a8 c8 F8 => ?_
          refine dk ?_
          refine dO 13 (by kernel_rfl) (by rw [List.getElem?_toArray]; rfl) ?_
          refine aps (ys := x.holds.drop (holdAt x.window.trail x.holds p.number)) one_EHold scal_EHold (h63 := by simp; omega) (hby := by simp; omega) fun a9 c9 F9 => ?_
          refine dk ?_
          refine dt 14 ?_
          refine dO 15 (by kernel_rfl) (by rw [List.getElem?_toArray]; rfl) ?_
          apply o_st; rfl; rfl; rfl; (first | exact AggC.s | exact OneC.s); rfl; exact rplE; exact putE; rfl
          refine dk ?_
          refine dd ?_
          repeat (first | apply c_seq | apply c_reg | (apply wO; apply oc; rfl; exact ydE) | apply w_nil | apply n_cd | (apply wg_t; rfl; rfl) | (apply wg_f; rfl; rfl; rfl; rfl) | (apply wg_u; rfl; rfl; rfl) | (apply c_t; rfl) | (apply c_f; rfl) | apply c_skip | apply c_block | apply n_blk | apply c_exit | apply e_hit | apply e_cd | apply e_lp | (apply e_miss; rfl) | apply c_ret | (apply wO; apply o_box; rfl; rfl; rfl; intro _) | (apply wO; apply o_alloc; rfl; intro _) | (apply wO; apply o_st; rfl; rfl; rfl; (first | exact AggC.s | exact OneC.s); rfl; exact rplE; exact putE; rfl) | (apply wO; apply o_bs0; rfl; intro _) | (apply wO; apply o_bs; rfl; rfl; rfl; rfl; exact rptE; exact filE; intro _) | (apply wO; apply o_call; rfl; kernel_rfl; exact evsE))
          rw [hAdd]
          refine n_join (⟨a9, c9, F9⟩ : CpS3) trivial
        · apply o_bs; rfl; rfl; rfl; rfl; exact rptE; exact filE; intro _
          refine dk ?_
          refine dO 5 (by kernel_rfl) (by rw [List.getElem?_toArray]; rfl) ?_
          refine aps (ys := T1) one_EHold scal_EHold fun a7 c7 F7 => ?_
          rw [List.nil_append]
          refine dk ?_
          refine dO 8 (by kernel_rfl) (by rw [List.getElem?_toArray]; rfl) ?_
          refine ap1 (rep1_Hold ⟨p.number, x.clock + 3⟩) one_EHold fun a8 c8 F8 => ?_
          refine dk ?_
          refine dO 13 (by kernel_rfl) (by rw [List.getElem?_toArray]; rfl) ?_
          refine aps (ys := x.holds.drop (holdAt x.window.trail x.holds p.number)) one_EHold scal_EHold (h63 := by simp; omega) (hby := by simp; omega) fun a9 c9 F9 => ?_
          refine dk ?_
          refine dt 14 ?_
          refine dO 15 (by kernel_rfl) (by rw [List.getElem?_toArray]; rfl) ?_
          apply o_st; rfl; rfl; rfl; (first | exact AggC.s | exact OneC.s); rfl; exact rplE; exact putE; rfl
          refine dk ?_
          refine dd ?_
          repeat (first | apply c_seq | apply c_reg | (apply wO; apply oc; rfl; exact ydE) | apply w_nil | apply n_cd | (apply wg_t; rfl; rfl) | (apply wg_f; rfl; rfl; rfl; rfl) | (apply wg_u; rfl; rfl; rfl) | (apply c_t; rfl) | (apply c_f; rfl) | apply c_skip | apply c_block | apply n_blk | apply c_exit | apply e_hit | apply e_cd | apply e_lp | (apply e_miss; rfl) | apply c_ret | (apply wO; apply o_box; rfl; rfl; rfl; intro _) | (apply wO; apply o_alloc; rfl; intro _) | (apply wO; apply o_st; rfl; rfl; rfl; (first | exact AggC.s | exact OneC.s); rfl; exact rplE; exact putE; rfl) | (apply wO; apply o_bs0; rfl; intro _) | (apply wO; apply o_bs; rfl; rfl; rfl; rfl; exact rptE; exact filE; intro _) | (apply wO; apply o_call; rfl; kernel_rfl; exact evsE))
          rw [hAdd]
          refine n_join (⟨a9, c9, F9⟩ : CpS3) trivial
      · apply o_bs; rfl; rfl; rfl; rfl; exact rptE; exact filE; intro _
        refine dk ?_
        refine dO 0 (by kernel_rfl) (by rw [List.getElem?_toArray]; rfl) ?_
        apply o_bs0; rfl; intro _
        refine t_emp EHold ?_
        refine dk ?_
        refine dO 5 (by kernel_rfl) (by rw [List.getElem?_toArray]; rfl) ?_
        refine aps (ys := T1) one_EHold scal_EHold fun a7 c7 F7 => ?_
        rw [List.nil_append]
        refine dk ?_
        refine dO 8 (by kernel_rfl) (by rw [List.getElem?_toArray]; rfl) ?_
        refine ap1 (rep1_Hold ⟨p.number, x.clock + 3⟩) one_EHold fun a8 c8 F8 => ?_
        refine dk ?_
        refine dO 13 (by kernel_rfl) (by rw [List.getElem?_toArray]; rfl) ?_
        refine aps (ys := x.holds.drop (holdAt x.window.trail x.holds p.number)) one_EHold scal_EHold (h63 := by simp; omega) (hby := by simp; omega) fun a9 c9 F9 => ?_
        refine dk ?_
        refine dt 14 ?_
        refine dO 15 (by kernel_rfl) (by rw [List.getElem?_toArray]; rfl) ?_
        apply o_st; rfl; rfl; rfl; (first | exact AggC.s | exact OneC.s); rfl; exact rplE; exact putE; rfl
        refine dk ?_
        refine dd ?_
        repeat (first | apply c_seq | apply c_reg | (apply wO; apply oc; rfl; exact ydE) | apply w_nil | apply n_cd | (apply wg_t; rfl; rfl) | (apply wg_f; rfl; rfl; rfl; rfl) | (apply wg_u; rfl; rfl; rfl) | (apply c_t; rfl) | (apply c_f; rfl) | apply c_skip | apply c_block | apply n_blk | apply c_exit | apply e_hit | apply e_cd | apply e_lp | (apply e_miss; rfl) | apply c_ret | (apply wO; apply o_box; rfl; rfl; rfl; intro _) | (apply wO; apply o_alloc; rfl; intro _) | (apply wO; apply o_st; rfl; rfl; rfl; (first | exact AggC.s | exact OneC.s); rfl; exact rplE; exact putE; rfl) | (apply wO; apply o_bs0; rfl; intro _) | (apply wO; apply o_bs; rfl; rfl; rfl; rfl; exact rptE; exact filE; intro _) | (apply wO; apply o_call; rfl; kernel_rfl; exact evsE))
        rw [hAdd]
        refine n_join (⟨a9, c9, F9⟩ : CpS3) trivial
    refine openSource (x := withU x x.window) ?_
    rintro b1 d1 G1 b2 d2 G2 e5 m1 m2
    simp only [Value.agg.injEq, Array.mk.injEq, List.cons.injEq, Value.slice.injEq, Value.int.injEq, true_and, and_true] at e5
    obtain ⟨-, -, ⟨rfl, -, rfl⟩, -⟩ := e5
    refine t_read (E := EHold) fun F9 => ?_
    refine closeSource ⟨x.window, x.clock, x.quiet, (addHold x.holds (holdAt x.window.trail x.holds p.number) ⟨p.number, x.clock + 3⟩)⟩ (a1 := s.a) ?_
    repeat (first | apply c_seq | apply c_reg | (apply wO; apply oc; rfl; exact ydE) | apply w_nil | apply n_cd | (apply wg_t; rfl; rfl) | (apply wg_f; rfl; rfl; rfl; rfl) | (apply wg_u; rfl; rfl; rfl) | (apply c_t; rfl) | (apply c_f; rfl) | apply c_skip | apply c_block | apply n_blk | apply c_exit | apply e_hit | apply e_cd | apply e_lp | (apply e_miss; rfl) | apply c_ret | (apply wO; apply o_box; rfl; rfl; rfl; intro _) | (apply wO; apply o_alloc; rfl; intro _) | (apply wO; apply o_st; rfl; rfl; rfl; (first | exact AggC.s | exact OneC.s); rfl; exact rplE; exact putE; rfl) | (apply wO; apply o_bs0; rfl; intro _) | (apply wO; apply o_bs; rfl; rfl; rfl; rfl; exact rptE; exact filE; intro _) | (apply wO; apply o_call; rfl; kernel_rfl; exact evsE))
    refine d_start [4, 7] [] ?_
    refine dt 0 ?_
    refine dt 1 ?_
    refine dt 2 ?_
    refine dO 3 (by kernel_rfl) (by rw [List.getElem?_toArray]; rfl) ?_
    apply o_bs; rfl; rfl; rfl; rfl; exact rptE; exact filE; intro _
    refine dk ?_
    refine dO 4 (by kernel_rfl) (by rw [List.getElem?_toArray]; rfl) ?_
    refine ap1 (flatPacket (resAnswer x.window p).1 hans) one_EPacket fun a9 c9 F9 => ?_
    refine dk ?_
    refine dO 5 (by kernel_rfl) (by rw [List.getElem?_toArray]; rfl) ?_
    apply o_st; rfl; rfl; rfl; (first | exact AggC.s | exact OneC.s); rfl; exact rplE; exact putE; rfl
    refine dk ?_
    refine dt 6 ?_
    refine dd ?_
    repeat (first | apply c_seq | apply c_reg | (apply wO; apply oc; rfl; exact ydE) | apply w_nil | apply n_cd | (apply wg_t; rfl; rfl) | (apply wg_f; rfl; rfl; rfl; rfl) | (apply wg_u; rfl; rfl; rfl) | (apply c_t; rfl) | (apply c_f; rfl) | apply c_skip | apply c_block | apply n_blk | apply c_exit | apply e_hit | apply e_cd | apply e_lp | (apply e_miss; rfl) | apply c_ret | (apply wO; apply o_box; rfl; rfl; rfl; intro _) | (apply wO; apply o_alloc; rfl; intro _) | (apply wO; apply o_st; rfl; rfl; rfl; (first | exact AggC.s | exact OneC.s); rfl; exact rplE; exact putE; rfl) | (apply wO; apply o_bs0; rfl; intro _) | (apply wO; apply o_bs; rfl; rfl; rfl; rfl; exact rptE; exact filE; intro _) | (apply wO; apply o_call; rfl; kernel_rfl; exact evsE))
    refine ret ⟨s.a, s.c, z.a, z.c, _, a9, c9, F9⟩ trivial rfl
  · have e1 : reqSU x p.number = withU x x.window := by unfold reqSU; rw [hb, ht]; rfl
    have e2 : reqP x p = [confP x.window p.number] := by unfold reqP; rw [hb, ht]; rfl
    rw [e1, e2]
    repeat (first | apply c_seq | apply c_reg | (apply wO; apply oc; rfl; exact ydE) | apply w_nil | apply n_cd | (apply wg_t; rfl; rfl) | (apply wg_f; rfl; rfl; rfl; rfl) | (apply wg_u; rfl; rfl; rfl) | (apply c_t; rfl) | (apply c_f; rfl) | apply c_skip | apply c_block | apply n_blk | apply c_exit | apply e_hit | apply e_cd | apply e_lp | (apply e_miss; rfl) | apply c_ret | (apply wO; apply o_box; rfl; rfl; rfl; intro _) | (apply wO; apply o_alloc; rfl; intro _) | (apply wO; apply o_st; rfl; rfl; rfl; (first | exact AggC.s | exact OneC.s); rfl; exact rplE; exact putE; rfl) | (apply wO; apply o_bs0; rfl; intro _) | (apply wO; apply o_bs; rfl; rfl; rfl; rfl; exact rptE; exact filE; intro _) | (apply wO; apply o_call; rfl; kernel_rfl; exact evsE))
    refine ret ⟨s.a, s.c, s.a2, s.c2, s.F, _, _, _⟩ trivial rfl

theorem l11Request_f (x : Source) (p : Packet) (v : Value) (F : List Nat) (hg : goodSrc x = true) (n0 : 0 ≤ p.number) (n1 : p.number ≤ 65535) (hps : p.data.size ≤ maxLen) :
    Fn Tryz.prog 115 [v, .agg #[.int .i64 p.kind, .int .i64 p.number, .int .i64 p.trail, .int .i64 p.lead, .string p.data]] [.isv ESource v x F] [] (fun (_ : TiS) => True) (fun s => .tuple #[.agg #[.int .i64 (reqS x p.number).window.trail, .int .i64 (reqS x p.number).window.size, .slice s.a (reqS x p.number).window.items.length s.c, .int .i64 (reqS x p.number).clock, .int .i64 (reqS x p.number).quiet, .slice s.a2 (reqS x p.number).holds.length s.c2], .slice s.ae (reqP x p).length s.ce])
      (fun s => [.isv ESource (.agg #[.int .i64 (reqS x p.number).window.trail, .int .i64 (reqS x p.number).window.size, .slice s.a (reqS x p.number).window.items.length s.c, .int .i64 (reqS x p.number).clock, .int .i64 (reqS x p.number).quiet, .slice s.a2 (reqS x p.number).holds.length s.c2]) (reqS x p.number) s.F, .ow EPacket 76 (.slice s.ae (reqP x p).length s.ce) (reqP x p) s.Fe]) := by
  obtain ⟨gw, hl, t0, t1, k0, k1, hm, hn, hu, hb⟩ := goodS_of hg
  have h := l11RequestU_f x p v F t0 t1 hl k0 (by omega) (by omega) (wide_of hn) (by omega) (by omega) hps (ans_size gw)
  rw [reqSU_eq hg] at h
  exact h
set_option maxRecDepth 100000 in
theorem specRequestTo_f (x : Source) (p : Packet) (v : Value) (F : List Nat) (hps : p.data.size ≤ maxLen) :
    Fn Tryz.prog 46 [v, .agg #[.int .i64 p.kind, .int .i64 p.number, .int .i64 p.trail, .int .i64 p.lead, .string p.data]] [.isv ESource v x F] [] (fun (_ : TiS) => True)
      (fun s => .tuple #[.agg #[.int .i64 (resRequestTo x p).1.window.trail, .int .i64 (resRequestTo x p).1.window.size, .slice s.a (resRequestTo x p).1.window.items.length s.c, .int .i64 (resRequestTo x p).1.clock, .int .i64 (resRequestTo x p).1.quiet, .slice s.a2 (resRequestTo x p).1.holds.length s.c2], .slice s.ae (resRequestTo x p).2.1.length s.ce, .bool (resRequestTo x p).2.2]) (fun s => [.isv ESource (.agg #[.int .i64 (resRequestTo x p).1.window.trail, .int .i64 (resRequestTo x p).1.window.size, .slice s.a (resRequestTo x p).1.window.items.length s.c, .int .i64 (resRequestTo x p).1.clock, .int .i64 (resRequestTo x p).1.quiet, .slice s.a2 (resRequestTo x p).1.holds.length s.c2]) (resRequestTo x p).1 s.F, .ow EPacket 76 (.slice s.ae (resRequestTo x p).2.1.length s.ce) (resRequestTo x p).2.1 s.Fe]) := by
  refine enter Tryz.func46 rfl Tryz.ntmps46 fun w0 => ?_
  refine t_nilsl EStr (by decide) ?_
  refine t_nilsl EHold (by decide) ?_
  refine closeSource zSrc ?_
  refine openSource (x := x) (F := F) ?_
  rintro a1 c1 F1 a2 c2 F2 rfl l1 l2
  repeat (first | apply c_seq | apply c_reg | (apply wO; apply oc; rfl; exact ydE) | apply w_nil | apply n_cd | (apply wg_t; rfl; rfl) | (apply wg_f; rfl; rfl; rfl; rfl) | (apply wg_u; rfl; rfl; rfl) | (apply c_t; rfl) | (apply c_f; rfl) | apply c_skip | apply c_block | apply n_blk | apply c_exit | apply e_hit | apply e_cd | apply e_lp | (apply e_miss; rfl) | apply c_ret | (apply wO; apply o_box; rfl; rfl; rfl; intro _) | (apply wO; apply o_alloc; rfl; intro _) | (apply wO; apply o_st; rfl; rfl; rfl; (first | exact AggC.s | exact OneC.s); rfl; exact rplE; exact putE; rfl) | (apply wO; apply o_bs0; rfl; intro _) | (apply wO; apply o_bs; rfl; rfl; rfl; rfl; exact rptE; exact filE; intro _) | (apply wO; apply o_call; rfl; kernel_rfl; exact evsE))
  refine cb (fun w st => (l11Good_f x _ F).val w (hol1 (st.get (p := .isv ESource (.agg #[.int .i64 x.window.trail, .int .i64 x.window.size, .slice a1 x.window.items.length c1, .int .i64 x.clock, .int .i64 x.quiet, .slice a2 x.holds.length c2]) x F) (by simp)))) ?_
  cases g1 : goodSrc x
  · repeat (first | apply c_seq | apply c_reg | (apply wO; apply oc; rfl; exact ydE) | apply w_nil | apply n_cd | (apply wg_t; rfl; rfl) | (apply wg_f; rfl; rfl; rfl; rfl) | (apply wg_u; rfl; rfl; rfl) | (apply c_t; rfl) | (apply c_f; rfl) | apply c_skip | apply c_block | apply n_blk | apply c_exit | apply e_hit | apply e_cd | apply e_lp | (apply e_miss; rfl) | apply c_ret | (apply wO; apply o_box; rfl; rfl; rfl; intro _) | (apply wO; apply o_alloc; rfl; intro _) | (apply wO; apply o_st; rfl; rfl; rfl; (first | exact AggC.s | exact OneC.s); rfl; exact rplE; exact putE; rfl) | (apply wO; apply o_bs0; rfl; intro _) | (apply wO; apply o_bs; rfl; rfl; rfl; rfl; exact rptE; exact filE; intro _) | (apply wO; apply o_call; rfl; kernel_rfl; exact evsE))
    refine t_emp EPacket ?_
    rw [resReq_no (by unfold okRequestTo; rw [g1]; rfl)]
    refine ret ⟨none, 0, none, 0, [] ++ [], _, _, _⟩ trivial rfl
  repeat (first | apply c_seq | apply c_reg | (apply wO; apply oc; rfl; exact ydE) | apply w_nil | apply n_cd | (apply wg_t; rfl; rfl) | (apply wg_f; rfl; rfl; rfl; rfl) | (apply wg_u; rfl; rfl; rfl) | (apply c_t; rfl) | (apply c_f; rfl) | apply c_skip | apply c_block | apply n_blk | apply c_exit | apply e_hit | apply e_cd | apply e_lp | (apply e_miss; rfl) | apply c_ret | (apply wO; apply o_box; rfl; rfl; rfl; intro _) | (apply wO; apply o_alloc; rfl; intro _) | (apply wO; apply o_st; rfl; rfl; rfl; (first | exact AggC.s | exact OneC.s); rfl; exact rplE; exact putE; rfl) | (apply wO; apply o_bs0; rfl; intro _) | (apply wO; apply o_bs; rfl; rfl; rfl; rfl; exact rptE; exact filE; intro _) | (apply wO; apply o_call; rfl; kernel_rfl; exact evsE))
  refine cf (l4Good_f p hps) fun _ _ => ?_
  refine t_app ?_
  cases g2 : goodPk p
  · repeat (first | apply c_seq | apply c_reg | (apply wO; apply oc; rfl; exact ydE) | apply w_nil | apply n_cd | (apply wg_t; rfl; rfl) | (apply wg_f; rfl; rfl; rfl; rfl) | (apply wg_u; rfl; rfl; rfl) | (apply c_t; rfl) | (apply c_f; rfl) | apply c_skip | apply c_block | apply n_blk | apply c_exit | apply e_hit | apply e_cd | apply e_lp | (apply e_miss; rfl) | apply c_ret | (apply wO; apply o_box; rfl; rfl; rfl; intro _) | (apply wO; apply o_alloc; rfl; intro _) | (apply wO; apply o_st; rfl; rfl; rfl; (first | exact AggC.s | exact OneC.s); rfl; exact rplE; exact putE; rfl) | (apply wO; apply o_bs0; rfl; intro _) | (apply wO; apply o_bs; rfl; rfl; rfl; rfl; exact rptE; exact filE; intro _) | (apply wO; apply o_call; rfl; kernel_rfl; exact evsE))
    refine t_emp EPacket ?_
    rw [resReq_no (by unfold okRequestTo; rw [g1, g2]; rfl)]
    refine ret ⟨none, 0, none, 0, [] ++ [], _, _, _⟩ trivial rfl
  obtain ⟨n0, n1⟩ := goodPk_num g2
  repeat (first | apply c_seq | apply c_reg | (apply wO; apply oc; rfl; exact ydE) | apply w_nil | apply n_cd | (apply wg_t; rfl; rfl) | (apply wg_f; rfl; rfl; rfl; rfl) | (apply wg_u; rfl; rfl; rfl) | (apply c_t; rfl) | (apply c_f; rfl) | apply c_skip | apply c_block | apply n_blk | apply c_exit | apply e_hit | apply e_cd | apply e_lp | (apply e_miss; rfl) | apply c_ret | (apply wO; apply o_box; rfl; rfl; rfl; intro _) | (apply wO; apply o_alloc; rfl; intro _) | (apply wO; apply o_st; rfl; rfl; rfl; (first | exact AggC.s | exact OneC.s); rfl; exact rplE; exact putE; rfl) | (apply wO; apply o_bs0; rfl; intro _) | (apply wO; apply o_bs; rfl; rfl; rfl; rfl; exact rptE; exact filE; intro _) | (apply wO; apply o_call; rfl; kernel_rfl; exact evsE))
  refine c_if rfl (fun h2 => ?_) (fun h2 => ?_)
  · repeat (first | apply c_seq | apply c_reg | (apply wO; apply oc; rfl; exact ydE) | apply w_nil | apply n_cd | (apply wg_t; rfl; rfl) | (apply wg_f; rfl; rfl; rfl; rfl) | (apply wg_u; rfl; rfl; rfl) | (apply c_t; rfl) | (apply c_f; rfl) | apply c_skip | apply c_block | apply n_blk | apply c_exit | apply e_hit | apply e_cd | apply e_lp | (apply e_miss; rfl) | apply c_ret | (apply wO; apply o_box; rfl; rfl; rfl; intro _) | (apply wO; apply o_alloc; rfl; intro _) | (apply wO; apply o_st; rfl; rfl; rfl; (first | exact AggC.s | exact OneC.s); rfl; exact rplE; exact putE; rfl) | (apply wO; apply o_bs0; rfl; intro _) | (apply wO; apply o_bs; rfl; rfl; rfl; rfl; exact rptE; exact filE; intro _) | (apply wO; apply o_call; rfl; kernel_rfl; exact evsE))
    refine t_emp EPacket ?_
    rw [resReq_no (by unfold okRequestTo; rw [g1, g2, decide_eq_false h2]; rfl)]
    refine ret ⟨none, 0, none, 0, [] ++ [], _, _, _⟩ trivial rfl
  have h2 := Decidable.not_not.1 h2
  rw [resReq_yes (by unfold okRequestTo; rw [g1, g2, decide_eq_true h2]; rfl)]
  repeat (first | apply c_seq | apply c_reg | (apply wO; apply oc; rfl; exact ydE) | apply w_nil | apply n_cd | (apply wg_t; rfl; rfl) | (apply wg_f; rfl; rfl; rfl; rfl) | (apply wg_u; rfl; rfl; rfl) | (apply c_t; rfl) | (apply c_f; rfl) | apply c_skip | apply c_block | apply n_blk | apply c_exit | apply e_hit | apply e_cd | apply e_lp | (apply e_miss; rfl) | apply c_ret | (apply wO; apply o_box; rfl; rfl; rfl; intro _) | (apply wO; apply o_alloc; rfl; intro _) | (apply wO; apply o_st; rfl; rfl; rfl; (first | exact AggC.s | exact OneC.s); rfl; exact rplE; exact putE; rfl) | (apply wO; apply o_bs0; rfl; intro _) | (apply wO; apply o_bs; rfl; rfl; rfl; rfl; exact rptE; exact filE; intro _) | (apply wO; apply o_call; rfl; kernel_rfl; exact evsE))
  refine cf (l11Request_f x p _ F g1 n0 n1 hps) fun q _ => ?_
  refine t_app ?_
  repeat (first | apply c_seq | apply c_reg | (apply wO; apply oc; rfl; exact ydE) | apply w_nil | apply n_cd | (apply wg_t; rfl; rfl) | (apply wg_f; rfl; rfl; rfl; rfl) | (apply wg_u; rfl; rfl; rfl) | (apply c_t; rfl) | (apply c_f; rfl) | apply c_skip | apply c_block | apply n_blk | apply c_exit | apply e_hit | apply e_cd | apply e_lp | (apply e_miss; rfl) | apply c_ret | (apply wO; apply o_box; rfl; rfl; rfl; intro _) | (apply wO; apply o_alloc; rfl; intro _) | (apply wO; apply o_st; rfl; rfl; rfl; (first | exact AggC.s | exact OneC.s); rfl; exact rplE; exact putE; rfl) | (apply wO; apply o_bs0; rfl; intro _) | (apply wO; apply o_bs; rfl; rfl; rfl; rfl; exact rptE; exact filE; intro _) | (apply wO; apply o_call; rfl; kernel_rfl; exact evsE))
  refine ret ⟨_, _, _, _, _, _, _, _⟩ trivial rfl
end Go.Proofs.YtidephmobajikaaGreatDoor
/- RequestTo: a bound on the marks of its result. -/
namespace Go.Proofs.YtidephmobajikaaGreatDoor
open Go.RowKit
theorem ans_small {x : Source} {p : Packet} (hg : goodWin x.window = true) : (resAnswer x.window p).1.data.size ≤ 8 := by
  unfold resAnswer
  split
  · rename_i h
    unfold okAnswer at h
    simp only [Bool.and_eq_true] at h
    have hk := held_lt h.2
    show (itemAt x.window p.number).size ≤ 8
    rw [itemAt_lt hk]
    have := List.all_eq_true.1 (goodWin_iff.1 hg).2.2.2 _ (List.getElem_mem hk)
    unfold itm at this
    simp only [Bool.and_eq_true, decide_eq_true_eq] at this
    omega
  · decide
theorem resRequestTo_cv (x0 : Source) (x1 : Packet) (_h0 : wtSource x0 ≤ 1048576) (_h1 : wtPacket x1 ≤ 1048576) : cvSource ((resRequestTo x0 x1).1) ≤ 4294967296 ∧ cntL cntPacket ((resRequestTo x0 x1).2.1) ≤ 4294967296 := by
  unfold resRequestTo
  split
  · rename_i h
    unfold okRequestTo at h
    simp only [Bool.and_eq_true] at h
    have hg := h.1.1
    have g := goodS_of hg
    have hl := g.l
    have hm := g.m
    have hw := g.w
    refine ⟨cvSrc_le _ ?_ ?_, ?_⟩
    · show (reqS x0 x1.number).window.items.length ≤ _
      unfold reqS; split <;> (show x0.window.items.length ≤ _; omega)
    · show (reqS x0 x1.number).holds.length ≤ _
      unfold reqS
      split
      · show (addHold _ _ _).length ≤ _
        unfold addHold; simp; omega
      · omega
    · show cntL cntPacket (reqP x0 x1) ≤ _
      have := ans_small (p := x1) hw
      unfold reqP
      split
      · split <;> simp [cntL, cntPacket, cntI, cntS, confP]
      · simp [cntL, cntPacket, cntI, cntS, statP]
  · exact ⟨cvSrc_le _ (by decide) (by decide), by decide⟩
end Go.Proofs.YtidephmobajikaaGreatDoor
/- What every law's proof shares: the step from 'returns true, and nothing that was there has turned' to the row's post; how arguments read. -/
namespace Go.Proofs.YtidephmobajikaaGreatDoor
open Go.ChangeShapes Go.WideShapes Go.ChangeAt Go.RowKit

theorem trodAll_below {H : Type} {enc : TypeId × Value → H} {P : Program} (hl : laidOutB P = true) {W W' : World} (hb : Below W.heap.size W W') :
    ∀ (ts : List TypeId) (vs : List Value) (ds : List (DataW H)) (ps : List MemPlace), (∀ t ∈ ts, P.readableRec t = true ∧ t < P.types.size) →
      DataW.TrodAll enc P W 0 (fun _ => true) true ts vs ds ps → (∀ x ∈ ps, x.block < W.heap.size) → DataW.TrodAll enc P W' 0 (fun b => decide (b < W.heap.size)) true ts vs ds ps
  | [], vs, ds, ps, _, h, _ => by obtain ⟨rfl, rfl, rfl⟩ := trodAll_nil h; exact rfl
  | t :: ts, vs, ds, ps, ht, h, hlt => by
    obtain ⟨v, vs', d, ds', p, q, rfl, rfl, rfl, h1, h2⟩ := trodAll_cons h
    have ⟨a, b⟩ := ht t (by simp)
    exact ⟨p, q, Below.trod hl a b h1 hb fun x hx => hlt x (by simp [hx]), trodAll_below hl hb ts vs' ds' q (fun t h => ht t (by simp [h])) h2 fun x hx => hlt x (by simp [hx]), rfl⟩

/-- A law returned true and left all that was there aS it was: the row's post. -/
theorem law_post {H : Type} {enc : TypeId × Value → H} {P : Program} {f : Func} {s : ChangeSpec} {tb : TypeId} (hl : laidOutB P = true) (hr : ∀ t ∈ f.params.toList, P.readableRec t = true ∧ t < P.types.size)
    (hb : P.underlying tb = some .bool) (hres : f.resultTypes = #[tb]) (hv : s.vars = []) {W W' : World} {args : Array Value} {ds gs : List (DataW H)} {before : List MemPlace}
    (hs : s.fn H ds = { results := [.lit (.bool true)], args := ds }) (hW : DataW.Whole enc P f.params.toList s.vars false W args.toList ds gs before) (hB : Below W.heap.size W W') :
    s.post enc P f false true false false W args (.bool true) W' := by
  have hlt := hW.lt
  have hW0 := hW
  obtain ⟨p, q, hA, hV, rfl, _, _⟩ := hW0
  rw [hv] at hV
  obtain ⟨rfl, rfl⟩ := trodVars_none hV
  refine ⟨ds, [], p ++ [], [], p, [], hW, ?_, ?_, ?_, hB.frame _, fun h => by cases h⟩
  · rw [List.append_nil, hs, hres]
    exact trodAll_mk1 (shut_bool hb true)
  · rw [List.append_nil, hs]
    exact trodAll_below hl hB _ _ _ _ hr hA fun x hx => hlt x (by simpa using hx)
  · rw [hv, List.append_nil, hs]; exact rfl

/-- what reads aS data at type t reads by E -/
def Reads (P : Program) {α : Type} (E : Elem α) (t : TypeId) : Prop :=
  ∀ {H : Type} {enc : TypeId × Value → H} {w : World} {fuel : Nat} {cs : List Value} {x : DataW H × List MemPlace}, DataW.trod enc P w 0 (fun _ => true) true fuel t cs = some x → ∃ y F, E.rep w cs y F

section
variable {P : Program}
theorem reads_int {t : TypeId} (ht : P.underlying t = some (.int .i64)) : Reads P EInt t := fun h => by
  obtain ⟨n, rfl, _, _⟩ := DataW.trod_int ht h; exact ⟨n, [], rfl, rfl⟩
theorem reads_str {t : TypeId} (ht : P.underlying t = some .string) : Reads P EStr t := fun h => by
  obtain ⟨s, rfl, _, hs⟩ := DataW.trod_string ht h; exact ⟨s, [], rfl, hs, rfl⟩
theorem reads_cells {α : Type} {E : Elem α} {e : TypeId} (hsz : P.cellsOf e = E.sz) (he : Reads P E e) {H : Type} {enc : TypeId × Value → H} {w : World} {n b off : Nat} :
    ∀ (els : List (DataW H × List MemPlace)) (k : Nat), (∀ i, i < els.length → (w.cells? 0 ((⟨b, off, none⟩ : Addr).add ((k + i) * P.cellsOf e)) (P.cellsOf e)).bind (DataW.trod enc P w 0 (fun _ => true) true n e) = els[i]?) →
      ∃ ys F, ys.length = els.length ∧ Cells E w b (off + k * E.sz) ys F
  | [], _, _ => ⟨[], [], rfl, rfl⟩
  | x :: r, k, h => by
    have h0 := h 0 (by simp)
    simp only [Nat.add_zero, List.getElem?_cons_zero, Option.bind_eq_some_iff] at h0
    obtain ⟨cs, hc, hx⟩ := h0
    obtain ⟨y, F1, hy⟩ := he hx
    obtain ⟨ys, F2, hl, hys⟩ := reads_cells hsz he r (k + 1) fun i hi => by
      have := h (i + 1) (by simpa using hi)
      rw [show k + 1 + i = k + (i + 1) by omega]
      simpa using this
    refine ⟨y :: ys, F1 ++ F2, by simp [hl], cs, F1, F2, rfl, hy, fun j hj => ?_, by rwa [show off + k * E.sz + E.sz = off + (k + 1) * E.sz by rw [Nat.add_mul]; omega]⟩
    obtain ⟨_, hlen, hcell⟩ := World.cells?_some hc
    rw [← hcell j (by rw [hsz]; exact hj)]
    congr 1
    simp only [Addr.add, hsz]
    split <;> split <;> simp_all <;> omega
theorem reads_slice {α : Type} {E : Elem α} {t e : TypeId} (ht : P.underlying t = some (.slice e)) (hsz : P.cellsOf e = E.sz) (hz : 0 < E.sz) (he : Reads P E e) : Reads P (ESl E hz) t := fun h => by
  rcases DataW.trod_slice ht h with ⟨rfl, _⟩ | ⟨a, len, cap, elems, rest, n, rfl, rfl, _, _, hlc, hcm, hlen, hel, _, _⟩
  · exact ⟨[], [], _, rfl, none, 0, rfl, ⟨by simp, by simp⟩, .inl ⟨rfl, rfl, fun _ => rfl⟩⟩
  · by_cases h0 : len = 0
    · subst h0
      exact ⟨[], [], _, rfl, some a, cap, rfl, ⟨by simp, by omega⟩, .inl ⟨rfl, rfl, fun e => by cases e⟩⟩
    · have hs : a = ⟨a.block, a.off, none⟩ := by
        have := hel 0 (by omega)
        rw [List.getElem?_eq_getElem (by omega)] at this
        simp only [Option.bind_eq_some_iff] at this
        obtain ⟨cs, hc, _⟩ := this
        obtain ⟨_, hl2, hcell⟩ := World.cells?_some hc
        have h1 := hcell 0 (by omega)
        rw [List.getElem?_eq_getElem (by omega)] at h1
        simp [Addr.add, World.cell?] at h1
        split at h1 <;> simp_all
        cases a; simp_all
      obtain ⟨ys, F, hyl, hys⟩ := reads_cells hsz he elems 0 (n := n) (b := a.block) (off := a.off) (enc := _) (w := _) (by
        rw [← hs]; intro i hi; rw [Nat.zero_add]; exact hel i (by omega))
      refine ⟨ys, a.block :: F, _, rfl, some a, cap, by rw [hyl, hlen], ⟨by omega, by omega⟩, .inr ⟨a.block, a.off, F, by rw [← hs], ?_, rfl, by simpa using hys⟩⟩
      intro e; rw [e] at hyl; simp at hyl; omega
end

/-- the fields of a struct, one behind the other, each by its own reading -/
inductive FieldsOk (P : Program) : List Field → Nat → (α : Type) → Elem α → Prop
  | nil (off : Nat) : FieldsOk P [] off Unit EUnit
  | cons {f : Field} {r : List Field} {off : Nat} {α β : Type} {A : Elem α} {B : Elem β} (ho : f.offset = off) (hc : P.cellsOf f.type = A.sz) (hA : Reads P A f.type) (h : FieldsOk P r (off + A.sz) β B) : FieldsOk P (f :: r) off (α × β) (EProd A B)
theorem fields_read {P : Program} {H : Type} {enc : TypeId × Value → H} {w : World} {n : Nat} {cs : List Value} {fs : List Field} {off : Nat} {α : Type} {E : Elem α} (h : FieldsOk P fs off α E) :
    (∀ f ∈ fs, ∃ x, DataW.trod enc P w 0 (fun _ => true) true n f.type ((cs.drop f.offset).take (P.cellsOf f.type)) = some x) → off + E.sz = cs.length → ∃ y F, E.rep w (cs.drop off) y F := by
  induction h with
  | nil off => intro _ hl; exact ⟨(), [], List.drop_of_length_le (by simp [EUnit] at hl; omega), rfl⟩
  | @cons f r off α β A B ho hc hA _ ih =>
    intro hf hl
    obtain ⟨x, hx⟩ := hf f (by simp)
    obtain ⟨y, F1, hy⟩ := hA hx
    obtain ⟨y2, F2, hy2⟩ := ih (fun f h => hf f (by simp [h])) (by simp only [EProd] at hl; omega)
    subst ho
    exact ⟨(y, y2), F1 ++ F2, _, _, F1, F2, by rw [hc, ← List.drop_drop, List.take_append_drop], rfl, hy, hy2⟩
theorem reads_struct {P : Program} {t : TypeId} {fs : Array Field} {α : Type} {E : Elem α} (ht : P.underlying t = some (.struct fs)) (hC : P.cellsOf t = E.sz) (h : FieldsOk P fs.toList 0 α E) : Reads P E t := fun hh => by
  obtain ⟨xs, n, rfl, _, hcl, hxl, hx⟩ := DataW.trod_struct ht hh
  have := fields_read (enc := _) (w := _) (n := n) h (fun f hf => by
    obtain ⟨i, hi, rfl⟩ := List.getElem_of_mem hf
    have := hx i fs.toList[i] (by simp)
    rw [List.getElem?_eq_getElem (by simpa [hxl] using hi)] at this
    exact ⟨_, this⟩) (by rw [hcl, hC]; simp)
  simpa using this
end Go.Proofs.YtidephmobajikaaGreatDoor
/- Regions that draw: pure operations that may stand behind a store. -/
namespace Go.Proofs.YtidephmobajikaaGreatDoor
open Go.RowKit
section
variable {c : Cx} {fr : Fr} {H H0 : List Pc} {k : List It} {X : List Nat} {ops : Array Oper} {f : Nat} {listed : Array Bool} {d : Nat} {o : Op} {ty : TypeId} {pos : String} {aft : Array Edge} {v : Value}
end
end Go.Proofs.YtidephmobajikaaGreatDoor
/- What the walks of the exact laws need: structs by their cells as wholes, contracts of made values, marks. -/
namespace Go.Proofs.YtidephmobajikaaGreatDoor
open Go.RowKit
section
variable {c : Cx} {fr : Fr} {H H0 : List Pc} {k : List It} {Φ : Gl} {X : List Nat} {ops : Array Oper} {f : Nat} {listed : Array Bool} {d : Nat} {o : Op} {ty : TypeId} {v u : Value} {x y : Operand}
theorem t_weakV {α : Type} {O R : Elem α} (hW : Weak O R) {v : Value} {x : α} {F : List Nat} {S : List Pc} (h : ∀ F', T c fr (.isv R v x F' :: S) Φ) (hp : Pick H (.own O v x F) S := by (repeat (first | exact .here | apply Pick.there)); first | done | fail) : T c fr H Φ := .mk fun a w s g => by
  have s1 := s.pick hp
  obtain ⟨-, ho⟩ := s1.on (.own O v x F) (by simp)
  obtain ⟨F', hF, hs⟩ := IsV.weak hW ho
  exact (h F').h a w (s1.conv rfl hs hF) g
theorem t_weakL {α : Type} {O R : Elem α} (hW : Weak O R) {t : TypeId} {v : Value} {xs : List α} {F : List Nat} {S : List Pc} (h : ∀ F', T c fr (.sl R v xs F' :: S) Φ) (hp : Pick H (.ow O t v xs F) S := by (repeat (first | exact .here | apply Pick.there)); first | done | fail) (hz : 0 < R.sz := by decide) : T c fr H Φ := .mk fun a w s g => by
  have s1 := s.pick hp
  obtain ⟨-, ho⟩ := s1.on (.ow O t v xs F) (by simp)
  obtain ⟨F', hF, hs⟩ := ho.sl hW
  exact (h F').h a w (s1.conv rfl ⟨hz, hs⟩ hF) g
/-- a struct's value is its cells -/
theorem t_aggI {α : Type} {E : Elem α} {v : Value} {x : α} {F : List Nat} (one : One E) (h : ∀ cs : List Value, v = .agg cs.toArray → cs.length = E.sz → cs.all (·.oneCell') = true → T c fr H Φ) (hm : .isv E v x F ∈ H := by (repeat (first | exact .head _ | apply List.Mem.tail)); first | done | fail) : T c fr H Φ := .mk fun a w s g => by
  obtain ⟨cs, hv, hx⟩ := s.get hm
  exact (h cs hv (E.len hx) (List.all_eq_true.2 fun u hu => one hx u hu)).h a w s g
theorem t_aggO {α : Type} {E : Elem α} {v : Value} {x : α} {F : List Nat} (one : One E) (h : ∀ cs : List Value, v = .agg cs.toArray → cs.length = E.sz → cs.all (·.oneCell') = true → T c fr H Φ) (hm : .own E v x F ∈ H := by (repeat (first | exact .head _ | apply List.Mem.tail)); first | done | fail) : T c fr H Φ := .mk fun a w s g => by
  obtain ⟨-, cs, hv, hx⟩ := s.get hm
  exact (h cs hv (E.len hx) (List.all_eq_true.2 fun u hu => one hx u hu)).h a w s g
theorem Put.all : ∀ {zs l : List Value}, zs.length = l.length → Put zs 0 l l
  | [], [], _ => .zero
  | [], _ :: _, h => by simp at h
  | _ :: _, [], h => by simp at h
  | _ :: zs, _ :: l, h => .one (Put.all (by simpa using h))
/-- all of a box -/
theorem yd_ldw {P : Program} {n : Nat} {H : List Pc} {t g o tt m : Nat} {A cs B : List Value} [AggC P t m] (hx : ev fr x = some (ptr g o 0)) (hm : Pc.row g tt o A cs B ∈ H) (hl : cs.length = m) : Yd P n fr H (.load t x) ty (.agg cs.toArray) := yd_lda hx hm (hl ▸ Cut.whole cs)
/-- a call that makes values -/
theorem cm {f : Nat} {vs : List Value} {σ : Type} {C : σ → Prop} {vv : σ → Value} {N : σ → List Pc} (hc : ∀ w, St c.G c.D c.w0 H w → Calls c.P f vs.toArray w fun e w' => ∃ s, C s ∧ e = .returned (vv s) ∧ Hol (N s) w' ∧ (fp (N s)).Nodup ∧ (∀ b ∈ fp (N s), w.heap.size ≤ b) ∧ Below w.heap.size w w')
    (h : ∀ s, C s → T c ((d, vv s) :: fr) (N s ++ H) Φ) : Cl c fr H d f vs Φ :=
  cl_of hc (fun w e w' s hR => by
    obtain ⟨z, hz, he, hN, hn, hF, hB⟩ := hR
    have sep : ∀ {N : List Pc}, (fp N).Nodup → Sep N := by
      intro N
      induction N with
      | nil => intro _; trivial
      | cons p N ih =>
        intro h
        rw [fp, List.nodup_append] at h
        exact ⟨fun q hq _ b hb hq2 => h.2.2 b hb b (mem_fp.2 ⟨q, hq, hq2⟩) rfl, ih h.2.1⟩
    exact ⟨_, he, fun ac g => (h z hz).h ac w' (s.add (N := N z) hB hN (sep hn) (fun p hp b hb => .inl (hF b (mem_fp.2 ⟨p, hp, hb⟩)))) g⟩)
theorem d_startA {id : Nat} {l : List Oper} (X : List Nat) (h : T c fr H (.dx k H X l.toArray l.length (Array.replicate l.length false))) (hm : c.P.follows .mixedOrders = true := by kernel_rfl) : T c fr H (.code k (Code.region id l.toArray true)) := .mk fun a w s g => by
  refine AnyX.start (S := Hol H) (X := fun i => X.contains i) hm ?_
  have := h.h a w.drew (s.below (belowDrewN (Below.refl _ _) 1)) g
  simpa [Gl.sem] using this
theorem c_joinA {x : Code} {σ : Type} {cst : Fr} (ks : List Nat) (upd : σ → Fr) (chg : σ → List Pc) (C : σ → Prop) (h : T c fr H (.code (.lp (Jn c (fun s => upd s ++ cst) (fun s => chg s ++ H) C) :: k) x)) (h2 : ∀ s, C s → T c (upd s ++ cst) (chg s ++ H) (.norm k)) (_hk : Kf fr ks cst := by repeat (first | exact Kf.nil | apply Kf.cons (by rfl))) : T c fr H (.code k x) :=
  c_join _ _ C h h2
/-- what is behind a box that is stored into -/
theorem o_stw {t g tt m : Nat} {cs l : List Value} {S : List Pc} (hx : ev fr x = some (ptr g 0 0)) (hy : ev fr y = some (.agg l.toArray)) (hs : (c.P.info? t).map (·.size) = some m) (hr : Rpl H (.row g tt 0 [] cs []) (.row g tt 0 [] l []) S) (hl : l.length = m) (hc : cs.length = m) (h1 : l.all (·.oneCell') = true) (h : T c fr S Φ) : On c fr H none (.store t x y) ty Φ :=
  o_st hx hy rfl hs hl hr (Put.all (by omega)) h1 h
end
/-! contracts, with what they ask read off pieces -/
theorem ex1 {α : Type} {A : α → Prop} {C : Prop} (f : ∀ a, A a → C) : (∃ a, A a) → C := fun ⟨a, h⟩ => f a h
theorem ex2 {α β : Type} {A : α → Prop} {B : β → Prop} {C : Prop} (f : ∀ a b, A a → B b → C) : (∃ a, A a) → (∃ b, B b) → C := fun ⟨a, h⟩ ⟨b, h2⟩ => f a b h h2
section
variable {G D : List Nat} {w0 w : World} {H : List Pc}
theorem St.rI {α : Type} {E : Elem α} {v : Value} {x : α} {F : List Nat} (s : St G D w0 H w) (hm : .isv E v x F ∈ H := by (repeat (first | exact .head _ | apply List.Mem.tail)); first | done | fail) : ∃ F', IsV E w v x F' := ⟨F, s.get hm⟩
theorem St.rO {α : Type} {O R : Elem α} (hW : Weak O R) {v : Value} {x : α} {F : List Nat} (s : St G D w0 H w) (hm : .own O v x F ∈ H := by (repeat (first | exact .head _ | apply List.Mem.tail)); first | done | fail) : ∃ F', IsV R w v x F' := by
  obtain ⟨-, ho⟩ := s.get hm
  obtain ⟨F', -, h⟩ := IsV.weak hW ho
  exact ⟨F', h⟩
theorem St.rS {α : Type} {E : Elem α} {v : Value} {xs : List α} {F : List Nat} (s : St G D w0 H w) (hm : .sl E v xs F ∈ H := by (repeat (first | exact .head _ | apply List.Mem.tail)); first | done | fail) : ∃ F', Sl E w v xs F' := ⟨F, (s.get hm).2⟩
theorem St.rL {α : Type} {O R : Elem α} (hW : Weak O R) {t : TypeId} {v : Value} {xs : List α} {F : List Nat} (s : St G D w0 H w) (hm : .ow O t v xs F ∈ H := by (repeat (first | exact .head _ | apply List.Mem.tail)); first | done | fail) : ∃ F', Sl R w v xs F' := by
  obtain ⟨-, ho⟩ := s.get hm
  obtain ⟨F', -, h⟩ := ho.sl hW
  exact ⟨F', h⟩
end
theorem fn_markV {P : Program} {α : Type} {O : Elem α} {f : FuncId} {v : Value} {x x' : α} {F : List Nat} {k m : Int} (h : ∀ w, IsV O w v x F → F.Nodup → Calls P f #[v, .int .i64 k] w (RetMarkV O v m x' F w)) : Fn P f [v, .int .i64 k] [] [.own O v x F] (fun (_ : Unit) => True) (fun _ => .int .i64 m) (fun _ => [.own O v x' F]) := fun w hH _ => by
  obtain ⟨hn, ho⟩ := hH (.own O v x F) (by simp)
  refine (h w ho hn).mono ?_
  rintro e w' ⟨he, h1, h2⟩
  refine ⟨(), trivial, he, hol1 ⟨hn, h1⟩, ⟨by simp, trivial⟩, by simpa [fp, Pc.F] using h2, fun p hp b hb => ?_⟩
  rw [List.mem_singleton] at hp; subst hp
  exact .inr (.inl ⟨_, List.mem_singleton.2 rfl, hb⟩)
theorem fn_markL {P : Program} {α : Type} {O : Elem α} {t : TypeId} {f : FuncId} {v : Value} {x x' : List α} {F : List Nat} {k m : Int} (h : ∀ w, Ow O t w v x F → F.Nodup → Calls P f #[v, .int .i64 k] w (RetMark O t v m x' F w)) : Fn P f [v, .int .i64 k] [] [.ow O t v x F] (fun (_ : Unit) => True) (fun _ => .int .i64 m) (fun _ => [.ow O t v x' F]) := fun w hH _ => by
  obtain ⟨hn, ho⟩ := hH (.ow O t v x F) (by simp)
  refine (h w ho hn).mono ?_
  rintro e w' ⟨he, h1, h2⟩
  refine ⟨(), trivial, he, hol1 ⟨hn, h1⟩, ⟨by simp, trivial⟩, by simpa [fp, Pc.F] using h2, fun p hp b hb => ?_⟩
  rw [List.mem_singleton] at hp; subst hp
  exact .inr (.inl ⟨_, List.mem_singleton.2 rfl, hb⟩)
end Go.Proofs.YtidephmobajikaaGreatDoor
