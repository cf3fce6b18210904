/- Sources: what the reference drops, the holds that it keeps. -/
import Derived.Test.YtidephmobajikaaDoorSR4
namespace Go.Proofs.YtidephmobajikaaDoor
open Go.RowKit
set_option maxRecDepth 100000 in
theorem specDrop_f (x : SendWindow) (n : Int) (v : Value) (F : List Nat) : Fn Tryd.prog 32 [v, .int .i64 n] [.isv ESendWindow v x F] [] (fun (_ : Value × List Nat) => True)
    (fun s => .tuple #[s.1, .int .i64 (resDropItems x n).2.1, .bool (resDropItems x n).2.2]) (fun s => [.own OSendWindow s.1 (resDropItems x n).1 s.2]) := by
  refine enter Tryd.func32 rfl Tryd.ntmps32 fun w0 => ?_
  refine t_nilow EStr 9 ?_
  refine closeOSendWindow ⟨0, 0, []⟩ ?_
  refine openSendWindow ?_
  rintro a1 c1 F1 rfl l1
  repeat (first | apply c_seq | apply c_reg | (apply wO; apply oc; rfl; exact ydE) | apply w_nil | apply n_cd | (apply wg_t; rfl; rfl) | (apply wg_f; rfl; rfl; rfl; rfl) | (apply wg_u; rfl; rfl; rfl) | (apply c_t; rfl) | (apply c_f; rfl) | apply c_skip | apply c_block | apply n_blk | apply c_exit | apply e_hit | apply e_cd | apply e_lp | (apply e_miss; rfl) | apply c_ret | (apply wO; apply o_box; rfl; rfl; rfl; intro _) | (apply wO; apply o_alloc; rfl; intro _) | (apply wO; apply o_st; rfl; rfl; rfl; (first | exact AggC.s | exact OneC.s); rfl; exact rplE; exact putE; rfl) | (apply wO; apply o_bs0; rfl; intro _) | (apply wO; apply o_bs; rfl; rfl; rfl; rfl; exact rptE; exact filE; intro _) | (apply wO; apply o_call; rfl; kernel_rfl; exact evsE))
  cases g1 : goodWin x
  · refine d_start [1] [] ?_
    refine dt 0 ?_
    refine dO 1 (by kernel_rfl) (by rw [List.getElem?_toArray]; rfl) ?_
    apply o_call; rfl; kernel_rfl; exact evsE
    refine cb (fun w st => l9Good_c _ x _ w (st.get (p := .isv ESendWindow (.agg #[.int .i64 x.trail, .int .i64 x.size, .slice a1 x.items.length c1]) x F) (by simp))) ?_
    rw [g1]
    refine dk ?_
    refine dt 2 ?_
    refine dt 3 ?_
    refine ds 4 ?_
    refine ds 5 ?_
    refine ds 6 ?_
    refine dt 7 ?_
    refine dt 8 ?_
    refine ds 9 ?_
    refine ds 10 ?_
    refine ds 11 ?_
    refine ds 12 ?_
    refine ds 13 ?_
    refine ds 14 ?_
    refine ds 15 ?_
    refine ds 16 ?_
    refine dt 17 ?_
    refine dd ?_
    repeat (first | apply c_seq | apply c_reg | (apply wO; apply oc; rfl; exact ydE) | apply w_nil | apply n_cd | (apply wg_t; rfl; rfl) | (apply wg_f; rfl; rfl; rfl; rfl) | (apply wg_u; rfl; rfl; rfl) | (apply c_t; rfl) | (apply c_f; rfl) | apply c_skip | apply c_block | apply n_blk | apply c_exit | apply e_hit | apply e_cd | apply e_lp | (apply e_miss; rfl) | apply c_ret | (apply wO; apply o_box; rfl; rfl; rfl; intro _) | (apply wO; apply o_alloc; rfl; intro _) | (apply wO; apply o_st; rfl; rfl; rfl; (first | exact AggC.s | exact OneC.s); rfl; exact rplE; exact putE; rfl) | (apply wO; apply o_bs0; rfl; intro _) | (apply wO; apply o_bs; rfl; rfl; rfl; rfl; exact rptE; exact filE; intro _) | (apply wO; apply o_call; rfl; kernel_rfl; exact evsE))
    rw [drop_no (by unfold okDropItems; rw [g1]; simp)]
    refine ret (_, _) trivial rfl
  obtain ⟨⟨t0, t1⟩, ⟨s0, s1⟩, s2, -⟩ := goodWin_iff.1 g1
  cases g2 : isSer n
  · refine d_start [1] [] ?_
    refine dt 0 ?_
    refine dO 1 (by kernel_rfl) (by rw [List.getElem?_toArray]; rfl) ?_
    apply o_call; rfl; kernel_rfl; exact evsE
    refine cb (fun w st => l9Good_c _ x _ w (st.get (p := .isv ESendWindow (.agg #[.int .i64 x.trail, .int .i64 x.size, .slice a1 x.items.length c1]) x F) (by simp))) ?_
    rw [g1]
    refine dk ?_
    refine dt 2 ?_
    refine dt 3 ?_
    refine dtg 4 ?_
    refine d1g 5 ?_
    apply On.h
    apply o_call; rfl; kernel_rfl; exact evsE
    refine ce (fun w s => l2Good_c _ _) ?_
    rw [g2]
    refine dk ?_
    refine dtg 6 ?_
    refine dt 7 ?_
    refine dt 8 ?_
    refine ds 9 ?_
    refine ds 10 ?_
    refine ds 11 ?_
    refine ds 12 ?_
    refine ds 13 ?_
    refine ds 14 ?_
    refine ds 15 ?_
    refine ds 16 ?_
    refine dt 17 ?_
    refine dd ?_
    repeat (first | apply c_seq | apply c_reg | (apply wO; apply oc; rfl; exact ydE) | apply w_nil | apply n_cd | (apply wg_t; rfl; rfl) | (apply wg_f; rfl; rfl; rfl; rfl) | (apply wg_u; rfl; rfl; rfl) | (apply c_t; rfl) | (apply c_f; rfl) | apply c_skip | apply c_block | apply n_blk | apply c_exit | apply e_hit | apply e_cd | apply e_lp | (apply e_miss; rfl) | apply c_ret | (apply wO; apply o_box; rfl; rfl; rfl; intro _) | (apply wO; apply o_alloc; rfl; intro _) | (apply wO; apply o_st; rfl; rfl; rfl; (first | exact AggC.s | exact OneC.s); rfl; exact rplE; exact putE; rfl) | (apply wO; apply o_bs0; rfl; intro _) | (apply wO; apply o_bs; rfl; rfl; rfl; rfl; exact rptE; exact filE; intro _) | (apply wO; apply o_call; rfl; kernel_rfl; exact evsE))
    rw [drop_no (by unfold okDropItems; rw [g1, g2]; simp)]
    refine ret (_, _) trivial rfl
  obtain ⟨n0, n1⟩ := isSer_iff.1 g2
  have hgp := gp_bd x.trail n
  refine d_start [1] [] ?_
  refine dt 0 ?_
  refine dO 1 (by kernel_rfl) (by rw [List.getElem?_toArray]; rfl) ?_
  apply o_call; rfl; kernel_rfl; exact evsE
  refine cb (fun w st => l9Good_c _ x _ w (st.get (p := .isv ESendWindow (.agg #[.int .i64 x.trail, .int .i64 x.size, .slice a1 x.items.length c1]) x F) (by simp))) ?_
  rw [g1]
  refine dk ?_
  refine dt 2 ?_
  refine dt 3 ?_
  refine dtg 4 ?_
  refine d1g 5 ?_
  apply On.h
  apply o_call; rfl; kernel_rfl; exact evsE
  refine ce (fun w s => l2Good_c _ _) ?_
  rw [g2]
  refine dk ?_
  refine dtg 6 ?_
  refine dt 7 ?_
  refine dt 8 ?_
  refine dtg 9 ?_
  refine dtg 10 ?_
  refine dtg 11 ?_
  refine dtg 13 ?_
  refine dtg 14 ?_
  refine dtg 15 ?_
  refine d1g 12 ?_
  apply On.h
  apply o_call; rfl; kernel_rfl; exact evsE
  refine ce (fun w s => l2Gap_c _ _ _ (by omega) (by omega)) ?_
  refine dk ?_
  refine dtg 16 ?_
  refine dt 17 ?_
  refine dd ?_
  repeat (first | apply c_seq | apply c_reg | (apply wO; apply oc; rfl; exact ydE) | apply w_nil | apply n_cd | (apply wg_t; rfl; rfl) | (apply wg_f; rfl; rfl; rfl; rfl) | (apply wg_u; rfl; rfl; rfl) | (apply c_t; rfl) | (apply c_f; rfl) | apply c_skip | apply c_block | apply n_blk | apply c_exit | apply e_hit | apply e_cd | apply e_lp | (apply e_miss; rfl) | apply c_ret | (apply wO; apply o_box; rfl; rfl; rfl; intro _) | (apply wO; apply o_alloc; rfl; intro _) | (apply wO; apply o_st; rfl; rfl; rfl; (first | exact AggC.s | exact OneC.s); rfl; exact rplE; exact putE; rfl) | (apply wO; apply o_bs0; rfl; intro _) | (apply wO; apply o_bs; rfl; rfl; rfl; rfl; exact rptE; exact filE; intro _) | (apply wO; apply o_call; rfl; kernel_rfl; exact evsE))
  refine c_if rfl (fun h3 => ?_) (fun h3 => ?_)
  · repeat (first | apply c_seq | apply c_reg | (apply wO; apply oc; rfl; exact ydE) | apply w_nil | apply n_cd | (apply wg_t; rfl; rfl) | (apply wg_f; rfl; rfl; rfl; rfl) | (apply wg_u; rfl; rfl; rfl) | (apply c_t; rfl) | (apply c_f; rfl) | apply c_skip | apply c_block | apply n_blk | apply c_exit | apply e_hit | apply e_cd | apply e_lp | (apply e_miss; rfl) | apply c_ret | (apply wO; apply o_box; rfl; rfl; rfl; intro _) | (apply wO; apply o_alloc; rfl; intro _) | (apply wO; apply o_st; rfl; rfl; rfl; (first | exact AggC.s | exact OneC.s); rfl; exact rplE; exact putE; rfl) | (apply wO; apply o_bs0; rfl; intro _) | (apply wO; apply o_bs; rfl; rfl; rfl; rfl; exact rptE; exact filE; intro _) | (apply wO; apply o_call; rfl; kernel_rfl; exact evsE))
    rw [drop_no (by unfold okDropItems; rw [g1, g2, decide_eq_false (by omega)]; simp)]
    refine ret (_, _) trivial rfl
  have hr : resDropItems x n = (⟨aft x.trail (gp x.trail n), x.size, x.items.drop (gp x.trail n).toNat⟩, gp x.trail n, true) := by
    unfold resDropItems; rw [if_pos]; unfold okDropItems; rw [g1, g2, decide_eq_true (by omega)]; rfl
  rw [hr]
  repeat (first | apply c_seq | apply c_reg | (apply wO; apply oc; rfl; exact ydE) | apply w_nil | apply n_cd | (apply wg_t; rfl; rfl) | (apply wg_f; rfl; rfl; rfl; rfl) | (apply wg_u; rfl; rfl; rfl) | (apply c_t; rfl) | (apply c_f; rfl) | apply c_skip | apply c_block | apply n_blk | apply c_exit | apply e_hit | apply e_cd | apply e_lp | (apply e_miss; rfl) | apply c_ret | (apply wO; apply o_box; rfl; rfl; rfl; intro _) | (apply wO; apply o_alloc; rfl; intro _) | (apply wO; apply o_st; rfl; rfl; rfl; (first | exact AggC.s | exact OneC.s); rfl; exact rplE; exact putE; rfl) | (apply wO; apply o_bs0; rfl; intro _) | (apply wO; apply o_bs; rfl; rfl; rfl; rfl; exact rptE; exact filE; intro _) | (apply wO; apply o_call; rfl; kernel_rfl; exact evsE))
  refine ce (fun w s => l2Gap_c _ _ _ (by omega) (by omega)) ?_
  obtain ⟨k, hk⟩ : ∃ k : Nat, gp x.trail n = k := ⟨(gp x.trail n).toNat, by omega⟩
  rw [hk]
  repeat (first | apply c_seq | apply c_reg | (apply wO; apply oc; rfl; exact ydE) | apply w_nil | apply n_cd | (apply wg_t; rfl; rfl) | (apply wg_f; rfl; rfl; rfl; rfl) | (apply wg_u; rfl; rfl; rfl) | (apply c_t; rfl) | (apply c_f; rfl) | apply c_skip | apply c_block | apply n_blk | apply c_exit | apply e_hit | apply e_cd | apply e_lp | (apply e_miss; rfl) | apply c_ret | (apply wO; apply o_box; rfl; rfl; rfl; intro _) | (apply wO; apply o_alloc; rfl; intro _) | (apply wO; apply o_st; rfl; rfl; rfl; (first | exact AggC.s | exact OneC.s); rfl; exact rplE; exact putE; rfl) | (apply wO; apply o_bs0; rfl; intro _) | (apply wO; apply o_bs; rfl; rfl; rfl; rfl; exact rptE; exact filE; intro _) | (apply wO; apply o_call; rfl; kernel_rfl; exact evsE))
  refine cv (fun w st => l9Drop_c _ x _ k w (st.get (p := .isv ESendWindow (.agg #[.int .i64 x.trail, .int .i64 x.size, .slice a1 x.items.length c1]) x F) (by simp)) (by omega) (by omega) (isSer_iff.2 ⟨t0, t1⟩)) fun v F5 => ?_
  refine openOSendWindow ?_
  rintro a5 c5 F6 e5 l5
  rw [e5]
  repeat (first | apply c_seq | apply c_reg | (apply wO; apply oc; rfl; exact ydE) | apply w_nil | apply n_cd | (apply wg_t; rfl; rfl) | (apply wg_f; rfl; rfl; rfl; rfl) | (apply wg_u; rfl; rfl; rfl) | (apply c_t; rfl) | (apply c_f; rfl) | apply c_skip | apply c_block | apply n_blk | apply c_exit | apply e_hit | apply e_cd | apply e_lp | (apply e_miss; rfl) | apply c_ret | (apply wO; apply o_box; rfl; rfl; rfl; intro _) | (apply wO; apply o_alloc; rfl; intro _) | (apply wO; apply o_st; rfl; rfl; rfl; (first | exact AggC.s | exact OneC.s); rfl; exact rplE; exact putE; rfl) | (apply wO; apply o_bs0; rfl; intro _) | (apply wO; apply o_bs; rfl; rfl; rfl; rfl; exact rptE; exact filE; intro _) | (apply wO; apply o_call; rfl; kernel_rfl; exact evsE))
  refine closeOSendWindow ⟨aft x.trail k, x.size, x.items.drop k⟩ ?_
  refine ret (_, _) trivial rfl

def keepU (W : SendWindow) (cl : Int) (hs : List Hold) : List Hold := hs.filter fun h => heldB W h.number && decide (cl < h.untl)
theorem keepU_eq {W : SendWindow} {cl : Int} {hs : List Hold} (h : ∀ z ∈ hs, cl + 1 ≤ z.untl) : keepU W cl hs = keepH W hs := by
  unfold keepU keepH
  refine List.filter_congr fun z hz => ?_
  rw [decide_eq_true (show cl < z.untl by have := h z hz; omega), Bool.and_true]
theorem rep_hold (h : Hold) (w : World) : Flat EHold w [.int .i64 h.number, .int .i64 h.untl] [h] [] := ⟨_, [], [], [], by simp, by simp, ⟨rfl, rfl⟩, rfl, rfl⟩
structure HoS where
  k : Nat
  a : Option Addr
  c : Nat
  F : List Nat
set_option maxRecDepth 100000 in
theorem l11Holds_f (W : SendWindow) (hs : List Hold) (cl : Int) (v : Value) (a2 : Option Addr) (c2 : Nat) (F G : List Nat) (t0 : 0 ≤ W.trail) (t1 : W.trail ≤ 65535) (hl : hs.length ≤ 1000) (hn : ∀ h ∈ hs, isSer h.number = true) :
    Fn Tryd.prog 199 [.slice a2 hs.length c2, v, .int .i64 cl] [.isv ESendWindow v W F, .sl EHold (.slice a2 hs.length c2) hs G] [] (fun (_ : Option Addr × Nat × List Nat) => True)
      (fun z => .slice z.1 (keepU W cl hs).length z.2.1) (fun z => [.ow EHold 195 (.slice z.1 (keepU W cl hs).length z.2.1) (keepU W cl hs) z.2.2]) := by
  refine enter Tryd.func199 rfl Tryd.ntmps199 fun w0 => ?_
  refine openSendWindow ?_
  rintro a1 c1 F1 rfl l1
  repeat (first | apply c_seq | apply c_reg | (apply wO; apply oc; rfl; exact ydE) | apply w_nil | apply n_cd | (apply wg_t; rfl; rfl) | (apply wg_f; rfl; rfl; rfl; rfl) | (apply wg_u; rfl; rfl; rfl) | (apply c_t; rfl) | (apply c_f; rfl) | apply c_skip | apply c_block | apply n_blk | apply c_exit | apply e_hit | apply e_cd | apply e_lp | (apply e_miss; rfl) | apply c_ret | (apply wO; apply o_box; rfl; rfl; rfl; intro _) | (apply wO; apply o_alloc; rfl; intro _) | (apply wO; apply o_st; rfl; rfl; rfl; (first | exact AggC.s | exact OneC.s); rfl; exact rplE; exact putE; rfl) | (apply wO; apply o_bs0; rfl; intro _) | (apply wO; apply o_bs; rfl; rfl; rfl; rfl; exact rptE; exact filE; intro _) | (apply wO; apply o_call; rfl; kernel_rfl; exact evsE))
  refine t_emp EHold ?_
  refine c_loopS [0, 2, 4, 6] (fun s : HoS => [(7, .slice s.a (keepU W cl (hs.take s.k)).length s.c), (8, .int .i64 s.k)]) (fun s => [.ow EHold 195 (.slice s.a (keepU W cl (hs.take s.k)).length s.c) (keepU W cl (hs.take s.k)) s.F]) (fun s => s.k ≤ hs.length) (fun s => hs.length - s.k) ⟨0, _, 0, _⟩ (Nat.zero_le _) fun s hk => ?_
  obtain ⟨k, a5, c5, F5⟩ := s
  dsimp only at hk ⊢
  repeat (first | apply c_seq | apply c_reg | (apply wO; apply oc; rfl; exact ydE) | apply w_nil | apply n_cd | (apply wg_t; rfl; rfl) | (apply wg_f; rfl; rfl; rfl; rfl) | (apply wg_u; rfl; rfl; rfl) | (apply c_t; rfl) | (apply c_f; rfl) | apply c_skip | apply c_block | apply n_blk | apply c_exit | apply e_hit | apply e_cd | apply e_lp | (apply e_miss; rfl) | apply c_ret | (apply wO; apply o_box; rfl; rfl; rfl; intro _) | (apply wO; apply o_alloc; rfl; intro _) | (apply wO; apply o_st; rfl; rfl; rfl; (first | exact AggC.s | exact OneC.s); rfl; exact rplE; exact putE; rfl) | (apply wO; apply o_bs0; rfl; intro _) | (apply wO; apply o_bs; rfl; rfl; rfl; rfl; exact rptE; exact filE; intro _) | (apply wO; apply o_call; rfl; kernel_rfl; exact evsE))
  refine c_if rfl (fun h3 => ?_) (fun h3 => ?_)
  · have hk3 : k < hs.length := by omega
    obtain ⟨n0, n1⟩ := isSer_iff.1 (hn hs[k] (List.getElem_mem hk3))
    have hkl : (keepU W cl (hs.take k)).length ≤ 1000 := by have := List.length_filter_le (fun h : Hold => heldB W h.number && decide (cl < h.untl)) (hs.take k); unfold keepU; simp only [List.length_take] at this; omega
    refine atHold (xs := hs) k ?_
    rintro hi b o e
    rw [e]
    cases g5 : heldB W hs[k].number
    · repeat (first | apply c_seq | apply c_reg | (apply wO; apply oc; rfl; exact ydE) | apply w_nil | apply n_cd | (apply wg_t; rfl; rfl) | (apply wg_f; rfl; rfl; rfl; rfl) | (apply wg_u; rfl; rfl; rfl) | (apply c_t; rfl) | (apply c_f; rfl) | apply c_skip | apply c_block | apply n_blk | apply c_exit | apply e_hit | apply e_cd | apply e_lp | (apply e_miss; rfl) | apply c_ret | (apply wO; apply o_box; rfl; rfl; rfl; intro _) | (apply wO; apply o_alloc; rfl; intro _) | (apply wO; apply o_st; rfl; rfl; rfl; (first | exact AggC.s | exact OneC.s); rfl; exact rplE; exact putE; rfl) | (apply wO; apply o_bs0; rfl; intro _) | (apply wO; apply o_bs; rfl; rfl; rfl; rfl; exact rptE; exact filE; intro _))
      refine d_start [0, 2] [] ?_
      refine dt 0 ?_
      refine dt 1 ?_
      refine dt 2 ?_
      refine dt 3 ?_
      refine dt 4 ?_
      refine dt 5 ?_
      refine dO 6 (by kernel_rfl) (by rw [List.getElem?_toArray]; rfl) ?_
      apply o_call; rfl; kernel_rfl; exact evsE
      refine cb (fun w st => (l9Held_f W hs[k].number _ _ t0 t1 n0 n1).val w (hol1 (st.get (p := .isv ESendWindow (.agg #[.int .i64 W.trail, .int .i64 W.size, .slice a1 W.items.length c1]) W F) (by simp)))) ?_
      rw [g5]
      refine dk ?_
      refine dt 7 ?_
      refine ds 8 ?_
      refine ds 9 ?_
      refine ds 10 ?_
      refine ds 11 ?_
      refine ds 12 ?_
      refine ds 13 ?_
      refine ds 14 ?_
      refine dt 15 ?_
      refine dd ?_
      repeat (first | apply c_seq | apply c_reg | (apply wO; apply oc; rfl; exact ydE) | apply w_nil | apply n_cd | (apply wg_t; rfl; rfl) | (apply wg_f; rfl; rfl; rfl; rfl) | (apply wg_u; rfl; rfl; rfl) | (apply c_t; rfl) | (apply c_f; rfl) | apply c_skip | apply c_block | apply n_blk | apply c_exit | apply e_hit | apply e_cd | apply e_lp | (apply e_miss; rfl) | apply c_ret | (apply wO; apply o_box; rfl; rfl; rfl; intro _) | (apply wO; apply o_alloc; rfl; intro _) | (apply wO; apply o_st; rfl; rfl; rfl; (first | exact AggC.s | exact OneC.s); rfl; exact rplE; exact putE; rfl) | (apply wO; apply o_bs0; rfl; intro _) | (apply wO; apply o_bs; rfl; rfl; rfl; rfl; exact rptE; exact filE; intro _) | (apply wO; apply o_call; rfl; kernel_rfl; exact evsE))
      have hf : keepU W cl (hs.take (k + 1)) = keepU W cl (hs.take k) := filter_take_no hk3 (by rw [g5]; rfl)
      rw [← hf]
      refine n_lp ⟨k + 1, a5, c5, F5⟩ hk3 (by show hs.length - (k + 1) < _; omega)
    · repeat (first | apply c_seq | apply c_reg | (apply wO; apply oc; rfl; exact ydE) | apply w_nil | apply n_cd | (apply wg_t; rfl; rfl) | (apply wg_f; rfl; rfl; rfl; rfl) | (apply wg_u; rfl; rfl; rfl) | (apply c_t; rfl) | (apply c_f; rfl) | apply c_skip | apply c_block | apply n_blk | apply c_exit | apply e_hit | apply e_cd | apply e_lp | (apply e_miss; rfl) | apply c_ret | (apply wO; apply o_box; rfl; rfl; rfl; intro _) | (apply wO; apply o_alloc; rfl; intro _) | (apply wO; apply o_st; rfl; rfl; rfl; (first | exact AggC.s | exact OneC.s); rfl; exact rplE; exact putE; rfl) | (apply wO; apply o_bs0; rfl; intro _) | (apply wO; apply o_bs; rfl; rfl; rfl; rfl; exact rptE; exact filE; intro _))
      refine d_start [0, 2] [] ?_
      refine dt 0 ?_
      refine dt 1 ?_
      refine dt 2 ?_
      refine dt 3 ?_
      refine dt 4 ?_
      refine dt 5 ?_
      refine dO 6 (by kernel_rfl) (by rw [List.getElem?_toArray]; rfl) ?_
      apply o_call; rfl; kernel_rfl; exact evsE
      refine cb (fun w st => (l9Held_f W hs[k].number _ _ t0 t1 n0 n1).val w (hol1 (st.get (p := .isv ESendWindow (.agg #[.int .i64 W.trail, .int .i64 W.size, .slice a1 W.items.length c1]) W F) (by simp)))) ?_
      rw [g5]
      refine dk ?_
      refine dt 7 ?_
      refine dtg 8 ?_
      refine dtg 9 ?_
      refine dtg 10 ?_
      refine dtg 11 ?_
      refine dtg 12 ?_
      refine dtg 13 ?_
      refine dtg 14 ?_
      refine dt 15 ?_
      refine dd ?_
      repeat (first | apply c_seq | apply c_reg | (apply wO; apply oc; rfl; exact ydE) | apply w_nil | apply n_cd | (apply wg_t; rfl; rfl) | (apply wg_f; rfl; rfl; rfl; rfl) | (apply wg_u; rfl; rfl; rfl) | (apply c_t; rfl) | (apply c_f; rfl) | apply c_skip | apply c_block | apply n_blk | apply c_exit | apply e_hit | apply e_cd | apply e_lp | (apply e_miss; rfl) | apply c_ret | (apply wO; apply o_box; rfl; rfl; rfl; intro _) | (apply wO; apply o_alloc; rfl; intro _) | (apply wO; apply o_st; rfl; rfl; rfl; (first | exact AggC.s | exact OneC.s); rfl; exact rplE; exact putE; rfl) | (apply wO; apply o_bs0; rfl; intro _) | (apply wO; apply o_bs; rfl; rfl; rfl; rfl; exact rptE; exact filE; intro _) | (apply wO; apply o_call; rfl; kernel_rfl; exact evsE))
      refine c_if rfl (fun h5 => ?_) (fun h5 => ?_)
      · repeat (first | apply c_seq | apply c_reg | (apply wO; apply oc; rfl; exact ydE) | apply w_nil | apply n_cd | (apply wg_t; rfl; rfl) | (apply wg_f; rfl; rfl; rfl; rfl) | (apply wg_u; rfl; rfl; rfl) | (apply c_t; rfl) | (apply c_f; rfl) | apply c_skip | apply c_block | apply n_blk | apply c_exit | apply e_hit | apply e_cd | apply e_lp | (apply e_miss; rfl) | apply c_ret | (apply wO; apply o_box; rfl; rfl; rfl; intro _) | (apply wO; apply o_alloc; rfl; intro _) | (apply wO; apply o_st; rfl; rfl; rfl; (first | exact AggC.s | exact OneC.s); rfl; exact rplE; exact putE; rfl) | (apply wO; apply o_bs0; rfl; intro _) | (apply wO; apply o_bs; rfl; rfl; rfl; rfl; exact rptE; exact filE; intro _) | (apply wO; apply o_call; rfl; kernel_rfl; exact evsE))
        apply wO
        refine ap1 (rep_hold hs[k]) one_EHold fun a6 c6 F6 => ?_
        have hf : keepU W cl (hs.take (k + 1)) = keepU W cl (hs.take k) ++ [hs[k]] := filter_take_yes hk3 (by rw [g5, decide_eq_true h5]; rfl)
        rw [← hf]
        repeat (first | apply c_seq | apply c_reg | (apply wO; apply oc; rfl; exact ydE) | apply w_nil | apply n_cd | (apply wg_t; rfl; rfl) | (apply wg_f; rfl; rfl; rfl; rfl) | (apply wg_u; rfl; rfl; rfl) | (apply c_t; rfl) | (apply c_f; rfl) | apply c_skip | apply c_block | apply n_blk | apply c_exit | apply e_hit | apply e_cd | apply e_lp | (apply e_miss; rfl) | apply c_ret | (apply wO; apply o_box; rfl; rfl; rfl; intro _) | (apply wO; apply o_alloc; rfl; intro _) | (apply wO; apply o_st; rfl; rfl; rfl; (first | exact AggC.s | exact OneC.s); rfl; exact rplE; exact putE; rfl) | (apply wO; apply o_bs0; rfl; intro _) | (apply wO; apply o_bs; rfl; rfl; rfl; rfl; exact rptE; exact filE; intro _) | (apply wO; apply o_call; rfl; kernel_rfl; exact evsE))
        refine n_lp ⟨k + 1, a6, c6, F6⟩ hk3 (by show hs.length - (k + 1) < _; omega)
      · repeat (first | apply c_seq | apply c_reg | (apply wO; apply oc; rfl; exact ydE) | apply w_nil | apply n_cd | (apply wg_t; rfl; rfl) | (apply wg_f; rfl; rfl; rfl; rfl) | (apply wg_u; rfl; rfl; rfl) | (apply c_t; rfl) | (apply c_f; rfl) | apply c_skip | apply c_block | apply n_blk | apply c_exit | apply e_hit | apply e_cd | apply e_lp | (apply e_miss; rfl) | apply c_ret | (apply wO; apply o_box; rfl; rfl; rfl; intro _) | (apply wO; apply o_alloc; rfl; intro _) | (apply wO; apply o_st; rfl; rfl; rfl; (first | exact AggC.s | exact OneC.s); rfl; exact rplE; exact putE; rfl) | (apply wO; apply o_bs0; rfl; intro _) | (apply wO; apply o_bs; rfl; rfl; rfl; rfl; exact rptE; exact filE; intro _) | (apply wO; apply o_call; rfl; kernel_rfl; exact evsE))
        have hf : keepU W cl (hs.take (k + 1)) = keepU W cl (hs.take k) := filter_take_no hk3 (by rw [g5, decide_eq_false h5]; rfl)
        rw [← hf]
        refine n_lp ⟨k + 1, a5, c5, F5⟩ hk3 (by show hs.length - (k + 1) < _; omega)
  · have hkl : k = hs.length := by omega
    subst hkl
    rw [List.take_length]
    repeat (first | apply c_seq | apply c_reg | (apply wO; apply oc; rfl; exact ydE) | apply w_nil | apply n_cd | (apply wg_t; rfl; rfl) | (apply wg_f; rfl; rfl; rfl; rfl) | (apply wg_u; rfl; rfl; rfl) | (apply c_t; rfl) | (apply c_f; rfl) | apply c_skip | apply c_block | apply n_blk | apply c_exit | apply e_hit | apply e_cd | apply e_lp | (apply e_miss; rfl) | apply c_ret | (apply wO; apply o_box; rfl; rfl; rfl; intro _) | (apply wO; apply o_alloc; rfl; intro _) | (apply wO; apply o_st; rfl; rfl; rfl; (first | exact AggC.s | exact OneC.s); rfl; exact rplE; exact putE; rfl) | (apply wO; apply o_bs0; rfl; intro _) | (apply wO; apply o_bs; rfl; rfl; rfl; rfl; exact rptE; exact filE; intro _) | (apply wO; apply o_call; rfl; kernel_rfl; exact evsE))
    refine ret (a5, c5, F5) trivial rfl
end Go.Proofs.YtidephmobajikaaDoor
