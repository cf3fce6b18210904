/- Links: SendOn. -/
import Derived.Test.YtkcajnpdmgafjaaDoorLK1
namespace Go.Proofs.YtkcajnpdmgafjaaDoor
open Go.RowKit
def zL : Link := ⟨[], ⟨#[]⟩, 0⟩
def okSendOn (x : Link) (s : ByteArray) : Bool := goodLink x && sendOk x s
def resSendOn (x : Link) (s : ByteArray) : Link × Bool := if okSendOn x s then (sentL x s, true) else (zL, false)
theorem resSendOn_no {x : Link} {s : ByteArray} (h : okSendOn x s = false) : resSendOn x s = (zL, false) := by unfold resSendOn; rw [h]; rfl
theorem resSendOn_yes {x : Link} {s : ByteArray} (h : okSendOn x s = true) : resSendOn x s = (sentL x s, true) := by unfold resSendOn; rw [h]; rfl
theorem zs_size : (⟨#[]⟩ : ByteArray).size ≤ maxLen := by decide
def PS_SendOn : Link × Bool → World → Ending → World → Prop := fun (r0, r1) w e w' => ∃ u0 G0, e = .returned (.tuple #[u0, .bool r1]) ∧ IsV ELink w' u0 r0 G0 ∧ Below w.heap.size w w'
def PI_SendOn : Link × Bool → World → Ending → World → Prop := fun (r0, r1) w e w' => ∃ u0 G0, e = .returned (.tuple #[u0, .bool r1]) ∧ IsV OLink w' u0 r0 G0 ∧ (G0).Nodup ∧ (∀ b ∈ G0, w.heap.size ≤ b) ∧ Below w.heap.size w w'
set_option maxRecDepth 100000 in
theorem SendOn_f (x : Link) (item : ByteArray) (v : Value) (F : List Nat) (hi : item.size ≤ maxLen) :
    Fn Tryd.prog 17 [v, .string item] [.isv ELink v x F] [] (fun (_ : LinkS) => True)
      (fun s => .tuple #[.agg #[.slice s.a (resSendOn x item).1.queue.length s.c, .string (resSendOn x item).1.fates, .int .i64 (resSendOn x item).1.used], .bool (resSendOn x item).2]) (fun s => [.own OLink (.agg #[.slice s.a (resSendOn x item).1.queue.length s.c, .string (resSendOn x item).1.fates, .int .i64 (resSendOn x item).1.used]) (resSendOn x item).1 s.F]) := by
  refine enter Tryd.func17 rfl Tryd.ntmps17 fun w0 => ?_
  refine t_nilow EStr 9 ?_
  refine closeOLink zL zs_size ?_
  refine openLink ?_
  rintro a1 c1 F1 rfl l1 l2
  repeat (first | apply c_seq | apply c_reg | (apply wO; apply oc; rfl; exact ydE) | apply w_nil | apply n_cd | (apply wg_t; rfl; rfl) | (apply wg_f; rfl; rfl; rfl; rfl) | (apply wg_u; rfl; rfl; rfl) | (apply c_t; rfl) | (apply c_f; rfl) | apply c_skip | apply c_block | apply n_blk | apply c_exit | apply e_hit | apply e_cd | apply e_lp | (apply e_miss; rfl) | apply c_ret | (apply wO; apply o_box; rfl; rfl; rfl; intro _) | (apply wO; apply o_alloc; rfl; intro _) | (apply wO; apply o_st; rfl; rfl; rfl; (first | exact AggC.s | exact OneC.s); rfl; exact rplE; exact putE; rfl) | (apply wO; apply o_bs0; rfl; intro _) | (apply wO; apply o_bs; rfl; rfl; rfl; rfl; exact rptE; exact filE; intro _) | (apply wO; apply o_call; rfl; kernel_rfl; exact evsE))
  refine cb (fun w st => IsValidLink_c _ x _ w (st.get (p := .isv ELink (.agg #[.slice a1 x.queue.length c1, .string x.fates, .int .i64 x.used]) x F) (by simp))) ?_
  cases g1 : goodLink x
  · repeat (first | apply c_seq | apply c_reg | (apply wO; apply oc; rfl; exact ydE) | apply w_nil | apply n_cd | (apply wg_t; rfl; rfl) | (apply wg_f; rfl; rfl; rfl; rfl) | (apply wg_u; rfl; rfl; rfl) | (apply c_t; rfl) | (apply c_f; rfl) | apply c_skip | apply c_block | apply n_blk | apply c_exit | apply e_hit | apply e_cd | apply e_lp | (apply e_miss; rfl) | apply c_ret | (apply wO; apply o_box; rfl; rfl; rfl; intro _) | (apply wO; apply o_alloc; rfl; intro _) | (apply wO; apply o_st; rfl; rfl; rfl; (first | exact AggC.s | exact OneC.s); rfl; exact rplE; exact putE; rfl) | (apply wO; apply o_bs0; rfl; intro _) | (apply wO; apply o_bs; rfl; rfl; rfl; rfl; exact rptE; exact filE; intro _) | (apply wO; apply o_call; rfl; kernel_rfl; exact evsE))
    rw [resSendOn_no (by unfold okSendOn; rw [g1]; rfl)]
    refine ret ⟨none, 0, []⟩ trivial rfl
  obtain ⟨hl, hq, hf, hu0, hu1⟩ := goodL_of g1
  repeat (first | apply c_seq | apply c_reg | (apply wO; apply oc; rfl; exact ydE) | apply w_nil | apply n_cd | (apply wg_t; rfl; rfl) | (apply wg_f; rfl; rfl; rfl; rfl) | (apply wg_u; rfl; rfl; rfl) | (apply c_t; rfl) | (apply c_f; rfl) | apply c_skip | apply c_block | apply n_blk | apply c_exit | apply e_hit | apply e_cd | apply e_lp | (apply e_miss; rfl) | apply c_ret | (apply wO; apply o_box; rfl; rfl; rfl; intro _) | (apply wO; apply o_alloc; rfl; intro _) | (apply wO; apply o_st; rfl; rfl; rfl; (first | exact AggC.s | exact OneC.s); rfl; exact rplE; exact putE; rfl) | (apply wO; apply o_bs0; rfl; intro _) | (apply wO; apply o_bs; rfl; rfl; rfl; rfl; exact rptE; exact filE; intro _) | (apply wO; apply o_call; rfl; kernel_rfl; exact evsE))
  refine cv (fun w st => Link_clone_c _ x _ w (st.get (p := .isv ELink (.agg #[.slice a1 x.queue.length c1, .string x.fates, .int .i64 x.used]) x F) (by simp)) (by omega)) fun v F2 => ?_
  refine openOLink ?_
  rintro a2 c2 F3 rfl l3 l4
  repeat (first | apply c_seq | apply c_reg | (apply wO; apply oc; rfl; exact ydE) | apply w_nil | apply n_cd | (apply wg_t; rfl; rfl) | (apply wg_f; rfl; rfl; rfl; rfl) | (apply wg_u; rfl; rfl; rfl) | (apply c_t; rfl) | (apply c_f; rfl) | apply c_skip | apply c_block | apply n_blk | apply c_exit | apply e_hit | apply e_cd | apply e_lp | (apply e_miss; rfl) | apply c_ret | (apply wO; apply o_box; rfl; rfl; rfl; intro _) | (apply wO; apply o_alloc; rfl; intro _) | (apply wO; apply o_st; rfl; rfl; rfl; (first | exact AggC.s | exact OneC.s); rfl; exact rplE; exact putE; rfl) | (apply wO; apply o_bs0; rfl; intro _) | (apply wO; apply o_bs; rfl; rfl; rfl; rfl; exact rptE; exact filE; intro _) | (apply wO; apply o_call; rfl; kernel_rfl; exact evsE))
  refine cf (send_f x item _ _ _ _ _ a2 c2 F3 g1 hi) fun z _ => ?_
  refine t_app ?_
  cases g2 : sendOk x item
  · repeat (first | apply c_seq | apply c_reg | (apply wO; apply oc; rfl; exact ydE) | apply w_nil | apply n_cd | (apply wg_t; rfl; rfl) | (apply wg_f; rfl; rfl; rfl; rfl) | (apply wg_u; rfl; rfl; rfl) | (apply c_t; rfl) | (apply c_f; rfl) | apply c_skip | apply c_block | apply n_blk | apply c_exit | apply e_hit | apply e_cd | apply e_lp | (apply e_miss; rfl) | apply c_ret | (apply wO; apply o_box; rfl; rfl; rfl; intro _) | (apply wO; apply o_alloc; rfl; intro _) | (apply wO; apply o_st; rfl; rfl; rfl; (first | exact AggC.s | exact OneC.s); rfl; exact rplE; exact putE; rfl) | (apply wO; apply o_bs0; rfl; intro _) | (apply wO; apply o_bs; rfl; rfl; rfl; rfl; exact rptE; exact filE; intro _) | (apply wO; apply o_call; rfl; kernel_rfl; exact evsE))
    rw [resSendOn_no (by unfold okSendOn; rw [g2]; simp)]
    refine ret ⟨none, 0, []⟩ trivial rfl
  rw [show sendL x item = sentL x item by unfold sendL; rw [g2]; rfl]
  rw [resSendOn_yes (by unfold okSendOn; rw [g1, g2]; rfl)]
  repeat (first | apply c_seq | apply c_reg | (apply wO; apply oc; rfl; exact ydE) | apply w_nil | apply n_cd | (apply wg_t; rfl; rfl) | (apply wg_f; rfl; rfl; rfl; rfl) | (apply wg_u; rfl; rfl; rfl) | (apply c_t; rfl) | (apply c_f; rfl) | apply c_skip | apply c_block | apply n_blk | apply c_exit | apply e_hit | apply e_cd | apply e_lp | (apply e_miss; rfl) | apply c_ret | (apply wO; apply o_box; rfl; rfl; rfl; intro _) | (apply wO; apply o_alloc; rfl; intro _) | (apply wO; apply o_st; rfl; rfl; rfl; (first | exact AggC.s | exact OneC.s); rfl; exact rplE; exact putE; rfl) | (apply wO; apply o_bs0; rfl; intro _) | (apply wO; apply o_bs; rfl; rfl; rfl; rfl; exact rptE; exact filE; intro _) | (apply wO; apply o_call; rfl; kernel_rfl; exact evsE))
  refine closeOLink (sentL x item) l1 ?_
  refine ret z trivial rfl
theorem SendOn_c (v0 : Value) (x0 : Link) (F0 : List Nat) (x1 : ByteArray) (w : World) (h0 : IsV ELink w v0 x0 F0) (h1 : x1.size ≤ maxLen) :
    Calls Tryd.prog 17 #[v0, .string x1] w (PI_SendOn (resSendOn x0 x1) w) := by
  refine ((SendOn_f x0 x1 v0 F0 h1).made w (hol1 h0) (fun _ => rfl)).mono ?_
  rintro e w' ⟨s, -, rfl, hH, hn, hF, hB⟩
  have a1 := hH _ (List.mem_cons_self ..)
  simp only [fp, Pc.F, List.append_nil] at hn hF
  exact ⟨_, s.F, rfl, a1.2, hn, hF, hB⟩

end Go.Proofs.YtkcajnpdmgafjaaDoor
