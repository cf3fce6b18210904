/- Receive windows: the reference's GiveUpTo and TakeItem; the contracts that the laws ask. -/
import Derived.Test.YtidephmobajikaaDoorRW8
namespace Go.Proofs.YtidephmobajikaaDoor
open Go.RowKit
set_option maxRecDepth 100000 in
theorem l10GiveUp_f (x : ReceiveWindow) (n : Int) (v : Value) (F : List Nat) (h0 : 0 ≤ x.next) (h1 : x.next ≤ 65535) (h2 : 0 ≤ n) (h3 : n ≤ 65535) (hl : x.slots.length ≤ 8) (hs : ∀ s ∈ x.slots, s.item.size ≤ 8) :
    Fn Tryd.prog 131 [v, .int .i64 n] [.isv EReceiveWindow v x F] [] (fun (s : RelS) => s.y = relW (giveW (stepsN x.next n) x) ∧ s.es = giveE (stepsN x.next n) x ++ relE (giveW (stepsN x.next n) x))
      (fun s => .tuple #[.agg #[.int .i64 s.y.next, .slice s.a s.y.slots.length s.c], .slice s.ae s.es.length s.ce]) (fun s => [.isv EReceiveWindow (.agg #[.int .i64 s.y.next, .slice s.a s.y.slots.length s.c]) s.y s.F, .ow EStr 9 (.slice s.ae s.es.length s.ce) s.es s.Fe]) := by
  have hgn := stepsN_le x.next n
  refine enter Tryd.func131 rfl Tryd.ntmps131 fun w0 => ?_
  refine openReceiveWindow ?_
  rintro a1 c1 F1 rfl l1
  repeat (first | apply c_seq | apply c_reg | (apply wO; apply oc; rfl; exact ydE) | apply w_nil | apply n_cd | (apply wg_t; rfl; rfl) | (apply wg_f; rfl; rfl; rfl; rfl) | (apply wg_u; rfl; rfl; rfl) | (apply c_t; rfl) | (apply c_f; rfl) | apply c_skip | apply c_block | apply n_blk | apply c_exit | apply e_hit | apply e_cd | apply e_lp | (apply e_miss; rfl) | apply c_ret | (apply wO; apply o_box; rfl; rfl; rfl; intro _) | (apply wO; apply o_alloc; rfl; intro _) | (apply wO; apply o_st; rfl; rfl; rfl; (first | exact AggC.s | exact OneC.s); rfl; exact rplE; exact putE; rfl) | (apply wO; apply o_bs0; rfl; intro _) | (apply wO; apply o_bs; rfl; rfl; rfl; rfl; exact rptE; exact filE; intro _) | (apply wO; apply o_call; rfl; kernel_rfl; exact evsE))
  refine c_joinS [1, 4, 5] [0] (fun s : CpS => [(6, ptr s.g 0 0)]) (fun s => [.row s.g 60 0 [] [.int .i64 x.next, .slice s.a x.slots.length s.c] [], .ow ESlot 146 (.slice s.a x.slots.length s.c) x.slots s.F]) (fun _ => True) ?_ fun s _ => ?_
  · refine d_start [0, 1] [8] ?_
    refine dt 0 ?_
    refine dt 1 ?_
    refine dt 3 ?_
    refine dt 4 ?_
    refine dO2 2 7 (by kernel_rfl) (by rw [List.getElem?_toArray]; rfl) (by rw [List.getElem?_toArray]; rfl) ?_ ?_
    · apply o_bs0; rfl; intro _
      refine t_emp ESlot ?_
      refine dk ?_
      refine dO2 5 7 (by kernel_rfl) (by rw [List.getElem?_toArray]; rfl) (by rw [List.getElem?_toArray]; rfl) ?_ ?_
      · refine aps one_ESlot scal_ESlot fun a2 c2 F2 => ?_
        refine dk ?_
        refine dt 6 ?_
        refine dO 7 (by kernel_rfl) (by rw [List.getElem?_toArray]; rfl) ?_
        apply o_alloc; rfl; intro _
        refine dk ?_
        refine dO 8 (by kernel_rfl) (by rw [List.getElem?_toArray]; rfl) ?_
        apply o_st; rfl; rfl; rfl; (first | exact AggC.s | exact OneC.s); rfl; exact rplE; exact putE; rfl
        refine dkx ?_
        refine dd ?_
        refine n_join (⟨_, a2, c2, F2⟩ : CpS) trivial
      · apply o_alloc; rfl; intro _
        refine dk ?_
        refine dO 5 (by kernel_rfl) (by rw [List.getElem?_toArray]; rfl) ?_
        refine aps one_ESlot scal_ESlot fun a2 c2 F2 => ?_
        refine dk ?_
        refine dt 6 ?_
        refine dO 8 (by kernel_rfl) (by rw [List.getElem?_toArray]; rfl) ?_
        apply o_st; rfl; rfl; rfl; (first | exact AggC.s | exact OneC.s); rfl; exact rplE; exact putE; rfl
        refine dkx ?_
        refine dd ?_
        refine n_join (⟨_, a2, c2, F2⟩ : CpS) trivial
    · apply o_alloc; rfl; intro _
      refine dk ?_
      refine dO 2 (by kernel_rfl) (by rw [List.getElem?_toArray]; rfl) ?_
      apply o_bs0; rfl; intro _
      refine t_emp ESlot ?_
      refine dk ?_
      refine dO 5 (by kernel_rfl) (by rw [List.getElem?_toArray]; rfl) ?_
      refine aps one_ESlot scal_ESlot fun a2 c2 F2 => ?_
      refine dk ?_
      refine dt 6 ?_
      refine dO 8 (by kernel_rfl) (by rw [List.getElem?_toArray]; rfl) ?_
      apply o_st; rfl; rfl; rfl; (first | exact AggC.s | exact OneC.s); rfl; exact rplE; exact putE; rfl
      refine dkx ?_
      refine dd ?_
      refine n_join (⟨_, a2, c2, F2⟩ : CpS) trivial
  obtain ⟨gg, a2, c2, F2⟩ := s
  refine t_read (xs := x.slots) fun F3 => ?_
  repeat (first | apply c_seq | apply c_reg | (apply wO; apply oc; rfl; exact ydE) | apply w_nil | apply n_cd | (apply wg_t; rfl; rfl) | (apply wg_f; rfl; rfl; rfl; rfl) | (apply wg_u; rfl; rfl; rfl) | (apply c_t; rfl) | (apply c_f; rfl) | apply c_skip | apply c_block | apply n_blk | apply c_exit | apply e_hit | apply e_cd | apply e_lp | (apply e_miss; rfl) | apply c_ret | (apply wO; apply o_box; rfl; rfl; rfl; intro _) | (apply wO; apply o_alloc; rfl; intro _) | (apply wO; apply o_st; rfl; rfl; rfl; (first | exact AggC.s | exact OneC.s); rfl; exact rplE; exact putE; rfl) | (apply wO; apply o_bs0; rfl; intro _) | (apply wO; apply o_bs; rfl; rfl; rfl; rfl; exact rptE; exact filE; intro _) | (apply wO; apply o_call; rfl; kernel_rfl; exact evsE))
  refine t_emp EStr ?_
  refine c_loopS [1, 4, 5, 6] (fun s : RelS => [(7, .slice s.ae s.es.length s.ce)]) (fun s => [.row gg 60 0 [] [.int .i64 s.y.next, .slice s.a s.y.slots.length s.c] [], .sl ESlot (.slice s.a s.y.slots.length s.c) s.y.slots s.F, .ow EStr 9 (.slice s.ae s.es.length s.ce) s.es s.Fe]) (GiveOk x n) (fun s => stepsN s.y.next n) ⟨[], x, a2, c2, F3, _, 0, _⟩ ⟨h0, h1, hs, Nat.le_refl _, by simp, rfl, rfl⟩ fun s hC => ?_
  obtain ⟨n0, n1, hit, hln, hle, hw, he⟩ := hC
  repeat (first | apply c_seq | apply c_reg | (apply wO; apply oc; rfl; exact ydE) | apply w_nil | apply n_cd | (apply wg_t; rfl; rfl) | (apply wg_f; rfl; rfl; rfl; rfl) | (apply wg_u; rfl; rfl; rfl) | (apply c_t; rfl) | (apply c_f; rfl) | apply c_skip | apply c_block | apply n_blk | apply c_exit | apply e_hit | apply e_cd | apply e_lp | (apply e_miss; rfl) | apply c_ret | (apply wO; apply o_box; rfl; rfl; rfl; intro _) | (apply wO; apply o_alloc; rfl; intro _) | (apply wO; apply o_st; rfl; rfl; rfl; (first | exact AggC.s | exact OneC.s); rfl; exact rplE; exact putE; rfl) | (apply wO; apply o_bs0; rfl; intro _) | (apply wO; apply o_bs; rfl; rfl; rfl; rfl; exact rptE; exact filE; intro _) | (apply wO; apply o_call; rfl; kernel_rfl; exact evsE))
  refine ce (fun w s => l2Before_c _ _ _ (by omega) (by omega)) ?_
  cases hb : bef s.y.next n
  · repeat (first | apply c_seq | apply c_reg | (apply wO; apply oc; rfl; exact ydE) | apply w_nil | apply n_cd | (apply wg_t; rfl; rfl) | (apply wg_f; rfl; rfl; rfl; rfl) | (apply wg_u; rfl; rfl; rfl) | (apply c_t; rfl) | (apply c_f; rfl) | apply c_skip | apply c_block | apply n_blk | apply c_exit | apply e_hit | apply e_cd | apply e_lp | (apply e_miss; rfl) | apply c_ret | (apply wO; apply o_box; rfl; rfl; rfl; intro _) | (apply wO; apply o_alloc; rfl; intro _) | (apply wO; apply o_st; rfl; rfl; rfl; (first | exact AggC.s | exact OneC.s); rfl; exact rplE; exact putE; rfl) | (apply wO; apply o_bs0; rfl; intro _) | (apply wO; apply o_bs; rfl; rfl; rfl; rfl; exact rptE; exact filE; intro _))
    refine closeReceiveWindow s.y ?_
    repeat (first | apply c_seq | apply c_reg | (apply wO; apply oc; rfl; exact ydE) | apply w_nil | apply n_cd | (apply wg_t; rfl; rfl) | (apply wg_f; rfl; rfl; rfl; rfl) | (apply wg_u; rfl; rfl; rfl) | (apply c_t; rfl) | (apply c_f; rfl) | apply c_skip | apply c_block | apply n_blk | apply c_exit | apply e_hit | apply e_cd | apply e_lp | (apply e_miss; rfl) | apply c_ret | (apply wO; apply o_box; rfl; rfl; rfl; intro _) | (apply wO; apply o_alloc; rfl; intro _) | (apply wO; apply o_st; rfl; rfl; rfl; (first | exact AggC.s | exact OneC.s); rfl; exact rplE; exact putE; rfl) | (apply wO; apply o_bs0; rfl; intro _) | (apply wO; apply o_bs; rfl; rfl; rfl; rfl; exact rptE; exact filE; intro _) | (apply wO; apply o_call; rfl; kernel_rfl; exact evsE))
    rw [stepsN_no hb] at hw he
    refine cf (l10Release_f s.y _ _ n0 n1 (by omega) hit) fun z hz => ?_
    refine t_app ?_
    repeat (first | apply c_seq | apply c_reg | (apply wO; apply oc; rfl; exact ydE) | apply w_nil | apply n_cd | (apply wg_t; rfl; rfl) | (apply wg_f; rfl; rfl; rfl; rfl) | (apply wg_u; rfl; rfl; rfl) | (apply c_t; rfl) | (apply c_f; rfl) | apply c_skip | apply c_block | apply n_blk | apply c_exit | apply e_hit | apply e_cd | apply e_lp | (apply e_miss; rfl) | apply c_ret | (apply wO; apply o_box; rfl; rfl; rfl; intro _) | (apply wO; apply o_alloc; rfl; intro _) | (apply wO; apply o_st; rfl; rfl; rfl; (first | exact AggC.s | exact OneC.s); rfl; exact rplE; exact putE; rfl) | (apply wO; apply o_bs0; rfl; intro _) | (apply wO; apply o_bs; rfl; rfl; rfl; rfl; exact rptE; exact filE; intro _) | (apply wO; apply o_call; rfl; kernel_rfl; exact evsE))
    have hr := relE_len s.y
    have hzl : z.es.length ≤ s.y.slots.length := by rw [hz.2]; exact hr
    refine t_read (xs := z.es) fun F' => ?_
    refine d_start [1] [] ?_
    refine dt 0 ?_
    refine dt 1 ?_
    refine dt 2 ?_
    refine dO 3 (by kernel_rfl) (by rw [List.getElem?_toArray]; rfl) ?_
    refine aps one_EStr scal_EStr fun a' c' F2 => ?_
    refine dk ?_
    refine dO 4 (by kernel_rfl) (by rw [List.getElem?_toArray]; rfl) ?_
    apply o_st; rfl; rfl; rfl; (first | exact AggC.s | exact OneC.s); rfl; exact rplE; exact putE; rfl
    refine dk ?_
    refine dt 5 ?_
    refine dd ?_
    repeat (first | apply c_seq | apply c_reg | (apply wO; apply oc; rfl; exact ydE) | apply w_nil | apply n_cd | (apply wg_t; rfl; rfl) | (apply wg_f; rfl; rfl; rfl; rfl) | (apply wg_u; rfl; rfl; rfl) | (apply c_t; rfl) | (apply c_f; rfl) | apply c_skip | apply c_block | apply n_blk | apply c_exit | apply e_hit | apply e_cd | apply e_lp | (apply e_miss; rfl) | apply c_ret | (apply wO; apply o_box; rfl; rfl; rfl; intro _) | (apply wO; apply o_alloc; rfl; intro _) | (apply wO; apply o_st; rfl; rfl; rfl; (first | exact AggC.s | exact OneC.s); rfl; exact rplE; exact putE; rfl) | (apply wO; apply o_bs0; rfl; intro _) | (apply wO; apply o_bs; rfl; rfl; rfl; rfl; exact rptE; exact filE; intro _) | (apply wO; apply o_call; rfl; kernel_rfl; exact evsE))
    refine ret ⟨s.es ++ z.es, z.y, z.a, z.c, z.F, a', c', F2⟩ ⟨by rw [hz.1, hw]; rfl, by rw [hz.2, he, hw]; simp [giveE, giveW]⟩ rfl
  have hst := stepsN_yes hb
  have hmx : (shiftEv s.y.slots).size ≤ maxLen := by have := shiftEv_size hit; unfold maxLen; omega
  repeat (first | apply c_seq | apply c_reg | (apply wO; apply oc; rfl; exact ydE) | apply w_nil | apply n_cd | (apply wg_t; rfl; rfl) | (apply wg_f; rfl; rfl; rfl; rfl) | (apply wg_u; rfl; rfl; rfl) | (apply c_t; rfl) | (apply c_f; rfl) | apply c_skip | apply c_block | apply n_blk | apply c_exit | apply e_hit | apply e_cd | apply e_lp | (apply e_miss; rfl) | apply c_ret | (apply wO; apply o_box; rfl; rfl; rfl; intro _) | (apply wO; apply o_alloc; rfl; intro _) | (apply wO; apply o_st; rfl; rfl; rfl; (first | exact AggC.s | exact OneC.s); rfl; exact rplE; exact putE; rfl) | (apply wO; apply o_bs0; rfl; intro _) | (apply wO; apply o_bs; rfl; rfl; rfl; rfl; exact rptE; exact filE; intro _) | (apply wO; apply o_call; rfl; kernel_rfl; exact evsE))
  refine t_emp ESlot ?_
  refine c_if rfl (fun h4 => ?_) (fun h4 => ?_)
  · refine atSlot 0 ?_
    rintro hi b o e s1
    rw [e]
    repeat (first | apply c_seq | apply c_reg | (apply wO; apply oc; rfl; exact ydE) | apply w_nil | apply n_cd | (apply wg_t; rfl; rfl) | (apply wg_f; rfl; rfl; rfl; rfl) | (apply wg_u; rfl; rfl; rfl) | (apply c_t; rfl) | (apply c_f; rfl) | apply c_skip | apply c_block | apply n_blk | apply c_exit | apply e_hit | apply e_cd | apply e_lp | (apply e_miss; rfl) | apply c_ret | (apply wO; apply o_box; rfl; rfl; rfl; intro _) | (apply wO; apply o_alloc; rfl; intro _) | (apply wO; apply o_st; rfl; rfl; rfl; (first | exact AggC.s | exact OneC.s); rfl; exact rplE; exact putE; rfl) | (apply wO; apply o_bs0; rfl; intro _) | (apply wO; apply o_bs; rfl; rfl; rfl; rfl; exact rptE; exact filE; intro _) | (apply wO; apply o_call; rfl; kernel_rfl; exact evsE))
    cases g1 : s.y.slots[0].hav
    · have hpl1 : (⟨#[45]⟩ : ByteArray) = shiftEv s.y.slots := (shiftEv_f hi g1).symm
      repeat (first | apply c_seq | apply c_reg | (apply wO; apply oc; rfl; exact ydE) | apply w_nil | apply n_cd | (apply wg_t; rfl; rfl) | (apply wg_f; rfl; rfl; rfl; rfl) | (apply wg_u; rfl; rfl; rfl) | (apply c_t; rfl) | (apply c_f; rfl) | apply c_skip | apply c_block | apply n_blk | apply c_exit | apply e_hit | apply e_cd | apply e_lp | (apply e_miss; rfl) | apply c_ret | (apply wO; apply o_box; rfl; rfl; rfl; intro _) | (apply wO; apply o_alloc; rfl; intro _) | (apply wO; apply o_st; rfl; rfl; rfl; (first | exact AggC.s | exact OneC.s); rfl; exact rplE; exact putE; rfl) | (apply wO; apply o_bs0; rfl; intro _) | (apply wO; apply o_bs; rfl; rfl; rfl; rfl; exact rptE; exact filE; intro _) | (apply wO; apply o_call; rfl; kernel_rfl; exact evsE))
      apply wO
      refine sld 1 fun a5 c5 F5 => ?_
      repeat (first | apply c_seq | apply c_reg | (apply wO; apply oc; rfl; exact ydE) | apply w_nil | apply n_cd | (apply wg_t; rfl; rfl) | (apply wg_f; rfl; rfl; rfl; rfl) | (apply wg_u; rfl; rfl; rfl) | (apply c_t; rfl) | (apply c_f; rfl) | apply c_skip | apply c_block | apply n_blk | apply c_exit | apply e_hit | apply e_cd | apply e_lp | (apply e_miss; rfl) | apply c_ret | (apply wO; apply o_box; rfl; rfl; rfl; intro _) | (apply wO; apply o_alloc; rfl; intro _) | (apply wO; apply o_st; rfl; rfl; rfl; (first | exact AggC.s | exact OneC.s); rfl; exact rplE; exact putE; rfl) | (apply wO; apply o_bs0; rfl; intro _) | (apply wO; apply o_bs; rfl; rfl; rfl; rfl; exact rptE; exact filE; intro _) | (apply wO; apply o_call; rfl; kernel_rfl; exact evsE))
      rw [hpl1]
      apply wO
      refine ap1 (rep_str _ hmx) one_EStr fun a' c' F' => ?_
      repeat (first | apply c_seq | apply c_reg | (apply wO; apply oc; rfl; exact ydE) | apply w_nil | apply n_cd | (apply wg_t; rfl; rfl) | (apply wg_f; rfl; rfl; rfl; rfl) | (apply wg_u; rfl; rfl; rfl) | (apply c_t; rfl) | (apply c_f; rfl) | apply c_skip | apply c_block | apply n_blk | apply c_exit | apply e_hit | apply e_cd | apply e_lp | (apply e_miss; rfl) | apply c_ret | (apply wO; apply o_box; rfl; rfl; rfl; intro _) | (apply wO; apply o_alloc; rfl; intro _) | (apply wO; apply o_st; rfl; rfl; rfl; (first | exact AggC.s | exact OneC.s); rfl; exact rplE; exact putE; rfl) | (apply wO; apply o_bs0; rfl; intro _) | (apply wO; apply o_bs; rfl; rfl; rfl; rfl; exact rptE; exact filE; intro _) | (apply wO; apply o_call; rfl; kernel_rfl; exact evsE))
      refine ce (fun w s => l2After_c _ _ _ (by omega) (by omega)) ?_
      repeat (first | apply c_seq | apply c_reg | (apply wO; apply oc; rfl; exact ydE) | apply w_nil | apply n_cd | (apply wg_t; rfl; rfl) | (apply wg_f; rfl; rfl; rfl; rfl) | (apply wg_u; rfl; rfl; rfl) | (apply c_t; rfl) | (apply c_f; rfl) | apply c_skip | apply c_block | apply n_blk | apply c_exit | apply e_hit | apply e_cd | apply e_lp | (apply e_miss; rfl) | apply c_ret | (apply wO; apply o_box; rfl; rfl; rfl; intro _) | (apply wO; apply o_alloc; rfl; intro _) | (apply wO; apply o_st; rfl; rfl; rfl; (first | exact AggC.s | exact OneC.s); rfl; exact rplE; exact putE; rfl) | (apply wO; apply o_bs0; rfl; intro _) | (apply wO; apply o_bs; rfl; rfl; rfl; rfl; exact rptE; exact filE; intro _) | (apply wO; apply o_call; rfl; kernel_rfl; exact evsE))
      refine n_lp ⟨s.es ++ [shiftEv s.y.slots], shW s.y, a5, c5, F5, a', c', F'⟩ ⟨(aft_bd _ _).1, (aft_bd _ _).2, fun z hz => hit z (List.mem_of_mem_drop hz), by simp [shW]; omega, by simp [shW]; omega, by rw [hw, hst]; rfl, by rw [he, hst]; simp [giveE, shW]⟩ (by show stepsN (aft s.y.next 1) n < _; omega)
    · have hz := hit _ (List.getElem_mem hi)
      have h43 : (⟨#[43]⟩ : ByteArray).size = 1 := rfl
      have hpl2 : (⟨#[43]⟩ ++ s.y.slots[0].item : ByteArray) = shiftEv s.y.slots := (shiftEv_t hi g1).symm
      repeat (first | apply c_seq | apply c_reg | (apply wO; apply oc; rfl; exact ydE) | apply w_nil | apply n_cd | (apply wg_t; rfl; rfl) | (apply wg_f; rfl; rfl; rfl; rfl) | (apply wg_u; rfl; rfl; rfl) | (apply c_t; rfl) | (apply c_f; rfl) | apply c_skip | apply c_block | apply n_blk | apply c_exit | apply e_hit | apply e_cd | apply e_lp | (apply e_miss; rfl) | apply c_ret | (apply wO; apply o_box; rfl; rfl; rfl; intro _) | (apply wO; apply o_alloc; rfl; intro _) | (apply wO; apply o_st; rfl; rfl; rfl; (first | exact AggC.s | exact OneC.s); rfl; exact rplE; exact putE; rfl) | (apply wO; apply o_bs0; rfl; intro _) | (apply wO; apply o_bs; rfl; rfl; rfl; rfl; exact rptE; exact filE; intro _) | (apply wO; apply o_call; rfl; kernel_rfl; exact evsE))
      apply wO
      refine sld 1 fun a5 c5 F5 => ?_
      repeat (first | apply c_seq | apply c_reg | (apply wO; apply oc; rfl; exact ydE) | apply w_nil | apply n_cd | (apply wg_t; rfl; rfl) | (apply wg_f; rfl; rfl; rfl; rfl) | (apply wg_u; rfl; rfl; rfl) | (apply c_t; rfl) | (apply c_f; rfl) | apply c_skip | apply c_block | apply n_blk | apply c_exit | apply e_hit | apply e_cd | apply e_lp | (apply e_miss; rfl) | apply c_ret | (apply wO; apply o_box; rfl; rfl; rfl; intro _) | (apply wO; apply o_alloc; rfl; intro _) | (apply wO; apply o_st; rfl; rfl; rfl; (first | exact AggC.s | exact OneC.s); rfl; exact rplE; exact putE; rfl) | (apply wO; apply o_bs0; rfl; intro _) | (apply wO; apply o_bs; rfl; rfl; rfl; rfl; exact rptE; exact filE; intro _) | (apply wO; apply o_call; rfl; kernel_rfl; exact evsE))
      rw [hpl2]
      apply wO
      refine ap1 (rep_str _ hmx) one_EStr fun a' c' F' => ?_
      repeat (first | apply c_seq | apply c_reg | (apply wO; apply oc; rfl; exact ydE) | apply w_nil | apply n_cd | (apply wg_t; rfl; rfl) | (apply wg_f; rfl; rfl; rfl; rfl) | (apply wg_u; rfl; rfl; rfl) | (apply c_t; rfl) | (apply c_f; rfl) | apply c_skip | apply c_block | apply n_blk | apply c_exit | apply e_hit | apply e_cd | apply e_lp | (apply e_miss; rfl) | apply c_ret | (apply wO; apply o_box; rfl; rfl; rfl; intro _) | (apply wO; apply o_alloc; rfl; intro _) | (apply wO; apply o_st; rfl; rfl; rfl; (first | exact AggC.s | exact OneC.s); rfl; exact rplE; exact putE; rfl) | (apply wO; apply o_bs0; rfl; intro _) | (apply wO; apply o_bs; rfl; rfl; rfl; rfl; exact rptE; exact filE; intro _) | (apply wO; apply o_call; rfl; kernel_rfl; exact evsE))
      refine ce (fun w s => l2After_c _ _ _ (by omega) (by omega)) ?_
      repeat (first | apply c_seq | apply c_reg | (apply wO; apply oc; rfl; exact ydE) | apply w_nil | apply n_cd | (apply wg_t; rfl; rfl) | (apply wg_f; rfl; rfl; rfl; rfl) | (apply wg_u; rfl; rfl; rfl) | (apply c_t; rfl) | (apply c_f; rfl) | apply c_skip | apply c_block | apply n_blk | apply c_exit | apply e_hit | apply e_cd | apply e_lp | (apply e_miss; rfl) | apply c_ret | (apply wO; apply o_box; rfl; rfl; rfl; intro _) | (apply wO; apply o_alloc; rfl; intro _) | (apply wO; apply o_st; rfl; rfl; rfl; (first | exact AggC.s | exact OneC.s); rfl; exact rplE; exact putE; rfl) | (apply wO; apply o_bs0; rfl; intro _) | (apply wO; apply o_bs; rfl; rfl; rfl; rfl; exact rptE; exact filE; intro _) | (apply wO; apply o_call; rfl; kernel_rfl; exact evsE))
      refine n_lp ⟨s.es ++ [shiftEv s.y.slots], shW s.y, a5, c5, F5, a', c', F'⟩ ⟨(aft_bd _ _).1, (aft_bd _ _).2, fun z hz => hit z (List.mem_of_mem_drop hz), by simp [shW]; omega, by simp [shW]; omega, by rw [hw, hst]; rfl, by rw [he, hst]; simp [giveE, shW]⟩ (by show stepsN (aft s.y.next 1) n < _; omega)
  · have hnil : s.y.slots = [] := List.eq_nil_of_length_eq_zero (by omega)
    have hpl3 : (⟨#[45]⟩ : ByteArray) = shiftEv s.y.slots := by rw [hnil]; rfl
    have hd : ([] : List Slot) = s.y.slots.drop 1 := by rw [hnil]; rfl
    · repeat (first | apply c_seq | apply c_reg | (apply wO; apply oc; rfl; exact ydE) | apply w_nil | apply n_cd | (apply wg_t; rfl; rfl) | (apply wg_f; rfl; rfl; rfl; rfl) | (apply wg_u; rfl; rfl; rfl) | (apply c_t; rfl) | (apply c_f; rfl) | apply c_skip | apply c_block | apply n_blk | apply c_exit | apply e_hit | apply e_cd | apply e_lp | (apply e_miss; rfl) | apply c_ret | (apply wO; apply o_box; rfl; rfl; rfl; intro _) | (apply wO; apply o_alloc; rfl; intro _) | (apply wO; apply o_st; rfl; rfl; rfl; (first | exact AggC.s | exact OneC.s); rfl; exact rplE; exact putE; rfl) | (apply wO; apply o_bs0; rfl; intro _) | (apply wO; apply o_bs; rfl; rfl; rfl; rfl; exact rptE; exact filE; intro _) | (apply wO; apply o_call; rfl; kernel_rfl; exact evsE))
      refine t_read (E := ESlot) (xs := []) fun F6 => ?_
      rw [show (Value.slice (some _) 0 0 : Value) = Value.slice _ ([] : List Slot).length 0 from rfl]
      rw [hpl3]
      apply wO
      refine ap1 (rep_str _ hmx) one_EStr fun a' c' F' => ?_
      repeat (first | apply c_seq | apply c_reg | (apply wO; apply oc; rfl; exact ydE) | apply w_nil | apply n_cd | (apply wg_t; rfl; rfl) | (apply wg_f; rfl; rfl; rfl; rfl) | (apply wg_u; rfl; rfl; rfl) | (apply c_t; rfl) | (apply c_f; rfl) | apply c_skip | apply c_block | apply n_blk | apply c_exit | apply e_hit | apply e_cd | apply e_lp | (apply e_miss; rfl) | apply c_ret | (apply wO; apply o_box; rfl; rfl; rfl; intro _) | (apply wO; apply o_alloc; rfl; intro _) | (apply wO; apply o_st; rfl; rfl; rfl; (first | exact AggC.s | exact OneC.s); rfl; exact rplE; exact putE; rfl) | (apply wO; apply o_bs0; rfl; intro _) | (apply wO; apply o_bs; rfl; rfl; rfl; rfl; exact rptE; exact filE; intro _) | (apply wO; apply o_call; rfl; kernel_rfl; exact evsE))
      refine ce (fun w s => l2After_c _ _ _ (by omega) (by omega)) ?_
      repeat (first | apply c_seq | apply c_reg | (apply wO; apply oc; rfl; exact ydE) | apply w_nil | apply n_cd | (apply wg_t; rfl; rfl) | (apply wg_f; rfl; rfl; rfl; rfl) | (apply wg_u; rfl; rfl; rfl) | (apply c_t; rfl) | (apply c_f; rfl) | apply c_skip | apply c_block | apply n_blk | apply c_exit | apply e_hit | apply e_cd | apply e_lp | (apply e_miss; rfl) | apply c_ret | (apply wO; apply o_box; rfl; rfl; rfl; intro _) | (apply wO; apply o_alloc; rfl; intro _) | (apply wO; apply o_st; rfl; rfl; rfl; (first | exact AggC.s | exact OneC.s); rfl; exact rplE; exact putE; rfl) | (apply wO; apply o_bs0; rfl; intro _) | (apply wO; apply o_bs; rfl; rfl; rfl; rfl; exact rptE; exact filE; intro _) | (apply wO; apply o_call; rfl; kernel_rfl; exact evsE))
      rw [hd]
      refine n_lp ⟨s.es ++ [shiftEv s.y.slots], shW s.y, _, 0, F6, a', c', F'⟩ ⟨(aft_bd _ _).1, (aft_bd _ _).2, fun z hz => hit z (List.mem_of_mem_drop hz), by simp [shW]; omega, by simp [shW]; omega, by rw [hw, hst]; rfl, by rw [he, hst]; simp [giveE, shW]⟩ (by show stepsN (aft s.y.next 1) n < _; omega)
end Go.Proofs.YtidephmobajikaaDoor
