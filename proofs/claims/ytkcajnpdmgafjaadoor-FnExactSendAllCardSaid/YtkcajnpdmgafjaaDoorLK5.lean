/- Links: SendAll of the reference. -/
import Derived.Test.YtkcajnpdmgafjaaDoorLK4
namespace Go.Proofs.YtkcajnpdmgafjaaDoor
open Go.RowKit
structure CpL where
  g : Nat
  a : Option Addr
  c : Nat
  F : List Nat
set_option maxRecDepth 100000 in
theorem specSendAll_f (x : Link) (xs : List ByteArray) (v v1 : Value) (F G : List Nat) :
    Fn Tryd.prog 22 [v, v1] [.isv ELink v x F, .sl EStr v1 xs G] [] (fun (_ : LinkS) => True)
      (fun s => .tuple #[.agg #[.slice s.a (resSendAll x xs).1.queue.length s.c, .string (resSendAll x xs).1.fates, .int .i64 (resSendAll x xs).1.used], .int .i64 (resSendAll x xs).2.1, .bool (resSendAll x xs).2.2]) (fun s => [.isv ELink (.agg #[.slice s.a (resSendAll x xs).1.queue.length s.c, .string (resSendAll x xs).1.fates, .int .i64 (resSendAll x xs).1.used]) (resSendAll x xs).1 s.F]) := by
  refine enter Tryd.func22 rfl Tryd.ntmps22 fun w0 => ?_
  refine openLink ?_
  rintro a1 c1 F1 rfl l1 l2
  refine t_sl (xs := xs) ?_
  rintro a7 c7 rfl l7 l8
  repeat (first | apply c_seq | apply c_reg | (apply wO; apply oc; rfl; exact ydE) | apply w_nil | apply n_cd | (apply wg_t; rfl; rfl) | (apply wg_f; rfl; rfl; rfl; rfl) | (apply wg_u; rfl; rfl; rfl) | (apply c_t; rfl) | (apply c_f; rfl) | apply c_skip | apply c_block | apply n_blk | apply c_exit | apply e_hit | apply e_cd | apply e_lp | (apply e_miss; rfl) | apply c_ret | (apply wO; apply o_box; rfl; rfl; rfl; intro _) | (apply wO; apply o_alloc; rfl; intro _) | (apply wO; apply o_st; rfl; rfl; rfl; (first | exact AggC.s | exact OneC.s); rfl; exact rplE; exact putE; rfl) | (apply wO; apply o_bs0; rfl; intro _) | (apply wO; apply o_bs; rfl; rfl; rfl; rfl; exact rptE; exact filE; intro _) | (apply wO; apply o_call; rfl; kernel_rfl; exact evsE))
  refine cb (fun w st => l7Good_c _ x _ w (st.get (p := .isv ELink (.agg #[.slice a1 x.queue.length c1, .string x.fates, .int .i64 x.used]) x F) (by simp))) ?_
  cases g1 : goodLink x
  · repeat (first | apply c_seq | apply c_reg | (apply wO; apply oc; rfl; exact ydE) | apply w_nil | apply n_cd | (apply wg_t; rfl; rfl) | (apply wg_f; rfl; rfl; rfl; rfl) | (apply wg_u; rfl; rfl; rfl) | (apply c_t; rfl) | (apply c_f; rfl) | apply c_skip | apply c_block | apply n_blk | apply c_exit | apply e_hit | apply e_cd | apply e_lp | (apply e_miss; rfl) | apply c_ret | (apply wO; apply o_box; rfl; rfl; rfl; intro _) | (apply wO; apply o_alloc; rfl; intro _) | (apply wO; apply o_st; rfl; rfl; rfl; (first | exact AggC.s | exact OneC.s); rfl; exact rplE; exact putE; rfl) | (apply wO; apply o_bs0; rfl; intro _) | (apply wO; apply o_bs; rfl; rfl; rfl; rfl; exact rptE; exact filE; intro _) | (apply wO; apply o_call; rfl; kernel_rfl; exact evsE))
    rw [resSendAll_no (by unfold okSendAll; rw [g1]; rfl)]
    refine t_nilsl EStr (by decide) ?_
    refine closeLink zL zs_size ?_
    refine ret ⟨_, _, _⟩ trivial rfl
  obtain ⟨hl, hq, hf, hu0, hu1⟩ := goodL_of g1
  repeat (first | apply c_seq | apply c_reg | (apply wO; apply oc; rfl; exact ydE) | apply w_nil | apply n_cd | (apply wg_t; rfl; rfl) | (apply wg_f; rfl; rfl; rfl; rfl) | (apply wg_u; rfl; rfl; rfl) | (apply c_t; rfl) | (apply c_f; rfl) | apply c_skip | apply c_block | apply n_blk | apply c_exit | apply e_hit | apply e_cd | apply e_lp | (apply e_miss; rfl) | apply c_ret | (apply wO; apply o_box; rfl; rfl; rfl; intro _) | (apply wO; apply o_alloc; rfl; intro _) | (apply wO; apply o_st; rfl; rfl; rfl; (first | exact AggC.s | exact OneC.s); rfl; exact rplE; exact putE; rfl) | (apply wO; apply o_bs0; rfl; intro _) | (apply wO; apply o_bs; rfl; rfl; rfl; rfl; exact rptE; exact filE; intro _) | (apply wO; apply o_call; rfl; kernel_rfl; exact evsE))
  refine c_if rfl (fun h1 => ?_) (fun h1 => ?_)
  · repeat (first | apply c_seq | apply c_reg | (apply wO; apply oc; rfl; exact ydE) | apply w_nil | apply n_cd | (apply wg_t; rfl; rfl) | (apply wg_f; rfl; rfl; rfl; rfl) | (apply wg_u; rfl; rfl; rfl) | (apply c_t; rfl) | (apply c_f; rfl) | apply c_skip | apply c_block | apply n_blk | apply c_exit | apply e_hit | apply e_cd | apply e_lp | (apply e_miss; rfl) | apply c_ret | (apply wO; apply o_box; rfl; rfl; rfl; intro _) | (apply wO; apply o_alloc; rfl; intro _) | (apply wO; apply o_st; rfl; rfl; rfl; (first | exact AggC.s | exact OneC.s); rfl; exact rplE; exact putE; rfl) | (apply wO; apply o_bs0; rfl; intro _) | (apply wO; apply o_bs; rfl; rfl; rfl; rfl; exact rptE; exact filE; intro _) | (apply wO; apply o_call; rfl; kernel_rfl; exact evsE))
    rw [resSendAll_no (by unfold okSendAll; rw [decide_eq_true h1]; simp)]
    refine t_nilsl EStr (by decide) ?_
    refine closeLink zL zs_size ?_
    refine ret ⟨_, _, _⟩ trivial rfl
  repeat (first | apply c_seq | apply c_reg | (apply wO; apply oc; rfl; exact ydE) | apply w_nil | apply n_cd | (apply wg_t; rfl; rfl) | (apply wg_f; rfl; rfl; rfl; rfl) | (apply wg_u; rfl; rfl; rfl) | (apply c_t; rfl) | (apply c_f; rfl) | apply c_skip | apply c_block | apply n_blk | apply c_exit | apply e_hit | apply e_cd | apply e_lp | (apply e_miss; rfl) | apply c_ret | (apply wO; apply o_box; rfl; rfl; rfl; intro _) | (apply wO; apply o_alloc; rfl; intro _) | (apply wO; apply o_st; rfl; rfl; rfl; (first | exact AggC.s | exact OneC.s); rfl; exact rplE; exact putE; rfl) | (apply wO; apply o_bs0; rfl; intro _) | (apply wO; apply o_bs; rfl; rfl; rfl; rfl; exact rptE; exact filE; intro _))
  refine c_joinS [1, 4, 5, 6] [0, 1, 2, 3, 4] (fun s : CpL => [(7, ptr s.g 0 0)]) (fun s => [.row s.g 26 0 [] [.slice s.a x.queue.length s.c, .string x.fates, .int .i64 x.used] [], .ow EStr 9 (.slice s.a x.queue.length s.c) x.queue s.F]) (fun _ => True) ?_ fun s _ => ?_
  · refine d_start [1] [] ?_
    refine dt 0 ?_
    refine dt 2 ?_
    refine dt 3 ?_
    refine dt 5 ?_
    refine dt 6 ?_
    refine dO2 1 8 (by kernel_rfl) (by rw [List.getElem?_toArray]; rfl) (by rw [List.getElem?_toArray]; rfl) ?_ ?_
    · apply o_bs0; rfl; intro _
      refine t_emp EStr ?_
      refine dk ?_
      refine dO2 4 8 (by kernel_rfl) (by rw [List.getElem?_toArray]; rfl) (by rw [List.getElem?_toArray]; rfl) ?_ ?_
      · refine aps (ys := x.queue) one_EStr scal_EStr fun a2 c2 F2 => ?_
        refine dk ?_
        refine dO2 7 8 (by kernel_rfl) (by rw [List.getElem?_toArray]; rfl) (by rw [List.getElem?_toArray]; rfl) ?_ ?_
        · apply o_call; rfl; kernel_rfl; exact evsE
          refine cb (fun w st => l7With_c _ x _ _ _ _ _ w (st.get (p := .isv ELink (.agg #[.slice a1 x.queue.length c1, .string x.fates, .int .i64 x.used]) x F) (by simp))) ?_
          refine dk ?_
          refine dO 8 (by kernel_rfl) (by rw [List.getElem?_toArray]; rfl) ?_
          apply o_alloc; rfl; intro _
          refine dk ?_
          refine dO 9 (by kernel_rfl) (by rw [List.getElem?_toArray]; rfl) ?_
          apply o_st; rfl; rfl; rfl; (first | exact AggC.s | exact OneC.s); rfl; exact rplE; exact putE; rfl
          refine dk ?_
          refine dd ?_
          refine n_join (⟨_, a2, c2, F2⟩ : CpL) trivial
        · apply o_alloc; rfl; intro _
          refine dk ?_
          refine dO 7 (by kernel_rfl) (by rw [List.getElem?_toArray]; rfl) ?_
          apply o_call; rfl; kernel_rfl; exact evsE
          refine cb (fun w st => l7With_c _ x _ _ _ _ _ w (st.get (p := .isv ELink (.agg #[.slice a1 x.queue.length c1, .string x.fates, .int .i64 x.used]) x F) (by simp))) ?_
          refine dk ?_
          refine dO 9 (by kernel_rfl) (by rw [List.getElem?_toArray]; rfl) ?_
          apply o_st; rfl; rfl; rfl; (first | exact AggC.s | exact OneC.s); rfl; exact rplE; exact putE; rfl
          refine dk ?_
          refine dd ?_
          refine n_join (⟨_, a2, c2, F2⟩ : CpL) trivial
      · apply o_alloc; rfl; intro _
        refine dk ?_
        refine dO 4 (by kernel_rfl) (by rw [List.getElem?_toArray]; rfl) ?_
        refine aps (ys := x.queue) one_EStr scal_EStr fun a2 c2 F2 => ?_
        refine dk ?_
        refine dO 7 (by kernel_rfl) (by rw [List.getElem?_toArray]; rfl) ?_
        apply o_call; rfl; kernel_rfl; exact evsE
        refine cb (fun w st => l7With_c _ x _ _ _ _ _ w (st.get (p := .isv ELink (.agg #[.slice a1 x.queue.length c1, .string x.fates, .int .i64 x.used]) x F) (by simp))) ?_
        refine dk ?_
        refine dO 9 (by kernel_rfl) (by rw [List.getElem?_toArray]; rfl) ?_
        apply o_st; rfl; rfl; rfl; (first | exact AggC.s | exact OneC.s); rfl; exact rplE; exact putE; rfl
        refine dk ?_
        refine dd ?_
        refine n_join (⟨_, a2, c2, F2⟩ : CpL) trivial
    · apply o_alloc; rfl; intro _
      refine dk ?_
      refine dO 1 (by kernel_rfl) (by rw [List.getElem?_toArray]; rfl) ?_
      apply o_bs0; rfl; intro _
      refine t_emp EStr ?_
      refine dk ?_
      refine dO 4 (by kernel_rfl) (by rw [List.getElem?_toArray]; rfl) ?_
      refine aps (ys := x.queue) one_EStr scal_EStr fun a2 c2 F2 => ?_
      refine dk ?_
      refine dO 7 (by kernel_rfl) (by rw [List.getElem?_toArray]; rfl) ?_
      apply o_call; rfl; kernel_rfl; exact evsE
      refine cb (fun w st => l7With_c _ x _ _ _ _ _ w (st.get (p := .isv ELink (.agg #[.slice a1 x.queue.length c1, .string x.fates, .int .i64 x.used]) x F) (by simp))) ?_
      refine dk ?_
      refine dO 9 (by kernel_rfl) (by rw [List.getElem?_toArray]; rfl) ?_
      apply o_st; rfl; rfl; rfl; (first | exact AggC.s | exact OneC.s); rfl; exact rplE; exact putE; rfl
      refine dk ?_
      refine dd ?_
      refine n_join (⟨_, a2, c2, F2⟩ : CpL) trivial
  obtain ⟨gg, a2, c2, F2⟩ := s
  refine t_read (xs := x.queue) fun F3 => ?_
  refine closeLink x l1 ?_
  repeat (first | apply c_seq | apply c_reg | (apply wO; apply oc; rfl; exact ydE) | apply w_nil | apply n_cd | (apply wg_t; rfl; rfl) | (apply wg_f; rfl; rfl; rfl; rfl) | (apply wg_u; rfl; rfl; rfl) | (apply c_t; rfl) | (apply c_f; rfl) | apply c_skip | apply c_block | apply n_blk | apply c_exit | apply e_hit | apply e_cd | apply e_lp | (apply e_miss; rfl) | apply c_ret | (apply wO; apply o_box; rfl; rfl; rfl; intro _) | (apply wO; apply o_alloc; rfl; intro _) | (apply wO; apply o_st; rfl; rfl; rfl; (first | exact AggC.s | exact OneC.s); rfl; exact rplE; exact putE; rfl) | (apply wO; apply o_bs0; rfl; intro _) | (apply wO; apply o_bs; rfl; rfl; rfl; rfl; exact rptE; exact filE; intro _) | (apply wO; apply o_call; rfl; kernel_rfl; exact evsE))
  refine c_loopS [1, 4, 5, 6, 7] (fun s : SaS => [(8, .int .i64 s.n), (9, .int .i64 s.k)]) (fun s => [.row gg 26 0 [] [.slice s.a s.y.queue.length s.c, .string s.y.fates, .int .i64 s.y.used] [], .isv ELink (.agg #[.slice s.a s.y.queue.length s.c, .string s.y.fates, .int .i64 s.y.used]) s.y s.F]) (SaOk x xs) (fun s => xs.length - s.k) ⟨x, 0, 0, a2, c2, F3⟩ ⟨g1, Int.le_refl _, Int.le_refl _, Nat.zero_le _, rfl⟩ fun s hC => ?_
  obtain ⟨hg, n0, n1, hk, he⟩ := hC
  repeat (first | apply c_seq | apply c_reg | (apply wO; apply oc; rfl; exact ydE) | apply w_nil | apply n_cd | (apply wg_t; rfl; rfl) | (apply wg_f; rfl; rfl; rfl; rfl) | (apply wg_u; rfl; rfl; rfl) | (apply c_t; rfl) | (apply c_f; rfl) | apply c_skip | apply c_block | apply n_blk | apply c_exit | apply e_hit | apply e_cd | apply e_lp | (apply e_miss; rfl) | apply c_ret | (apply wO; apply o_box; rfl; rfl; rfl; intro _) | (apply wO; apply o_alloc; rfl; intro _) | (apply wO; apply o_st; rfl; rfl; rfl; (first | exact AggC.s | exact OneC.s); rfl; exact rplE; exact putE; rfl) | (apply wO; apply o_bs0; rfl; intro _) | (apply wO; apply o_bs; rfl; rfl; rfl; rfl; exact rptE; exact filE; intro _) | (apply wO; apply o_call; rfl; kernel_rfl; exact evsE))
  refine c_if rfl (fun h2 => ?_) (fun h2 => ?_)
  · have hk2 : s.k < xs.length := by omega
    repeat (first | apply c_seq | apply c_reg | (apply wO; apply oc; rfl; exact ydE) | apply w_nil | apply n_cd | (apply wg_t; rfl; rfl) | (apply wg_f; rfl; rfl; rfl; rfl) | (apply wg_u; rfl; rfl; rfl) | (apply c_t; rfl) | (apply c_f; rfl) | apply c_skip | apply c_block | apply n_blk | apply c_exit | apply e_hit | apply e_cd | apply e_lp | (apply e_miss; rfl) | apply c_ret | (apply wO; apply o_box; rfl; rfl; rfl; intro _) | (apply wO; apply o_alloc; rfl; intro _) | (apply wO; apply o_st; rfl; rfl; rfl; (first | exact AggC.s | exact OneC.s); rfl; exact rplE; exact putE; rfl) | (apply wO; apply o_bs0; rfl; intro _) | (apply wO; apply o_bs; rfl; rfl; rfl; rfl; exact rptE; exact filE; intro _) | (apply wO; apply o_call; rfl; kernel_rfl; exact evsE))
    refine c_joinS [1, 4, 5, 6, 7, 8, 9, 29, 30, 31, 32] [0, 1, 2, 3, 4, 5, 6, 7] (fun z : CpL => [(10, ptr z.g 0 0), (11, .bool (resSendOn s.y xs[s.k]).2)]) (fun z => [.row z.g 26 0 [] [.slice z.a (resSendOn s.y xs[s.k]).1.queue.length z.c, .string (resSendOn s.y xs[s.k]).1.fates, .int .i64 (resSendOn s.y xs[s.k]).1.used] [], .isv ELink (.agg #[.slice z.a (resSendOn s.y xs[s.k]).1.queue.length z.c, .string (resSendOn s.y xs[s.k]).1.fates, .int .i64 (resSendOn s.y xs[s.k]).1.used]) (resSendOn s.y xs[s.k]).1 z.F]) (fun _ => True) ?_ fun z _ => ?_
    · refine at_str (xs := xs) s.k ?_
      rintro hi b o e s1
      rw [e]
      refine d_start [0, 1] [] ?_
      refine dt 0 ?_
      refine dt 1 ?_
      refine dt 2 ?_
      refine dt 3 ?_
      refine dt 4 ?_
      refine dO2 5 9 (by kernel_rfl) (by rw [List.getElem?_toArray]; rfl) (by rw [List.getElem?_toArray]; rfl) ?_ ?_
      · apply o_call; rfl; kernel_rfl; exact evsE
        refine cf (specSendOn_f s.y xs[s.k] _ s.F s1) fun z _ => ?_
        refine t_app ?_
        refine dk ?_
        refine dt 6 ?_
        refine dt 7 ?_
        refine dt 8 ?_
        refine dO 9 (by kernel_rfl) (by rw [List.getElem?_toArray]; rfl) ?_
        apply o_alloc; rfl; intro _
        refine dk ?_
        refine dO 10 (by kernel_rfl) (by rw [List.getElem?_toArray]; rfl) ?_
        apply o_st; rfl; rfl; rfl; (first | exact AggC.s | exact OneC.s); rfl; exact rplE; exact putE; rfl
        refine dk ?_
        refine dt 11 ?_
        refine dd ?_
        refine n_join (⟨_, z.a, z.c, z.F⟩ : CpL) trivial
      · apply o_alloc; rfl; intro _
        refine dk ?_
        refine dO 5 (by kernel_rfl) (by rw [List.getElem?_toArray]; rfl) ?_
        apply o_call; rfl; kernel_rfl; exact evsE
        refine cf (specSendOn_f s.y xs[s.k] _ s.F s1) fun z _ => ?_
        refine t_app ?_
        refine dk ?_
        refine dt 6 ?_
        refine dt 7 ?_
        refine dt 8 ?_
        refine dO 10 (by kernel_rfl) (by rw [List.getElem?_toArray]; rfl) ?_
        apply o_st; rfl; rfl; rfl; (first | exact AggC.s | exact OneC.s); rfl; exact rplE; exact putE; rfl
        refine dk ?_
        refine dt 11 ?_
        refine dd ?_
        refine n_join (⟨_, z.a, z.c, z.F⟩ : CpL) trivial
    rw [sentAll_step hk2] at he
    cases g2 : sendOk s.y xs[s.k]
    · rw [g2, if_neg (by decide), show sendL s.y xs[s.k] = s.y by unfold sendL; rw [g2]; rfl] at he
      rw [resSendOn_no (by unfold okSendOn; rw [g2]; simp)]
      repeat (first | apply c_seq | apply c_reg | (apply wO; apply oc; rfl; exact ydE) | apply w_nil | apply n_cd | (apply wg_t; rfl; rfl) | (apply wg_f; rfl; rfl; rfl; rfl) | (apply wg_u; rfl; rfl; rfl) | (apply c_t; rfl) | (apply c_f; rfl) | apply c_skip | apply c_block | apply n_blk | apply c_exit | apply e_hit | apply e_cd | apply e_lp | (apply e_miss; rfl) | apply c_ret | (apply wO; apply o_box; rfl; rfl; rfl; intro _) | (apply wO; apply o_alloc; rfl; intro _) | (apply wO; apply o_st; rfl; rfl; rfl; (first | exact AggC.s | exact OneC.s); rfl; exact rplE; exact putE; rfl) | (apply wO; apply o_bs0; rfl; intro _) | (apply wO; apply o_bs; rfl; rfl; rfl; rfl; exact rptE; exact filE; intro _) | (apply wO; apply o_call; rfl; kernel_rfl; exact evsE))
      refine n_lp ⟨s.y, s.n + 1, s.k + 1, s.a, s.c, s.F⟩ ⟨hg, by show 0 ≤ s.n + 1; omega, by show s.n + 1 ≤ ((s.k + 1 : Nat) : Int); omega, hk2, he⟩ (by show xs.length - (s.k + 1) < _; omega)
    · rw [g2, if_pos rfl, show sendL s.y xs[s.k] = sentL s.y xs[s.k] by unfold sendL; rw [g2]; rfl] at he
      rw [resSendOn_yes (by unfold okSendOn; rw [hg, g2]; rfl)]
      repeat (first | apply c_seq | apply c_reg | (apply wO; apply oc; rfl; exact ydE) | apply w_nil | apply n_cd | (apply wg_t; rfl; rfl) | (apply wg_f; rfl; rfl; rfl; rfl) | (apply wg_u; rfl; rfl; rfl) | (apply c_t; rfl) | (apply c_f; rfl) | apply c_skip | apply c_block | apply n_blk | apply c_exit | apply e_hit | apply e_cd | apply e_lp | (apply e_miss; rfl) | apply c_ret | (apply wO; apply o_box; rfl; rfl; rfl; intro _) | (apply wO; apply o_alloc; rfl; intro _) | (apply wO; apply o_st; rfl; rfl; rfl; (first | exact AggC.s | exact OneC.s); rfl; exact rplE; exact putE; rfl) | (apply wO; apply o_bs0; rfl; intro _) | (apply wO; apply o_bs; rfl; rfl; rfl; rfl; exact rptE; exact filE; intro _) | (apply wO; apply o_call; rfl; kernel_rfl; exact evsE))
      refine n_lp ⟨sentL s.y xs[s.k], s.n, s.k + 1, z.a, z.c, z.F⟩ ⟨sent_good hg g2, n0, by show s.n ≤ ((s.k + 1 : Nat) : Int); omega, hk2, he⟩ (by show xs.length - (s.k + 1) < _; omega)
  · have hk2 : s.k = xs.length := by omega
    rw [hk2, List.drop_length] at he
    rw [resSendAll_yes (by unfold okSendAll; rw [g1, decide_eq_false h1]; rfl), show sentAll x 0 xs = (s.y, s.n) from he]
    repeat (first | apply c_seq | apply c_reg | (apply wO; apply oc; rfl; exact ydE) | apply w_nil | apply n_cd | (apply wg_t; rfl; rfl) | (apply wg_f; rfl; rfl; rfl; rfl) | (apply wg_u; rfl; rfl; rfl) | (apply c_t; rfl) | (apply c_f; rfl) | apply c_skip | apply c_block | apply n_blk | apply c_exit | apply e_hit | apply e_cd | apply e_lp | (apply e_miss; rfl) | apply c_ret | (apply wO; apply o_box; rfl; rfl; rfl; intro _) | (apply wO; apply o_alloc; rfl; intro _) | (apply wO; apply o_st; rfl; rfl; rfl; (first | exact AggC.s | exact OneC.s); rfl; exact rplE; exact putE; rfl) | (apply wO; apply o_bs0; rfl; intro _) | (apply wO; apply o_bs; rfl; rfl; rfl; rfl; exact rptE; exact filE; intro _) | (apply wO; apply o_call; rfl; kernel_rfl; exact evsE))
    refine ret ⟨s.a, s.c, s.F⟩ trivial rfl
theorem specSendAll_c (v0 : Value) (x0 : Link) (F0 : List Nat) (v1 : Value) (x1 : List ByteArray) (F1 : List Nat) (w : World) (h0 : IsV ELink w v0 x0 F0) (h1 : Sl EStr w v1 x1 F1) :
    Calls Tryd.prog 22 #[v0, v1] w (PS_SendAll (resSendAll x0 x1) w) := by
  refine ((specSendAll_f x0 x1 v0 v1 F0 F1).read w (hol2 h0 ⟨by decide, h1⟩)).mono ?_
  rintro e w' ⟨s, -, rfl, hH, hB⟩
  exact ⟨_, s.F, rfl, hH _ (List.mem_cons_self ..), hB⟩
end Go.Proofs.YtkcajnpdmgafjaaDoor
