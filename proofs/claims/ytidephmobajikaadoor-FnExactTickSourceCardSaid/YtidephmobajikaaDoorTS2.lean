/- Sources: TickSource of the reference. -/
import Derived.Test.YtidephmobajikaaDoorTS1
namespace Go.Proofs.YtidephmobajikaaDoor
open Go.RowKit
theorem l9Drop0_f (x : SendWindow) (v : Value) (F : List Nat) (t0 : 0 ≤ x.trail) (t1 : x.trail ≤ 65535) (hl : x.items.length ≤ 4294967296) : Fn Tryd.prog 118 [v, .int .i64 0] [.isv ESendWindow v x F] [] (fun (_ : Value × List Nat) => True) (fun s => s.1) (fun s => [.own OSendWindow s.1 x s.2]) := by
  have e0 : (⟨aft x.trail ((0 : Nat) : Int), x.size, x.items.drop 0⟩ : SendWindow) = x := by
    have : aft x.trail ((0 : Nat) : Int) = x.trail := by unfold aft; omega
    rw [this]; rfl
  refine fn_made fun w hA => (l9Drop_c v x F 0 w (hA (.isv ESendWindow v x F) (by simp)) (Nat.zero_le _) hl (isSer_iff.2 ⟨t0, t1⟩)).mono ?_
  rintro e w' ⟨u, G, he, ho, hn, hF, hB⟩
  rw [e0] at ho
  exact ⟨(u, G), trivial, he, ⟨hn, ho⟩, hF, hB⟩
theorem keepU_T {W : SendWindow} {cl : Int} {hs : List Hold} (h : ∀ z ∈ hs, heldB W z.number = true) : keepU W cl hs = keepT cl hs := by
  unfold keepU keepT
  refine List.filter_congr fun z hz => ?_
  rw [h z hz, Bool.true_and]
  by_cases hc : cl < z.untl
  · rw [decide_eq_true hc, decide_eq_false (by omega)]; rfl
  · rw [decide_eq_false hc, decide_eq_true (by omega)]; rfl
set_option maxRecDepth 100000 in
theorem l11Tick_f (x : Source) (v : Value) (F : List Nat) (hg : goodSrc x = true) :
    Fn Tryd.prog 156 [v] [.isv ESource v x F] [] (fun (_ : TiS) => True) (fun s => .tuple #[.agg #[.int .i64 (tickS x).window.trail, .int .i64 (tickS x).window.size, .slice s.a (tickS x).window.items.length s.c, .int .i64 (tickS x).clock, .int .i64 (tickS x).quiet, .slice s.a2 (tickS x).holds.length s.c2], .slice s.ae (tickP x.window x.quiet).length s.ce])
      (fun s => [.isv ESource (.agg #[.int .i64 (tickS x).window.trail, .int .i64 (tickS x).window.size, .slice s.a (tickS x).window.items.length s.c, .int .i64 (tickS x).clock, .int .i64 (tickS x).quiet, .slice s.a2 (tickS x).holds.length s.c2]) (tickS x) s.F, .ow EPacket 30 (.slice s.ae (tickP x.window x.quiet).length s.ce) (tickP x.window x.quiet) s.Fe]) := by
  obtain ⟨gw, hl, t0, t1, k0, k1, hm, hn, hu, hb⟩ := goodS_of hg
  obtain ⟨q0, q3⟩ := quiet_bd hg
  have hh := good_held hg
  refine enter Tryd.func156 rfl Tryd.ntmps156 fun w0 => ?_
  refine openSource ?_
  rintro a1 c1 F1 a2 c2 F2 rfl l1 l2
  refine closeSendWindow x.window (a1 := a1) ?_
  repeat (first | apply c_seq | apply c_reg | (apply wO; apply oc; rfl; exact ydE) | apply w_nil | apply n_cd | (apply wg_t; rfl; rfl) | (apply wg_f; rfl; rfl; rfl; rfl) | (apply wg_u; rfl; rfl; rfl) | (apply c_t; rfl) | (apply c_f; rfl) | apply c_skip | apply c_block | apply n_blk | apply c_exit | apply e_hit | apply e_cd | apply e_lp | (apply e_miss; rfl) | apply c_ret | (apply wO; apply o_box; rfl; rfl; rfl; intro _) | (apply wO; apply o_alloc; rfl; intro _) | (apply wO; apply o_st; rfl; rfl; rfl; (first | exact AggC.s | exact OneC.s); rfl; exact rplE; exact putE; rfl) | (apply wO; apply o_bs0; rfl; intro _) | (apply wO; apply o_bs; rfl; rfl; rfl; rfl; exact rptE; exact filE; intro _) | (apply wO; apply o_call; rfl; kernel_rfl; exact evsE))
  refine cf (l9Drop0_f x.window _ F1 t0 t1 (by omega)) fun y _ => ?_
  refine t_app ?_
  refine openOSendWindow ?_
  rintro a5 c5 F5 e5 l5
  rw [e5]
  have hH := fun v a c F G => l11Holds_f x.window x.holds (x.clock + 1) v a c F G t0 t1 (by omega) hn
  simp only [keepU_T hh] at hH
  repeat (first | apply c_seq | apply c_reg | (apply wO; apply oc; rfl; exact ydE) | apply w_nil | apply n_cd | (apply wg_t; rfl; rfl) | (apply wg_f; rfl; rfl; rfl; rfl) | (apply wg_u; rfl; rfl; rfl) | (apply c_t; rfl) | (apply c_f; rfl) | apply c_skip | apply c_block | apply n_blk | apply c_exit | apply e_hit | apply e_cd | apply e_lp | (apply e_miss; rfl) | apply c_ret | (apply wO; apply o_box; rfl; rfl; rfl; intro _) | (apply wO; apply o_alloc; rfl; intro _) | (apply wO; apply o_st; rfl; rfl; rfl; (first | exact AggC.s | exact OneC.s); rfl; exact rplE; exact putE; rfl) | (apply wO; apply o_bs0; rfl; intro _) | (apply wO; apply o_bs; rfl; rfl; rfl; rfl; exact rptE; exact filE; intro _) | (apply wO; apply o_call; rfl; kernel_rfl; exact evsE))
  refine t_read (xs := x.window.items) fun F8 => ?_
  refine closeSendWindow x.window (a1 := a5) ?_
  refine d_start [2, 4] [] ?_
  refine dt 0 ?_
  refine dt 1 ?_
  refine dt 2 ?_
  refine dt 3 ?_
  refine dt 4 ?_
  refine dt 5 ?_
  refine dt 6 ?_
  refine dt 7 ?_
  refine dt 8 ?_
  refine dt 9 ?_
  refine dt 10 ?_
  refine dt 11 ?_
  refine dt 12 ?_
  refine dO2 13 15 (by kernel_rfl) (by rw [List.getElem?_toArray]; rfl) (by rw [List.getElem?_toArray]; rfl) ?_ ?_
  · apply o_call; rfl; kernel_rfl; exact evsE
    refine cf (hH _ a2 c2 _ _) fun z _ => ?_
    refine t_app ?_
    refine dk ?_
    refine dt 14 ?_
    refine dO 15 (by kernel_rfl) (by rw [List.getElem?_toArray]; rfl) ?_
    apply o_alloc; rfl; intro _
    refine dk ?_
    refine dO 16 (by kernel_rfl) (by rw [List.getElem?_toArray]; rfl) ?_
    apply o_st; rfl; rfl; rfl; (first | exact AggC.s | exact OneC.s); rfl; exact rplE; exact putE; rfl
    refine dk ?_
    refine dd ?_
    repeat (first | apply c_seq | apply c_reg | (apply wO; apply oc; rfl; exact ydE) | apply w_nil | apply n_cd | (apply wg_t; rfl; rfl) | (apply wg_f; rfl; rfl; rfl; rfl) | (apply wg_u; rfl; rfl; rfl) | (apply c_t; rfl) | (apply c_f; rfl) | apply c_skip | apply c_block | apply n_blk | apply c_exit | apply e_hit | apply e_cd | apply e_lp | (apply e_miss; rfl) | apply c_ret | (apply wO; apply o_box; rfl; rfl; rfl; intro _) | (apply wO; apply o_alloc; rfl; intro _) | (apply wO; apply o_st; rfl; rfl; rfl; (first | exact AggC.s | exact OneC.s); rfl; exact rplE; exact putE; rfl) | (apply wO; apply o_bs0; rfl; intro _) | (apply wO; apply o_bs; rfl; rfl; rfl; rfl; exact rptE; exact filE; intro _) | (apply wO; apply o_call; rfl; kernel_rfl; exact evsE))
    refine c_if rfl (fun h1 => ?_) (fun h1 => ?_)
    · rw [show tickS x = ⟨x.window, x.clock + 1, 0, keepT (x.clock + 1) x.holds⟩ from by unfold tickS tickQ; rw [if_neg (by omega)], show tickP x.window x.quiet = [statP x.window] from if_neg (by omega)]
      repeat (first | apply c_seq | apply c_reg | (apply wO; apply oc; rfl; exact ydE) | apply w_nil | apply n_cd | (apply wg_t; rfl; rfl) | (apply wg_f; rfl; rfl; rfl; rfl) | (apply wg_u; rfl; rfl; rfl) | (apply c_t; rfl) | (apply c_f; rfl) | apply c_skip | apply c_block | apply n_blk | apply c_exit | apply e_hit | apply e_cd | apply e_lp | (apply e_miss; rfl) | apply c_ret | (apply wO; apply o_box; rfl; rfl; rfl; intro _) | (apply wO; apply o_alloc; rfl; intro _) | (apply wO; apply o_st; rfl; rfl; rfl; (first | exact AggC.s | exact OneC.s); rfl; exact rplE; exact putE; rfl) | (apply wO; apply o_bs0; rfl; intro _) | (apply wO; apply o_bs; rfl; rfl; rfl; rfl; exact rptE; exact filE; intro _) | (apply wO; apply o_call; rfl; kernel_rfl; exact evsE))
      refine t_read (E := EHold) fun F9 => ?_
      refine closeSource ⟨x.window, x.clock + 1, 0, keepT (x.clock + 1) x.holds⟩ (a1 := a5) ?_
      refine d_start [2, 5] [] ?_
      refine dt 0 ?_
      refine dt 1 ?_
      refine dO 2 (by kernel_rfl) (by rw [List.getElem?_toArray]; rfl) ?_
      apply o_call; rfl; kernel_rfl; exact evsE
      refine cf (l9Status_f x.window.trail x.window.size _ x.window.items.length _ t0 t1 (by omega)) fun _ _ => ?_
      refine t_app ?_
      refine dk ?_
      refine dO2 3 4 (by kernel_rfl) (by rw [List.getElem?_toArray]; rfl) (by rw [List.getElem?_toArray]; rfl) ?_ ?_
      · apply o_bs; rfl; rfl; rfl; rfl; exact rptE; exact filE; intro _
        refine dk ?_
        refine dO 4 (by kernel_rfl) (by rw [List.getElem?_toArray]; rfl) ?_
        apply o_st; rfl; rfl; rfl; (first | exact AggC.s | exact OneC.s); rfl; exact rplE; exact putE; rfl
        refine dk ?_
        refine dt 5 ?_
        refine dd ?_
        repeat (first | apply c_seq | apply c_reg | (apply wO; apply oc; rfl; exact ydE) | apply w_nil | apply n_cd | (apply wg_t; rfl; rfl) | (apply wg_f; rfl; rfl; rfl; rfl) | (apply wg_u; rfl; rfl; rfl) | (apply c_t; rfl) | (apply c_f; rfl) | apply c_skip | apply c_block | apply n_blk | apply c_exit | apply e_hit | apply e_cd | apply e_lp | (apply e_miss; rfl) | apply c_ret | (apply wO; apply o_box; rfl; rfl; rfl; intro _) | (apply wO; apply o_alloc; rfl; intro _) | (apply wO; apply o_st; rfl; rfl; rfl; (first | exact AggC.s | exact OneC.s); rfl; exact rplE; exact putE; rfl) | (apply wO; apply o_bs0; rfl; intro _) | (apply wO; apply o_bs; rfl; rfl; rfl; rfl; exact rptE; exact filE; intro _) | (apply wO; apply o_call; rfl; kernel_rfl; exact evsE))
        refine t_row (xs := [statP x.window]) (flatPacket _ (by show (⟨#[]⟩ : ByteArray).size ≤ maxLen; decide)) ?_ (by simp)
        refine ret ⟨_, _, _, _, _, _, _, _⟩ trivial rfl
      · apply o_st; rfl; rfl; rfl; (first | exact AggC.s | exact OneC.s); rfl; exact rplE; exact putE; rfl
        refine dk ?_
        refine dO 3 (by kernel_rfl) (by rw [List.getElem?_toArray]; rfl) ?_
        apply o_bs; rfl; rfl; rfl; rfl; exact rptE; exact filE; intro _
        refine dk ?_
        refine dt 5 ?_
        refine dd ?_
        repeat (first | apply c_seq | apply c_reg | (apply wO; apply oc; rfl; exact ydE) | apply w_nil | apply n_cd | (apply wg_t; rfl; rfl) | (apply wg_f; rfl; rfl; rfl; rfl) | (apply wg_u; rfl; rfl; rfl) | (apply c_t; rfl) | (apply c_f; rfl) | apply c_skip | apply c_block | apply n_blk | apply c_exit | apply e_hit | apply e_cd | apply e_lp | (apply e_miss; rfl) | apply c_ret | (apply wO; apply o_box; rfl; rfl; rfl; intro _) | (apply wO; apply o_alloc; rfl; intro _) | (apply wO; apply o_st; rfl; rfl; rfl; (first | exact AggC.s | exact OneC.s); rfl; exact rplE; exact putE; rfl) | (apply wO; apply o_bs0; rfl; intro _) | (apply wO; apply o_bs; rfl; rfl; rfl; rfl; exact rptE; exact filE; intro _) | (apply wO; apply o_call; rfl; kernel_rfl; exact evsE))
        refine t_row (xs := [statP x.window]) (flatPacket _ (by show (⟨#[]⟩ : ByteArray).size ≤ maxLen; decide)) ?_ (by simp)
        refine ret ⟨_, _, _, _, _, _, _, _⟩ trivial rfl
    · rw [show tickS x = ⟨x.window, x.clock + 1, x.quiet + 1, keepT (x.clock + 1) x.holds⟩ from by unfold tickS tickQ; rw [if_pos (by omega)], show tickP x.window x.quiet = [] from if_pos (by omega)]
      repeat (first | apply c_seq | apply c_reg | (apply wO; apply oc; rfl; exact ydE) | apply w_nil | apply n_cd | (apply wg_t; rfl; rfl) | (apply wg_f; rfl; rfl; rfl; rfl) | (apply wg_u; rfl; rfl; rfl) | (apply c_t; rfl) | (apply c_f; rfl) | apply c_skip | apply c_block | apply n_blk | apply c_exit | apply e_hit | apply e_cd | apply e_lp | (apply e_miss; rfl) | apply c_ret | (apply wO; apply o_box; rfl; rfl; rfl; intro _) | (apply wO; apply o_alloc; rfl; intro _) | (apply wO; apply o_st; rfl; rfl; rfl; (first | exact AggC.s | exact OneC.s); rfl; exact rplE; exact putE; rfl) | (apply wO; apply o_bs0; rfl; intro _) | (apply wO; apply o_bs; rfl; rfl; rfl; rfl; exact rptE; exact filE; intro _) | (apply wO; apply o_call; rfl; kernel_rfl; exact evsE))
      refine t_emp EPacket ?_
      refine t_read (E := EHold) fun F9 => ?_
      refine closeSource ⟨x.window, x.clock + 1, x.quiet + 1, keepT (x.clock + 1) x.holds⟩ (a1 := a5) ?_
      refine ret ⟨_, _, _, _, _, _, _, _⟩ trivial rfl
  · apply o_alloc; rfl; intro _
    refine dk ?_
    refine dO 13 (by kernel_rfl) (by rw [List.getElem?_toArray]; rfl) ?_
    apply o_call; rfl; kernel_rfl; exact evsE
    refine cf (hH _ a2 c2 _ _) fun z _ => ?_
    refine t_app ?_
    refine dk ?_
    refine dt 14 ?_
    refine dO 16 (by kernel_rfl) (by rw [List.getElem?_toArray]; rfl) ?_
    apply o_st; rfl; rfl; rfl; (first | exact AggC.s | exact OneC.s); rfl; exact rplE; exact putE; rfl
    refine dk ?_
    refine dd ?_
    repeat (first | apply c_seq | apply c_reg | (apply wO; apply oc; rfl; exact ydE) | apply w_nil | apply n_cd | (apply wg_t; rfl; rfl) | (apply wg_f; rfl; rfl; rfl; rfl) | (apply wg_u; rfl; rfl; rfl) | (apply c_t; rfl) | (apply c_f; rfl) | apply c_skip | apply c_block | apply n_blk | apply c_exit | apply e_hit | apply e_cd | apply e_lp | (apply e_miss; rfl) | apply c_ret | (apply wO; apply o_box; rfl; rfl; rfl; intro _) | (apply wO; apply o_alloc; rfl; intro _) | (apply wO; apply o_st; rfl; rfl; rfl; (first | exact AggC.s | exact OneC.s); rfl; exact rplE; exact putE; rfl) | (apply wO; apply o_bs0; rfl; intro _) | (apply wO; apply o_bs; rfl; rfl; rfl; rfl; exact rptE; exact filE; intro _) | (apply wO; apply o_call; rfl; kernel_rfl; exact evsE))
    refine c_if rfl (fun h1 => ?_) (fun h1 => ?_)
    · rw [show tickS x = ⟨x.window, x.clock + 1, 0, keepT (x.clock + 1) x.holds⟩ from by unfold tickS tickQ; rw [if_neg (by omega)], show tickP x.window x.quiet = [statP x.window] from if_neg (by omega)]
      repeat (first | apply c_seq | apply c_reg | (apply wO; apply oc; rfl; exact ydE) | apply w_nil | apply n_cd | (apply wg_t; rfl; rfl) | (apply wg_f; rfl; rfl; rfl; rfl) | (apply wg_u; rfl; rfl; rfl) | (apply c_t; rfl) | (apply c_f; rfl) | apply c_skip | apply c_block | apply n_blk | apply c_exit | apply e_hit | apply e_cd | apply e_lp | (apply e_miss; rfl) | apply c_ret | (apply wO; apply o_box; rfl; rfl; rfl; intro _) | (apply wO; apply o_alloc; rfl; intro _) | (apply wO; apply o_st; rfl; rfl; rfl; (first | exact AggC.s | exact OneC.s); rfl; exact rplE; exact putE; rfl) | (apply wO; apply o_bs0; rfl; intro _) | (apply wO; apply o_bs; rfl; rfl; rfl; rfl; exact rptE; exact filE; intro _) | (apply wO; apply o_call; rfl; kernel_rfl; exact evsE))
      refine t_read (E := EHold) fun F9 => ?_
      refine closeSource ⟨x.window, x.clock + 1, 0, keepT (x.clock + 1) x.holds⟩ (a1 := a5) ?_
      refine d_start [2, 5] [] ?_
      refine dt 0 ?_
      refine dt 1 ?_
      refine dO 2 (by kernel_rfl) (by rw [List.getElem?_toArray]; rfl) ?_
      apply o_call; rfl; kernel_rfl; exact evsE
      refine cf (l9Status_f x.window.trail x.window.size _ x.window.items.length _ t0 t1 (by omega)) fun _ _ => ?_
      refine t_app ?_
      refine dk ?_
      refine dO2 3 4 (by kernel_rfl) (by rw [List.getElem?_toArray]; rfl) (by rw [List.getElem?_toArray]; rfl) ?_ ?_
      · apply o_bs; rfl; rfl; rfl; rfl; exact rptE; exact filE; intro _
        refine dk ?_
        refine dO 4 (by kernel_rfl) (by rw [List.getElem?_toArray]; rfl) ?_
        apply o_st; rfl; rfl; rfl; (first | exact AggC.s | exact OneC.s); rfl; exact rplE; exact putE; rfl
        refine dk ?_
        refine dt 5 ?_
        refine dd ?_
        repeat (first | apply c_seq | apply c_reg | (apply wO; apply oc; rfl; exact ydE) | apply w_nil | apply n_cd | (apply wg_t; rfl; rfl) | (apply wg_f; rfl; rfl; rfl; rfl) | (apply wg_u; rfl; rfl; rfl) | (apply c_t; rfl) | (apply c_f; rfl) | apply c_skip | apply c_block | apply n_blk | apply c_exit | apply e_hit | apply e_cd | apply e_lp | (apply e_miss; rfl) | apply c_ret | (apply wO; apply o_box; rfl; rfl; rfl; intro _) | (apply wO; apply o_alloc; rfl; intro _) | (apply wO; apply o_st; rfl; rfl; rfl; (first | exact AggC.s | exact OneC.s); rfl; exact rplE; exact putE; rfl) | (apply wO; apply o_bs0; rfl; intro _) | (apply wO; apply o_bs; rfl; rfl; rfl; rfl; exact rptE; exact filE; intro _) | (apply wO; apply o_call; rfl; kernel_rfl; exact evsE))
        refine t_row (xs := [statP x.window]) (flatPacket _ (by show (⟨#[]⟩ : ByteArray).size ≤ maxLen; decide)) ?_ (by simp)
        refine ret ⟨_, _, _, _, _, _, _, _⟩ trivial rfl
      · apply o_st; rfl; rfl; rfl; (first | exact AggC.s | exact OneC.s); rfl; exact rplE; exact putE; rfl
        refine dk ?_
        refine dO 3 (by kernel_rfl) (by rw [List.getElem?_toArray]; rfl) ?_
        apply o_bs; rfl; rfl; rfl; rfl; exact rptE; exact filE; intro _
        refine dk ?_
        refine dt 5 ?_
        refine dd ?_
        repeat (first | apply c_seq | apply c_reg | (apply wO; apply oc; rfl; exact ydE) | apply w_nil | apply n_cd | (apply wg_t; rfl; rfl) | (apply wg_f; rfl; rfl; rfl; rfl) | (apply wg_u; rfl; rfl; rfl) | (apply c_t; rfl) | (apply c_f; rfl) | apply c_skip | apply c_block | apply n_blk | apply c_exit | apply e_hit | apply e_cd | apply e_lp | (apply e_miss; rfl) | apply c_ret | (apply wO; apply o_box; rfl; rfl; rfl; intro _) | (apply wO; apply o_alloc; rfl; intro _) | (apply wO; apply o_st; rfl; rfl; rfl; (first | exact AggC.s | exact OneC.s); rfl; exact rplE; exact putE; rfl) | (apply wO; apply o_bs0; rfl; intro _) | (apply wO; apply o_bs; rfl; rfl; rfl; rfl; exact rptE; exact filE; intro _) | (apply wO; apply o_call; rfl; kernel_rfl; exact evsE))
        refine t_row (xs := [statP x.window]) (flatPacket _ (by show (⟨#[]⟩ : ByteArray).size ≤ maxLen; decide)) ?_ (by simp)
        refine ret ⟨_, _, _, _, _, _, _, _⟩ trivial rfl
    · rw [show tickS x = ⟨x.window, x.clock + 1, x.quiet + 1, keepT (x.clock + 1) x.holds⟩ from by unfold tickS tickQ; rw [if_pos (by omega)], show tickP x.window x.quiet = [] from if_pos (by omega)]
      repeat (first | apply c_seq | apply c_reg | (apply wO; apply oc; rfl; exact ydE) | apply w_nil | apply n_cd | (apply wg_t; rfl; rfl) | (apply wg_f; rfl; rfl; rfl; rfl) | (apply wg_u; rfl; rfl; rfl) | (apply c_t; rfl) | (apply c_f; rfl) | apply c_skip | apply c_block | apply n_blk | apply c_exit | apply e_hit | apply e_cd | apply e_lp | (apply e_miss; rfl) | apply c_ret | (apply wO; apply o_box; rfl; rfl; rfl; intro _) | (apply wO; apply o_alloc; rfl; intro _) | (apply wO; apply o_st; rfl; rfl; rfl; (first | exact AggC.s | exact OneC.s); rfl; exact rplE; exact putE; rfl) | (apply wO; apply o_bs0; rfl; intro _) | (apply wO; apply o_bs; rfl; rfl; rfl; rfl; exact rptE; exact filE; intro _) | (apply wO; apply o_call; rfl; kernel_rfl; exact evsE))
      refine t_emp EPacket ?_
      refine t_read (E := EHold) fun F9 => ?_
      refine closeSource ⟨x.window, x.clock + 1, x.quiet + 1, keepT (x.clock + 1) x.holds⟩ (a1 := a5) ?_
      refine ret ⟨_, _, _, _, _, _, _, _⟩ trivial rfl

set_option maxRecDepth 100000 in
theorem specTickSource_f (x : Source) (v : Value) (F : List Nat) :
    Fn Tryd.prog 72 [v] [.isv ESource v x F] [] (fun (_ : TiS) => True)
      (fun s => .tuple #[.agg #[.int .i64 (resTickSource x).1.window.trail, .int .i64 (resTickSource x).1.window.size, .slice s.a (resTickSource x).1.window.items.length s.c, .int .i64 (resTickSource x).1.clock, .int .i64 (resTickSource x).1.quiet, .slice s.a2 (resTickSource x).1.holds.length s.c2], .slice s.ae (resTickSource x).2.1.length s.ce, .bool (resTickSource x).2.2]) (fun s => [.isv ESource (.agg #[.int .i64 (resTickSource x).1.window.trail, .int .i64 (resTickSource x).1.window.size, .slice s.a (resTickSource x).1.window.items.length s.c, .int .i64 (resTickSource x).1.clock, .int .i64 (resTickSource x).1.quiet, .slice s.a2 (resTickSource x).1.holds.length s.c2]) (resTickSource x).1 s.F, .ow EPacket 30 (.slice s.ae (resTickSource x).2.1.length s.ce) (resTickSource x).2.1 s.Fe]) := by
  refine enter Tryd.func72 rfl Tryd.ntmps72 fun w0 => ?_
  refine t_nilsl EStr (by decide) ?_
  refine t_nilsl EHold (by decide) ?_
  refine closeSource zSrc ?_
  refine openSource (x := x) (F := F) ?_
  rintro a1 c1 F1 a2 c2 F2 rfl l1 l2
  repeat (first | apply c_seq | apply c_reg | (apply wO; apply oc; rfl; exact ydE) | apply w_nil | apply n_cd | (apply wg_t; rfl; rfl) | (apply wg_f; rfl; rfl; rfl; rfl) | (apply wg_u; rfl; rfl; rfl) | (apply c_t; rfl) | (apply c_f; rfl) | apply c_skip | apply c_block | apply n_blk | apply c_exit | apply e_hit | apply e_cd | apply e_lp | (apply e_miss; rfl) | apply c_ret | (apply wO; apply o_box; rfl; rfl; rfl; intro _) | (apply wO; apply o_alloc; rfl; intro _) | (apply wO; apply o_st; rfl; rfl; rfl; (first | exact AggC.s | exact OneC.s); rfl; exact rplE; exact putE; rfl) | (apply wO; apply o_bs0; rfl; intro _) | (apply wO; apply o_bs; rfl; rfl; rfl; rfl; exact rptE; exact filE; intro _) | (apply wO; apply o_call; rfl; kernel_rfl; exact evsE))
  refine cb (fun w st => (l11Good_f x _ F).val w (hol1 (st.get (p := .isv ESource (.agg #[.int .i64 x.window.trail, .int .i64 x.window.size, .slice a1 x.window.items.length c1, .int .i64 x.clock, .int .i64 x.quiet, .slice a2 x.holds.length c2]) x F) (by simp)))) ?_
  cases g1 : goodSrc x
  · repeat (first | apply c_seq | apply c_reg | (apply wO; apply oc; rfl; exact ydE) | apply w_nil | apply n_cd | (apply wg_t; rfl; rfl) | (apply wg_f; rfl; rfl; rfl; rfl) | (apply wg_u; rfl; rfl; rfl) | (apply c_t; rfl) | (apply c_f; rfl) | apply c_skip | apply c_block | apply n_blk | apply c_exit | apply e_hit | apply e_cd | apply e_lp | (apply e_miss; rfl) | apply c_ret | (apply wO; apply o_box; rfl; rfl; rfl; intro _) | (apply wO; apply o_alloc; rfl; intro _) | (apply wO; apply o_st; rfl; rfl; rfl; (first | exact AggC.s | exact OneC.s); rfl; exact rplE; exact putE; rfl) | (apply wO; apply o_bs0; rfl; intro _) | (apply wO; apply o_bs; rfl; rfl; rfl; rfl; exact rptE; exact filE; intro _) | (apply wO; apply o_call; rfl; kernel_rfl; exact evsE))
    refine t_emp EPacket ?_
    rw [resTick_no (by unfold okTickSource; rw [g1]; rfl)]
    refine ret ⟨none, 0, none, 0, [] ++ [], _, _, _⟩ trivial rfl
  obtain ⟨gw, hl, t0, t1, k0, k1, hm, hn, hu, hb⟩ := goodS_of g1
  repeat (first | apply c_seq | apply c_reg | (apply wO; apply oc; rfl; exact ydE) | apply w_nil | apply n_cd | (apply wg_t; rfl; rfl) | (apply wg_f; rfl; rfl; rfl; rfl) | (apply wg_u; rfl; rfl; rfl) | (apply c_t; rfl) | (apply c_f; rfl) | apply c_skip | apply c_block | apply n_blk | apply c_exit | apply e_hit | apply e_cd | apply e_lp | (apply e_miss; rfl) | apply c_ret | (apply wO; apply o_box; rfl; rfl; rfl; intro _) | (apply wO; apply o_alloc; rfl; intro _) | (apply wO; apply o_st; rfl; rfl; rfl; (first | exact AggC.s | exact OneC.s); rfl; exact rplE; exact putE; rfl) | (apply wO; apply o_bs0; rfl; intro _) | (apply wO; apply o_bs; rfl; rfl; rfl; rfl; exact rptE; exact filE; intro _) | (apply wO; apply o_call; rfl; kernel_rfl; exact evsE))
  refine c_if rfl (fun h2 => ?_) (fun h2 => ?_)
  · repeat (first | apply c_seq | apply c_reg | (apply wO; apply oc; rfl; exact ydE) | apply w_nil | apply n_cd | (apply wg_t; rfl; rfl) | (apply wg_f; rfl; rfl; rfl; rfl) | (apply wg_u; rfl; rfl; rfl) | (apply c_t; rfl) | (apply c_f; rfl) | apply c_skip | apply c_block | apply n_blk | apply c_exit | apply e_hit | apply e_cd | apply e_lp | (apply e_miss; rfl) | apply c_ret | (apply wO; apply o_box; rfl; rfl; rfl; intro _) | (apply wO; apply o_alloc; rfl; intro _) | (apply wO; apply o_st; rfl; rfl; rfl; (first | exact AggC.s | exact OneC.s); rfl; exact rplE; exact putE; rfl) | (apply wO; apply o_bs0; rfl; intro _) | (apply wO; apply o_bs; rfl; rfl; rfl; rfl; exact rptE; exact filE; intro _) | (apply wO; apply o_call; rfl; kernel_rfl; exact evsE))
    refine t_emp EPacket ?_
    rw [resTick_no (by unfold okTickSource; rw [g1, decide_eq_true h2]; rfl)]
    refine ret ⟨none, 0, none, 0, [] ++ [], _, _, _⟩ trivial rfl
  rw [resTick_yes (by unfold okTickSource; rw [g1, decide_eq_false h2]; rfl)]
  repeat (first | apply c_seq | apply c_reg | (apply wO; apply oc; rfl; exact ydE) | apply w_nil | apply n_cd | (apply wg_t; rfl; rfl) | (apply wg_f; rfl; rfl; rfl; rfl) | (apply wg_u; rfl; rfl; rfl) | (apply c_t; rfl) | (apply c_f; rfl) | apply c_skip | apply c_block | apply n_blk | apply c_exit | apply e_hit | apply e_cd | apply e_lp | (apply e_miss; rfl) | apply c_ret | (apply wO; apply o_box; rfl; rfl; rfl; intro _) | (apply wO; apply o_alloc; rfl; intro _) | (apply wO; apply o_st; rfl; rfl; rfl; (first | exact AggC.s | exact OneC.s); rfl; exact rplE; exact putE; rfl) | (apply wO; apply o_bs0; rfl; intro _) | (apply wO; apply o_bs; rfl; rfl; rfl; rfl; exact rptE; exact filE; intro _) | (apply wO; apply o_call; rfl; kernel_rfl; exact evsE))
  refine cf (l11Tick_f x _ F g1) fun q _ => ?_
  refine t_app ?_
  repeat (first | apply c_seq | apply c_reg | (apply wO; apply oc; rfl; exact ydE) | apply w_nil | apply n_cd | (apply wg_t; rfl; rfl) | (apply wg_f; rfl; rfl; rfl; rfl) | (apply wg_u; rfl; rfl; rfl) | (apply c_t; rfl) | (apply c_f; rfl) | apply c_skip | apply c_block | apply n_blk | apply c_exit | apply e_hit | apply e_cd | apply e_lp | (apply e_miss; rfl) | apply c_ret | (apply wO; apply o_box; rfl; rfl; rfl; intro _) | (apply wO; apply o_alloc; rfl; intro _) | (apply wO; apply o_st; rfl; rfl; rfl; (first | exact AggC.s | exact OneC.s); rfl; exact rplE; exact putE; rfl) | (apply wO; apply o_bs0; rfl; intro _) | (apply wO; apply o_bs; rfl; rfl; rfl; rfl; exact rptE; exact filE; intro _) | (apply wO; apply o_call; rfl; kernel_rfl; exact evsE))
  refine ret ⟨_, _, _, _, _, _, _, _⟩ trivial rfl
theorem specTickSource_c (v0 : Value) (x0 : Source) (F0 : List Nat) (w : World) (h0 : IsV ESource w v0 x0 F0) :
    Calls Tryd.prog 72 #[v0] w (PS_TickSource (resTickSource x0) w) := by
  refine ((specTickSource_f x0 v0 F0).read w (hol1 h0)).mono ?_
  rintro e w' ⟨s, -, rfl, hH, hB⟩
  obtain ⟨G, -, hs⟩ := (hH _ (List.mem_cons_of_mem _ (List.mem_cons_self ..))).2.read
  exact ⟨_, s.F, _, G, rfl, hH _ (List.mem_cons_self ..), hs, hB⟩
end Go.Proofs.YtidephmobajikaaDoor
