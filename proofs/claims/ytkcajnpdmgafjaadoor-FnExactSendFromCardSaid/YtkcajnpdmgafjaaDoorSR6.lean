/- Sources: TrimSource of the reference. -/
import Derived.Test.YtkcajnpdmgafjaaDoorSR5
namespace Go.Proofs.YtkcajnpdmgafjaaDoor
open Go.RowKit
def wv (x : Source) (W : SendWindow) (s : SrcS) : Value := .agg #[.int .i64 W.trail, .int .i64 W.size, .slice s.a W.items.length s.c, .int .i64 x.clock, .int .i64 x.quiet, .slice s.a2 (keepH W x.holds).length s.c2]
set_option maxRecDepth 100000 in
theorem l11With_f (x : Source) (W : SendWindow) (v vw : Value) (F Fw : List Nat) (y0 : 0 ≤ W.trail) (y1 : W.trail ≤ 65535) (hl : x.holds.length ≤ 1000) (hn : ∀ h ∈ x.holds, isSer h.number = true) (hu : ∀ h ∈ x.holds, x.clock + 1 ≤ h.untl) :
    Fn Tryd.prog 190 [v, vw] [.isv ESource v x F, .isv ESendWindow vw W Fw] [] (fun (_ : SrcS) => True) (fun s => .agg #[.int .i64 W.trail, .int .i64 W.size, .slice s.a W.items.length s.c, .int .i64 x.clock, .int .i64 x.quiet, .slice s.a2 (keepH W x.holds).length s.c2])
      (fun s => [.isv ESource (.agg #[.int .i64 W.trail, .int .i64 W.size, .slice s.a W.items.length s.c, .int .i64 x.clock, .int .i64 x.quiet, .slice s.a2 (keepH W x.holds).length s.c2]) (withW x W) s.F]) := by
  refine enter Tryd.func190 rfl Tryd.ntmps190 fun w0 => ?_
  refine openSource ?_
  rintro a1 c1 F1 a2 c2 F2 rfl l1 l2
  refine openSendWindow (x := W) (F := Fw) ?_
  rintro a3 c3 F3 rfl l3
  repeat (first | apply c_seq | apply c_reg | (apply wO; apply oc; rfl; exact ydE) | apply w_nil | apply n_cd | (apply wg_t; rfl; rfl) | (apply wg_f; rfl; rfl; rfl; rfl) | (apply wg_u; rfl; rfl; rfl) | (apply c_t; rfl) | (apply c_f; rfl) | apply c_skip | apply c_block | apply n_blk | apply c_exit | apply e_hit | apply e_cd | apply e_lp | (apply e_miss; rfl) | apply c_ret | (apply wO; apply o_box; rfl; rfl; rfl; intro _) | (apply wO; apply o_alloc; rfl; intro _) | (apply wO; apply o_st; rfl; rfl; rfl; (first | exact AggC.s | exact OneC.s); rfl; exact rplE; exact putE; rfl) | (apply wO; apply o_bs0; rfl; intro _) | (apply wO; apply o_bs; rfl; rfl; rfl; rfl; exact rptE; exact filE; intro _) | (apply wO; apply o_call; rfl; kernel_rfl; exact evsE))
  refine d_start [1, 2] [] ?_
  refine dt 0 ?_
  refine dt 1 ?_
  refine dt 2 ?_
  refine dt 3 ?_
  refine dt 4 ?_
  refine dt 5 ?_
  refine dt 6 ?_
  refine dt 7 ?_
  refine dt 8 ?_
  refine dt 9 ?_
  refine dO 10 (by kernel_rfl) (by rw [List.getElem?_toArray]; rfl) ?_
  apply o_call; rfl; kernel_rfl; exact evsE
  refine cf (l11Holds_f W x.holds x.clock _ a2 c2 Fw F2 y0 y1 (by omega) hn) fun z _ => ?_
  refine t_app ?_
  refine dk ?_
  refine dt 11 ?_
  refine dO 12 (by kernel_rfl) (by rw [List.getElem?_toArray]; rfl) ?_
  apply o_st; rfl; rfl; rfl; (first | exact AggC.s | exact OneC.s); rfl; exact rplE; exact putE; rfl
  refine dk ?_
  refine dd ?_
  rw [keepU_eq hu]
  repeat (first | apply c_seq | apply c_reg | (apply wO; apply oc; rfl; exact ydE) | apply w_nil | apply n_cd | (apply wg_t; rfl; rfl) | (apply wg_f; rfl; rfl; rfl; rfl) | (apply wg_u; rfl; rfl; rfl) | (apply c_t; rfl) | (apply c_f; rfl) | apply c_skip | apply c_block | apply n_blk | apply c_exit | apply e_hit | apply e_cd | apply e_lp | (apply e_miss; rfl) | apply c_ret | (apply wO; apply o_box; rfl; rfl; rfl; intro _) | (apply wO; apply o_alloc; rfl; intro _) | (apply wO; apply o_st; rfl; rfl; rfl; (first | exact AggC.s | exact OneC.s); rfl; exact rplE; exact putE; rfl) | (apply wO; apply o_bs0; rfl; intro _) | (apply wO; apply o_bs; rfl; rfl; rfl; rfl; exact rptE; exact filE; intro _) | (apply wO; apply o_call; rfl; kernel_rfl; exact evsE))
  refine t_read (E := EHold) fun F9 => ?_
  refine closeSource (withW x W) ?_
  refine ret ⟨_, _, _, _, _⟩ trivial rfl
set_option maxRecDepth 100000 in
theorem specTrimSource_f (x : Source) (n : Int) (v : Value) (F : List Nat) :
    Fn Tryd.prog 106 [v, .int .i64 n] [.isv ESource v x F] [] (fun (_ : SrcS) => True)
      (fun s => .tuple #[.agg #[.int .i64 (resTrimSource x n).1.window.trail, .int .i64 (resTrimSource x n).1.window.size, .slice s.a (resTrimSource x n).1.window.items.length s.c, .int .i64 (resTrimSource x n).1.clock, .int .i64 (resTrimSource x n).1.quiet, .slice s.a2 (resTrimSource x n).1.holds.length s.c2], .int .i64 (resTrimSource x n).2.1, .bool (resTrimSource x n).2.2]) (fun s => [.isv ESource (.agg #[.int .i64 (resTrimSource x n).1.window.trail, .int .i64 (resTrimSource x n).1.window.size, .slice s.a (resTrimSource x n).1.window.items.length s.c, .int .i64 (resTrimSource x n).1.clock, .int .i64 (resTrimSource x n).1.quiet, .slice s.a2 (resTrimSource x n).1.holds.length s.c2]) (resTrimSource x n).1 s.F]) := by
  refine enter Tryd.func106 rfl Tryd.ntmps106 fun w0 => ?_
  refine t_nilsl EStr (by decide) ?_
  refine t_nilsl EHold (by decide) ?_
  refine closeSource zSrc ?_
  refine openSource (x := x) (F := F) ?_
  rintro a1 c1 F1 a2 c2 F2 rfl l1 l2
  refine closeSendWindow x.window (a1 := a1) ?_
  generalize F1 = F3
  repeat (first | apply c_seq | apply c_reg | (apply wO; apply oc; rfl; exact ydE) | apply w_nil | apply n_cd | (apply wg_t; rfl; rfl) | (apply wg_f; rfl; rfl; rfl; rfl) | (apply wg_u; rfl; rfl; rfl) | (apply c_t; rfl) | (apply c_f; rfl) | apply c_skip | apply c_block | apply n_blk | apply c_exit | apply e_hit | apply e_cd | apply e_lp | (apply e_miss; rfl) | apply c_ret | (apply wO; apply o_box; rfl; rfl; rfl; intro _) | (apply wO; apply o_alloc; rfl; intro _) | (apply wO; apply o_st; rfl; rfl; rfl; (first | exact AggC.s | exact OneC.s); rfl; exact rplE; exact putE; rfl) | (apply wO; apply o_bs0; rfl; intro _) | (apply wO; apply o_bs; rfl; rfl; rfl; rfl; exact rptE; exact filE; intro _) | (apply wO; apply o_call; rfl; kernel_rfl; exact evsE))
  refine cf (specDrop_f x.window n _ F3) fun y _ => ?_
  refine t_app ?_
  refine openOSendWindow ?_
  rintro a7 c7 F7 e7 l7
  rw [e7]
  repeat (first | apply c_seq | apply c_reg | (apply wO; apply oc; rfl; exact ydE) | apply w_nil | apply n_cd | (apply wg_t; rfl; rfl) | (apply wg_f; rfl; rfl; rfl; rfl) | (apply wg_u; rfl; rfl; rfl) | (apply c_t; rfl) | (apply c_f; rfl) | apply c_skip | apply c_block | apply n_blk | apply c_exit | apply e_hit | apply e_cd | apply e_lp | (apply e_miss; rfl) | apply c_ret | (apply wO; apply o_box; rfl; rfl; rfl; intro _) | (apply wO; apply o_alloc; rfl; intro _) | (apply wO; apply o_st; rfl; rfl; rfl; (first | exact AggC.s | exact OneC.s); rfl; exact rplE; exact putE; rfl) | (apply wO; apply o_bs0; rfl; intro _) | (apply wO; apply o_bs; rfl; rfl; rfl; rfl; exact rptE; exact filE; intro _) | (apply wO; apply o_call; rfl; kernel_rfl; exact evsE))
  refine cb (fun w st => (l11Good_f x _ F).val w (hol1 (st.get (p := .isv ESource (.agg #[.int .i64 x.window.trail, .int .i64 x.window.size, .slice a1 x.window.items.length c1, .int .i64 x.clock, .int .i64 x.quiet, .slice a2 x.holds.length c2]) x F) (by simp)))) ?_
  cases g1 : goodSrc x
  · rw [resTrim_no (by unfold okTrimSource; rw [g1]; rfl)]
    repeat (first | apply c_seq | apply c_reg | (apply wO; apply oc; rfl; exact ydE) | apply w_nil | apply n_cd | (apply wg_t; rfl; rfl) | (apply wg_f; rfl; rfl; rfl; rfl) | (apply wg_u; rfl; rfl; rfl) | (apply c_t; rfl) | (apply c_f; rfl) | apply c_skip | apply c_block | apply n_blk | apply c_exit | apply e_hit | apply e_cd | apply e_lp | (apply e_miss; rfl) | apply c_ret | (apply wO; apply o_box; rfl; rfl; rfl; intro _) | (apply wO; apply o_alloc; rfl; intro _) | (apply wO; apply o_st; rfl; rfl; rfl; (first | exact AggC.s | exact OneC.s); rfl; exact rplE; exact putE; rfl) | (apply wO; apply o_bs0; rfl; intro _) | (apply wO; apply o_bs; rfl; rfl; rfl; rfl; exact rptE; exact filE; intro _) | (apply wO; apply o_call; rfl; kernel_rfl; exact evsE))
    refine ret ⟨none, 0, none, 0, [] ++ []⟩ trivial rfl
  obtain ⟨gw, hl, t0, t1, k0, k1, hm, hn, hu, hb⟩ := goodS_of g1
  cases g2 : okDropItems x.window n
  · rw [resTrim_no (by unfold okTrimSource; rw [g1, g2]; rfl), drop_no g2]
    repeat (first | apply c_seq | apply c_reg | (apply wO; apply oc; rfl; exact ydE) | apply w_nil | apply n_cd | (apply wg_t; rfl; rfl) | (apply wg_f; rfl; rfl; rfl; rfl) | (apply wg_u; rfl; rfl; rfl) | (apply c_t; rfl) | (apply c_f; rfl) | apply c_skip | apply c_block | apply n_blk | apply c_exit | apply e_hit | apply e_cd | apply e_lp | (apply e_miss; rfl) | apply c_ret | (apply wO; apply o_box; rfl; rfl; rfl; intro _) | (apply wO; apply o_alloc; rfl; intro _) | (apply wO; apply o_st; rfl; rfl; rfl; (first | exact AggC.s | exact OneC.s); rfl; exact rplE; exact putE; rfl) | (apply wO; apply o_bs0; rfl; intro _) | (apply wO; apply o_bs; rfl; rfl; rfl; rfl; exact rptE; exact filE; intro _) | (apply wO; apply o_call; rfl; kernel_rfl; exact evsE))
    refine ret ⟨none, 0, none, 0, [] ++ []⟩ trivial rfl
  obtain ⟨W, k, hr, w0, w1⟩ := drop_yes g2 t0 t1
  have hR : resTrimSource x n = (withW x W, k, true) := by unfold resTrimSource okTrimSource; rw [g1, g2, hr]; rfl
  rw [hR, hr]
  repeat (first | apply c_seq | apply c_reg | (apply wO; apply oc; rfl; exact ydE) | apply w_nil | apply n_cd | (apply wg_t; rfl; rfl) | (apply wg_f; rfl; rfl; rfl; rfl) | (apply wg_u; rfl; rfl; rfl) | (apply c_t; rfl) | (apply c_f; rfl) | apply c_skip | apply c_block | apply n_blk | apply c_exit | apply e_hit | apply e_cd | apply e_lp | (apply e_miss; rfl) | apply c_ret | (apply wO; apply o_box; rfl; rfl; rfl; intro _) | (apply wO; apply o_alloc; rfl; intro _) | (apply wO; apply o_st; rfl; rfl; rfl; (first | exact AggC.s | exact OneC.s); rfl; exact rplE; exact putE; rfl) | (apply wO; apply o_bs0; rfl; intro _) | (apply wO; apply o_bs; rfl; rfl; rfl; rfl; exact rptE; exact filE; intro _))
  refine t_read (xs := W.items) fun F8 => ?_
  refine closeSendWindow W (a1 := a7) ?_
  repeat (first | apply c_seq | apply c_reg | (apply wO; apply oc; rfl; exact ydE) | apply w_nil | apply n_cd | (apply wg_t; rfl; rfl) | (apply wg_f; rfl; rfl; rfl; rfl) | (apply wg_u; rfl; rfl; rfl) | (apply c_t; rfl) | (apply c_f; rfl) | apply c_skip | apply c_block | apply n_blk | apply c_exit | apply e_hit | apply e_cd | apply e_lp | (apply e_miss; rfl) | apply c_ret | (apply wO; apply o_box; rfl; rfl; rfl; intro _) | (apply wO; apply o_alloc; rfl; intro _) | (apply wO; apply o_st; rfl; rfl; rfl; (first | exact AggC.s | exact OneC.s); rfl; exact rplE; exact putE; rfl) | (apply wO; apply o_bs0; rfl; intro _) | (apply wO; apply o_bs; rfl; rfl; rfl; rfl; exact rptE; exact filE; intro _) | (apply wO; apply o_call; rfl; kernel_rfl; exact evsE))
  refine cf (l11With_f x W _ _ F F8 w0 w1 (by omega) hn hu) fun q _ => ?_
  refine t_app ?_
  repeat (first | apply c_seq | apply c_reg | (apply wO; apply oc; rfl; exact ydE) | apply w_nil | apply n_cd | (apply wg_t; rfl; rfl) | (apply wg_f; rfl; rfl; rfl; rfl) | (apply wg_u; rfl; rfl; rfl) | (apply c_t; rfl) | (apply c_f; rfl) | apply c_skip | apply c_block | apply n_blk | apply c_exit | apply e_hit | apply e_cd | apply e_lp | (apply e_miss; rfl) | apply c_ret | (apply wO; apply o_box; rfl; rfl; rfl; intro _) | (apply wO; apply o_alloc; rfl; intro _) | (apply wO; apply o_st; rfl; rfl; rfl; (first | exact AggC.s | exact OneC.s); rfl; exact rplE; exact putE; rfl) | (apply wO; apply o_bs0; rfl; intro _) | (apply wO; apply o_bs; rfl; rfl; rfl; rfl; exact rptE; exact filE; intro _) | (apply wO; apply o_call; rfl; kernel_rfl; exact evsE))
  refine ret ⟨_, _, _, _, _⟩ trivial rfl
theorem specTrimSource_c (v0 : Value) (x0 : Source) (F0 : List Nat) (x1 : Int) (w : World) (h0 : IsV ESource w v0 x0 F0) :
    Calls Tryd.prog 106 #[v0, .int .i64 x1] w (PS_TrimSource (resTrimSource x0 x1) w) := by
  refine ((specTrimSource_f x0 x1 v0 F0).read w (hol1 h0)).mono ?_
  rintro e w' ⟨s, -, rfl, hH, hB⟩
  exact ⟨_, s.F, rfl, hH _ (List.mem_cons_self ..), hB⟩
end Go.Proofs.YtkcajnpdmgafjaaDoor
