/- Sources: SendFrom of the reference. -/
import Derived.Test.YtkcajnpdmgafjaaDoorSF1
namespace Go.Proofs.YtkcajnpdmgafjaaDoor
open Go.RowKit
theorem l9Push_f (x : SendWindow) (s : ByteArray) (v : Value) (F : List Nat) (hl : x.items.length ≤ 6) (t0 : 0 ≤ x.trail) (t1 : x.trail ≤ 65535) (hs : s.size ≤ maxLen) (hz : 1 ≤ x.size) :
    Fn Tryd.prog 162 [v, .string s] [.isv ESendWindow v x F] [] (fun (_ : Value × List Nat) => True) (fun z => .tuple #[z.1, .agg #[.int .i64 1, .int .i64 (pushedP x s).number, .int .i64 (pushedP x s).trail, .int .i64 (pushedP x s).lead, .string s]]) (fun z => [.isv ESendWindow z.1 (pushedW x s) z.2]) :=
  fn_made fun w hA => (l9Push_c v x F s w (hA (.isv ESendWindow v x F) (by simp)) hl t0 t1 hs hz).mono fun e w' ⟨u, G, he, h1, h3, h4⟩ => ⟨(u, G), trivial, he, h1, h3, h4⟩
set_option maxRecDepth 100000 in
theorem l11Send_f (x : Source) (s : ByteArray) (v : Value) (F : List Nat) (hg : goodSrc x = true) (hs : s.size ≤ maxLen) :
    Fn Tryd.prog 202 [v, .string s] [.isv ESource v x F] [] (fun (_ : SrcS) => True) (fun z => .tuple #[.agg #[.int .i64 (sentS x s).window.trail, .int .i64 (sentS x s).window.size, .slice z.a (sentS x s).window.items.length z.c, .int .i64 (sentS x s).clock, .int .i64 (sentS x s).quiet, .slice z.a2 (sentS x s).holds.length z.c2], .agg #[.int .i64 1, .int .i64 (pushedP x.window s).number, .int .i64 (pushedP x.window s).trail, .int .i64 (pushedP x.window s).lead, .string s]]) (fun z => [.isv ESource (.agg #[.int .i64 (sentS x s).window.trail, .int .i64 (sentS x s).window.size, .slice z.a (sentS x s).window.items.length z.c, .int .i64 (sentS x s).clock, .int .i64 (sentS x s).quiet, .slice z.a2 (sentS x s).holds.length z.c2]) (sentS x s) z.F]) := by
  obtain ⟨gw, hl, t0, t1, k0, k1, hm, hn, hu, hb⟩ := goodS_of hg
  obtain ⟨-, ⟨z1, -⟩, -⟩ := goodWin_iff.1 gw
  have hb := roomed_bd t0 t1
  refine enter Tryd.func202 rfl Tryd.ntmps202 fun w0 => ?_
  refine openSource ?_
  rintro a1 c1 F1 a2 c2 F2 rfl l1 l2
  refine closeSendWindow x.window ?_
  generalize F1 = F3
  repeat (first | apply c_seq | apply c_reg | (apply wO; apply oc; rfl; exact ydE) | apply w_nil | apply n_cd | (apply wg_t; rfl; rfl) | (apply wg_f; rfl; rfl; rfl; rfl) | (apply wg_u; rfl; rfl; rfl) | (apply c_t; rfl) | (apply c_f; rfl) | apply c_skip | apply c_block | apply n_blk | apply c_exit | apply e_hit | apply e_cd | apply e_lp | (apply e_miss; rfl) | apply c_ret | (apply wO; apply o_box; rfl; rfl; rfl; intro _) | (apply wO; apply o_alloc; rfl; intro _) | (apply wO; apply o_st; rfl; rfl; rfl; (first | exact AggC.s | exact OneC.s); rfl; exact rplE; exact putE; rfl) | (apply wO; apply o_bs0; rfl; intro _) | (apply wO; apply o_bs; rfl; rfl; rfl; rfl; exact rptE; exact filE; intro _) | (apply wO; apply o_call; rfl; kernel_rfl; exact evsE))
  refine cf (l9Push_f x.window s _ F3 hl t0 t1 hs z1) fun y _ => ?_
  refine t_app ?_
  refine openSendWindow (x := pushedW x.window s) ?_
  rintro a5 c5 F5 e5 l5
  rw [e5]
  repeat (first | apply c_seq | apply c_reg | (apply wO; apply oc; rfl; exact ydE) | apply w_nil | apply n_cd | (apply wg_t; rfl; rfl) | (apply wg_f; rfl; rfl; rfl; rfl) | (apply wg_u; rfl; rfl; rfl) | (apply c_t; rfl) | (apply c_f; rfl) | apply c_skip | apply c_block | apply n_blk | apply c_exit | apply e_hit | apply e_cd | apply e_lp | (apply e_miss; rfl) | apply c_ret | (apply wO; apply o_box; rfl; rfl; rfl; intro _) | (apply wO; apply o_alloc; rfl; intro _) | (apply wO; apply o_st; rfl; rfl; rfl; (first | exact AggC.s | exact OneC.s); rfl; exact rplE; exact putE; rfl) | (apply wO; apply o_bs0; rfl; intro _) | (apply wO; apply o_bs; rfl; rfl; rfl; rfl; exact rptE; exact filE; intro _) | (apply wO; apply o_call; rfl; kernel_rfl; exact evsE))
  refine cf (l11With_f x (pushedW x.window s) _ _ F y.2 hb.1 hb.2 (by omega) hn hu) fun q _ => ?_
  refine t_app ?_
  refine openSource (x := withW x (pushedW x.window s)) ?_
  rintro a6 c6 F6 a7 c7 F7 e6 l6 l7
  rw [e6]
  repeat (first | apply c_seq | apply c_reg | (apply wO; apply oc; rfl; exact ydE) | apply w_nil | apply n_cd | (apply wg_t; rfl; rfl) | (apply wg_f; rfl; rfl; rfl; rfl) | (apply wg_u; rfl; rfl; rfl) | (apply c_t; rfl) | (apply c_f; rfl) | apply c_skip | apply c_block | apply n_blk | apply c_exit | apply e_hit | apply e_cd | apply e_lp | (apply e_miss; rfl) | apply c_ret | (apply wO; apply o_box; rfl; rfl; rfl; intro _) | (apply wO; apply o_alloc; rfl; intro _) | (apply wO; apply o_st; rfl; rfl; rfl; (first | exact AggC.s | exact OneC.s); rfl; exact rplE; exact putE; rfl) | (apply wO; apply o_bs0; rfl; intro _) | (apply wO; apply o_bs; rfl; rfl; rfl; rfl; exact rptE; exact filE; intro _) | (apply wO; apply o_call; rfl; kernel_rfl; exact evsE))
  refine d_start [0, 4] [] ?_
  refine dt 0 ?_
  refine dt 1 ?_
  refine dO 2 (by kernel_rfl) (by rw [List.getElem?_toArray]; rfl) ?_
  apply o_st; rfl; rfl; rfl; (first | exact AggC.s | exact OneC.s); rfl; exact rplE; exact putE; rfl
  refine dk ?_
  refine dO 3 (by kernel_rfl) (by rw [List.getElem?_toArray]; rfl) ?_
  apply o_st; rfl; rfl; rfl; (first | exact AggC.s | exact OneC.s); rfl; exact rplE; exact putE; rfl
  refine dk ?_
  refine dd ?_
  refine closeSource (sentS x s) ?_
  repeat (first | apply c_seq | apply c_reg | (apply wO; apply oc; rfl; exact ydE) | apply w_nil | apply n_cd | (apply wg_t; rfl; rfl) | (apply wg_f; rfl; rfl; rfl; rfl) | (apply wg_u; rfl; rfl; rfl) | (apply c_t; rfl) | (apply c_f; rfl) | apply c_skip | apply c_block | apply n_blk | apply c_exit | apply e_hit | apply e_cd | apply e_lp | (apply e_miss; rfl) | apply c_ret | (apply wO; apply o_box; rfl; rfl; rfl; intro _) | (apply wO; apply o_alloc; rfl; intro _) | (apply wO; apply o_st; rfl; rfl; rfl; (first | exact AggC.s | exact OneC.s); rfl; exact rplE; exact putE; rfl) | (apply wO; apply o_bs0; rfl; intro _) | (apply wO; apply o_bs; rfl; rfl; rfl; rfl; exact rptE; exact filE; intro _) | (apply wO; apply o_call; rfl; kernel_rfl; exact evsE))
  refine ret ⟨_, _, _, _, _⟩ trivial rfl
set_option maxRecDepth 100000 in
theorem specSendFrom_f (x : Source) (s : ByteArray) (v : Value) (F : List Nat) (hs : s.size ≤ maxLen) :
    Fn Tryd.prog 112 [v, .string s] [.isv ESource v x F] [] (fun (_ : SrcS) => True)
      (fun z => .tuple #[.agg #[.int .i64 (resSendFrom x s).1.window.trail, .int .i64 (resSendFrom x s).1.window.size, .slice z.a (resSendFrom x s).1.window.items.length z.c, .int .i64 (resSendFrom x s).1.clock, .int .i64 (resSendFrom x s).1.quiet, .slice z.a2 (resSendFrom x s).1.holds.length z.c2], .agg #[.int .i64 (resSendFrom x s).2.1.kind, .int .i64 (resSendFrom x s).2.1.number, .int .i64 (resSendFrom x s).2.1.trail, .int .i64 (resSendFrom x s).2.1.lead, .string (resSendFrom x s).2.1.data], .bool (resSendFrom x s).2.2]) (fun z => [.isv ESource (.agg #[.int .i64 (resSendFrom x s).1.window.trail, .int .i64 (resSendFrom x s).1.window.size, .slice z.a (resSendFrom x s).1.window.items.length z.c, .int .i64 (resSendFrom x s).1.clock, .int .i64 (resSendFrom x s).1.quiet, .slice z.a2 (resSendFrom x s).1.holds.length z.c2]) (resSendFrom x s).1 z.F]) := by
  refine enter Tryd.func112 rfl Tryd.ntmps112 fun w0 => ?_
  refine t_nilsl EStr (by decide) ?_
  refine t_nilsl EHold (by decide) ?_
  refine closeSource zSrc ?_
  refine openSource (x := x) (F := F) ?_
  rintro a1 c1 F1 a2 c2 F2 rfl l1 l2
  repeat (first | apply c_seq | apply c_reg | (apply wO; apply oc; rfl; exact ydE) | apply w_nil | apply n_cd | (apply wg_t; rfl; rfl) | (apply wg_f; rfl; rfl; rfl; rfl) | (apply wg_u; rfl; rfl; rfl) | (apply c_t; rfl) | (apply c_f; rfl) | apply c_skip | apply c_block | apply n_blk | apply c_exit | apply e_hit | apply e_cd | apply e_lp | (apply e_miss; rfl) | apply c_ret | (apply wO; apply o_box; rfl; rfl; rfl; intro _) | (apply wO; apply o_alloc; rfl; intro _) | (apply wO; apply o_st; rfl; rfl; rfl; (first | exact AggC.s | exact OneC.s); rfl; exact rplE; exact putE; rfl) | (apply wO; apply o_bs0; rfl; intro _) | (apply wO; apply o_bs; rfl; rfl; rfl; rfl; exact rptE; exact filE; intro _) | (apply wO; apply o_call; rfl; kernel_rfl; exact evsE))
  refine cb (fun w st => (l11Good_f x _ F).val w (hol1 (st.get (p := .isv ESource (.agg #[.int .i64 x.window.trail, .int .i64 x.window.size, .slice a1 x.window.items.length c1, .int .i64 x.clock, .int .i64 x.quiet, .slice a2 x.holds.length c2]) x F) (by simp)))) ?_
  cases g1 : goodSrc x
  · repeat (first | apply c_seq | apply c_reg | (apply wO; apply oc; rfl; exact ydE) | apply w_nil | apply n_cd | (apply wg_t; rfl; rfl) | (apply wg_f; rfl; rfl; rfl; rfl) | (apply wg_u; rfl; rfl; rfl) | (apply c_t; rfl) | (apply c_f; rfl) | apply c_skip | apply c_block | apply n_blk | apply c_exit | apply e_hit | apply e_cd | apply e_lp | (apply e_miss; rfl) | apply c_ret | (apply wO; apply o_box; rfl; rfl; rfl; intro _) | (apply wO; apply o_alloc; rfl; intro _) | (apply wO; apply o_st; rfl; rfl; rfl; (first | exact AggC.s | exact OneC.s); rfl; exact rplE; exact putE; rfl) | (apply wO; apply o_bs0; rfl; intro _) | (apply wO; apply o_bs; rfl; rfl; rfl; rfl; exact rptE; exact filE; intro _) | (apply wO; apply o_call; rfl; kernel_rfl; exact evsE))
    rw [resSendF_no (by unfold okSendFrom; rw [g1]; rfl)]
    refine ret ⟨none, 0, none, 0, [] ++ []⟩ trivial rfl
  repeat (first | apply c_seq | apply c_reg | (apply wO; apply oc; rfl; exact ydE) | apply w_nil | apply n_cd | (apply wg_t; rfl; rfl) | (apply wg_f; rfl; rfl; rfl; rfl) | (apply wg_u; rfl; rfl; rfl) | (apply c_t; rfl) | (apply c_f; rfl) | apply c_skip | apply c_block | apply n_blk | apply c_exit | apply e_hit | apply e_cd | apply e_lp | (apply e_miss; rfl) | apply c_ret | (apply wO; apply o_box; rfl; rfl; rfl; intro _) | (apply wO; apply o_alloc; rfl; intro _) | (apply wO; apply o_st; rfl; rfl; rfl; (first | exact AggC.s | exact OneC.s); rfl; exact rplE; exact putE; rfl) | (apply wO; apply o_bs0; rfl; intro _) | (apply wO; apply o_bs; rfl; rfl; rfl; rfl; exact rptE; exact filE; intro _) | (apply wO; apply o_call; rfl; kernel_rfl; exact evsE))
  refine ce (fun w s => l4Letters_c _ _ _ hs) ?_
  rw [show (decide ((s.size : Int) ≤ 8) && lows s.data.toList) = itm s from rfl]
  cases g2 : itm s
  · repeat (first | apply c_seq | apply c_reg | (apply wO; apply oc; rfl; exact ydE) | apply w_nil | apply n_cd | (apply wg_t; rfl; rfl) | (apply wg_f; rfl; rfl; rfl; rfl) | (apply wg_u; rfl; rfl; rfl) | (apply c_t; rfl) | (apply c_f; rfl) | apply c_skip | apply c_block | apply n_blk | apply c_exit | apply e_hit | apply e_cd | apply e_lp | (apply e_miss; rfl) | apply c_ret | (apply wO; apply o_box; rfl; rfl; rfl; intro _) | (apply wO; apply o_alloc; rfl; intro _) | (apply wO; apply o_st; rfl; rfl; rfl; (first | exact AggC.s | exact OneC.s); rfl; exact rplE; exact putE; rfl) | (apply wO; apply o_bs0; rfl; intro _) | (apply wO; apply o_bs; rfl; rfl; rfl; rfl; exact rptE; exact filE; intro _) | (apply wO; apply o_call; rfl; kernel_rfl; exact evsE))
    rw [resSendF_no (by unfold okSendFrom; rw [g1, g2]; rfl)]
    refine ret ⟨none, 0, none, 0, [] ++ []⟩ trivial rfl
  rw [resSendF_yes (by unfold okSendFrom; rw [g1, g2]; rfl)]
  repeat (first | apply c_seq | apply c_reg | (apply wO; apply oc; rfl; exact ydE) | apply w_nil | apply n_cd | (apply wg_t; rfl; rfl) | (apply wg_f; rfl; rfl; rfl; rfl) | (apply wg_u; rfl; rfl; rfl) | (apply c_t; rfl) | (apply c_f; rfl) | apply c_skip | apply c_block | apply n_blk | apply c_exit | apply e_hit | apply e_cd | apply e_lp | (apply e_miss; rfl) | apply c_ret | (apply wO; apply o_box; rfl; rfl; rfl; intro _) | (apply wO; apply o_alloc; rfl; intro _) | (apply wO; apply o_st; rfl; rfl; rfl; (first | exact AggC.s | exact OneC.s); rfl; exact rplE; exact putE; rfl) | (apply wO; apply o_bs0; rfl; intro _) | (apply wO; apply o_bs; rfl; rfl; rfl; rfl; exact rptE; exact filE; intro _) | (apply wO; apply o_call; rfl; kernel_rfl; exact evsE))
  refine cf (l11Send_f x s _ F g1 hs) fun q _ => ?_
  refine t_app ?_
  repeat (first | apply c_seq | apply c_reg | (apply wO; apply oc; rfl; exact ydE) | apply w_nil | apply n_cd | (apply wg_t; rfl; rfl) | (apply wg_f; rfl; rfl; rfl; rfl) | (apply wg_u; rfl; rfl; rfl) | (apply c_t; rfl) | (apply c_f; rfl) | apply c_skip | apply c_block | apply n_blk | apply c_exit | apply e_hit | apply e_cd | apply e_lp | (apply e_miss; rfl) | apply c_ret | (apply wO; apply o_box; rfl; rfl; rfl; intro _) | (apply wO; apply o_alloc; rfl; intro _) | (apply wO; apply o_st; rfl; rfl; rfl; (first | exact AggC.s | exact OneC.s); rfl; exact rplE; exact putE; rfl) | (apply wO; apply o_bs0; rfl; intro _) | (apply wO; apply o_bs; rfl; rfl; rfl; rfl; exact rptE; exact filE; intro _) | (apply wO; apply o_call; rfl; kernel_rfl; exact evsE))
  refine d_start [0, 1] [] ?_
  refine dt 0 ?_
  refine dt 1 ?_
  refine dO 2 (by kernel_rfl) (by rw [List.getElem?_toArray]; rfl) ?_
  apply o_st; rfl; rfl; rfl; (first | exact AggC.s | exact OneC.s); rfl; exact rplE; exact putE; rfl
  refine dk ?_
  refine dO 3 (by kernel_rfl) (by rw [List.getElem?_toArray]; rfl) ?_
  apply o_st; rfl; rfl; rfl; (first | exact AggC.s | exact OneC.s); rfl; exact rplE; exact putE; rfl
  refine dk ?_
  refine dt 4 ?_
  refine dd ?_
  repeat (first | apply c_seq | apply c_reg | (apply wO; apply oc; rfl; exact ydE) | apply w_nil | apply n_cd | (apply wg_t; rfl; rfl) | (apply wg_f; rfl; rfl; rfl; rfl) | (apply wg_u; rfl; rfl; rfl) | (apply c_t; rfl) | (apply c_f; rfl) | apply c_skip | apply c_block | apply n_blk | apply c_exit | apply e_hit | apply e_cd | apply e_lp | (apply e_miss; rfl) | apply c_ret | (apply wO; apply o_box; rfl; rfl; rfl; intro _) | (apply wO; apply o_alloc; rfl; intro _) | (apply wO; apply o_st; rfl; rfl; rfl; (first | exact AggC.s | exact OneC.s); rfl; exact rplE; exact putE; rfl) | (apply wO; apply o_bs0; rfl; intro _) | (apply wO; apply o_bs; rfl; rfl; rfl; rfl; exact rptE; exact filE; intro _) | (apply wO; apply o_call; rfl; kernel_rfl; exact evsE))
  refine ret ⟨_, _, _, _, _⟩ trivial rfl
theorem specSendFrom_c (v0 : Value) (x0 : Source) (F0 : List Nat) (x1 : ByteArray) (w : World) (h0 : IsV ESource w v0 x0 F0) (h1 : x1.size ≤ maxLen) :
    Calls Tryd.prog 112 #[v0, .string x1] w (PS_SendFrom (resSendFrom x0 x1) w) := by
  refine ((specSendFrom_f x0 x1 v0 F0 h1).read w (hol1 h0)).mono ?_
  rintro e w' ⟨s, -, rfl, hH, hB⟩
  exact ⟨_, s.F, _, [], rfl, hH _ (List.mem_cons_self ..), ⟨_, rfl, rfl, sendF_size h1, rfl⟩, hB⟩
end Go.Proofs.YtkcajnpdmgafjaaDoor
