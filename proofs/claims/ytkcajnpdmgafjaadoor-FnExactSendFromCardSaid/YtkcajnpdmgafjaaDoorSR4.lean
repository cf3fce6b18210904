/- Sources: TrimSource of the program. -/
import Derived.Test.YtkcajnpdmgafjaaDoorSR3
namespace Go.Proofs.YtkcajnpdmgafjaaDoor
open Go.RowKit
/-- out of a contract that makes a value -/
theorem fn_made {P : Program} {f : FuncId} {args : List Value} {A : List Pc} {σ : Type} {C : σ → Prop} {v : σ → Value} {N : σ → Pc}
    (h : ∀ w, Hol A w → Calls P f args.toArray w fun e w' => ∃ s, C s ∧ e = .returned (v s) ∧ (N s).P w' ∧ (∀ b ∈ (N s).F, w.heap.size ≤ b) ∧ Below w.heap.size w w') : Fn P f args A [] C v (fun s => [N s]) := fun w hA _ => by
  refine (h w (by simpa using hA)).mono ?_
  rintro e w' ⟨s, hC, he, hN, hF, hB⟩
  refine ⟨s, hC, he, hol1 hN, ⟨by simp, trivial⟩, Keep.ofBelow hB, fun p hp b hb => ?_⟩
  simp at hp
  subst hp
  exact .inl (hF b hb)
structure SrcS where
  a : Option Addr
  c : Nat
  a2 : Option Addr
  c2 : Nat
  F : List Nat
def zSrc : Source := ⟨⟨0, 0, []⟩, 0, 0, []⟩
def withW (x : Source) (W : SendWindow) : Source := ⟨W, x.clock, x.quiet, keepH W x.holds⟩
def okTrimSource (x : Source) (n : Int) : Bool := goodSrc x && okDropItems x.window n
def resTrimSource (x : Source) (n : Int) : Source × Int × Bool := if okTrimSource x n then (withW x (resDropItems x.window n).1, (resDropItems x.window n).2.1, true) else (zSrc, 0, false)
theorem resTrim_no {x : Source} {n : Int} (h : okTrimSource x n = false) : resTrimSource x n = (zSrc, 0, false) := by unfold resTrimSource; rw [h]; rfl
structure GoodS (x : Source) : Prop where
  w : goodWin x.window = true
  l : x.window.items.length ≤ 6
  t0 : 0 ≤ x.window.trail
  t1 : x.window.trail ≤ 65535
  k0 : 0 ≤ x.clock
  k1 : x.clock ≤ 9999
  m : x.holds.length ≤ 6
  n : ∀ h ∈ x.holds, isSer h.number = true
  u : ∀ h ∈ x.holds, x.clock + 1 ≤ h.untl
  b : ∀ h ∈ x.holds, h.untl ≤ x.clock + 3
theorem goodS_of {x : Source} (h : goodSrc x = true) : GoodS x := by
  unfold goodSrc at h
  simp only [Bool.and_eq_true] at h
  obtain ⟨⟨⟨h1, h2⟩, h3⟩, h4⟩ := h
  obtain ⟨⟨t0, t1⟩, ⟨s0, s1⟩, s2, -⟩ := goodWin_iff.1 h1
  obtain ⟨k0, k1⟩ := clk_bd h2
  have hc : ∀ h ∈ x.holds, isSer h.number = true ∧ x.clock + 1 ≤ h.untl ∧ h.untl ≤ x.clock + 3 := fun h hh => by
    obtain ⟨i, hi, rfl⟩ := List.getElem_of_mem hh
    have := List.all_eq_true.1 h4 i (by simpa using hi)
    rw [chkH_at hi] at this
    simp only [Bool.and_eq_true, btw, decide_eq_true_eq] at this
    exact ⟨this.1.1.1, this.1.2.1, this.1.2.2⟩
  have hg : ∀ i, (hi : i < x.holds.length) → (i : Int) ≤ gp x.window.trail x.holds[i].number ∧ gp x.window.trail x.holds[i].number < 6 := by
    intro i
    induction i with
    | zero =>
      intro hi
      have := List.all_eq_true.1 h4 0 (by simpa using hi)
      rw [chkH_at hi] at this
      simp only [Bool.and_eq_true, heldB, decide_eq_true_eq] at this
      have b := gp_bd x.window.trail x.holds[0].number
      exact ⟨by omega, by have := this.1.1.2; omega⟩
    | succ i ih =>
      intro hi
      have p := ih (by omega)
      have := List.all_eq_true.1 h4 (i + 1) (by simpa using hi)
      rw [chkH_at hi] at this
      simp only [Bool.and_eq_true, heldB, decide_eq_true_eq, Bool.or_eq_true, Bool.not_eq_true', decide_eq_false_iff_not] at this
      have q := this.2
      have q2 := this.1.1.2
      simp only [Nat.add_sub_cancel] at q
      rcases q with q | q
      · omega
      · exact ⟨by omega, by omega⟩
  have hm : x.holds.length ≤ 6 := by
    by_cases h0 : x.holds.length ≤ 6
    · exact h0
    · have := hg 6 (by omega); omega
  exact ⟨h1, by omega, t0, t1, k0, k1, hm, fun h hh => (hc h hh).1, fun h hh => (hc h hh).2.1, fun h hh => (hc h hh).2.2⟩
theorem drop_yes {x : SendWindow} {n : Int} (h : okDropItems x n = true) (t0 : 0 ≤ x.trail) (t1 : x.trail ≤ 65535) : ∃ W k, resDropItems x n = (W, k, true) ∧ 0 ≤ W.trail ∧ W.trail ≤ 65535 := by
  unfold resDropItems
  rw [h]
  exact ⟨_, _, rfl, (aft_bd _ _).1, (aft_bd _ _).2⟩
theorem drop_no {x : SendWindow} {n : Int} (h : okDropItems x n = false) : resDropItems x n = (⟨0, 0, []⟩, 0, false) := by unfold resDropItems; rw [h]; rfl
def PS_TrimSource : Source × Int × Bool → World → Ending → World → Prop := fun (r0, r1, r2) w e w' => ∃ u0 G0, e = .returned (.tuple #[u0, .int .i64 r1, .bool r2]) ∧ IsV ESource w' u0 r0 G0 ∧ Below w.heap.size w w'
def PI_TrimSource : Source × Int × Bool → World → Ending → World → Prop := fun (r0, r1, r2) w e w' => ∃ u0 G0, e = .returned (.tuple #[u0, .int .i64 r1, .bool r2]) ∧ IsV OSource w' u0 r0 G0 ∧ (G0).Nodup ∧ (∀ b ∈ G0, w.heap.size ≤ b) ∧ Below w.heap.size w w'
theorem DropItems_f (x : SendWindow) (n : Int) (v : Value) (F : List Nat) : Fn Tryd.prog 84 [v, .int .i64 n] [.isv ESendWindow v x F] [] (fun (_ : Value × List Nat) => True)
    (fun s => .tuple #[s.1, .int .i64 (resDropItems x n).2.1, .bool (resDropItems x n).2.2]) (fun s => [.own OSendWindow s.1 (resDropItems x n).1 s.2]) :=
  fn_made fun w hA => (DropItems_c v x F n w (hA (.isv ESendWindow v x F) (by simp))).mono fun e w' ⟨u, G, he, h1, h2, h3, h4⟩ => ⟨(u, G), trivial, he, ⟨h2, h1⟩, h3, h4⟩
set_option maxRecDepth 100000 in
theorem TrimSource_f (x : Source) (n : Int) (v : Value) (F : List Nat) :
    Fn Tryd.prog 108 [v, .int .i64 n] [.isv ESource v x F] [] (fun (_ : SrcS) => True)
      (fun s => .tuple #[.agg #[.int .i64 (resTrimSource x n).1.window.trail, .int .i64 (resTrimSource x n).1.window.size, .slice s.a (resTrimSource x n).1.window.items.length s.c, .int .i64 (resTrimSource x n).1.clock, .int .i64 (resTrimSource x n).1.quiet, .slice s.a2 (resTrimSource x n).1.holds.length s.c2], .int .i64 (resTrimSource x n).2.1, .bool (resTrimSource x n).2.2]) (fun s => [.own OSource (.agg #[.int .i64 (resTrimSource x n).1.window.trail, .int .i64 (resTrimSource x n).1.window.size, .slice s.a (resTrimSource x n).1.window.items.length s.c, .int .i64 (resTrimSource x n).1.clock, .int .i64 (resTrimSource x n).1.quiet, .slice s.a2 (resTrimSource x n).1.holds.length s.c2]) (resTrimSource x n).1 s.F]) := by
  refine enter Tryd.func108 rfl Tryd.ntmps108 fun w0 => ?_
  refine t_nilow EStr 9 ?_
  refine t_nilow EHold 223 ?_
  refine closeOSource zSrc ?_
  refine openSource ?_
  rintro a1 c1 F1 a2 c2 F2 rfl l1 l2
  refine closeSendWindow x.window ?_
  generalize F1 = F3
  repeat (first | apply c_seq | apply c_reg | (apply wO; apply oc; rfl; exact ydE) | apply w_nil | apply n_cd | (apply wg_t; rfl; rfl) | (apply wg_f; rfl; rfl; rfl; rfl) | (apply wg_u; rfl; rfl; rfl) | (apply c_t; rfl) | (apply c_f; rfl) | apply c_skip | apply c_block | apply n_blk | apply c_exit | apply e_hit | apply e_cd | apply e_lp | (apply e_miss; rfl) | apply c_ret | (apply wO; apply o_box; rfl; rfl; rfl; intro _) | (apply wO; apply o_alloc; rfl; intro _) | (apply wO; apply o_st; rfl; rfl; rfl; (first | exact AggC.s | exact OneC.s); rfl; exact rplE; exact putE; rfl) | (apply wO; apply o_bs0; rfl; intro _) | (apply wO; apply o_bs; rfl; rfl; rfl; rfl; exact rptE; exact filE; intro _) | (apply wO; apply o_call; rfl; kernel_rfl; exact evsE))
  refine cb (fun w st => (IsValidSource_f x _ F).val w (hol1 (st.get (p := .isv ESource (.agg #[.int .i64 x.window.trail, .int .i64 x.window.size, .slice a1 x.window.items.length c1, .int .i64 x.clock, .int .i64 x.quiet, .slice a2 x.holds.length c2]) x F) (by simp)))) ?_
  cases g1 : goodSrc x
  · repeat (first | apply c_seq | apply c_reg | (apply wO; apply oc; rfl; exact ydE) | apply w_nil | apply n_cd | (apply wg_t; rfl; rfl) | (apply wg_f; rfl; rfl; rfl; rfl) | (apply wg_u; rfl; rfl; rfl) | (apply c_t; rfl) | (apply c_f; rfl) | apply c_skip | apply c_block | apply n_blk | apply c_exit | apply e_hit | apply e_cd | apply e_lp | (apply e_miss; rfl) | apply c_ret | (apply wO; apply o_box; rfl; rfl; rfl; intro _) | (apply wO; apply o_alloc; rfl; intro _) | (apply wO; apply o_st; rfl; rfl; rfl; (first | exact AggC.s | exact OneC.s); rfl; exact rplE; exact putE; rfl) | (apply wO; apply o_bs0; rfl; intro _) | (apply wO; apply o_bs; rfl; rfl; rfl; rfl; exact rptE; exact filE; intro _) | (apply wO; apply o_call; rfl; kernel_rfl; exact evsE))
    rw [resTrim_no (by unfold okTrimSource; rw [g1]; rfl)]
    refine ret ⟨none, 0, none, 0, []⟩ trivial rfl
  obtain ⟨gw, hl, t0, t1, k0, k1, hm, hn, hu, hb⟩ := goodS_of g1
  repeat (first | apply c_seq | apply c_reg | (apply wO; apply oc; rfl; exact ydE) | apply w_nil | apply n_cd | (apply wg_t; rfl; rfl) | (apply wg_f; rfl; rfl; rfl; rfl) | (apply wg_u; rfl; rfl; rfl) | (apply c_t; rfl) | (apply c_f; rfl) | apply c_skip | apply c_block | apply n_blk | apply c_exit | apply e_hit | apply e_cd | apply e_lp | (apply e_miss; rfl) | apply c_ret | (apply wO; apply o_box; rfl; rfl; rfl; intro _) | (apply wO; apply o_alloc; rfl; intro _) | (apply wO; apply o_st; rfl; rfl; rfl; (first | exact AggC.s | exact OneC.s); rfl; exact rplE; exact putE; rfl) | (apply wO; apply o_bs0; rfl; intro _) | (apply wO; apply o_bs; rfl; rfl; rfl; rfl; exact rptE; exact filE; intro _) | (apply wO; apply o_call; rfl; kernel_rfl; exact evsE))
  refine cf (Sclone_f x _ F (by omega) (by omega)) fun z _ => ?_
  refine t_app ?_
  refine openOSource ?_
  rintro a5 c5 F5 a6 c6 F6 e5 l5 l6
  rw [e5]
  repeat (first | apply c_seq | apply c_reg | (apply wO; apply oc; rfl; exact ydE) | apply w_nil | apply n_cd | (apply wg_t; rfl; rfl) | (apply wg_f; rfl; rfl; rfl; rfl) | (apply wg_u; rfl; rfl; rfl) | (apply c_t; rfl) | (apply c_f; rfl) | apply c_skip | apply c_block | apply n_blk | apply c_exit | apply e_hit | apply e_cd | apply e_lp | (apply e_miss; rfl) | apply c_ret | (apply wO; apply o_box; rfl; rfl; rfl; intro _) | (apply wO; apply o_alloc; rfl; intro _) | (apply wO; apply o_st; rfl; rfl; rfl; (first | exact AggC.s | exact OneC.s); rfl; exact rplE; exact putE; rfl) | (apply wO; apply o_bs0; rfl; intro _) | (apply wO; apply o_bs; rfl; rfl; rfl; rfl; exact rptE; exact filE; intro _) | (apply wO; apply o_call; rfl; kernel_rfl; exact evsE))
  refine cf (DropItems_f x.window n _ F3) fun y _ => ?_
  refine t_app ?_
  refine openOSendWindow ?_
  rintro a7 c7 F7 e7 l7
  rw [e7]
  cases g2 : okDropItems x.window n
  · rw [resTrim_no (by unfold okTrimSource; rw [g1, g2]; rfl), drop_no g2]
    repeat (first | apply c_seq | apply c_reg | (apply wO; apply oc; rfl; exact ydE) | apply w_nil | apply n_cd | (apply wg_t; rfl; rfl) | (apply wg_f; rfl; rfl; rfl; rfl) | (apply wg_u; rfl; rfl; rfl) | (apply c_t; rfl) | (apply c_f; rfl) | apply c_skip | apply c_block | apply n_blk | apply c_exit | apply e_hit | apply e_cd | apply e_lp | (apply e_miss; rfl) | apply c_ret | (apply wO; apply o_box; rfl; rfl; rfl; intro _) | (apply wO; apply o_alloc; rfl; intro _) | (apply wO; apply o_st; rfl; rfl; rfl; (first | exact AggC.s | exact OneC.s); rfl; exact rplE; exact putE; rfl) | (apply wO; apply o_bs0; rfl; intro _) | (apply wO; apply o_bs; rfl; rfl; rfl; rfl; exact rptE; exact filE; intro _) | (apply wO; apply o_call; rfl; kernel_rfl; exact evsE))
    refine ret ⟨none, 0, none, 0, []⟩ trivial rfl
  obtain ⟨W, k, hr, w0, w1⟩ := drop_yes g2 t0 t1
  have hR : resTrimSource x n = (withW x W, k, true) := by unfold resTrimSource okTrimSource; rw [g1, g2, hr]; rfl
  rw [hR, hr]
  repeat (first | apply c_seq | apply c_reg | (apply wO; apply oc; rfl; exact ydE) | apply w_nil | apply n_cd | (apply wg_t; rfl; rfl) | (apply wg_f; rfl; rfl; rfl; rfl) | (apply wg_u; rfl; rfl; rfl) | (apply c_t; rfl) | (apply c_f; rfl) | apply c_skip | apply c_block | apply n_blk | apply c_exit | apply e_hit | apply e_cd | apply e_lp | (apply e_miss; rfl) | apply c_ret | (apply wO; apply o_box; rfl; rfl; rfl; intro _) | (apply wO; apply o_alloc; rfl; intro _) | (apply wO; apply o_st; rfl; rfl; rfl; (first | exact AggC.s | exact OneC.s); rfl; exact rplE; exact putE; rfl) | (apply wO; apply o_bs0; rfl; intro _) | (apply wO; apply o_bs; rfl; rfl; rfl; rfl; exact rptE; exact filE; intro _) | (apply wO; apply o_call; rfl; kernel_rfl; exact evsE))
  refine cf (keepHolds_f W x.holds _ _ _ _ _ a7 a6 c7 c6 x.clock x.quiet F7 F6 w0 w1 hn) fun q _ => ?_
  refine t_app ?_
  repeat (first | apply c_seq | apply c_reg | (apply wO; apply oc; rfl; exact ydE) | apply w_nil | apply n_cd | (apply wg_t; rfl; rfl) | (apply wg_f; rfl; rfl; rfl; rfl) | (apply wg_u; rfl; rfl; rfl) | (apply c_t; rfl) | (apply c_f; rfl) | apply c_skip | apply c_block | apply n_blk | apply c_exit | apply e_hit | apply e_cd | apply e_lp | (apply e_miss; rfl) | apply c_ret | (apply wO; apply o_box; rfl; rfl; rfl; intro _) | (apply wO; apply o_alloc; rfl; intro _) | (apply wO; apply o_st; rfl; rfl; rfl; (first | exact AggC.s | exact OneC.s); rfl; exact rplE; exact putE; rfl) | (apply wO; apply o_bs0; rfl; intro _) | (apply wO; apply o_bs; rfl; rfl; rfl; rfl; exact rptE; exact filE; intro _) | (apply wO; apply o_call; rfl; kernel_rfl; exact evsE))
  refine closeOSource (withW x W) ?_
  refine ret ⟨_, _, _, _, _⟩ trivial rfl
theorem TrimSource_c (v0 : Value) (x0 : Source) (F0 : List Nat) (x1 : Int) (w : World) (h0 : IsV ESource w v0 x0 F0) :
    Calls Tryd.prog 108 #[v0, .int .i64 x1] w (PI_TrimSource (resTrimSource x0 x1) w) := by
  refine ((TrimSource_f x0 x1 v0 F0).made w (hol1 h0) (fun _ => rfl)).mono ?_
  rintro e w' ⟨s, -, rfl, hH, hn, hF, hB⟩
  have a1 := hH _ (List.mem_cons_self ..)
  simp only [fp, Pc.F, List.append_nil] at hn hF
  exact ⟨_, s.F, rfl, a1.2, hn, hF, hB⟩
end Go.Proofs.YtkcajnpdmgafjaaDoor
