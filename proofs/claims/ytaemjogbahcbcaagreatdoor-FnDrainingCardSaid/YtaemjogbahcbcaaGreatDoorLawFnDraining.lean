/- The law FnDraining: the walk of the law itself out of the contracts of its functions. No condition beyond the form's own reach. Printed by wip/mkstr.py. -/
import Derived.Test.YtaemjogbahcbcaaGreatDoorCards
import Derived.Test.YtaemjogbahcbcaaGreatDoorTie
import Derived.LaidMore
import Derived.Lay
import Derived.SevenTiedAt
import Derived.Stop.Joined
import Derived.Test.YtaemjogbahcbcaaGreatDoorM11
namespace Go.Proofs.YtaemjogbahcbcaaGreatDoor
open Go.RowKit Go.ChangeShapes Go.WideShapes Go.ChangeAt
theorem Af1 : Adh Tryz.prog Gf 5 := fun h => by
  obtain ⟨n, rfl, _, hw⟩ := DataW.trod_int Tryz.underlying5 h
  have hb := bounds_u8 hw
  exact ⟨n, [], rfl, hb.1, hb.2, rfl⟩
theorem Zb (v0 : Value) (Br : List Int) (F0 FT : List Nat) (w : World) (h0 : Sl Gf w v0 Br F0) (hT : (Lw FT).P w) :
    Calls Tryz.prog 4 #[v0] w fun e' w' => e' = .returned (.bool true) ∧ Below w.heap.size w w' := (Afk v0 Br F0 FT).val w (Sf ⟨by decide, h0⟩ hT)
set_option maxRecDepth 100000 in
theorem Vd (os : Os) (Bh : os.Started) (H : Type) (enc : TypeId × Value → H) :
    ReturnsInHanded {} Tryz.checked os 4 .any (fun w args => (Rows.fnDrainingSpec.pre enc Tryz.prog Tryz.f4 Rows.fnDrainingRow.domain false w args ∧ laidMetH Tryz.prog Rows.fnDrainingRow.laid w) ∧ sizedMet enc Tryz.prog Tryz.f4 (OpenSpec.ofChange Rows.fnDrainingSpec) false w args)
      (Rows.fnDrainingSpec.post enc Tryz.prog Tryz.f4 false true false false) := by
  have core : ∀ (W : World) (base : Nat) (args : Array Value) (ds gs : List (DataW H)) (before : List MemPlace),
      (∀ (j : Nat) t v, Tryz.f4.params[j]? = some t → args[j]? = some v → Value.okWide Tryz.prog W .any base t v) → DataW.Whole enc Tryz.prog Tryz.f4.params.toList Rows.fnDrainingSpec.vars false W args.toList ds gs before →
      W.ShapedOpen Tryz.prog → laidMetH Tryz.prog Rows.fnDrainingRow.laid W → Calls Tryz.prog 4 args W fun e W' => ∃ v, e = .returned v ∧ Rows.fnDrainingSpec.post enc Tryz.prog Tryz.f4 false true false false W args v W' := by
    intro W base args ds gs before hval0 hW hsh hL
    have hval : ∀ (j : Nat) t v, Tryz.f4.params[j]? = some t → args[j]? = some v → Value.okWide Tryz.prog W .any base t v := hval0
    have hW' := hW
    obtain ⟨p, q, hA0, hV, rfl, hfz, hnd⟩ := hW
    have hA : DataW.TrodAll enc Tryz.prog W 0 (fun _ => true) true Tryz.f4.params.toList args.toList ds p := hA0
    rw [Tryz.params4] at hA hval
    obtain ⟨v0, d0, rfl, rfl, h0⟩ := trodAll_one hA
    obtain ⟨a0, l0, c0, rfl⟩ := okWide_slice Tryz.underlying22 (hval 0 22 v0 rfl rfl)
    obtain ⟨fuel0, hf0⟩ := h0
    obtain ⟨x0, F0, u0, hu0, hs0⟩ := (Aes Tryz.underlying22 (by kernel_rfl) (by decide) Af1) hf0
    obtain rfl : Value.slice a0 l0 c0 = u0 := by simpa [Value.cells] using hu0
    refine (Zb _ x0 F0 _ W hs0 (Aqh hL hsh)).mono fun e W' ⟨he, hB⟩ => ⟨_, he, Alf (tb := 4) (by kernel_rfl) ?_ Tryz.underlying4 (by kernel_rfl) rfl rfl hW' hB⟩
    rw [Tryz.params4]
    simp only [List.mem_cons, List.not_mem_nil, or_false, forall_eq]
    exact ⟨by kernel_rfl, of_decide_eq_true (by kernel_rfl)⟩
  refine returnsInHanded_of_calls (C := Tryz.checked) (by kernel_rfl) Bh (by kernel_rfl)
    (ChangeSpec.witness_shaped (enc := enc) (C := Tryz.checked) (os := os) (X := fun w _ => laidMetH Tryz.prog Rows.fnDrainingRow.laid w) false (World.laidAll Tryz.prog os Rows.fnDrainingRow.laid) #[.slice none 0 0] 8 (World.laidAll_os _ _ _)
      (World.shaped_of_ZipB (by kernel_rfl) (by kernel_rfl)) (by kernel_rfl) (by kernel_rfl) (by kernel_rfl)
      (by rw [MakeChecks.laidMetH_plain _ _ _ (by kernel_rfl)]; exact laidMet_laidAll _ (by kernel_rfl) (by kernel_rfl))) ?_
  intro w tape i _ hsh _ hok hpre _
  obtain ⟨_, _, _, fn2, hfn2, _, _, _, _, hval⟩ := hok
  obtain rfl : fn2 = Tryz.f4 := Option.some.inj (hfn2.symm.trans Tryz.func4)
  obtain ⟨⟨⟨ds, gs, before, hw, _⟩, hL⟩, _⟩ := hpre
  have hw2 := DataW.Whole.of_heap (w' := w.forCall tape i) (by rfl) hw
  refine (core (w.forCall tape i) w.heap.size i.args ds gs before hval hw2 hsh (hL.of_heap (by rfl))).mono fun e W' ⟨v, he, hp⟩ => ?_
  subst he
  exact ChangeSpec.post_blind hp
theorem V9 : Rows.FnDrainingSaid :=
  OpenClaim.holds_of_wide 4 Tryz.f4 rfl rfl rfl rfl rfl rfl rfl ⟨rfl, rfl, rfl, rfl, rfl⟩ rfl rfl rfl rfl rfl (by kernel_rfl) Tryz.func4 Aaj
    (of_decide_eq_true (by kernel_rfl)) (by unfold Func.isWrapper; first | (rw [if_pos (by decide +kernel)]; kernel_rfl) | (rw [if_neg (by decide +kernel)]; exact ⟨rfl, rfl⟩))
    (fun os Bh H enc _ => Vd os Bh H enc)
/-- no parameter wants a stand-in; the looks are off -/
theorem Wm (f : FuncId) (fn : Func) (hf : Tryz.pinned.checked.prog.funcNamed "loop.example/g00840/laws.FnDraining" = some f) (hfn : Tryz.pinned.checked.prog.funcs[f]? = some fn) :
    false = Tryz.pinned.checked.prog.looks [] ∧ ∀ (j : Nat) t, fn.params[j]? = some t → Tryz.pinned.checked.prog.wantsStandIn t = false := by
  obtain rfl : f = 4 := Option.some.inj ((show Tryz.prog.funcNamed "loop.example/g00840/laws.FnDraining" = some 4 by kernel_rfl).symm.trans hf) |>.symm
  obtain rfl : fn = Tryz.f4 := (Option.some.inj (Tryz.func4.symm.trans hfn)).symm
  refine ⟨by kernel_rfl, fun j t ht => ?_⟩
  rw [Tryz.params4] at ht
  have hm : t ∈ [22] := by simpa using Array.mem_of_getElem? ht
  have hall : ([22].all fun u => !Tryz.prog.wantsStandIn u) = true := by kernel_rfl
  exact (show Tryz.prog.wantsStandIn t = false by simpa using List.all_eq_true.1 hall t hm)
theorem card_FnDraining : Rows.FnDrainingCardSaid :=
  Claim7.holds_tied_plain_at .later [] _ _ _ _ V9 (fun _ h => by cases h) (by kernel_rfl) (fun _ h => by cases h) fnDraining_row_tie rfl ⟨rfl, rfl⟩ (by kernel_rfl) rfl Wm (by kernel_rfl)
end Go.Proofs.YtaemjogbahcbcaaGreatDoor
