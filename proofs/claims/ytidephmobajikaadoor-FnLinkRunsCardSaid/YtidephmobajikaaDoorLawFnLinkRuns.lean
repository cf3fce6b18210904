/- The law FnLinkRuns: the walk of the law itself out of the contracts of its functions. No condition beyond the form's own reach. -/
import Derived.Test.YtidephmobajikaaDoorCards
import Derived.Test.YtidephmobajikaaDoorTie
import Derived.LaidMore
import Derived.Lay
import Derived.SevenTiedAt
import Derived.Stop.Joined
import Derived.Test.YtidephmobajikaaDoorM4
namespace Go.Proofs.YtidephmobajikaaDoor
open Go.RowKit Go.ChangeShapes Go.WideShapes Go.ChangeAt
theorem reads_byte : Reads Tryd.prog EByte 5 := fun h => by
  obtain ⟨n, rfl, _, hw⟩ := DataW.trod_int Tryd.underlying5 h
  have hb := bounds_u8 hw
  exact ⟨n, [], rfl, hb.1, hb.2, rfl⟩
theorem law_FnLinkRuns (v0 : Value) (code : List Int) (F0 : List Nat) (w : World) (h0 : Sl EByte w v0 code F0) :
    Calls Tryd.prog 8 #[v0] w fun e' w' => e' = .returned (.bool true) ∧ Below w.heap.size w w' := (linkRuns_f v0 code F0).val w (hol1 ⟨by decide, h0⟩)
set_option maxRecDepth 100000 in
theorem lifted_FnLinkRuns (os : Os) (started : os.Started) (H : Type) (enc : TypeId × Value → H) :
    ReturnsInHanded {} Tryd.checked os 8 .any (fun w args => (Rows.fnLinkRunsSpec.pre enc Tryd.prog Tryd.f8 Rows.fnLinkRunsRow.domain false w args ∧ laidMetH Tryd.prog Rows.fnLinkRunsRow.laid w) ∧ sizedMet enc Tryd.prog Tryd.f8 (OpenSpec.ofChange Rows.fnLinkRunsSpec) false w args)
      (Rows.fnLinkRunsSpec.post enc Tryd.prog Tryd.f8 false true false false) := by
  refine returnsInHanded_of_change_and (C := Tryd.checked) (X := fun w _ => laidMetH Tryd.prog Rows.fnLinkRunsRow.laid w) (fun _ _ _ hh h => h.of_heap hh) (by kernel_rfl) started (by kernel_rfl) Tryd.func8
    (ChangeSpec.witness_shaped (enc := enc) (C := Tryd.checked) (os := os) (X := fun w _ => laidMetH Tryd.prog Rows.fnLinkRunsRow.laid w) false (World.laidAll Tryd.prog os Rows.fnLinkRunsRow.laid) #[.slice none 0 0] 8 (World.laidAll_os _ _ _)
      (World.shaped_of_ZipB (by kernel_rfl) (by kernel_rfl)) (by kernel_rfl) (by kernel_rfl) (by kernel_rfl)
      (by rw [MakeChecks.laidMetH_plain _ _ _ (by kernel_rfl)]; exact laidMet_laidAll _ (by kernel_rfl) (by kernel_rfl))) ?_
  intro W base args ds gs before hval0 hW hc_ _ hL _
  have hval : ∀ (j : Nat) t v, Tryd.f8.params[j]? = some t → args[j]? = some v → Value.okWide Tryd.prog W .any base t v := hval0
  have hW' := hW
  obtain ⟨p, q, hA0, hV, rfl, hfz, hnd⟩ := hW
  have hA : DataW.TrodAll enc Tryd.prog W 0 (fun _ => true) true Tryd.f8.params.toList args.toList ds p := hA0
  rw [Tryd.params8] at hA hval
  obtain ⟨v0, d0, rfl, rfl, h0⟩ := trodAll_one hA
  obtain ⟨a0, l0, c0, rfl⟩ := okWide_slice Tryd.underlying22 (hval 0 22 v0 rfl rfl)
  obtain ⟨fuel0, hf0⟩ := h0
  obtain ⟨x0, F0, u0, hu0, hs0⟩ := (reads_slice Tryd.underlying22 (by kernel_rfl) (by decide) reads_byte) hf0
  obtain rfl : Value.slice a0 l0 c0 = u0 := by simpa [Value.cells] using hu0
  refine (law_FnLinkRuns _ x0 F0 W hs0).mono fun e W' ⟨he, hB⟩ => ⟨_, he, law_post (tb := 4) (by kernel_rfl) ?_ Tryd.underlying4 (by kernel_rfl) rfl rfl hW' hB⟩
  rw [Tryd.params8]
  simp only [List.mem_cons, List.not_mem_nil, or_false, forall_eq]
  exact ⟨by kernel_rfl, of_decide_eq_true (by kernel_rfl)⟩
theorem holds_FnLinkRuns : Rows.FnLinkRunsSaid :=
  OpenClaim.holds_of_wide 8 Tryd.f8 rfl rfl rfl rfl rfl rfl rfl ⟨rfl, rfl, rfl, rfl, rfl⟩ rfl rfl rfl rfl rfl (by kernel_rfl) Tryd.func8 (by kernel_rfl)
    (of_decide_eq_true (by kernel_rfl)) (by unfold Func.isWrapper; first | (rw [if_pos (by decide +kernel)]; kernel_rfl) | (rw [if_neg (by decide +kernel)]; exact ⟨rfl, rfl⟩))
    (fun os started H enc _ => lifted_FnLinkRuns os started H enc)
/-- no parameter wants a stand-in; the looks are off -/
theorem plain_FnLinkRuns (f : FuncId) (fn : Func) (hf : Tryd.pinned.checked.prog.funcNamed "loop.example/g00840/laws.FnLinkRuns" = some f) (hfn : Tryd.pinned.checked.prog.funcs[f]? = some fn) :
    false = Tryd.pinned.checked.prog.looks [] ∧ ∀ (j : Nat) t, fn.params[j]? = some t → Tryd.pinned.checked.prog.wantsStandIn t = false := by
  obtain rfl : f = 8 := Option.some.inj ((show Tryd.prog.funcNamed "loop.example/g00840/laws.FnLinkRuns" = some 8 by kernel_rfl).symm.trans hf) |>.symm
  obtain rfl : fn = Tryd.f8 := (Option.some.inj (Tryd.func8.symm.trans hfn)).symm
  refine ⟨by kernel_rfl, fun j t ht => ?_⟩
  rw [Tryd.params8] at ht
  have hm : t ∈ [22] := by simpa using Array.mem_of_getElem? ht
  have hall : ([22].all fun u => !Tryd.prog.wantsStandIn u) = true := by kernel_rfl
  exact (show Tryd.prog.wantsStandIn t = false by simpa using List.all_eq_true.1 hall t hm)
theorem card_FnLinkRuns : Rows.FnLinkRunsCardSaid :=
  Claim7.holds_tied_plain_at .later [] _ _ _ _ holds_FnLinkRuns (fun _ h => by cases h) (by kernel_rfl) (fun _ h => by cases h) fnLinkRuns_row_tie rfl ⟨rfl, rfl⟩ (by kernel_rfl) rfl plain_FnLinkRuns (by kernel_rfl)
end Go.Proofs.YtidephmobajikaaDoor
