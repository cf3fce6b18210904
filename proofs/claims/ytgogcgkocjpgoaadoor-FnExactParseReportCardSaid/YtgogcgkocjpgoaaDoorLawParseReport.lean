/- The law FnExactParseReport: the walk of the law itself out of the contracts of its functions. No condition beyond the form's own reach. Printed by wip/mkstr.py. -/
import Derived.Test.YtgogcgkocjpgoaaDoorCards
import Derived.Test.YtgogcgkocjpgoaaDoorTie
import Derived.LaidMore
import Derived.Lay
import Derived.SevenTiedAt
import Derived.Stop.Joined
import Derived.Test.YtgogcgkocjpgoaaDoorM2
namespace Go.Proofs.YtgogcgkocjpgoaaDoor
open Go.RowKit Go.ChangeShapes Go.WideShapes Go.ChangeAt
theorem law_ParseReport (s : ByteArray) (FT : List Nat) (w : World) (hT : (EnvP FT).P w) :
    Calls Tryd.prog 4 #[.string s] w fun e' w' => e' = .returned (.bool true) ∧ Below w.heap.size w w' := (parseReport_l s FT).val w (hol1 hT)
set_option maxRecDepth 100000 in
theorem lifted_ParseReport (os : Os) (started : os.Started) (H : Type) (enc : TypeId × Value → H) :
    ReturnsInHanded {} Tryd.checked os 4 .any (fun w args => (Rows.fnExactParseReportSpec.pre enc Tryd.prog Tryd.f4 Rows.fnExactParseReportRow.domain false w args ∧ laidMetH Tryd.prog Rows.fnExactParseReportRow.laid w) ∧ sizedMet enc Tryd.prog Tryd.f4 (OpenSpec.ofChange Rows.fnExactParseReportSpec) false w args)
      (Rows.fnExactParseReportSpec.post enc Tryd.prog Tryd.f4 false true false false) := by
  have core : ∀ (W : World) (base : Nat) (args : Array Value) (ds gs : List (DataW H)) (before : List MemPlace),
      (∀ (j : Nat) t v, Tryd.f4.params[j]? = some t → args[j]? = some v → Value.okWide Tryd.prog W .any base t v) → DataW.Whole enc Tryd.prog Tryd.f4.params.toList Rows.fnExactParseReportSpec.vars false W args.toList ds gs before →
      W.ShapedOpen Tryd.prog → laidMetH Tryd.prog Rows.fnExactParseReportRow.laid W → Calls Tryd.prog 4 args W fun e W' => ∃ v, e = .returned v ∧ Rows.fnExactParseReportSpec.post enc Tryd.prog Tryd.f4 false true false false W args v W' := by
    intro W base args ds gs before hval0 hW hsh hL
    have hval : ∀ (j : Nat) t v, Tryd.f4.params[j]? = some t → args[j]? = some v → Value.okWide Tryd.prog W .any base t v := hval0
    have hW' := hW
    obtain ⟨p, q, hA0, hV, rfl, hfz, hnd⟩ := hW
    have hA : DataW.TrodAll enc Tryd.prog W 0 (fun _ => true) true Tryd.f4.params.toList args.toList ds p := hA0
    rw [Tryd.params4] at hA hval
    obtain ⟨v0, d0, rfl, rfl, h0⟩ := trodAll_one hA
    obtain ⟨c0, rfl⟩ := okWide_string Tryd.underlying9 (hval 0 9 v0 rfl rfl)
    obtain ⟨fuel0, hf0⟩ := h0
    obtain ⟨y0, hy0, -, hm0⟩ := DataW.trod_string Tryd.underlying9 hf0
    obtain rfl : c0 = y0 := by simpa [Value.cells] using hy0
    refine (law_ParseReport c0 _ W (env_of hL hsh)).mono fun e W' ⟨he, hB⟩ => ⟨_, he, law_post (tb := 4) (by kernel_rfl) ?_ Tryd.underlying4 (by kernel_rfl) rfl rfl hW' hB⟩
    rw [Tryd.params4]
    simp only [List.mem_cons, List.not_mem_nil, or_false, forall_eq]
    exact ⟨by kernel_rfl, of_decide_eq_true (by kernel_rfl)⟩
  refine returnsInHanded_of_calls (C := Tryd.checked) (by kernel_rfl) started (by kernel_rfl)
    (ChangeSpec.witness_shaped (enc := enc) (C := Tryd.checked) (os := os) (X := fun w _ => laidMetH Tryd.prog Rows.fnExactParseReportRow.laid w) false (World.laidAll Tryd.prog os Rows.fnExactParseReportRow.laid) #[.string ⟨#[]⟩] 8 (World.laidAll_os _ _ _)
      (World.shaped_of_ZipB (by kernel_rfl) (by kernel_rfl)) (by kernel_rfl) (by kernel_rfl) (by kernel_rfl)
      (by rw [MakeChecks.laidMetH_plain _ _ _ (by kernel_rfl)]; exact laidMet_laidAll _ (by kernel_rfl) (by kernel_rfl))) ?_
  intro w tape i _ hsh _ hok hpre _
  obtain ⟨_, _, _, fn2, hfn2, _, _, _, _, hval⟩ := hok
  obtain rfl : fn2 = Tryd.f4 := Option.some.inj (hfn2.symm.trans Tryd.func4)
  obtain ⟨⟨⟨ds, gs, before, hw, _⟩, hL⟩, _⟩ := hpre
  have hw2 := DataW.Whole.of_heap (w' := w.forCall tape i) (by rfl) hw
  refine (core (w.forCall tape i) w.heap.size i.args ds gs before hval hw2 hsh (hL.of_heap (by rfl))).mono fun e W' ⟨v, he, hp⟩ => ?_
  subst he
  exact ChangeSpec.post_blind hp
theorem holds_ParseReport : Rows.FnExactParseReportSaid :=
  OpenClaim.holds_of_wide 4 Tryd.f4 rfl rfl rfl rfl rfl rfl rfl ⟨rfl, rfl, rfl, rfl, rfl⟩ rfl rfl rfl rfl rfl (by kernel_rfl) Tryd.func4 jf_ParseReport
    (of_decide_eq_true (by kernel_rfl)) (by unfold Func.isWrapper; first | (rw [if_pos (by decide +kernel)]; kernel_rfl) | (rw [if_neg (by decide +kernel)]; exact ⟨rfl, rfl⟩))
    (fun os started H enc _ => lifted_ParseReport os started H enc)
/-- no parameter wants a stand-in; the looks are off -/
theorem plain_ParseReport (f : FuncId) (fn : Func) (hf : Tryd.pinned.checked.prog.funcNamed "loop.example/g00840/laws.FnExactParseReport" = some f) (hfn : Tryd.pinned.checked.prog.funcs[f]? = some fn) :
    true = Tryd.pinned.checked.prog.looks [] ∧ ∀ (j : Nat) t, fn.params[j]? = some t → Tryd.pinned.checked.prog.wantsStandIn t = false := by
  obtain rfl : f = 4 := Option.some.inj ((show Tryd.prog.funcNamed "loop.example/g00840/laws.FnExactParseReport" = some 4 by kernel_rfl).symm.trans hf) |>.symm
  obtain rfl : fn = Tryd.f4 := (Option.some.inj (Tryd.func4.symm.trans hfn)).symm
  refine ⟨by kernel_rfl, fun j t ht => ?_⟩
  rw [Tryd.params4] at ht
  have hm : t ∈ [9] := by simpa using Array.mem_of_getElem? ht
  have hall : ([9].all fun u => !Tryd.prog.wantsStandIn u) = true := by kernel_rfl
  exact (show Tryd.prog.wantsStandIn t = false by simpa using List.all_eq_true.1 hall t hm)
theorem card_ParseReport : Rows.FnExactParseReportCardSaid :=
  Claim7.holds_tied_plain_at .later [] _ _ _ _ holds_ParseReport (fun _ h => by cases h) (by kernel_rfl) (fun _ h => by cases h) fnExactParseReport_row_tie rfl ⟨rfl, rfl⟩ (by kernel_rfl) rfl plain_ParseReport (by kernel_rfl)
end Go.Proofs.YtgogcgkocjpgoaaDoor
