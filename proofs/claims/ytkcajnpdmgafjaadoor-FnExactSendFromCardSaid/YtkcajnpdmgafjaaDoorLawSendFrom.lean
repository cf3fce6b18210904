/- The law FnExactSendFrom: the walk of the law itself out of the contracts of the two functions. No condition beyond the form's own reach. Written by wip/genlaw.py. -/
import Derived.Test.YtkcajnpdmgafjaaDoorCSendFrom
import Derived.Test.YtkcajnpdmgafjaaDoorLaw
import Derived.Test.YtkcajnpdmgafjaaDoorCards
import Derived.Test.YtkcajnpdmgafjaaDoorTie
import Derived.LaidMore
import Derived.Lay
import Derived.SevenTiedAt
import Derived.Stop.Joined
import Derived.Test.YtkcajnpdmgafjaaDoorLaw2
import Derived.Test.YtkcajnpdmgafjaaDoorLawSendFromW
namespace Go.Proofs.YtkcajnpdmgafjaaDoor
open Go.RowKit Go.ChangeShapes Go.WideShapes Go.ChangeAt
theorem reads_SendWindow : Reads Tryd.prog ESendWindow 118 := fun hh => by
  obtain ⟨y, F, hy⟩ := reads_struct (E := (EProd EInt (EProd EInt (EProd (ESl EStr (by decide)) EUnit)))) Tryd.underlying118 (by kernel_rfl) (.cons rfl (by kernel_rfl) (reads_int Tryd.underlying3) (.cons rfl (by kernel_rfl) (reads_int Tryd.underlying3) (.cons rfl (by kernel_rfl) (reads_slice Tryd.underlying22 (by kernel_rfl) (by decide) (reads_str Tryd.underlying9)) (.nil _)))) hh
  obtain ⟨_, _, _, _, rfl, rfl, ⟨rfl, rfl⟩, ⟨_, _, _, _, rfl, rfl, ⟨rfl, rfl⟩, ⟨_, _, _, _, rfl, rfl, ⟨u2, rfl, hs2⟩, ⟨rfl, rfl⟩⟩⟩⟩ := hy
  exact ⟨⟨y.1, y.2.1, y.2.2.1⟩, _, u2, rfl, by simpa using hs2⟩
theorem reads_Hold : Reads Tryd.prog EHold 226 := fun hh => by
  obtain ⟨y, F, hy⟩ := reads_struct (E := (EProd EInt (EProd EInt EUnit))) Tryd.underlying226 (by kernel_rfl) (.cons rfl (by kernel_rfl) (reads_int Tryd.underlying3) (.cons rfl (by kernel_rfl) (reads_int Tryd.underlying3) (.nil _))) hh
  obtain ⟨_, _, _, _, rfl, rfl, ⟨rfl, rfl⟩, ⟨_, _, _, _, rfl, rfl, ⟨rfl, rfl⟩, ⟨rfl, rfl⟩⟩⟩ := hy
  exact ⟨⟨y.1, y.2.1⟩, [], rfl, rfl⟩
theorem reads_Source : Reads Tryd.prog ESource 121 := fun hh => by
  obtain ⟨y, F, hy⟩ := reads_struct (E := (EProd ESendWindow (EProd EInt (EProd EInt (EProd (ESl EHold (by decide)) EUnit))))) Tryd.underlying121 (by kernel_rfl) (.cons rfl (by kernel_rfl) reads_SendWindow (.cons rfl (by kernel_rfl) (reads_int Tryd.underlying3) (.cons rfl (by kernel_rfl) (reads_int Tryd.underlying3) (.cons rfl (by kernel_rfl) (reads_slice Tryd.underlying119 (by kernel_rfl) (by decide) reads_Hold) (.nil _))))) hh
  obtain ⟨_, _, _, _, rfl, rfl, ⟨u0_0, rfl, hs0_0⟩, ⟨_, _, _, _, rfl, rfl, ⟨rfl, rfl⟩, ⟨_, _, _, _, rfl, rfl, ⟨rfl, rfl⟩, ⟨_, _, _, _, rfl, rfl, ⟨u3, rfl, hs3⟩, ⟨rfl, rfl⟩⟩⟩⟩⟩ := hy
  exact ⟨⟨y.1, y.2.1, y.2.2.1, y.2.2.2.1⟩, _, u0_0, u3, _, _, rfl, hs0_0, hs3, rfl⟩
set_option maxRecDepth 100000 in
theorem lifted_SendFrom (os : Os) (started : os.Started) (H : Type) (enc : TypeId × Value → H) :
    ReturnsInHanded {} Tryd.checked os 13 .any (fun w args => (Rows.fnExactSendFromSpec.pre enc Tryd.prog Tryd.f13 Rows.fnExactSendFromRow.domain false w args ∧ laidMetH Tryd.prog Rows.fnExactSendFromRow.laid w) ∧ sizedMet enc Tryd.prog Tryd.f13 (OpenSpec.ofChange Rows.fnExactSendFromSpec) false w args)
      (Rows.fnExactSendFromSpec.post enc Tryd.prog Tryd.f13 false true false false) := by
  refine returnsInHanded_of_change_and (C := Tryd.checked) (X := fun w _ => laidMetH Tryd.prog Rows.fnExactSendFromRow.laid w) (fun _ _ _ hh h => h.of_heap hh) (by kernel_rfl) started (by kernel_rfl) Tryd.func13
    (ChangeSpec.witness_shaped (enc := enc) (C := Tryd.checked) (os := os) (X := fun w _ => laidMetH Tryd.prog Rows.fnExactSendFromRow.laid w) false (World.laidAll Tryd.prog os Rows.fnExactSendFromRow.laid) #[.agg #[.int .i64 0, .int .i64 0, .slice none 0 0, .int .i64 0, .int .i64 0, .slice none 0 0], .string ⟨#[]⟩] 8 (World.laidAll_os _ _ _)
      (World.shaped_of_ZipB (by kernel_rfl) (by kernel_rfl)) (by kernel_rfl) (by kernel_rfl) (by kernel_rfl)
      (by rw [MakeChecks.laidMetH_plain _ _ _ (by kernel_rfl)]; exact laidMet_laidAll _ (by kernel_rfl) (by kernel_rfl))) ?_
  intro W base args ds gs before hval0 hW hc_ _ hL _
  have hval : ∀ (j : Nat) t v, Tryd.f13.params[j]? = some t → args[j]? = some v → Value.okWide Tryd.prog W .any base t v := hval0
  have hW' := hW
  obtain ⟨p, q, hA0, hV, rfl, hfz, hnd⟩ := hW
  have hA : DataW.TrodAll enc Tryd.prog W 0 (fun _ => true) true Tryd.f13.params.toList args.toList ds p := hA0
  rw [Tryd.params13] at hA hval
  obtain ⟨v0, v1, d0, d1, p0, p1, rfl, rfl, rfl, h0, h1⟩ := trodAll_two hA
  obtain ⟨cs0, rfl, hsz0⟩ := okWide_struct Tryd.underlying121 (hval 0 121 v0 rfl rfl)
  obtain ⟨fuel0, hf0⟩ := h0
  obtain ⟨x0, F0, hx0⟩ := reads_Source hf0
  obtain ⟨c1, rfl⟩ := okWide_string Tryd.underlying9 (hval 1 9 v1 rfl rfl)
  obtain ⟨fuel1, hf1⟩ := h1
  obtain ⟨y1, hy1, -, hm1⟩ := DataW.trod_string Tryd.underlying9 hf1
  obtain rfl : c1 = y1 := by simpa [Value.cells] using hy1
  refine (law_SendFrom _ x0 F0 c1 W ⟨cs0.toList, by simp, by simpa [Value.cells] using hx0⟩ hm1).mono fun e W' ⟨he, hB⟩ => ⟨_, he, law_post (tb := 4) (by kernel_rfl) ?_ Tryd.underlying4 (by kernel_rfl) rfl rfl hW' hB⟩
  rw [Tryd.params13]
  intro t ht
  simp only [List.mem_cons, List.not_mem_nil, or_false] at ht
  rcases ht with rfl | rfl <;> exact ⟨by kernel_rfl, of_decide_eq_true (by kernel_rfl)⟩
theorem holds_SendFrom : Rows.FnExactSendFromSaid :=
  OpenClaim.holds_of_wide 13 Tryd.f13 rfl rfl rfl rfl rfl rfl rfl ⟨rfl, rfl, rfl, rfl, rfl⟩ rfl rfl rfl rfl rfl (by kernel_rfl) Tryd.func13 (by kernel_rfl)
    (of_decide_eq_true (by kernel_rfl)) (by unfold Func.isWrapper; first | (rw [if_pos (by decide +kernel)]; kernel_rfl) | (rw [if_neg (by decide +kernel)]; exact ⟨rfl, rfl⟩))
    (fun os started H enc _ => lifted_SendFrom os started H enc)
/-- no parameter wants a stand-in; the looks are off -/
theorem plain_SendFrom (f : FuncId) (fn : Func) (hf : Tryd.pinned.checked.prog.funcNamed "loop.example/g00840/laws.FnExactSendFrom" = some f) (hfn : Tryd.pinned.checked.prog.funcs[f]? = some fn) :
    false = Tryd.pinned.checked.prog.looks [] ∧ ∀ (j : Nat) t, fn.params[j]? = some t → Tryd.pinned.checked.prog.wantsStandIn t = false := by
  obtain rfl : f = 13 := Option.some.inj ((show Tryd.prog.funcNamed "loop.example/g00840/laws.FnExactSendFrom" = some 13 by kernel_rfl).symm.trans hf) |>.symm
  obtain rfl : fn = Tryd.f13 := (Option.some.inj (Tryd.func13.symm.trans hfn)).symm
  refine ⟨by kernel_rfl, fun j t ht => ?_⟩
  rw [Tryd.params13] at ht
  have hm : t ∈ [121, 9] := by simpa using Array.mem_of_getElem? ht
  have hall : ([121, 9].all fun u => !Tryd.prog.wantsStandIn u) = true := by kernel_rfl
  exact (show Tryd.prog.wantsStandIn t = false by simpa using List.all_eq_true.1 hall t hm)
theorem card_SendFrom : Rows.FnExactSendFromCardSaid :=
  Claim7.holds_tied_plain_at .later [] _ _ _ _ holds_SendFrom (fun _ h => by cases h) (by kernel_rfl) (fun _ h => by cases h) fnExactSendFrom_row_tie rfl ⟨rfl, rfl⟩ (by kernel_rfl) rfl plain_SendFrom (by kernel_rfl)
end Go.Proofs.YtkcajnpdmgafjaaDoor
