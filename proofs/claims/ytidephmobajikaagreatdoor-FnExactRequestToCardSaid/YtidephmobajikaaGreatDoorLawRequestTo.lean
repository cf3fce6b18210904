/- The law FnExactRequestTo: the walk of the law itself out of the contracts of the two functions. No condition beyond the form's own reach. Written by wip/genlaw.py. -/
import Derived.Test.YtidephmobajikaaGreatDoorCards
import Derived.Test.YtidephmobajikaaGreatDoorTie
import Derived.LaidMore
import Derived.Lay
import Derived.SevenTiedAt
import Derived.Stop.Joined
import Derived.Test.YtidephmobajikaaGreatDoorM4
namespace Go.Proofs.YtidephmobajikaaGreatDoor
open Go.RowKit Go.ChangeShapes Go.WideShapes Go.ChangeAt
theorem reads_SendWindow : Reads Tryz.prog ESendWindow 85 := fun hh => by
  obtain ⟨y, F, hy⟩ := reads_struct (E := (EProd EInt (EProd EInt (EProd (ESl EStr (by decide)) EUnit)))) Tryz.underlying85 (by kernel_rfl) (.cons rfl (by kernel_rfl) (reads_int Tryz.underlying3) (.cons rfl (by kernel_rfl) (reads_int Tryz.underlying3) (.cons rfl (by kernel_rfl) (reads_slice Tryz.underlying29 (by kernel_rfl) (by decide) (reads_str Tryz.underlying9)) (.nil _)))) hh
  obtain ⟨_, _, _, _, rfl, rfl, ⟨rfl, rfl⟩, ⟨_, _, _, _, rfl, rfl, ⟨rfl, rfl⟩, ⟨_, _, _, _, rfl, rfl, ⟨u2, rfl, hs2⟩, ⟨rfl, rfl⟩⟩⟩⟩ := hy
  exact ⟨⟨y.1, y.2.1, y.2.2.1⟩, _, u2, rfl, by simpa using hs2⟩
theorem reads_Hold : Reads Tryz.prog EHold 191 := fun hh => by
  obtain ⟨y, F, hy⟩ := reads_struct (E := (EProd EInt (EProd EInt EUnit))) Tryz.underlying191 (by kernel_rfl) (.cons rfl (by kernel_rfl) (reads_int Tryz.underlying3) (.cons rfl (by kernel_rfl) (reads_int Tryz.underlying3) (.nil _))) hh
  obtain ⟨_, _, _, _, rfl, rfl, ⟨rfl, rfl⟩, ⟨_, _, _, _, rfl, rfl, ⟨rfl, rfl⟩, ⟨rfl, rfl⟩⟩⟩ := hy
  exact ⟨⟨y.1, y.2.1⟩, [], rfl, rfl⟩
theorem reads_Source : Reads Tryz.prog ESource 88 := fun hh => by
  obtain ⟨y, F, hy⟩ := reads_struct (E := (EProd ESendWindow (EProd EInt (EProd EInt (EProd (ESl EHold (by decide)) EUnit))))) Tryz.underlying88 (by kernel_rfl) (.cons rfl (by kernel_rfl) reads_SendWindow (.cons rfl (by kernel_rfl) (reads_int Tryz.underlying3) (.cons rfl (by kernel_rfl) (reads_int Tryz.underlying3) (.cons rfl (by kernel_rfl) (reads_slice Tryz.underlying86 (by kernel_rfl) (by decide) reads_Hold) (.nil _))))) hh
  obtain ⟨_, _, _, _, rfl, rfl, ⟨u0_0, rfl, hs0_0⟩, ⟨_, _, _, _, rfl, rfl, ⟨rfl, rfl⟩, ⟨_, _, _, _, rfl, rfl, ⟨rfl, rfl⟩, ⟨_, _, _, _, rfl, rfl, ⟨u3, rfl, hs3⟩, ⟨rfl, rfl⟩⟩⟩⟩⟩ := hy
  exact ⟨⟨y.1, y.2.1, y.2.2.1, y.2.2.2.1⟩, _, u0_0, u3, _, _, rfl, hs0_0, hs3, rfl⟩
theorem reads_Packet : Reads Tryz.prog EPacket 89 := fun hh => by
  obtain ⟨y, F, hy⟩ := reads_struct (E := (EProd EInt (EProd EInt (EProd EInt (EProd EInt (EProd EStr EUnit)))))) Tryz.underlying89 (by kernel_rfl) (.cons rfl (by kernel_rfl) (reads_int Tryz.underlying3) (.cons rfl (by kernel_rfl) (reads_int Tryz.underlying3) (.cons rfl (by kernel_rfl) (reads_int Tryz.underlying3) (.cons rfl (by kernel_rfl) (reads_int Tryz.underlying3) (.cons rfl (by kernel_rfl) (reads_str Tryz.underlying9) (.nil _)))))) hh
  obtain ⟨_, _, _, _, rfl, rfl, ⟨rfl, rfl⟩, ⟨_, _, _, _, rfl, rfl, ⟨rfl, rfl⟩, ⟨_, _, _, _, rfl, rfl, ⟨rfl, rfl⟩, ⟨_, _, _, _, rfl, rfl, ⟨rfl, rfl⟩, ⟨_, _, _, _, rfl, rfl, ⟨rfl, s4, rfl⟩, ⟨rfl, rfl⟩⟩⟩⟩⟩⟩ := hy
  exact ⟨⟨y.1, y.2.1, y.2.2.1, y.2.2.2.1, y.2.2.2.2.1⟩, [], rfl, s4, rfl⟩
set_option maxRecDepth 100000 in
theorem lifted_RequestTo (os : Os) (started : os.Started) (H : Type) (enc : TypeId × Value → H) :
    ReturnsInHanded {} Tryz.checked os 6 .any (fun w args => (Rows.fnExactRequestToSpec.pre enc Tryz.prog Tryz.f6 Rows.fnExactRequestToRow.domain false w args ∧ laidMetH Tryz.prog Rows.fnExactRequestToRow.laid w) ∧ sizedMet enc Tryz.prog Tryz.f6 (OpenSpec.ofChange Rows.fnExactRequestToSpec) false w args)
      (Rows.fnExactRequestToSpec.post enc Tryz.prog Tryz.f6 false true false false) := by
  refine returnsInHanded_of_change_and (C := Tryz.checked) (X := fun w _ => laidMetH Tryz.prog Rows.fnExactRequestToRow.laid w) (fun _ _ _ hh h => h.of_heap hh) (by kernel_rfl) started (by kernel_rfl) Tryz.func6
    (ChangeSpec.witness_shaped (enc := enc) (C := Tryz.checked) (os := os) (X := fun w _ => laidMetH Tryz.prog Rows.fnExactRequestToRow.laid w) false (World.laidAll Tryz.prog os Rows.fnExactRequestToRow.laid) #[.agg #[.int .i64 0, .int .i64 0, .slice none 0 0, .int .i64 0, .int .i64 0, .slice none 0 0], .agg #[.int .i64 0, .int .i64 0, .int .i64 0, .int .i64 0, .string ⟨#[]⟩]] 8 (World.laidAll_os _ _ _)
      (World.shaped_of_ZipB (by kernel_rfl) (by kernel_rfl)) (by kernel_rfl) (by kernel_rfl) (by kernel_rfl)
      (by rw [MakeChecks.laidMetH_plain _ _ _ (by kernel_rfl)]; exact laidMet_laidAll _ (by kernel_rfl) (by kernel_rfl))) ?_
  intro W base args ds gs before hval0 hW hc_ _ hL _
  have hval : ∀ (j : Nat) t v, Tryz.f6.params[j]? = some t → args[j]? = some v → Value.okWide Tryz.prog W .any base t v := hval0
  have hW' := hW
  obtain ⟨p, q, hA0, hV, rfl, hfz, hnd⟩ := hW
  have hA : DataW.TrodAll enc Tryz.prog W 0 (fun _ => true) true Tryz.f6.params.toList args.toList ds p := hA0
  rw [Tryz.params6] at hA hval
  obtain ⟨v0, v1, d0, d1, p0, p1, rfl, rfl, rfl, h0, h1⟩ := trodAll_two hA
  obtain ⟨cs0, rfl, hsz0⟩ := okWide_struct Tryz.underlying88 (hval 0 88 v0 rfl rfl)
  obtain ⟨fuel0, hf0⟩ := h0
  obtain ⟨x0, F0, hx0⟩ := reads_Source hf0
  obtain ⟨cs1, rfl, hsz1⟩ := okWide_struct Tryz.underlying89 (hval 1 89 v1 rfl rfl)
  obtain ⟨fuel1, hf1⟩ := h1
  obtain ⟨x1, F1, hx1⟩ := reads_Packet hf1
  refine (law_RequestTo _ x0 F0 _ x1 F1 W ⟨cs0.toList, by simp, by simpa [Value.cells] using hx0⟩ ⟨cs1.toList, by simp, by simpa [Value.cells] using hx1⟩).mono fun e W' ⟨he, hB⟩ => ⟨_, he, law_post (tb := 4) (by kernel_rfl) ?_ Tryz.underlying4 (by kernel_rfl) rfl rfl hW' hB⟩
  rw [Tryz.params6]
  intro t ht
  simp only [List.mem_cons, List.not_mem_nil, or_false] at ht
  rcases ht with rfl | rfl <;> exact ⟨by kernel_rfl, of_decide_eq_true (by kernel_rfl)⟩
theorem holds_RequestTo : Rows.FnExactRequestToSaid :=
  OpenClaim.holds_of_wide 6 Tryz.f6 rfl rfl rfl rfl rfl rfl rfl ⟨rfl, rfl, rfl, rfl, rfl⟩ rfl rfl rfl rfl rfl (by kernel_rfl) Tryz.func6 (by kernel_rfl)
    (of_decide_eq_true (by kernel_rfl)) (by unfold Func.isWrapper; first | (rw [if_pos (by decide +kernel)]; kernel_rfl) | (rw [if_neg (by decide +kernel)]; exact ⟨rfl, rfl⟩))
    (fun os started H enc _ => lifted_RequestTo os started H enc)
/-- no parameter wants a stand-in; the looks are off -/
theorem plain_RequestTo (f : FuncId) (fn : Func) (hf : Tryz.pinned.checked.prog.funcNamed "loop.example/g00840/laws.FnExactRequestTo" = some f) (hfn : Tryz.pinned.checked.prog.funcs[f]? = some fn) :
    true = Tryz.pinned.checked.prog.looks [] ∧ ∀ (j : Nat) t, fn.params[j]? = some t → Tryz.pinned.checked.prog.wantsStandIn t = false := by
  obtain rfl : f = 6 := Option.some.inj ((show Tryz.prog.funcNamed "loop.example/g00840/laws.FnExactRequestTo" = some 6 by kernel_rfl).symm.trans hf) |>.symm
  obtain rfl : fn = Tryz.f6 := (Option.some.inj (Tryz.func6.symm.trans hfn)).symm
  refine ⟨by kernel_rfl, fun j t ht => ?_⟩
  rw [Tryz.params6] at ht
  have hm : t ∈ [88, 89] := by simpa using Array.mem_of_getElem? ht
  have hall : ([88, 89].all fun u => !Tryz.prog.wantsStandIn u) = true := by kernel_rfl
  exact (show Tryz.prog.wantsStandIn t = false by simpa using List.all_eq_true.1 hall t hm)
theorem card_RequestTo : Rows.FnExactRequestToCardSaid :=
  Claim7.holds_tied_plain_at .later [] _ _ _ _ holds_RequestTo (fun _ h => by cases h) (by kernel_rfl) (fun _ h => by cases h) fnExactRequestTo_row_tie rfl ⟨rfl, rfl⟩ (by kernel_rfl) rfl plain_RequestTo (by kernel_rfl)
end Go.Proofs.YtidephmobajikaaGreatDoor
