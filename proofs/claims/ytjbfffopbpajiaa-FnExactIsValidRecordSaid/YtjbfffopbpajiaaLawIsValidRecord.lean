/- FnExactIsValidRecord returns true for every record. No condition beyond the form's own reach. -/
import Derived.Test.YtjbfffopbpajiaaRec1
import Derived.Test.YtjbfffopbpajiaaLaw
namespace Go.Proofs.Ytjbfffopbpajiaa
open Go.RowKit Go.ChangeShapes Go.WideShapes Go.ChangeAt

/-- 'Below' over what a function lays for itself: blocks, stores into them, draws. -/
theorem toLogRecord_c (c r : ByteArray) (w : World) :
    Calls Try.prog 8 #[.agg #[.string c, .string r]] w fun e w' => e = .returned (.agg #[.string c, .string r]) ∧ Below w.heap.size w w' := by
  go_enter Try.func8, Try.ntmps8
  go_wp2
  exact bodyPost_ret (v := .agg #[.string c, .string r]) (by simp [results, Try.results8, go_sem]) rfl ⟨rfl, by
    repeat (first | exact Below.refl _ _ | refine Below.setCell ?_ (by simp) _ | refine Below.alloc ?_ (by simp <;> omega) _)⟩
def SomeInt (w : World) (e : Ending) (w' : World) : Prop := ∃ m : Int, e = .returned (.int .i64 m) ∧ Below w.heap.size w w'
theorem szLogRecord_c (c r : ByteArray) (n : Int) (w : World) (hc : c.size ≤ maxLen) (hr : r.size ≤ maxLen) (h0 : 0 ≤ n) (h1 : n ≤ 1048576) :
    Calls Try.prog 6 #[.agg #[.string c, .string r], .int .i64 n] w (SomeInt w) := by
  unfold maxLen at hc hr
  go_enter Try.func6, Try.ntmps6
  go_wp2
  all_goals go_ret
  all_goals exact ⟨_, rfl, (Below.refl _ _).alloc (Nat.le_refl _) _⟩
theorem law_IsValidRecord (c r : ByteArray) (w : World) (hc : c.size ≤ maxLen) (hr : r.size ≤ maxLen) :
    Calls Try.prog 3 #[.agg #[.string c, .string r]] w fun e w' => e = .returned (.bool true) ∧ Below w.heap.size w w' := by
  go_enter Try.func3, Try.ntmps3
  go_wp2_with fail
  refine (szLogRecord_c c r _ _ hc hr (by omega) (by omega)).mono ?_
  rintro e w1 ⟨m, rfl, hb1⟩
  have c0 := kc (a := ⟨w.heap.size, 0, none⟩) (v := .string c) hb1 (by simp)
  have c1 := kc (a := ⟨w.heap.size, 1, none⟩) (v := .string r) hb1 (by simp)
  have hB : Below w.heap.size w w1 := ((Below.refl _ _).alloc (Nat.le_refl _) _).trans (hb1.mono (by simp))
  clear hb1
  go_wp2_with fail
  · go_ret
    exact ⟨rfl, hB⟩
  · refine (toLogRecord_c c r _).mono ?_
    rintro e w2 ⟨rfl, hb2⟩
    have c0 := kc hb2 c0; have c1 := kc hb2 c1; have hB := tr hB hb2 (Nat.le_refl _)
    go_wp2_with fail
    refine (specIsValidRecord_c c r _ hc hr).mono ?_
    rintro e w3 ⟨rfl, hb3⟩
    have c0 := kc hb3 c0; have c1 := kc hb3 c1; have hB := tr hB hb3 (Nat.le_refl _)
    go_wp2_with fail
    refine (toLogRecord_c c r _).mono ?_
    rintro e w4 ⟨rfl, hb4⟩
    have hB := tr hB hb4 (Nat.le_refl _)
    go_wp2_with fail
    refine (IsValidRecord_c c r _ hc hr).mono ?_
    rintro e w5 ⟨rfl, hb5⟩
    have hB := tr hB hb5 (Nat.le_refl _)
    go_wp2_with fail
    go_ret
    exact ⟨rfl, hB⟩

theorem reads_Rec : Reads Try.prog ERec 23 :=
  reads_comap (fun y => ⟨y.1, y.2.1⟩) (fun _ => rfl) (reads_struct Try.underlying23 (by kernel_rfl)
    (.cons rfl (by kernel_rfl) (reads_str Try.underlying9) (.cons rfl (by kernel_rfl) (reads_str Try.underlying9) (.nil _))))
set_option maxRecDepth 100000 in
theorem lifted_IsValidRecord (os : Os) (started : os.Started) (H : Type) (enc : TypeId × Value → H) :
    ReturnsInHanded {} Try.checked os 3 .any (Rows.fnExactIsValidRecordSpec.pre6 enc Try.prog Try.f3 Rows.fnExactIsValidRecordRow.domain false) (Rows.fnExactIsValidRecordSpec.post enc Try.prog Try.f3 false true false false) := by
  refine returnsInHanded_of_change (C := Try.checked) (by kernel_rfl) started (by kernel_rfl) Try.func3
    (ChangeSpec.witness6 (enc := enc) (C := Try.checked) false ⟨#[], #[.agg #[.string ⟨#[]⟩, .string ⟨#[]⟩]], []⟩ 8 (by kernel_rfl) (by kernel_rfl) (by kernel_rfl) (by kernel_rfl)) ?_
  intro W base args ds gs before hval0 hW _ _
  have hval : ∀ (j : Nat) t v, Try.f3.params[j]? = some t → args[j]? = some v → Value.okWide Try.prog W .any base t v := hval0
  have hW' := hW
  obtain ⟨p, q, hA0, hV, rfl, hfz, hnd⟩ := hW
  have hA : DataW.TrodAll enc Try.prog W 0 (fun _ => true) true Try.f3.params.toList args.toList ds p := hA0
  rw [Try.params3] at hA hval
  obtain ⟨v0, d0, rfl, rfl, h0⟩ := trodAll_one hA
  obtain ⟨cs, rfl, hsz⟩ := okWide_struct Try.underlying23 (hval 0 23 v0 rfl rfl)
  obtain ⟨fuel, hf⟩ := h0
  obtain ⟨x, F, hx⟩ := reads_Rec hf
  obtain ⟨hcs, hc, hr⟩ := ERec.open hx
  obtain rfl : cs = #[.string x.command, .string x.reply] := by simpa [Value.cells] using congrArg List.toArray hcs
  refine (law_IsValidRecord x.command x.reply W hc hr).mono fun e W' ⟨he, hB⟩ => ⟨_, he, law_post (tb := 4) (by kernel_rfl) ?_ Try.underlying4 (by kernel_rfl) rfl rfl hW' hB⟩
  rw [Try.params3]
  simp only [List.mem_cons, List.not_mem_nil, or_false, forall_eq]
  exact ⟨by kernel_rfl, of_decide_eq_true (by kernel_rfl)⟩

theorem holds_IsValidRecord : Rows.FnExactIsValidRecordSaid :=
  OpenClaim.holds_of_wide 3 Try.f3 rfl rfl rfl rfl rfl rfl rfl ⟨rfl, rfl, rfl, rfl, rfl⟩ rfl rfl rfl rfl rfl (by kernel_rfl) Try.func3 (by kernel_rfl)
    (of_decide_eq_true (by kernel_rfl)) (by unfold Func.isWrapper; first | (rw [if_pos (by decide +kernel)]; kernel_rfl) | (rw [if_neg (by decide +kernel)]; exact ⟨rfl, rfl⟩))
    (fun os started H enc _ => lifted_IsValidRecord os started H enc)
end Go.Proofs.Ytjbfffopbpajiaa
