/- The law FnExactRecoverLog: the walk of the law itself out of the contracts of the two functions. No condition beyond the form's own reach. Written by wip/genlaw.py. -/
import Derived.Test.YtnmgaponnfjciaaDoorCRecoverLog
import Derived.Test.YtnmgaponnfjciaaDoorLaw
import Derived.Test.YtnmgaponnfjciaaDoorCards
import Derived.Test.YtnmgaponnfjciaaDoorTie
import Derived.LaidMore
import Derived.Lay
import Derived.SevenTiedAt
import Derived.Stop.Joined
import Derived.Test.YtnmgaponnfjciaaDoorTab
import Derived.Test.YtnmgaponnfjciaaDoorLaw2
namespace Go.Proofs.YtnmgaponnfjciaaDoor
open Go.RowKit Go.ChangeShapes Go.WideShapes Go.ChangeAt
set_option maxHeartbeats 8000000 in
set_option maxRecDepth 100000 in
theorem law_RecoverLog (x0 : ByteArray) (FT : List Nat) (w : World) (h0 : x0.size ≤ maxLen) (hT : IsV ETab w (.agg #[]) () FT) :
    Calls Tryd.prog 4 #[.string x0] w fun e' w' => e' = .returned (.bool true) ∧ Below w.heap.size w w' := by
  have hS := fun  (w : World)  => specRecoverLog_c x0 w h0
  have hI := fun  (w : World)  (hT : IsV ETab w (.agg #[]) () FT) => RecoverLog_c x0 FT w h0 hT
  have AT := hT; have lAT := hT.lt; clear hT
  generalize resRecoverLog x0 = r at *
  obtain ⟨r0, r1, r2⟩ := r
  try dsimp only at hS hI
  replace hS := Lib.hid hS; replace hI := Lib.hid hI
  have hm0 := h0; unfold maxLen at hm0
  by_cases hz0 : 1048576 < x0.size
  · go_enter Tryd.func4, Tryd.ntmps4
    go_wp2
    go_ret
    exact ⟨rfl, by repeat (first | exact Below.refl _ _ | refine Below.alloc ?_ (by simp <;> omega) _)⟩
  go_enter Tryd.func4, Tryd.ntmps4
  go_wp2_with fail
  have hB := Below.refl w.heap.size w
  have hw0 : x0.size ≤ 1048576 := by omega
  -- the reference
  refine (hS.out  _ ).mono ?_
  rintro e' w1 ⟨u0, GU0, rfl, U0, hb⟩
  have hs_w1 := hb.size
  replace AT := AT.below hb
  replace hB := tr hB hb (Nat.le_refl _)
  clear hb
  have lU0 := U0.lt
  have U0' := U0
  obtain ⟨_, rfl, rfl, -, -, -⟩ := U0'
  go_wp2_with fail
  have al : Below w1.heap.size w1 (w1.alloc (.cells #[.string r0.durable, .string r0.pending, .int .i64 r0.count] 31)) := by
    repeat refine Below.alloc ?_ (by simp <;> omega) _
    exact Below.refl _ _
  have W0 := Row.made w1 31 [.string r0.durable, .string r0.pending, .int .i64 r0.count]
  have hs_w2 : w1.heap.size < (w1.alloc (.cells #[.string r0.durable, .string r0.pending, .int .i64 r0.count] 31)).heap.size := by simp
  replace AT := AT.below al
  replace U0 := U0.below al
  replace hB := tr hB al (Nat.le_refl _)
  generalize (w1.alloc (.cells #[.string r0.durable, .string r0.pending, .int .i64 r0.count] 31)) = w2 at *
  clear al
  have c_W0 := W0.cells
  -- the program
  refine (hI.out  _  AT).mono ?_
  rintro e' w3 ⟨g0, FG0, rfl, G0, nG, fG, hb⟩
  have hs_w3 := hb.size
  replace W0 := W0.below hb
  replace AT := AT.below hb
  replace U0 := U0.below hb
  replace hB := tr hB hb (Nat.le_refl _)
  clear hb
  replace c_W0 := W0.cells
  have lG0 := G0.lt
  have fG0 := fG
  have G0' := G0
  obtain ⟨_, rfl, rfl, -, -, -⟩ := G0'
  clear fG
  have nG0 := nG
  have GR0 := G0
  have hE1 : (r1 != r1) = false := by simp
  have hE2 : (r2 != r2) = false := by simp
  have d_W0 := fun o => (W0.alloc o).cells
  go_wp2_with fail
  clear d_W0
  have al : Below w3.heap.size w3 (w3.alloc (.cells #[.string r0.durable, .string r0.pending, .int .i64 r0.count] 31)) := by
    repeat refine Below.alloc ?_ (by simp <;> omega) _
    exact Below.refl _ _
  have Q0 := Row.made w3 31 [.string r0.durable, .string r0.pending, .int .i64 r0.count]
  have hs_w4 : w3.heap.size < (w3.alloc (.cells #[.string r0.durable, .string r0.pending, .int .i64 r0.count] 31)).heap.size := by simp
  replace W0 := W0.below al
  replace AT := AT.below al
  replace U0 := U0.below al
  replace G0 := G0.below al
  replace GR0 := GR0.below al
  replace hB := tr hB al (Nat.le_refl _)
  generalize (w3.alloc (.cells #[.string r0.durable, .string r0.pending, .int .i64 r0.count] 31)) = w4 at *
  clear al
  replace c_W0 := W0.cells
  have c_Q0 := Q0.cells
  refine (eqLog_c _ _ r0 FG0 GU0 _ GR0 U0).mono ?_
  rintro e' w5 ⟨rfl, hb⟩
  have hs_w5 := hb.size
  replace W0 := W0.below hb
  replace Q0 := Q0.below hb
  replace AT := AT.below hb
  replace U0 := U0.below hb
  replace G0 := G0.below hb
  replace GR0 := GR0.below hb
  replace hB := tr hB hb (Nat.le_refl _)
  clear hb
  replace c_W0 := W0.cells
  replace c_Q0 := Q0.cells
  go_wp2_with fail
  go_ret
  exact ⟨rfl, hB⟩
set_option maxRecDepth 100000 in
theorem lifted_RecoverLog (os : Os) (started : os.Started) (H : Type) (enc : TypeId × Value → H) :
    ReturnsInHanded {} Tryd.checked os 4 .any (fun w args => (Rows.fnExactRecoverLogSpec.pre enc Tryd.prog Tryd.f4 Rows.fnExactRecoverLogRow.domain false w args ∧ laidMetH Tryd.prog Rows.fnExactRecoverLogRow.laid w) ∧ sizedMet enc Tryd.prog Tryd.f4 (OpenSpec.ofChange Rows.fnExactRecoverLogSpec) false w args)
      (Rows.fnExactRecoverLogSpec.post enc Tryd.prog Tryd.f4 false true false false) := by
  refine returnsInHanded_of_change_and (C := Tryd.checked) (X := fun w _ => laidMetH Tryd.prog Rows.fnExactRecoverLogRow.laid w) (fun _ _ _ hh h => h.of_heap hh) (by kernel_rfl) started (by kernel_rfl) Tryd.func4
    (ChangeSpec.witness_shaped (enc := enc) (C := Tryd.checked) (os := os) (X := fun w _ => laidMetH Tryd.prog Rows.fnExactRecoverLogRow.laid w) false (World.laidAll Tryd.prog os Rows.fnExactRecoverLogRow.laid) #[.string ⟨#[]⟩] 8 (World.laidAll_os _ _ _)
      (World.shaped_of_ZipB (by kernel_rfl) (by kernel_rfl)) (by kernel_rfl) (by kernel_rfl) (by kernel_rfl)
      (by rw [MakeChecks.laidMetH_plain _ _ _ (by kernel_rfl)]; exact laidMet_laidAll _ (by kernel_rfl) (by kernel_rfl))) ?_
  intro W base args ds gs before hval0 hW hc_ _ hL _
  have hval : ∀ (j : Nat) t v, Tryd.f4.params[j]? = some t → args[j]? = some v → Value.okWide Tryd.prog W .any base t v := hval0
  have hW' := hW
  obtain ⟨p, q, hA0, hV, rfl, hfz, hnd⟩ := hW
  have hA : DataW.TrodAll enc Tryd.prog W 0 (fun _ => true) true Tryd.f4.params.toList args.toList ds p := hA0
  rw [Tryd.params4] at hA hval
  obtain ⟨v0, d0, rfl, rfl, h0⟩ := trodAll_one hA
  obtain ⟨c0, rfl⟩ := okWide_string Tryd.underlying9 (hval 0 9 v0 rfl rfl)
  obtain ⟨fuel0, hf0⟩ := h0
  obtain ⟨y0, hy0, -, hm0⟩ := DataW.trod_string Tryd.underlying9 hf0
  obtain rfl : c0 = y0 := by simpa [Value.cells] using hy0
  have hT := tab_of_laid hL
  refine (law_RecoverLog c0 _ W hm0 hT).mono fun e W' ⟨he, hB⟩ => ⟨_, he, law_post (tb := 4) (by kernel_rfl) ?_ Tryd.underlying4 (by kernel_rfl) rfl rfl hW' hB⟩
  rw [Tryd.params4]
  simp only [List.mem_cons, List.not_mem_nil, or_false, forall_eq]
  exact ⟨by kernel_rfl, of_decide_eq_true (by kernel_rfl)⟩
theorem holds_RecoverLog : Rows.FnExactRecoverLogSaid :=
  OpenClaim.holds_of_wide 4 Tryd.f4 rfl rfl rfl rfl rfl rfl rfl ⟨rfl, rfl, rfl, rfl, rfl⟩ rfl rfl rfl rfl rfl (by kernel_rfl) Tryd.func4 (by kernel_rfl)
    (of_decide_eq_true (by kernel_rfl)) (by unfold Func.isWrapper; first | (rw [if_pos (by decide +kernel)]; kernel_rfl) | (rw [if_neg (by decide +kernel)]; exact ⟨rfl, rfl⟩))
    (fun os started H enc _ => lifted_RecoverLog os started H enc)
/-- no parameter wants a stand-in; the looks are off -/
theorem plain_RecoverLog (f : FuncId) (fn : Func) (hf : Tryd.pinned.checked.prog.funcNamed "loop.example/g00840/laws.FnExactRecoverLog" = some f) (hfn : Tryd.pinned.checked.prog.funcs[f]? = some fn) :
    false = Tryd.pinned.checked.prog.looks [] ∧ ∀ (j : Nat) t, fn.params[j]? = some t → Tryd.pinned.checked.prog.wantsStandIn t = false := by
  obtain rfl : f = 4 := Option.some.inj ((show Tryd.prog.funcNamed "loop.example/g00840/laws.FnExactRecoverLog" = some 4 by kernel_rfl).symm.trans hf) |>.symm
  obtain rfl : fn = Tryd.f4 := (Option.some.inj (Tryd.func4.symm.trans hfn)).symm
  refine ⟨by kernel_rfl, fun j t ht => ?_⟩
  rw [Tryd.params4] at ht
  have hm : t ∈ [9] := by simpa using Array.mem_of_getElem? ht
  have hall : ([9].all fun u => !Tryd.prog.wantsStandIn u) = true := by kernel_rfl
  exact (show Tryd.prog.wantsStandIn t = false by simpa using List.all_eq_true.1 hall t hm)
theorem card_RecoverLog : Rows.FnExactRecoverLogCardSaid :=
  Claim7.holds_tied_plain_at .later [] _ _ _ _ holds_RecoverLog (fun _ h => by cases h) (by kernel_rfl) (fun _ h => by cases h) fnExactRecoverLog_row_tie rfl ⟨rfl, rfl⟩ (by kernel_rfl) rfl plain_RecoverLog (by kernel_rfl)
end Go.Proofs.YtnmgaponnfjciaaDoor
