/- The law FnExactEncodeRecord: the walk of the law itself out of the contracts of the two functions. No condition beyond the form's own reach. Written by wip/genlaw.py. -/
import Derived.Test.YtnmgaponnfjciaaDoorCEncodeRecord
import Derived.Test.YtnmgaponnfjciaaDoorLaw
import Derived.Test.YtnmgaponnfjciaaDoorCards
import Derived.Test.YtnmgaponnfjciaaDoorTie
import Derived.LaidMore
import Derived.Lay
import Derived.SevenTiedAt
import Derived.Stop.Joined
import Derived.Test.YtnmgaponnfjciaaDoorTab
import Derived.Test.YtnmgaponnfjciaaDoorLaw2
namespace Go.Proofs.YtnmgaponnfjciaaDoor
open Go.RowKit Go.ChangeShapes Go.WideShapes Go.ChangeAt
set_option maxHeartbeats 8000000 in
set_option maxRecDepth 100000 in
theorem law_EncodeRecord (x0 : Int) (v1 : Value) (x1 : LogRecord) (F1 : List Nat) (FT : List Nat) (w : World) (h1 : IsV ELogRecord w v1 x1 F1) (hT : IsV ETab w (.agg #[]) () FT) :
    Calls Tryd.prog 3 #[.int .i64 x0, v1] w fun e' w' => e' = .returned (.bool true) ∧ Below w.heap.size w w' := by
  have hS := fun v1 F1 (w : World) (h1 : IsV ELogRecord w v1 x1 F1) => specEncodeRecord_c x0 v1 x1 F1 w h1
  have hI := fun v1 F1 (w : World) (h1 : IsV ELogRecord w v1 x1 F1) (hT : IsV ETab w (.agg #[]) () FT) => EncodeRecord_c x0 v1 x1 F1 FT w h1 hT
  have AT := hT; have lAT := hT.lt; clear hT
  generalize resEncodeRecord x0 x1 = r at *
  obtain ⟨r0, r1⟩ := r
  try dsimp only at hS hI
  replace hS := Lib.hid hS; replace hI := Lib.hid hI
  have A1 := h1
  have lA1 := h1.lt
  clear h1
  have A1' := A1
  obtain ⟨_, rfl, rfl, -, -, -⟩ := A1'
  go_enter Tryd.func3, Tryd.ntmps3
  go_wp2_with fail
  have al : Below w.heap.size w (w.alloc (.cells #[.string x1.command, .string x1.reply] 23)) := by
    repeat refine Below.alloc ?_ (by simp <;> omega) _
    exact Below.refl _ _
  have P1 := Row.made w 23 [.string x1.command, .string x1.reply]
  have hs_w1 : w.heap.size < (w.alloc (.cells #[.string x1.command, .string x1.reply] 23)).heap.size := by simp
  replace AT := AT.below al
  replace A1 := A1.below al
  have hB := al
  generalize (w.alloc (.cells #[.string x1.command, .string x1.reply] 23)) = w1 at *
  clear al
  have c_P1 := P1.cells
  refine (szLogRecord_c _ x1 F1 (1048576) _ A1 (by omega) (by omega)).mono ?_
  rintro e' w2 ⟨rfl, hb⟩
  have hs_w2 := hb.size
  replace P1 := P1.below hb
  replace AT := AT.below hb
  replace A1 := A1.below hb
  replace hB := tr hB hb (Nat.le_refl _)
  clear hb
  replace c_P1 := P1.cells
  rcases szr_or (1048576) (wtLogRecord x1) with ⟨e1, l1⟩ | ⟨e1, l1⟩
  · simp only [e1]
    have z1 := Lib.hid e1; clear e1
    go_wp2_with fail
    go_ret
    exact ⟨rfl, hB⟩
  simp only [e1]
  have z1 := Lib.hid e1; clear e1
  have hw1 : wtLogRecord x1 ≤ 1048576 := by omega
  go_wp2_with fail
  -- the reference
  refine (toLogRecord_c _ x1 F1 _ A1 hw1).mono ?_
  rintro e' w3 ⟨y1v, Ky1, rfl, y1, -, -, hb⟩
  have hs_w3 := hb.size
  replace P1 := P1.below hb
  replace AT := AT.below hb
  replace A1 := A1.below hb
  replace hB := tr hB hb (Nat.le_refl _)
  clear hb
  replace c_P1 := P1.cells
  obtain ⟨Ky1', hKy1, y1⟩ : ∃ K', (∀ b ∈ K', b ∈ Ky1) ∧ IsV ELogRecord w3 _ _ K' := ⟨_, fun _ h => h, y1⟩
  go_wp2_with fail
  refine (hS.out _ Ky1' _ y1).mono ?_
  rintro e' w4 ⟨rfl, hb⟩
  have hs_w4 := hb.size
  replace P1 := P1.below hb
  replace AT := AT.below hb
  replace A1 := A1.below hb
  replace y1 := y1.below hb
  replace hB := tr hB hb (Nat.le_refl _)
  clear hb
  replace c_P1 := P1.cells
  clear y1
  go_wp2_with fail
  -- the program
  refine (toLogRecord_c _ x1 F1 _ A1 hw1).mono ?_
  rintro e' w5 ⟨z1v, Kz1, rfl, z1, -, -, hb⟩
  have hs_w5 := hb.size
  replace P1 := P1.below hb
  replace AT := AT.below hb
  replace A1 := A1.below hb
  replace hB := tr hB hb (Nat.le_refl _)
  clear hb
  replace c_P1 := P1.cells
  obtain ⟨Kz1', hKz1, z1⟩ : ∃ K', (∀ b ∈ K', b ∈ Kz1) ∧ IsV ELogRecord w5 _ _ K' := ⟨_, fun _ h => h, z1⟩
  go_wp2_with fail
  refine (hI.out _ Kz1' _ z1 AT).mono ?_
  rintro e' w6 ⟨rfl, hb⟩
  have hs_w6 := hb.size
  replace P1 := P1.below hb
  replace AT := AT.below hb
  replace A1 := A1.below hb
  replace z1 := z1.below hb
  replace hB := tr hB hb (Nat.le_refl _)
  clear hb
  replace c_P1 := P1.cells
  clear z1
  have hE1 : (r1 != r1) = false := by simp
  go_wp2_with fail
  go_ret
  exact ⟨rfl, hB⟩
theorem reads_LogRecord : Reads Tryd.prog ELogRecord 23 := fun hh => by
  obtain ⟨y, F, hy⟩ := reads_struct (E := (EProd EStr (EProd EStr EUnit))) Tryd.underlying23 (by kernel_rfl) (.cons rfl (by kernel_rfl) (reads_str Tryd.underlying9) (.cons rfl (by kernel_rfl) (reads_str Tryd.underlying9) (.nil _))) hh
  obtain ⟨_, _, _, _, rfl, rfl, ⟨rfl, s0, rfl⟩, ⟨_, _, _, _, rfl, rfl, ⟨rfl, s1, rfl⟩, ⟨rfl, rfl⟩⟩⟩ := hy
  exact ⟨⟨y.1, y.2.1⟩, [], rfl, s0, s1, rfl⟩
set_option maxRecDepth 100000 in
theorem lifted_EncodeRecord (os : Os) (started : os.Started) (H : Type) (enc : TypeId × Value → H) :
    ReturnsInHanded {} Tryd.checked os 3 .any (fun w args => (Rows.fnExactEncodeRecordSpec.pre enc Tryd.prog Tryd.f3 Rows.fnExactEncodeRecordRow.domain false w args ∧ laidMetH Tryd.prog Rows.fnExactEncodeRecordRow.laid w) ∧ sizedMet enc Tryd.prog Tryd.f3 (OpenSpec.ofChange Rows.fnExactEncodeRecordSpec) false w args)
      (Rows.fnExactEncodeRecordSpec.post enc Tryd.prog Tryd.f3 false true false false) := by
  refine returnsInHanded_of_change_and (C := Tryd.checked) (X := fun w _ => laidMetH Tryd.prog Rows.fnExactEncodeRecordRow.laid w) (fun _ _ _ hh h => h.of_heap hh) (by kernel_rfl) started (by kernel_rfl) Tryd.func3
    (ChangeSpec.witness_shaped (enc := enc) (C := Tryd.checked) (os := os) (X := fun w _ => laidMetH Tryd.prog Rows.fnExactEncodeRecordRow.laid w) false (World.laidAll Tryd.prog os Rows.fnExactEncodeRecordRow.laid) #[.int .i64 0, .agg #[.string ⟨#[]⟩, .string ⟨#[]⟩]] 8 (World.laidAll_os _ _ _)
      (World.shaped_of_ZipB (by kernel_rfl) (by kernel_rfl)) (by kernel_rfl) (by kernel_rfl) (by kernel_rfl)
      (by rw [MakeChecks.laidMetH_plain _ _ _ (by kernel_rfl)]; exact laidMet_laidAll _ (by kernel_rfl) (by kernel_rfl))) ?_
  intro W base args ds gs before hval0 hW hc_ _ hL _
  have hval : ∀ (j : Nat) t v, Tryd.f3.params[j]? = some t → args[j]? = some v → Value.okWide Tryd.prog W .any base t v := hval0
  have hW' := hW
  obtain ⟨p, q, hA0, hV, rfl, hfz, hnd⟩ := hW
  have hA : DataW.TrodAll enc Tryd.prog W 0 (fun _ => true) true Tryd.f3.params.toList args.toList ds p := hA0
  rw [Tryd.params3] at hA hval
  obtain ⟨v0, v1, d0, d1, p0, p1, rfl, rfl, rfl, h0, h1⟩ := trodAll_two hA
  obtain ⟨c0, rfl⟩ := okWide_int Tryd.underlying3 (hval 0 3 v0 rfl rfl)
  obtain ⟨cs1, rfl, hsz1⟩ := okWide_struct Tryd.underlying23 (hval 1 23 v1 rfl rfl)
  obtain ⟨fuel1, hf1⟩ := h1
  obtain ⟨x1, F1, hx1⟩ := reads_LogRecord hf1
  have hT := tab_of_laid hL
  refine (law_EncodeRecord c0 _ x1 F1 _ W ⟨cs1.toList, by simp, by simpa [Value.cells] using hx1⟩ hT).mono fun e W' ⟨he, hB⟩ => ⟨_, he, law_post (tb := 4) (by kernel_rfl) ?_ Tryd.underlying4 (by kernel_rfl) rfl rfl hW' hB⟩
  rw [Tryd.params3]
  intro t ht
  simp only [List.mem_cons, List.not_mem_nil, or_false] at ht
  rcases ht with rfl | rfl <;> exact ⟨by kernel_rfl, of_decide_eq_true (by kernel_rfl)⟩
theorem holds_EncodeRecord : Rows.FnExactEncodeRecordSaid :=
  OpenClaim.holds_of_wide 3 Tryd.f3 rfl rfl rfl rfl rfl rfl rfl ⟨rfl, rfl, rfl, rfl, rfl⟩ rfl rfl rfl rfl rfl (by kernel_rfl) Tryd.func3 (by kernel_rfl)
    (of_decide_eq_true (by kernel_rfl)) (by unfold Func.isWrapper; first | (rw [if_pos (by decide +kernel)]; kernel_rfl) | (rw [if_neg (by decide +kernel)]; exact ⟨rfl, rfl⟩))
    (fun os started H enc _ => lifted_EncodeRecord os started H enc)
/-- no parameter wants a stand-in; the looks are off -/
theorem plain_EncodeRecord (f : FuncId) (fn : Func) (hf : Tryd.pinned.checked.prog.funcNamed "loop.example/g00840/laws.FnExactEncodeRecord" = some f) (hfn : Tryd.pinned.checked.prog.funcs[f]? = some fn) :
    false = Tryd.pinned.checked.prog.looks [] ∧ ∀ (j : Nat) t, fn.params[j]? = some t → Tryd.pinned.checked.prog.wantsStandIn t = false := by
  obtain rfl : f = 3 := Option.some.inj ((show Tryd.prog.funcNamed "loop.example/g00840/laws.FnExactEncodeRecord" = some 3 by kernel_rfl).symm.trans hf) |>.symm
  obtain rfl : fn = Tryd.f3 := (Option.some.inj (Tryd.func3.symm.trans hfn)).symm
  refine ⟨by kernel_rfl, fun j t ht => ?_⟩
  rw [Tryd.params3] at ht
  have hm : t ∈ [3, 23] := by simpa using Array.mem_of_getElem? ht
  have hall : ([3, 23].all fun u => !Tryd.prog.wantsStandIn u) = true := by kernel_rfl
  exact (show Tryd.prog.wantsStandIn t = false by simpa using List.all_eq_true.1 hall t hm)
theorem card_EncodeRecord : Rows.FnExactEncodeRecordCardSaid :=
  Claim7.holds_tied_plain_at .later [] _ _ _ _ holds_EncodeRecord (fun _ h => by cases h) (by kernel_rfl) (fun _ h => by cases h) fnExactEncodeRecord_row_tie rfl ⟨rfl, rfl⟩ (by kernel_rfl) rfl plain_EncodeRecord (by kernel_rfl)
end Go.Proofs.YtnmgaponnfjciaaDoor
