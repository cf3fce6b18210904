/- The law FnExactCrashLog: the walk of the law itself out of the contracts of the two functions. No condition beyond the form's own reach. Written by wip/genlaw.py. -/
import Derived.Test.YtnmgaponnfjciaaDoorCCrashLog
import Derived.Test.YtnmgaponnfjciaaDoorLaw
import Derived.Test.YtnmgaponnfjciaaDoorCards
import Derived.Test.YtnmgaponnfjciaaDoorTie
import Derived.LaidMore
import Derived.Lay
import Derived.SevenTiedAt
import Derived.Stop.Joined
import Derived.Test.YtnmgaponnfjciaaDoorTab
import Derived.Test.YtnmgaponnfjciaaDoorLaw2
namespace Go.Proofs.YtnmgaponnfjciaaDoor
open Go.RowKit Go.ChangeShapes Go.WideShapes Go.ChangeAt
set_option maxHeartbeats 8000000 in
set_option maxRecDepth 100000 in
theorem law_CrashLog (v0 : Value) (x0 : Log) (F0 : List Nat) (x1 : Int) (x2 : Bool) (FT : List Nat) (w : World) (h0 : IsV ELog w v0 x0 F0) (hT : IsV ETab w (.agg #[]) () FT) :
    Calls Tryd.prog 6 #[v0, .int .i64 x1, .bool x2] w fun e' w' => e' = .returned (.bool true) ∧ Below w.heap.size w w' := by
  have hS := fun (hw0 : wtLog x0 ≤ 1048576) v0 F0 (w : World) (h0 : IsV ELog w v0 x0 F0) => specCrashLog_c v0 x0 F0 x1 x2 w h0 hw0
  have hI := fun (hw0 : wtLog x0 ≤ 1048576) v0 F0 (w : World) (h0 : IsV ELog w v0 x0 F0) (hT : IsV ETab w (.agg #[]) () FT) => CrashLog_c v0 x0 F0 x1 x2 FT w h0 hw0 hT
  have AT := hT; have lAT := hT.lt; clear hT
  generalize resCrashLog x0 x1 x2 = r at *
  obtain ⟨r0, r1⟩ := r
  try dsimp only at hS hI
  replace hS := Lib.hid hS; replace hI := Lib.hid hI
  have A0 := h0
  have lA0 := h0.lt
  clear h0
  have A0' := A0
  obtain ⟨_, rfl, rfl, -, -, -⟩ := A0'
  go_enter Tryd.func6, Tryd.ntmps6
  go_wp2_with fail
  have al : Below w.heap.size w (w.alloc (.cells #[.string x0.durable, .string x0.pending, .int .i64 x0.count] 36)) := by
    repeat refine Below.alloc ?_ (by simp <;> omega) _
    exact Below.refl _ _
  have P0 := Row.made w 36 [.string x0.durable, .string x0.pending, .int .i64 x0.count]
  have hs_w1 : w.heap.size < (w.alloc (.cells #[.string x0.durable, .string x0.pending, .int .i64 x0.count] 36)).heap.size := by simp
  replace AT := AT.below al
  replace A0 := A0.below al
  have hB := al
  generalize (w.alloc (.cells #[.string x0.durable, .string x0.pending, .int .i64 x0.count] 36)) = w1 at *
  clear al
  have c_P0 := P0.cells
  refine (szLog_c _ x0 F0 (1048576) _ A0 (by omega) (by omega)).mono ?_
  rintro e' w2 ⟨rfl, hb⟩
  have hs_w2 := hb.size
  replace P0 := P0.below hb
  replace AT := AT.below hb
  replace A0 := A0.below hb
  replace hB := tr hB hb (Nat.le_refl _)
  clear hb
  replace c_P0 := P0.cells
  rcases szr_or (1048576) (wtLog x0) with ⟨e1, l1⟩ | ⟨e1, l1⟩
  · simp only [e1]
    have z1 := Lib.hid e1; clear e1
    go_wp2_with fail
    go_ret
    exact ⟨rfl, hB⟩
  simp only [e1]
  have z0 := Lib.hid e1; clear e1
  have hw0 : wtLog x0 ≤ 1048576 := by omega
  go_wp2_with fail
  replace hS := Lib.hid (hS.out hw0); replace hI := Lib.hid (hI.out hw0)
  -- the reference
  refine (toLog_c _ x0 F0 _ A0 hw0).mono ?_
  rintro e' w3 ⟨y0v, Ky0, rfl, y0, -, -, hb⟩
  have hs_w3 := hb.size
  replace P0 := P0.below hb
  replace AT := AT.below hb
  replace A0 := A0.below hb
  replace hB := tr hB hb (Nat.le_refl _)
  clear hb
  replace c_P0 := P0.cells
  obtain ⟨Ky0', hKy0, y0⟩ : ∃ K', (∀ b ∈ K', b ∈ Ky0) ∧ IsV ELog w3 _ _ K' := ⟨_, fun _ h => h, y0⟩
  go_wp2_with fail
  refine (hS.out _ Ky0' _ y0).mono ?_
  rintro e' w4 ⟨rfl, hb⟩
  have hs_w4 := hb.size
  replace P0 := P0.below hb
  replace AT := AT.below hb
  replace A0 := A0.below hb
  replace y0 := y0.below hb
  replace hB := tr hB hb (Nat.le_refl _)
  clear hb
  replace c_P0 := P0.cells
  clear y0
  go_wp2_with fail
  -- the program
  refine (toLog_c _ x0 F0 _ A0 hw0).mono ?_
  rintro e' w5 ⟨z0v, Kz0, rfl, z0, -, -, hb⟩
  have hs_w5 := hb.size
  replace P0 := P0.below hb
  replace AT := AT.below hb
  replace A0 := A0.below hb
  replace hB := tr hB hb (Nat.le_refl _)
  clear hb
  replace c_P0 := P0.cells
  obtain ⟨Kz0', hKz0, z0⟩ : ∃ K', (∀ b ∈ K', b ∈ Kz0) ∧ IsV ELog w5 _ _ K' := ⟨_, fun _ h => h, z0⟩
  go_wp2_with fail
  refine (hI.out _ Kz0' _ z0 AT).mono ?_
  rintro e' w6 ⟨rfl, hb⟩
  have hs_w6 := hb.size
  replace P0 := P0.below hb
  replace AT := AT.below hb
  replace A0 := A0.below hb
  replace z0 := z0.below hb
  replace hB := tr hB hb (Nat.le_refl _)
  clear hb
  replace c_P0 := P0.cells
  clear z0
  have hE1 : (r1 != r1) = false := by simp
  go_wp2_with fail
  go_ret
  exact ⟨rfl, hB⟩
theorem reads_Log : Reads Tryd.prog ELog 36 := fun hh => by
  obtain ⟨y, F, hy⟩ := reads_struct (E := (EProd EStr (EProd EStr (EProd EInt EUnit)))) Tryd.underlying36 (by kernel_rfl) (.cons rfl (by kernel_rfl) (reads_str Tryd.underlying9) (.cons rfl (by kernel_rfl) (reads_str Tryd.underlying9) (.cons rfl (by kernel_rfl) (reads_int Tryd.underlying3) (.nil _)))) hh
  obtain ⟨_, _, _, _, rfl, rfl, ⟨rfl, s0, rfl⟩, ⟨_, _, _, _, rfl, rfl, ⟨rfl, s1, rfl⟩, ⟨_, _, _, _, rfl, rfl, ⟨rfl, rfl⟩, ⟨rfl, rfl⟩⟩⟩⟩ := hy
  exact ⟨⟨y.1, y.2.1, y.2.2.1⟩, [], rfl, s0, s1, rfl⟩
set_option maxRecDepth 100000 in
theorem lifted_CrashLog (os : Os) (started : os.Started) (H : Type) (enc : TypeId × Value → H) :
    ReturnsInHanded {} Tryd.checked os 6 .any (fun w args => (Rows.fnExactCrashLogSpec.pre enc Tryd.prog Tryd.f6 Rows.fnExactCrashLogRow.domain false w args ∧ laidMetH Tryd.prog Rows.fnExactCrashLogRow.laid w) ∧ sizedMet enc Tryd.prog Tryd.f6 (OpenSpec.ofChange Rows.fnExactCrashLogSpec) false w args)
      (Rows.fnExactCrashLogSpec.post enc Tryd.prog Tryd.f6 false true false false) := by
  refine returnsInHanded_of_change_and (C := Tryd.checked) (X := fun w _ => laidMetH Tryd.prog Rows.fnExactCrashLogRow.laid w) (fun _ _ _ hh h => h.of_heap hh) (by kernel_rfl) started (by kernel_rfl) Tryd.func6
    (ChangeSpec.witness_shaped (enc := enc) (C := Tryd.checked) (os := os) (X := fun w _ => laidMetH Tryd.prog Rows.fnExactCrashLogRow.laid w) false (World.laidAll Tryd.prog os Rows.fnExactCrashLogRow.laid) #[.agg #[.string ⟨#[]⟩, .string ⟨#[]⟩, .int .i64 0], .int .i64 0, .bool false] 8 (World.laidAll_os _ _ _)
      (World.shaped_of_ZipB (by kernel_rfl) (by kernel_rfl)) (by kernel_rfl) (by kernel_rfl) (by kernel_rfl)
      (by rw [MakeChecks.laidMetH_plain _ _ _ (by kernel_rfl)]; exact laidMet_laidAll _ (by kernel_rfl) (by kernel_rfl))) ?_
  intro W base args ds gs before hval0 hW hc_ _ hL _
  have hval : ∀ (j : Nat) t v, Tryd.f6.params[j]? = some t → args[j]? = some v → Value.okWide Tryd.prog W .any base t v := hval0
  have hW' := hW
  obtain ⟨p, q, hA0, hV, rfl, hfz, hnd⟩ := hW
  have hA : DataW.TrodAll enc Tryd.prog W 0 (fun _ => true) true Tryd.f6.params.toList args.toList ds p := hA0
  rw [Tryd.params6] at hA hval
  obtain ⟨v0, v1, v2, d0, d1, d2, p0, p1, p2, rfl, rfl, rfl, h0, h1, h2⟩ := trodAll_three hA
  obtain ⟨cs0, rfl, hsz0⟩ := okWide_struct Tryd.underlying36 (hval 0 36 v0 rfl rfl)
  obtain ⟨fuel0, hf0⟩ := h0
  obtain ⟨x0, F0, hx0⟩ := reads_Log hf0
  obtain ⟨c1, rfl⟩ := okWide_int Tryd.underlying3 (hval 1 3 v1 rfl rfl)
  obtain ⟨c2, rfl⟩ := okWide_bool Tryd.underlying4 (hval 2 4 v2 rfl rfl)
  have hT := tab_of_laid hL
  refine (law_CrashLog _ x0 F0 c1 c2 _ W ⟨cs0.toList, by simp, by simpa [Value.cells] using hx0⟩ hT).mono fun e W' ⟨he, hB⟩ => ⟨_, he, law_post (tb := 4) (by kernel_rfl) ?_ Tryd.underlying4 (by kernel_rfl) rfl rfl hW' hB⟩
  rw [Tryd.params6]
  intro t ht
  simp only [List.mem_cons, List.not_mem_nil, or_false] at ht
  rcases ht with rfl | rfl | rfl <;> exact ⟨by kernel_rfl, of_decide_eq_true (by kernel_rfl)⟩
theorem holds_CrashLog : Rows.FnExactCrashLogSaid :=
  OpenClaim.holds_of_wide 6 Tryd.f6 rfl rfl rfl rfl rfl rfl rfl ⟨rfl, rfl, rfl, rfl, rfl⟩ rfl rfl rfl rfl rfl (by kernel_rfl) Tryd.func6 (by kernel_rfl)
    (of_decide_eq_true (by kernel_rfl)) (by unfold Func.isWrapper; first | (rw [if_pos (by decide +kernel)]; kernel_rfl) | (rw [if_neg (by decide +kernel)]; exact ⟨rfl, rfl⟩))
    (fun os started H enc _ => lifted_CrashLog os started H enc)
/-- no parameter wants a stand-in; the looks are off -/
theorem plain_CrashLog (f : FuncId) (fn : Func) (hf : Tryd.pinned.checked.prog.funcNamed "loop.example/g00840/laws.FnExactCrashLog" = some f) (hfn : Tryd.pinned.checked.prog.funcs[f]? = some fn) :
    false = Tryd.pinned.checked.prog.looks [] ∧ ∀ (j : Nat) t, fn.params[j]? = some t → Tryd.pinned.checked.prog.wantsStandIn t = false := by
  obtain rfl : f = 6 := Option.some.inj ((show Tryd.prog.funcNamed "loop.example/g00840/laws.FnExactCrashLog" = some 6 by kernel_rfl).symm.trans hf) |>.symm
  obtain rfl : fn = Tryd.f6 := (Option.some.inj (Tryd.func6.symm.trans hfn)).symm
  refine ⟨by kernel_rfl, fun j t ht => ?_⟩
  rw [Tryd.params6] at ht
  have hm : t ∈ [36, 3, 4] := by simpa using Array.mem_of_getElem? ht
  have hall : ([36, 3, 4].all fun u => !Tryd.prog.wantsStandIn u) = true := by kernel_rfl
  exact (show Tryd.prog.wantsStandIn t = false by simpa using List.all_eq_true.1 hall t hm)
theorem card_CrashLog : Rows.FnExactCrashLogCardSaid :=
  Claim7.holds_tied_plain_at .later [] _ _ _ _ holds_CrashLog (fun _ h => by cases h) (by kernel_rfl) (fun _ h => by cases h) fnExactCrashLog_row_tie rfl ⟨rfl, rfl⟩ (by kernel_rfl) rfl plain_CrashLog (by kernel_rfl)
end Go.Proofs.YtnmgaponnfjciaaDoor
