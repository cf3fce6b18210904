/- The law FnExactSyncLog: the walk of the law itself out of the contracts of the two functions. No condition beyond the form's own reach. Written by wip/genlaw.py. -/
import Derived.Test.YtnmgaponnfjciaaDoorCSyncLog
import Derived.Test.YtnmgaponnfjciaaDoorLaw
import Derived.Test.YtnmgaponnfjciaaDoorCards
import Derived.Test.YtnmgaponnfjciaaDoorTie
import Derived.LaidMore
import Derived.Lay
import Derived.SevenTiedAt
import Derived.Stop.Joined
import Derived.Test.YtnmgaponnfjciaaDoorTab
import Derived.Test.YtnmgaponnfjciaaDoorLaw2
namespace Go.Proofs.YtnmgaponnfjciaaDoor
open Go.RowKit Go.ChangeShapes Go.WideShapes Go.ChangeAt
set_option maxHeartbeats 8000000 in
set_option maxRecDepth 100000 in
theorem law_SyncLog (v0 : Value) (x0 : Log) (F0 : List Nat) (FT : List Nat) (w : World) (h0 : IsV ELog w v0 x0 F0) (hT : IsV ETab w (.agg #[]) () FT) :
    Calls Tryd.prog 7 #[v0] w fun e' w' => e' = .returned (.bool true) ∧ Below w.heap.size w w' := by
  have hS := fun (hw0 : wtLog x0 ≤ 1048576) v0 F0 (w : World) (h0 : IsV ELog w v0 x0 F0) => specSyncLog_c v0 x0 F0 w h0 hw0
  have hI := fun (hw0 : wtLog x0 ≤ 1048576) v0 F0 (w : World) (h0 : IsV ELog w v0 x0 F0) (hT : IsV ETab w (.agg #[]) () FT) => SyncLog_c v0 x0 F0 FT w h0 hw0 hT
  have AT := hT; have lAT := hT.lt; clear hT
  generalize resSyncLog x0 = r at *
  obtain ⟨r0, r1⟩ := r
  try dsimp only at hS hI
  replace hS := Lib.hid hS; replace hI := Lib.hid hI
  have A0 := h0
  have lA0 := h0.lt
  clear h0
  have A0' := A0
  obtain ⟨_, rfl, rfl, -, -, -⟩ := A0'
  go_enter Tryd.func7, Tryd.ntmps7
  go_wp2_with fail
  have al : Below w.heap.size w (w.alloc (.cells #[.string x0.durable, .string x0.pending, .int .i64 x0.count] 36)) := by
    repeat refine Below.alloc ?_ (by simp <;> omega) _
    exact Below.refl _ _
  have P0 := Row.made w 36 [.string x0.durable, .string x0.pending, .int .i64 x0.count]
  have hs_w1 : w.heap.size < (w.alloc (.cells #[.string x0.durable, .string x0.pending, .int .i64 x0.count] 36)).heap.size := by simp
  replace AT := AT.below al
  replace A0 := A0.below al
  have hB := al
  generalize (w.alloc (.cells #[.string x0.durable, .string x0.pending, .int .i64 x0.count] 36)) = w1 at *
  clear al
  have c_P0 := P0.cells
  refine (szLog_c _ x0 F0 (1048576) _ A0 (by omega) (by omega)).mono ?_
  rintro e' w2 ⟨rfl, hb⟩
  have hs_w2 := hb.size
  replace P0 := P0.below hb
  replace AT := AT.below hb
  replace A0 := A0.below hb
  replace hB := tr hB hb (Nat.le_refl _)
  clear hb
  replace c_P0 := P0.cells
  rcases szr_or (1048576) (wtLog x0) with ⟨e1, l1⟩ | ⟨e1, l1⟩
  · simp only [e1]
    have z1 := Lib.hid e1; clear e1
    go_wp2_with fail
    go_ret
    exact ⟨rfl, hB⟩
  simp only [e1]
  have z0 := Lib.hid e1; clear e1
  have hw0 : wtLog x0 ≤ 1048576 := by omega
  go_wp2_with fail
  replace hS := Lib.hid (hS.out hw0); replace hI := Lib.hid (hI.out hw0)
  -- the reference
  refine (toLog_c _ x0 F0 _ A0 hw0).mono ?_
  rintro e' w3 ⟨y0v, Ky0, rfl, y0, -, -, hb⟩
  have hs_w3 := hb.size
  replace P0 := P0.below hb
  replace AT := AT.below hb
  replace A0 := A0.below hb
  replace hB := tr hB hb (Nat.le_refl _)
  clear hb
  replace c_P0 := P0.cells
  obtain ⟨Ky0', hKy0, y0⟩ : ∃ K', (∀ b ∈ K', b ∈ Ky0) ∧ IsV ELog w3 _ _ K' := ⟨_, fun _ h => h, y0⟩
  go_wp2_with fail
  refine (hS.out _ Ky0' _ y0).mono ?_
  rintro e' w4 ⟨u0, GU0, rfl, U0, hb⟩
  have hs_w4 := hb.size
  replace P0 := P0.below hb
  replace AT := AT.below hb
  replace A0 := A0.below hb
  replace y0 := y0.below hb
  replace hB := tr hB hb (Nat.le_refl _)
  clear hb
  replace c_P0 := P0.cells
  clear y0
  have lU0 := U0.lt
  have U0' := U0
  obtain ⟨_, rfl, rfl, -, -, -⟩ := U0'
  have d_P0 := fun o => (P0.alloc o).cells
  go_wp2_with fail
  clear d_P0
  have al : Below w4.heap.size w4 (w4.alloc (.cells #[.string r0.durable, .string r0.pending, .int .i64 r0.count] 31)) := by
    repeat refine Below.alloc ?_ (by simp <;> omega) _
    exact Below.refl _ _
  have W0 := Row.made w4 31 [.string r0.durable, .string r0.pending, .int .i64 r0.count]
  have hs_w5 : w4.heap.size < (w4.alloc (.cells #[.string r0.durable, .string r0.pending, .int .i64 r0.count] 31)).heap.size := by simp
  replace P0 := P0.below al
  replace AT := AT.below al
  replace A0 := A0.below al
  replace U0 := U0.below al
  replace hB := tr hB al (Nat.le_refl _)
  generalize (w4.alloc (.cells #[.string r0.durable, .string r0.pending, .int .i64 r0.count] 31)) = w5 at *
  clear al
  replace c_P0 := P0.cells
  have c_W0 := W0.cells
  -- the program
  refine (toLog_c _ x0 F0 _ A0 hw0).mono ?_
  rintro e' w6 ⟨z0v, Kz0, rfl, z0, -, -, hb⟩
  have hs_w6 := hb.size
  replace P0 := P0.below hb
  replace W0 := W0.below hb
  replace AT := AT.below hb
  replace A0 := A0.below hb
  replace U0 := U0.below hb
  replace hB := tr hB hb (Nat.le_refl _)
  clear hb
  replace c_P0 := P0.cells
  replace c_W0 := W0.cells
  obtain ⟨Kz0', hKz0, z0⟩ : ∃ K', (∀ b ∈ K', b ∈ Kz0) ∧ IsV ELog w6 _ _ K' := ⟨_, fun _ h => h, z0⟩
  go_wp2_with fail
  refine (hI.out _ Kz0' _ z0 AT).mono ?_
  rintro e' w7 ⟨g0, FG0, rfl, G0, nG, fG, hb⟩
  have hs_w7 := hb.size
  replace P0 := P0.below hb
  replace W0 := W0.below hb
  replace AT := AT.below hb
  replace A0 := A0.below hb
  replace U0 := U0.below hb
  replace z0 := z0.below hb
  replace hB := tr hB hb (Nat.le_refl _)
  clear hb
  replace c_P0 := P0.cells
  replace c_W0 := W0.cells
  clear z0
  have lG0 := G0.lt
  have fG0 := fG
  have G0' := G0
  obtain ⟨_, rfl, rfl, -, -, -⟩ := G0'
  clear fG
  have nG0 := nG
  have GR0 := G0
  have hE1 : (r1 != r1) = false := by simp
  have d_P0 := fun o => (P0.alloc o).cells
  have d_W0 := fun o => (W0.alloc o).cells
  go_wp2_with fail
  clear d_P0 d_W0
  have al : Below w7.heap.size w7 (w7.alloc (.cells #[.string r0.durable, .string r0.pending, .int .i64 r0.count] 31)) := by
    repeat refine Below.alloc ?_ (by simp <;> omega) _
    exact Below.refl _ _
  have Q0 := Row.made w7 31 [.string r0.durable, .string r0.pending, .int .i64 r0.count]
  have hs_w8 : w7.heap.size < (w7.alloc (.cells #[.string r0.durable, .string r0.pending, .int .i64 r0.count] 31)).heap.size := by simp
  replace P0 := P0.below al
  replace W0 := W0.below al
  replace AT := AT.below al
  replace A0 := A0.below al
  replace U0 := U0.below al
  replace G0 := G0.below al
  replace GR0 := GR0.below al
  replace hB := tr hB al (Nat.le_refl _)
  generalize (w7.alloc (.cells #[.string r0.durable, .string r0.pending, .int .i64 r0.count] 31)) = w8 at *
  clear al
  replace c_P0 := P0.cells
  replace c_W0 := W0.cells
  have c_Q0 := Q0.cells
  refine (eqLog_c _ _ r0 FG0 GU0 _ GR0 U0).mono ?_
  rintro e' w9 ⟨rfl, hb⟩
  have hs_w9 := hb.size
  replace P0 := P0.below hb
  replace W0 := W0.below hb
  replace Q0 := Q0.below hb
  replace AT := AT.below hb
  replace A0 := A0.below hb
  replace U0 := U0.below hb
  replace G0 := G0.below hb
  replace GR0 := GR0.below hb
  replace hB := tr hB hb (Nat.le_refl _)
  clear hb
  replace c_P0 := P0.cells
  replace c_W0 := W0.cells
  replace c_Q0 := Q0.cells
  go_wp2_with fail
  go_ret
  exact ⟨rfl, hB⟩
theorem reads_Log : Reads Tryd.prog ELog 36 := fun hh => by
  obtain ⟨y, F, hy⟩ := reads_struct (E := (EProd EStr (EProd EStr (EProd EInt EUnit)))) Tryd.underlying36 (by kernel_rfl) (.cons rfl (by kernel_rfl) (reads_str Tryd.underlying9) (.cons rfl (by kernel_rfl) (reads_str Tryd.underlying9) (.cons rfl (by kernel_rfl) (reads_int Tryd.underlying3) (.nil _)))) hh
  obtain ⟨_, _, _, _, rfl, rfl, ⟨rfl, s0, rfl⟩, ⟨_, _, _, _, rfl, rfl, ⟨rfl, s1, rfl⟩, ⟨_, _, _, _, rfl, rfl, ⟨rfl, rfl⟩, ⟨rfl, rfl⟩⟩⟩⟩ := hy
  exact ⟨⟨y.1, y.2.1, y.2.2.1⟩, [], rfl, s0, s1, rfl⟩
set_option maxRecDepth 100000 in
theorem lifted_SyncLog (os : Os) (started : os.Started) (H : Type) (enc : TypeId × Value → H) :
    ReturnsInHanded {} Tryd.checked os 7 .any (fun w args => (Rows.fnExactSyncLogSpec.pre enc Tryd.prog Tryd.f7 Rows.fnExactSyncLogRow.domain false w args ∧ laidMetH Tryd.prog Rows.fnExactSyncLogRow.laid w) ∧ sizedMet enc Tryd.prog Tryd.f7 (OpenSpec.ofChange Rows.fnExactSyncLogSpec) false w args)
      (Rows.fnExactSyncLogSpec.post enc Tryd.prog Tryd.f7 false true false false) := by
  refine returnsInHanded_of_change_and (C := Tryd.checked) (X := fun w _ => laidMetH Tryd.prog Rows.fnExactSyncLogRow.laid w) (fun _ _ _ hh h => h.of_heap hh) (by kernel_rfl) started (by kernel_rfl) Tryd.func7
    (ChangeSpec.witness_shaped (enc := enc) (C := Tryd.checked) (os := os) (X := fun w _ => laidMetH Tryd.prog Rows.fnExactSyncLogRow.laid w) false (World.laidAll Tryd.prog os Rows.fnExactSyncLogRow.laid) #[.agg #[.string ⟨#[]⟩, .string ⟨#[]⟩, .int .i64 0]] 8 (World.laidAll_os _ _ _)
      (World.shaped_of_ZipB (by kernel_rfl) (by kernel_rfl)) (by kernel_rfl) (by kernel_rfl) (by kernel_rfl)
      (by rw [MakeChecks.laidMetH_plain _ _ _ (by kernel_rfl)]; exact laidMet_laidAll _ (by kernel_rfl) (by kernel_rfl))) ?_
  intro W base args ds gs before hval0 hW hc_ _ hL _
  have hval : ∀ (j : Nat) t v, Tryd.f7.params[j]? = some t → args[j]? = some v → Value.okWide Tryd.prog W .any base t v := hval0
  have hW' := hW
  obtain ⟨p, q, hA0, hV, rfl, hfz, hnd⟩ := hW
  have hA : DataW.TrodAll enc Tryd.prog W 0 (fun _ => true) true Tryd.f7.params.toList args.toList ds p := hA0
  rw [Tryd.params7] at hA hval
  obtain ⟨v0, d0, rfl, rfl, h0⟩ := trodAll_one hA
  obtain ⟨cs0, rfl, hsz0⟩ := okWide_struct Tryd.underlying36 (hval 0 36 v0 rfl rfl)
  obtain ⟨fuel0, hf0⟩ := h0
  obtain ⟨x0, F0, hx0⟩ := reads_Log hf0
  have hT := tab_of_laid hL
  refine (law_SyncLog _ x0 F0 _ W ⟨cs0.toList, by simp, by simpa [Value.cells] using hx0⟩ hT).mono fun e W' ⟨he, hB⟩ => ⟨_, he, law_post (tb := 4) (by kernel_rfl) ?_ Tryd.underlying4 (by kernel_rfl) rfl rfl hW' hB⟩
  rw [Tryd.params7]
  simp only [List.mem_cons, List.not_mem_nil, or_false, forall_eq]
  exact ⟨by kernel_rfl, of_decide_eq_true (by kernel_rfl)⟩
theorem holds_SyncLog : Rows.FnExactSyncLogSaid :=
  OpenClaim.holds_of_wide 7 Tryd.f7 rfl rfl rfl rfl rfl rfl rfl ⟨rfl, rfl, rfl, rfl, rfl⟩ rfl rfl rfl rfl rfl (by kernel_rfl) Tryd.func7 (by kernel_rfl)
    (of_decide_eq_true (by kernel_rfl)) (by unfold Func.isWrapper; first | (rw [if_pos (by decide +kernel)]; kernel_rfl) | (rw [if_neg (by decide +kernel)]; exact ⟨rfl, rfl⟩))
    (fun os started H enc _ => lifted_SyncLog os started H enc)
/-- no parameter wants a stand-in; the looks are off -/
theorem plain_SyncLog (f : FuncId) (fn : Func) (hf : Tryd.pinned.checked.prog.funcNamed "loop.example/g00840/laws.FnExactSyncLog" = some f) (hfn : Tryd.pinned.checked.prog.funcs[f]? = some fn) :
    false = Tryd.pinned.checked.prog.looks [] ∧ ∀ (j : Nat) t, fn.params[j]? = some t → Tryd.pinned.checked.prog.wantsStandIn t = false := by
  obtain rfl : f = 7 := Option.some.inj ((show Tryd.prog.funcNamed "loop.example/g00840/laws.FnExactSyncLog" = some 7 by kernel_rfl).symm.trans hf) |>.symm
  obtain rfl : fn = Tryd.f7 := (Option.some.inj (Tryd.func7.symm.trans hfn)).symm
  refine ⟨by kernel_rfl, fun j t ht => ?_⟩
  rw [Tryd.params7] at ht
  have hm : t ∈ [36] := by simpa using Array.mem_of_getElem? ht
  have hall : ([36].all fun u => !Tryd.prog.wantsStandIn u) = true := by kernel_rfl
  exact (show Tryd.prog.wantsStandIn t = false by simpa using List.all_eq_true.1 hall t hm)
theorem card_SyncLog : Rows.FnExactSyncLogCardSaid :=
  Claim7.holds_tied_plain_at .later [] _ _ _ _ holds_SyncLog (fun _ h => by cases h) (by kernel_rfl) (fun _ h => by cases h) fnExactSyncLog_row_tie rfl ⟨rfl, rfl⟩ (by kernel_rfl) rfl plain_SyncLog (by kernel_rfl)
end Go.Proofs.YtnmgaponnfjciaaDoor
