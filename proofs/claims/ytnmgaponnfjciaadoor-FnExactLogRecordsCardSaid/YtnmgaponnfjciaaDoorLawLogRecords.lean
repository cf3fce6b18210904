/- The law FnExactLogRecords: the walk of the law itself out of the contracts of the two functions. No condition beyond the form's own reach. Written by wip/genlaw.py. -/
import Derived.Test.YtnmgaponnfjciaaDoorCLogRecords
import Derived.Test.YtnmgaponnfjciaaDoorLaw
import Derived.Test.YtnmgaponnfjciaaDoorCards
import Derived.Test.YtnmgaponnfjciaaDoorTie
import Derived.LaidMore
import Derived.Lay
import Derived.SevenTiedAt
import Derived.Stop.Joined
import Derived.Test.YtnmgaponnfjciaaDoorTab
import Derived.Test.YtnmgaponnfjciaaDoorLaw2
namespace Go.Proofs.YtnmgaponnfjciaaDoor
open Go.RowKit Go.ChangeShapes Go.WideShapes Go.ChangeAt
set_option maxHeartbeats 8000000 in
set_option maxRecDepth 100000 in
theorem law_LogRecords (v0 : Value) (x0 : Log) (F0 : List Nat) (FT : List Nat) (w : World) (h0 : IsV ELog w v0 x0 F0) (hT : IsV ETab w (.agg #[]) () FT) :
    Calls Tryd.prog 9 #[v0] w fun e' w' => e' = .returned (.bool true) ∧ Below w.heap.size w w' := by
  have hS := fun (hw0 : wtLog x0 ≤ 1048576) v0 F0 (w : World) (h0 : IsV ELog w v0 x0 F0) => specLogRecords_c v0 x0 F0 w h0 hw0
  have hI := fun (hw0 : wtLog x0 ≤ 1048576) v0 F0 (w : World) (h0 : IsV ELog w v0 x0 F0) (hT : IsV ETab w (.agg #[]) () FT) => LogRecords_c v0 x0 F0 FT w h0 hw0 hT
  have AT := hT; have lAT := hT.lt; clear hT
  have hV := resLogRecords_cv x0
  generalize resLogRecords x0 = r at *
  obtain ⟨r0, r1⟩ := r
  try dsimp only at hS hI hV
  replace hS := Lib.hid hS; replace hI := Lib.hid hI; replace hV := Lib.hid hV
  have A0 := h0
  have lA0 := h0.lt
  clear h0
  have A0' := A0
  obtain ⟨_, rfl, rfl, -, -, -⟩ := A0'
  go_enter Tryd.func9, Tryd.ntmps9
  go_wp2_with fail
  have al : Below w.heap.size w (w.alloc (.cells #[.string x0.durable, .string x0.pending, .int .i64 x0.count] 36)) := by
    repeat refine Below.alloc ?_ (by simp <;> omega) _
    exact Below.refl _ _
  have P0 := Row.made w 36 [.string x0.durable, .string x0.pending, .int .i64 x0.count]
  have hs_w1 : w.heap.size < (w.alloc (.cells #[.string x0.durable, .string x0.pending, .int .i64 x0.count] 36)).heap.size := by simp
  replace AT := AT.below al
  replace A0 := A0.below al
  have hB := al
  generalize (w.alloc (.cells #[.string x0.durable, .string x0.pending, .int .i64 x0.count] 36)) = w1 at *
  clear al
  have c_P0 := P0.cells
  refine (szLog_c _ x0 F0 (1048576) _ A0 (by omega) (by omega)).mono ?_
  rintro e' w2 ⟨rfl, hb⟩
  have hs_w2 := hb.size
  replace P0 := P0.below hb
  replace AT := AT.below hb
  replace A0 := A0.below hb
  replace hB := tr hB hb (Nat.le_refl _)
  clear hb
  replace c_P0 := P0.cells
  rcases szr_or (1048576) (wtLog x0) with ⟨e1, l1⟩ | ⟨e1, l1⟩
  · simp only [e1]
    have z1 := Lib.hid e1; clear e1
    go_wp2_with fail
    go_ret
    exact ⟨rfl, hB⟩
  simp only [e1]
  have z0 := Lib.hid e1; clear e1
  have hw0 : wtLog x0 ≤ 1048576 := by omega
  go_wp2_with fail
  replace hS := Lib.hid (hS.out hw0); replace hI := Lib.hid (hI.out hw0)
  have hV0 := hV.out hw0
  clear hV
  -- the reference
  refine (toLog_c _ x0 F0 _ A0 hw0).mono ?_
  rintro e' w3 ⟨y0v, Ky0, rfl, y0, -, -, hb⟩
  have hs_w3 := hb.size
  replace P0 := P0.below hb
  replace AT := AT.below hb
  replace A0 := A0.below hb
  replace hB := tr hB hb (Nat.le_refl _)
  clear hb
  replace c_P0 := P0.cells
  obtain ⟨Ky0', hKy0, y0⟩ : ∃ K', (∀ b ∈ K', b ∈ Ky0) ∧ IsV ELog w3 _ _ K' := ⟨_, fun _ h => h, y0⟩
  go_wp2_with fail
  refine (hS.out _ Ky0' _ y0).mono ?_
  rintro e' w4 ⟨u0, GU0, rfl, U0, hb⟩
  have hs_w4 := hb.size
  replace P0 := P0.below hb
  replace AT := AT.below hb
  replace A0 := A0.below hb
  replace y0 := y0.below hb
  replace hB := tr hB hb (Nat.le_refl _)
  clear hb
  replace c_P0 := P0.cells
  clear y0
  have lU0 := U0.lt (by decide)
  obtain ⟨u0a1, u0c1, rfl⟩ := U0.slice
  go_wp2_with fail
  -- the program
  refine (toLog_c _ x0 F0 _ A0 hw0).mono ?_
  rintro e' w5 ⟨z0v, Kz0, rfl, z0, -, -, hb⟩
  have hs_w5 := hb.size
  replace P0 := P0.below hb
  replace AT := AT.below hb
  replace A0 := A0.below hb
  replace U0 := U0.below (by decide) hb
  replace hB := tr hB hb (Nat.le_refl _)
  clear hb
  replace c_P0 := P0.cells
  obtain ⟨Kz0', hKz0, z0⟩ : ∃ K', (∀ b ∈ K', b ∈ Kz0) ∧ IsV ELog w5 _ _ K' := ⟨_, fun _ h => h, z0⟩
  go_wp2_with fail
  refine (hI.out _ Kz0' _ z0 AT).mono ?_
  rintro e' w6 ⟨g0, FG0, rfl, G0, nG, fG, hb⟩
  have hs_w6 := hb.size
  replace P0 := P0.below hb
  replace AT := AT.below hb
  replace A0 := A0.below hb
  replace U0 := U0.below (by decide) hb
  replace z0 := z0.below hb
  replace hB := tr hB hb (Nat.le_refl _)
  clear hb
  replace c_P0 := P0.cells
  clear z0
  have lG0 := G0.lt
  have fG0 := fG
  obtain ⟨g0a1, g0c1, rfl⟩ := G0.slice
  clear fG
  have nG0 := nG
  obtain ⟨FGR0, hFGR0, GR0⟩ := G0.sl (Weak.refl _)
  have hE1 : (r1 != r1) = false := by simp
  go_wp2_with fail
  refine (eqLogRecordS_c _ _ r0 FGR0 GU0 _ GR0 U0).mono ?_
  rintro e' w7 ⟨rfl, hb⟩
  have hs_w7 := hb.size
  replace P0 := P0.below hb
  replace AT := AT.below hb
  replace A0 := A0.below hb
  replace U0 := U0.below (by decide) hb
  replace G0 := G0.below hb
  replace GR0 := GR0.below (by decide) hb
  replace hB := tr hB hb (Nat.le_refl _)
  clear hb
  replace c_P0 := P0.cells
  go_wp2_with fail
  clear GR0
  refine (markLogRecordS_c _ r0 FG0 (1) _ G0 nG0 (by omega) (by omega)).mono ?_
  rintro e' w8 ⟨rfl, M0, K⟩
  have hs_w8 := K.size
  have l_ := lG0; have f_ := fG0
  replace P0 := P0.keepK K (fun hm => by have h1 := l_ _ hm; have h2 := f_ _ hm; omega)
  replace AT := AT.keep K (fun b hb hm => by have h1 := l_ _ hm; have h2 := f_ _ hm; have h3 := lAT b hb; omega)
  replace A0 := A0.keep K (fun b hb hm => by have h1 := l_ _ hm; have h2 := f_ _ hm; have h3 := lA0 b hb; omega)
  replace U0 := U0.keep K (fun b hb hm => by have h1 := l_ _ hm; have h2 := f_ _ hm; have h3 := lU0 b hb; omega)
  replace hB := hB.trans (K.below (B := w.heap.size) (by omega) (fun b hb => by have h2 := f_ b hb; omega))
  clear K G0 l_ f_
  obtain ⟨FM0, hFM0, M0⟩ := M0.sl (Weak.refl _)
  replace c_P0 := P0.cells
  go_wp2_with fail
  refine (heldLogRecordS_c _ r0 FM0 (1) _ M0 (by omega) (by omega)).mono ?_
  rintro e' w9 ⟨rfl, hb⟩
  have hs_w9 := hb.size
  replace P0 := P0.below hb
  replace AT := AT.below hb
  replace A0 := A0.below hb
  replace U0 := U0.below (by decide) hb
  replace M0 := M0.below (by decide) hb
  replace hB := tr hB hb (Nat.le_refl _)
  clear hb
  replace c_P0 := P0.cells
  have hk1 : ¬ (1 + ((cntL cntLogRecord r0 : Nat) : Int)) < 0 := by omega
  have hk2 : ((1 + ((cntL cntLogRecord r0 : Nat) : Int)) != 1 + ((cntL cntLogRecord r0 : Nat) : Int)) = false := by simp
  go_wp2_with fail
  clear hk1 hk2
  -- a second call of the program
  refine (toLog_c _ x0 F0 _ A0 hw0).mono ?_
  rintro e' w10 ⟨s0v, Ks0, rfl, s0, -, -, hb⟩
  have hs_w10 := hb.size
  replace P0 := P0.below hb
  replace AT := AT.below hb
  replace A0 := A0.below hb
  replace U0 := U0.below (by decide) hb
  replace M0 := M0.below (by decide) hb
  replace hB := tr hB hb (Nat.le_refl _)
  clear hb
  replace c_P0 := P0.cells
  obtain ⟨Ks0', hKs0, s0⟩ : ∃ K', (∀ b ∈ K', b ∈ Ks0) ∧ IsV ELog w10 _ _ K' := ⟨_, fun _ h => h, s0⟩
  go_wp2_with fail
  refine (hI.out _ Ks0' _ s0 AT).mono ?_
  rintro e' w11 ⟨h_0, FH0, rfl, H0, -, -, hb⟩
  have hs_w11 := hb.size
  replace P0 := P0.below hb
  replace AT := AT.below hb
  replace A0 := A0.below hb
  replace U0 := U0.below (by decide) hb
  replace M0 := M0.below (by decide) hb
  replace s0 := s0.below hb
  replace hB := tr hB hb (Nat.le_refl _)
  clear hb
  replace c_P0 := P0.cells
  clear s0
  clear A0
  clear P0
  clear c_P0
  obtain ⟨n0a1, n0c1, rfl⟩ := H0.slice
  obtain ⟨FHR0, hFHR0, HR0⟩ := H0.sl (Weak.refl _)
  clear H0
  go_wp2_with fail
  refine (eqLogRecordS_c _ _ r0 FHR0 GU0 _ HR0 U0).mono ?_
  rintro e' w12 ⟨rfl, hb⟩
  have hs_w12 := hb.size
  replace AT := AT.below hb
  replace U0 := U0.below (by decide) hb
  replace M0 := M0.below (by decide) hb
  replace HR0 := HR0.below (by decide) hb
  replace hB := tr hB hb (Nat.le_refl _)
  clear hb
  go_wp2_with fail
  clear HR0
  clear U0
  refine (heldLogRecordS_c _ r0 FM0 (1) _ M0 (by omega) (by omega)).mono ?_
  rintro e' w13 ⟨rfl, hb⟩
  have hs_w13 := hb.size
  replace AT := AT.below hb
  replace M0 := M0.below (by decide) hb
  replace hB := tr hB hb (Nat.le_refl _)
  clear hb
  have hk1 : ¬ (1 + ((cntL cntLogRecord r0 : Nat) : Int)) < 0 := by omega
  have hk2 : ((1 + ((cntL cntLogRecord r0 : Nat) : Int)) != 1 + ((cntL cntLogRecord r0 : Nat) : Int)) = false := by simp
  go_wp2_with fail
  clear hk1 hk2
  go_ret
  exact ⟨rfl, hB⟩
theorem reads_Log : Reads Tryd.prog ELog 36 := fun hh => by
  obtain ⟨y, F, hy⟩ := reads_struct (E := (EProd EStr (EProd EStr (EProd EInt EUnit)))) Tryd.underlying36 (by kernel_rfl) (.cons rfl (by kernel_rfl) (reads_str Tryd.underlying9) (.cons rfl (by kernel_rfl) (reads_str Tryd.underlying9) (.cons rfl (by kernel_rfl) (reads_int Tryd.underlying3) (.nil _)))) hh
  obtain ⟨_, _, _, _, rfl, rfl, ⟨rfl, s0, rfl⟩, ⟨_, _, _, _, rfl, rfl, ⟨rfl, s1, rfl⟩, ⟨_, _, _, _, rfl, rfl, ⟨rfl, rfl⟩, ⟨rfl, rfl⟩⟩⟩⟩ := hy
  exact ⟨⟨y.1, y.2.1, y.2.2.1⟩, [], rfl, s0, s1, rfl⟩
set_option maxRecDepth 100000 in
theorem lifted_LogRecords (os : Os) (started : os.Started) (H : Type) (enc : TypeId × Value → H) :
    ReturnsInHanded {} Tryd.checked os 9 .any (fun w args => (Rows.fnExactLogRecordsSpec.pre enc Tryd.prog Tryd.f9 Rows.fnExactLogRecordsRow.domain false w args ∧ laidMetH Tryd.prog Rows.fnExactLogRecordsRow.laid w) ∧ sizedMet enc Tryd.prog Tryd.f9 (OpenSpec.ofChange Rows.fnExactLogRecordsSpec) false w args)
      (Rows.fnExactLogRecordsSpec.post enc Tryd.prog Tryd.f9 false true false false) := by
  refine returnsInHanded_of_change_and (C := Tryd.checked) (X := fun w _ => laidMetH Tryd.prog Rows.fnExactLogRecordsRow.laid w) (fun _ _ _ hh h => h.of_heap hh) (by kernel_rfl) started (by kernel_rfl) Tryd.func9
    (ChangeSpec.witness_shaped (enc := enc) (C := Tryd.checked) (os := os) (X := fun w _ => laidMetH Tryd.prog Rows.fnExactLogRecordsRow.laid w) false (World.laidAll Tryd.prog os Rows.fnExactLogRecordsRow.laid) #[.agg #[.string ⟨#[]⟩, .string ⟨#[]⟩, .int .i64 0]] 8 (World.laidAll_os _ _ _)
      (World.shaped_of_ZipB (by kernel_rfl) (by kernel_rfl)) (by kernel_rfl) (by kernel_rfl) (by kernel_rfl)
      (by rw [MakeChecks.laidMetH_plain _ _ _ (by kernel_rfl)]; exact laidMet_laidAll _ (by kernel_rfl) (by kernel_rfl))) ?_
  intro W base args ds gs before hval0 hW hc_ _ hL _
  have hval : ∀ (j : Nat) t v, Tryd.f9.params[j]? = some t → args[j]? = some v → Value.okWide Tryd.prog W .any base t v := hval0
  have hW' := hW
  obtain ⟨p, q, hA0, hV, rfl, hfz, hnd⟩ := hW
  have hA : DataW.TrodAll enc Tryd.prog W 0 (fun _ => true) true Tryd.f9.params.toList args.toList ds p := hA0
  rw [Tryd.params9] at hA hval
  obtain ⟨v0, d0, rfl, rfl, h0⟩ := trodAll_one hA
  obtain ⟨cs0, rfl, hsz0⟩ := okWide_struct Tryd.underlying36 (hval 0 36 v0 rfl rfl)
  obtain ⟨fuel0, hf0⟩ := h0
  obtain ⟨x0, F0, hx0⟩ := reads_Log hf0
  have hT := tab_of_laid hL
  refine (law_LogRecords _ x0 F0 _ W ⟨cs0.toList, by simp, by simpa [Value.cells] using hx0⟩ hT).mono fun e W' ⟨he, hB⟩ => ⟨_, he, law_post (tb := 4) (by kernel_rfl) ?_ Tryd.underlying4 (by kernel_rfl) rfl rfl hW' hB⟩
  rw [Tryd.params9]
  simp only [List.mem_cons, List.not_mem_nil, or_false, forall_eq]
  exact ⟨by kernel_rfl, of_decide_eq_true (by kernel_rfl)⟩
theorem holds_LogRecords : Rows.FnExactLogRecordsSaid :=
  OpenClaim.holds_of_wide 9 Tryd.f9 rfl rfl rfl rfl rfl rfl rfl ⟨rfl, rfl, rfl, rfl, rfl⟩ rfl rfl rfl rfl rfl (by kernel_rfl) Tryd.func9 (by kernel_rfl)
    (of_decide_eq_true (by kernel_rfl)) (by unfold Func.isWrapper; first | (rw [if_pos (by decide +kernel)]; kernel_rfl) | (rw [if_neg (by decide +kernel)]; exact ⟨rfl, rfl⟩))
    (fun os started H enc _ => lifted_LogRecords os started H enc)
/-- no parameter wants a stand-in; the looks are off -/
theorem plain_LogRecords (f : FuncId) (fn : Func) (hf : Tryd.pinned.checked.prog.funcNamed "loop.example/g00840/laws.FnExactLogRecords" = some f) (hfn : Tryd.pinned.checked.prog.funcs[f]? = some fn) :
    false = Tryd.pinned.checked.prog.looks [] ∧ ∀ (j : Nat) t, fn.params[j]? = some t → Tryd.pinned.checked.prog.wantsStandIn t = false := by
  obtain rfl : f = 9 := Option.some.inj ((show Tryd.prog.funcNamed "loop.example/g00840/laws.FnExactLogRecords" = some 9 by kernel_rfl).symm.trans hf) |>.symm
  obtain rfl : fn = Tryd.f9 := (Option.some.inj (Tryd.func9.symm.trans hfn)).symm
  refine ⟨by kernel_rfl, fun j t ht => ?_⟩
  rw [Tryd.params9] at ht
  have hm : t ∈ [36] := by simpa using Array.mem_of_getElem? ht
  have hall : ([36].all fun u => !Tryd.prog.wantsStandIn u) = true := by kernel_rfl
  exact (show Tryd.prog.wantsStandIn t = false by simpa using List.all_eq_true.1 hall t hm)
theorem card_LogRecords : Rows.FnExactLogRecordsCardSaid :=
  Claim7.holds_tied_plain_at .later [] _ _ _ _ holds_LogRecords (fun _ h => by cases h) (by kernel_rfl) (fun _ h => by cases h) fnExactLogRecords_row_tie rfl ⟨rfl, rfl⟩ (by kernel_rfl) rfl plain_LogRecords (by kernel_rfl)
end Go.Proofs.YtnmgaponnfjciaaDoor
