/- The contracts of RecoverLog in the form that the law's proof takes. -/
import Derived.Test.YtnmgaponnfjciaaDoorLogLog
namespace Go.Proofs.YtnmgaponnfjciaaDoor
open Go.RowKit
def resRecoverLog (s : ByteArray) : Log × Int × Bool :=
  if s.size ≤ 30000 then (⟨bs (opened s.data.toList).flatten, ⟨#[]⟩, ((opened s.data.toList).length : Nat)⟩, ((opened s.data.toList).flatten.length : Nat), true) else (⟨⟨#[]⟩, ⟨#[]⟩, 0⟩, 0, false)
def PS_RecoverLog : Log × Int × Bool → World → Ending → World → Prop := fun (r0, r1, r2) w e w' => ∃ u0 G0, e = .returned (.tuple #[u0, .int .i64 r1, .bool r2]) ∧ IsV ELog w' u0 r0 G0 ∧ Below w.heap.size w w'
def PI_RecoverLog : Log × Int × Bool → World → Ending → World → Prop := fun (r0, r1, r2) w e w' => ∃ u0 G0, e = .returned (.tuple #[u0, .int .i64 r1, .bool r2]) ∧ IsV ELog w' u0 r0 G0 ∧ (G0).Nodup ∧ (∀ b ∈ G0, w.heap.size ≤ b) ∧ Below w.heap.size w w'
/-- a log value -/
theorem isLog (w : World) (d p : ByteArray) (n : Int) (hd : d.size ≤ maxLen) (hp : p.size ≤ maxLen) : IsV ELog w (.agg #[.string d, .string p, .int .i64 n]) ⟨d, p, n⟩ [] := ⟨_, rfl, rfl, hd, hp, rfl⟩
theorem ext_opened (s : ByteArray) : s.extract 0 (opened s.data.toList).flatten.length = bs (opened s.data.toList).flatten := by
  rw [ext_bs, List.drop_zero, Nat.sub_zero]
  congr 1
  exact (List.prefix_iff_eq_take.1 (opened_pre s.data.toList)).symm
theorem pre_len (s : ByteArray) : (opened s.data.toList).flatten.length ≤ s.size := by
  have := (opened_pre s.data.toList).length_le; rwa [size_list] at this
theorem PS_Rec {s : ByteArray} {w w' : World} (h : s.size ≤ 30000) (hB : Below w.heap.size w w') : PS_RecoverLog (resRecoverLog s) w (.returned (.tuple #[.agg #[.string (s.extract 0 (opened s.data.toList).flatten.length), .string ⟨#[]⟩, .int .i64 ((opened s.data.toList).length : Nat)], .int .i64 ((opened s.data.toList).flatten.length : Nat), .bool true])) w' := by
  unfold resRecoverLog; rw [if_pos h]
  refine ⟨_, [], rfl, ?_, hB⟩
  rw [ext_opened]
  exact isLog _ _ _ _ (by rw [bs_size]; have := pre_len s; unfold maxLen; omega) (by decide)
theorem PI_Rec {s : ByteArray} {w w' : World} (h : s.size ≤ 30000) (hB : Below w.heap.size w w') : PI_RecoverLog (resRecoverLog s) w (.returned (.tuple #[.agg #[.string (s.extract 0 (opened s.data.toList).flatten.length), .string ⟨#[]⟩, .int .i64 ((opened s.data.toList).length : Nat)], .int .i64 ((opened s.data.toList).flatten.length : Nat), .bool true])) w' := by
  have := PS_Rec h hB
  unfold resRecoverLog at this ⊢; rw [if_pos h] at this ⊢
  exact ⟨_, [], rfl, by rw [ext_opened]; exact isLog _ _ _ _ (by rw [bs_size]; have := pre_len s; unfold maxLen; omega) (by decide), by simp, by simp, hB⟩
set_option maxHeartbeats 1600000 in
set_option maxRecDepth 100000 in
theorem specRecoverLog_c (x0 : ByteArray) (w : World) (h0 : x0.size ≤ maxLen) :
    Calls Tryd.prog 17 #[.string x0] w (PS_RecoverLog (resRecoverLog x0) w) := by
  unfold maxLen at h0
  by_cases h : x0.size ≤ 30000
  · have hP := fun w' => PS_Rec (w := w) (w' := w') h
    have hO : ∀ w, Calls Tryd.prog 47 #[.string x0] w (POpenT ((opened x0.data.toList).map recL) ((opened x0.data.toList).flatten.length) w) := fun w => l27Open_c x0 w (by omega)
    have hT0 := pre_len x0
    have hK := (opened_small x0.data.toList).2
    have hlen : ((opened x0.data.toList).map recL).length = (opened x0.data.toList).length := by simp
    generalize (opened x0.data.toList).map recL = A at *
    generalize (opened x0.data.toList).flatten.length = T at *
    generalize (opened x0.data.toList).length = K at *
    replace hP := Lib.hid hP; replace hO := Lib.hid hO; replace hlen := Lib.hid hlen
    go_enter Tryd.func17, Tryd.ntmps17
    go_wp2_with fail
    have al : Below w.heap.size w (w.alloc (.cells #[.string ⟨#[]⟩, .string ⟨#[]⟩, .int .i64 0] 31)) := by
      repeat refine Below.alloc ?_ (by simp <;> omega) _
      exact Below.refl _ _
    have n_RZ := Row.made w 31 [.string ⟨#[]⟩, .string ⟨#[]⟩, .int .i64 0]
    have hs_w1 : w.heap.size < (w.alloc (.cells #[.string ⟨#[]⟩, .string ⟨#[]⟩, .int .i64 0] 31)).heap.size := by simp
    have hB := al
    generalize (w.alloc (.cells #[.string ⟨#[]⟩, .string ⟨#[]⟩, .int .i64 0] 31)) = w1 at *
    have RZ := n_RZ; clear n_RZ
    clear al
    have c_RZ := RZ.cells; have f_RZ := RZ.frozens
    go_wp2_with fail
    clear c_RZ f_RZ
    refine (hO.out _).mono ?_
    rintro e w2 ⟨u0, G0, rfl, o0, -, -, hb⟩
    have hs_w2 := hb.size
    replace RZ := RZ.below hb
    replace hB := tr hB hb (Nat.le_refl _)
    clear hb
    obtain ⟨a, c, rfl⟩ := o0.slice
    rw [hlen.out]
    clear o0
    have c_RZ := RZ.cells; have f_RZ := RZ.frozens
    go_wp2_with fail
    refine bodyPost_ret (v := .tuple #[.agg #[.string (x0.extract 0 T), .string ⟨#[]⟩, .int .i64 (K : Nat)], .int .i64 (T : Nat), .bool true]) ?_ rfl ?_
    · simp [results, Tryd.results17, go_sem, c_RZ, f_RZ]
    · refine hP.out _ ?_
      repeat refine Below.setCell ?_ (by simp <;> omega) _
      exact hB
  · have hP : ∀ w', Below w.heap.size w w' → PS_RecoverLog (resRecoverLog x0) w (.returned (.tuple #[.agg #[.string ⟨#[]⟩, .string ⟨#[]⟩, .int .i64 0], .int .i64 0, .bool false])) w' := fun w' hB => by
      unfold resRecoverLog; rw [if_neg h]; exact ⟨_, [], rfl, isLog _ _ _ _ (by decide) (by decide), hB⟩
    replace hP := Lib.hid hP
    go_enter Tryd.func17, Tryd.ntmps17
    go_wp2_with fail
    have al : Below w.heap.size w (w.alloc (.cells #[.string ⟨#[]⟩, .string ⟨#[]⟩, .int .i64 0] 31)) := by
      repeat refine Below.alloc ?_ (by simp <;> omega) _
      exact Below.refl _ _
    have n_RZ := Row.made w 31 [.string ⟨#[]⟩, .string ⟨#[]⟩, .int .i64 0]
    have hs_w3 : w.heap.size < (w.alloc (.cells #[.string ⟨#[]⟩, .string ⟨#[]⟩, .int .i64 0] 31)).heap.size := by simp
    have hB := al
    generalize (w.alloc (.cells #[.string ⟨#[]⟩, .string ⟨#[]⟩, .int .i64 0] 31)) = w3 at *
    have RZ := n_RZ; clear n_RZ
    clear al
    have c_RZ := RZ.cells; have f_RZ := RZ.frozens
    go_wp2_with fail
    refine bodyPost_ret (v := .tuple #[.agg #[.string ⟨#[]⟩, .string ⟨#[]⟩, .int .i64 0], .int .i64 0, .bool false]) ?_ rfl ?_
    · simp [results, Tryd.results17, go_sem, c_RZ, f_RZ]
    · refine hP.out _ ?_
      repeat refine Below.setCell ?_ (by simp <;> omega) _
      exact hB
set_option maxHeartbeats 1600000 in
set_option maxRecDepth 100000 in
theorem RecoverLog_c (x0 : ByteArray) (FT : List Nat) (w : World) (h0 : x0.size ≤ maxLen) (hT : IsV ETab w (.agg #[]) () FT) :
    Calls Tryd.prog 18 #[.string x0] w (PI_RecoverLog (resRecoverLog x0) w) := by
  unfold maxLen at h0
  by_cases h : x0.size ≤ 30000
  · have hP := fun w' => PI_Rec (w := w) (w' := w') h
    have hO := fun w hT => readRecords_c x0 FT w (by omega) hT
    unfold PRead at hO
    have hT0 := pre_len x0
    have hK := (opened_small x0.data.toList).2
    replace hO := Lib.hid hO; replace hP := Lib.hid hP
    generalize opened x0.data.toList = A at *
    go_enter Tryd.func18, Tryd.ntmps18
    go_wp2_with fail
    have al : Below w.heap.size w (w.alloc (.cells #[.string ⟨#[]⟩, .string ⟨#[]⟩, .int .i64 0] 31)) := by
      repeat refine Below.alloc ?_ (by simp <;> omega) _
      exact Below.refl _ _
    have n_RZ := Row.made w 31 [.string ⟨#[]⟩, .string ⟨#[]⟩, .int .i64 0]
    have hs_w1 : w.heap.size < (w.alloc (.cells #[.string ⟨#[]⟩, .string ⟨#[]⟩, .int .i64 0] 31)).heap.size := by simp
    replace hT := hT.below al
    have hB := al
    generalize (w.alloc (.cells #[.string ⟨#[]⟩, .string ⟨#[]⟩, .int .i64 0] 31)) = w1 at *
    have RZ := n_RZ; clear n_RZ
    clear al
    have c_RZ := RZ.cells; have f_RZ := RZ.frozens
    go_wp2_with fail
    clear c_RZ f_RZ
    refine (hO.out _ hT).mono ?_
    rintro e w2 ⟨u0, G0, u1, G1, rfl, oL, nL, oE, nE, fL, fE, dE, hb⟩
    have hs_w2 := hb.size
    replace RZ := RZ.below hb
    replace hT := hT.below hb
    replace hB := tr hB hb (Nat.le_refl _)
    clear hb
    clear nL nE fL fE dE
    obtain ⟨la, lc, rfl⟩ : ∃ a c, u0 = .slice a A.length c := by
      obtain ⟨a, c, e⟩ := oL.slice; exact ⟨a, c, by simpa using e⟩
    obtain ⟨ea, ec, rfl⟩ : ∃ a c, u1 = .slice a (A.length + 1) c := by
      obtain ⟨a, c, e⟩ := oE.slice; exact ⟨a, c, by simpa [endsL_len] using e⟩
    obtain ⟨gb, off, rfl, -⟩ := last_ends oE
    generalize hTT : A.flatten.length = T at *
    replace hTT := Lib.hid hTT
    have cE := last_cell hTT oE
    clear oL oE
    generalize hKK : A.length = K at *
    clear hKK
    have c_RZ := RZ.cells; have f_RZ := RZ.frozens
    go_wp2_with fail
    clear c_RZ f_RZ
    have hTs : T ≤ x0.size := hT0
    have c_RZ := RZ.cells; have f_RZ := RZ.frozens
    go_wp2_with fail
    refine bodyPost_ret (v := .tuple #[.agg #[.string (x0.extract 0 T), .string ⟨#[]⟩, .int .i64 (K : Nat)], .int .i64 (T : Nat), .bool true]) ?_ rfl ?_
    · simp [results, Tryd.results18, go_sem, c_RZ, f_RZ]
    · refine hP.out _ ?_
      repeat refine Below.setCell ?_ (by simp <;> omega) _
      exact hB
  · have hP : ∀ w', Below w.heap.size w w' → PI_RecoverLog (resRecoverLog x0) w (.returned (.tuple #[.agg #[.string ⟨#[]⟩, .string ⟨#[]⟩, .int .i64 0], .int .i64 0, .bool false])) w' := fun w' hB => by
      unfold resRecoverLog; rw [if_neg h]; exact ⟨_, [], rfl, isLog _ _ _ _ (by decide) (by decide), by simp, by simp, hB⟩
    replace hP := Lib.hid hP
    go_enter Tryd.func18, Tryd.ntmps18
    go_wp2_with fail
    have al : Below w.heap.size w (w.alloc (.cells #[.string ⟨#[]⟩, .string ⟨#[]⟩, .int .i64 0] 31)) := by
      repeat refine Below.alloc ?_ (by simp <;> omega) _
      exact Below.refl _ _
    have n_RZ := Row.made w 31 [.string ⟨#[]⟩, .string ⟨#[]⟩, .int .i64 0]
    have hs_w3 : w.heap.size < (w.alloc (.cells #[.string ⟨#[]⟩, .string ⟨#[]⟩, .int .i64 0] 31)).heap.size := by simp
    replace hT := hT.below al
    have hB := al
    generalize (w.alloc (.cells #[.string ⟨#[]⟩, .string ⟨#[]⟩, .int .i64 0] 31)) = w3 at *
    have RZ := n_RZ; clear n_RZ
    clear al
    have c_RZ := RZ.cells; have f_RZ := RZ.frozens
    go_wp2_with fail
    refine bodyPost_ret (v := .tuple #[.agg #[.string ⟨#[]⟩, .string ⟨#[]⟩, .int .i64 0], .int .i64 0, .bool false]) ?_ rfl ?_
    · simp [results, Tryd.results18, go_sem, c_RZ, f_RZ]
    · refine hP.out _ ?_
      repeat refine Below.setCell ?_ (by simp <;> omega) _
      exact hB
end Go.Proofs.YtnmgaponnfjciaaDoor
