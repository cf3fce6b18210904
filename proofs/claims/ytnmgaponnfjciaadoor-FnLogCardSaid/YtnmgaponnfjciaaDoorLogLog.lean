/- Walks: the reference's l27Log, and IsValidLog of both. -/
import Derived.Test.YtnmgaponnfjciaaDoorLogOpen
import Derived.Test.YtnmgaponnfjciaaDoorLogValid
namespace Go.Proofs.YtnmgaponnfjciaaDoor
open Go.RowKit
/-- what the walk needs of l27Open, under letters -/
def POpenT (A : List LogRecord) (T : Nat) (w : World) (e : Ending) (w' : World) : Prop :=
  ∃ u0 G0, e = .returned (.tuple #[u0, .int .i64 (T : Nat)]) ∧ Ow ELogRecord 27 w' u0 A G0 ∧ G0.Nodup ∧ (∀ b ∈ G0, w.heap.size ≤ b) ∧ Below w.heap.size w w'
set_option maxHeartbeats 1600000 in
set_option maxRecDepth 100000 in
theorem l27Log_c (d p : ByteArray) (n : Int) (w : World) (hz : d.size + p.size ≤ 1048576) :
    Calls Tryd.prog 49 #[.agg #[.string d, .string p, .int .i64 n]] w fun e w' => e = .returned (.bool (validR d.data.toList p.data.toList n)) ∧ Below w.heap.size w w' := by
  have hsm := (opened_small (d.data.toList ++ p.data.toList)).2
  have hsm1 := (opened_small (d.data.toList ++ p.data.toList)).1
  have hsm2 := (opened_small d.data.toList).1
  have hvp : validR d.data.toList p.data.toList n = (decide (d.size + p.size ≤ 30000) && (decide ((opened (d.data.toList ++ p.data.toList)).flatten.length = d.size + p.size) && decide ((opened d.data.toList).flatten.length = d.size) && decide (((opened (d.data.toList ++ p.data.toList)).length : Int) = n))) := by
    unfold validR; simp only [size_list]
  replace hvp := Lib.hid hvp
  by_cases h3 : d.size + p.size ≤ 30000
  · have hO1 : ∀ w, Calls Tryd.prog 47 #[.string (d ++ p)] w (POpenT ((opened (d.data.toList ++ p.data.toList)).map recL) ((opened (d.data.toList ++ p.data.toList)).flatten.length) w) := fun w => by
      have := l27Open_c (d ++ p) w (by simp; omega)
      unfold POpen at this; rw [app_list] at this; exact this
    have hO2 : ∀ w, Calls Tryd.prog 47 #[.string d] w (POpenT ((opened d.data.toList).map recL) ((opened d.data.toList).flatten.length) w) := fun w => l27Open_c d w (by omega)
    have hlen : ((opened (d.data.toList ++ p.data.toList)).map recL).length = (opened (d.data.toList ++ p.data.toList)).length := by simp
    generalize (opened (d.data.toList ++ p.data.toList)).map recL = A at *
    generalize (opened (d.data.toList ++ p.data.toList)).flatten.length = T at *
    generalize (opened (d.data.toList ++ p.data.toList)).length = K at *
    generalize (opened d.data.toList).map recL = A2 at *
    generalize (opened d.data.toList).flatten.length = T2 at *
    replace hO1 := Lib.hid hO1; replace hO2 := Lib.hid hO2; replace hlen := Lib.hid hlen
    have hfin : ∀ b : Bool, b = (decide (T = d.size + p.size) && decide (T2 = d.size) && decide ((K : Int) = n)) → Hid (b = validR d.data.toList p.data.toList n) := fun b h => Lib.hid (by rw [h, hvp.out, decide_eq_true h3]; rfl)
    replace hfin := Lib.hid hfin
    clear hvp
    have R0 := Row.made w 31 [.string d, .string p, .int .i64 n]
    have hB : Below w.heap.size w (w.alloc (.cells #[.string d, .string p, .int .i64 n] 31)) := (Below.refl _ _).alloc (Nat.le_refl _) _
    go_enter Tryd.func49, Tryd.ntmps49
    go_wp2_with fail
    refine (hO1.out _).mono ?_
    rintro e w2 ⟨u0, G0, rfl, o0, -, -, hb⟩
    obtain ⟨a, c, rfl⟩ := o0.slice
    rw [hlen.out]
    replace R0 := R0.below hb
    replace hB := hB.trans (hb.mono (by simp))
    have hs2 := hB.size
    clear hb o0
    have c_R0 := R0.cells; have f_R0 := R0.frozens
    go_wp2_with fail
    clear c_R0 f_R0
    refine (hO2.out _).mono ?_
    rintro e w3 ⟨u1, G1, rfl, o1, -, -, hb⟩
    replace R0 := R0.below hb
    replace hB := hB.trans (hb.mono (by omega))
    clear hb o1
    cases hb1 : ((T : Int) == ((d.size : Int) + (p.size : Int)))
    · have hb2 : ¬ T = d.size + p.size := by intro e; rw [e] at hb1; simp at hb1
      have hr := hfin.out false (by rw [decide_eq_false hb2]; rfl)
      clear hb2
      have c_R0 := R0.cells; have f_R0 := R0.frozens
      go_wp2_with fail
      clear c_R0 f_R0
      go_ret
      exact ⟨ret_bool hr.out, hB⟩
    · have hb2 : T = d.size + p.size := by have := eq_of_beq hb1; omega
      cases hb3 : ((T2 : Int) == (d.size : Int))
      · have hb4 : ¬ T2 = d.size := by intro e; rw [e] at hb3; simp at hb3
        have hr := hfin.out false (by rw [decide_eq_false hb4, Bool.and_false]; rfl)
        clear hb4 hb2
        have c_R0 := R0.cells; have f_R0 := R0.frozens
        go_wp2_with fail
        clear c_R0 f_R0
        go_ret
        exact ⟨ret_bool hr.out, hB⟩
      · have hb4 : T2 = d.size := by have := eq_of_beq hb3; omega
        have hr := hfin.out ((K : Int) == n) (by rw [decide_eq_true hb2, decide_eq_true hb4, Bool.eq_iff_iff]; simp)
        clear hb4 hb2
        have c_R0 := R0.cells; have f_R0 := R0.frozens
        go_wp2_with fail
        clear c_R0 f_R0
        go_ret
        exact ⟨ret_bool hr.out, hB⟩
  · have hr := Lib.hid (show false = validR d.data.toList p.data.toList n from by rw [hvp.out, decide_eq_false h3]; rfl)
    clear hvp hsm hsm1 hsm2
    have R0 := Row.made w 31 [.string d, .string p, .int .i64 n]
    have hB : Below w.heap.size w (w.alloc (.cells #[.string d, .string p, .int .i64 n] 31)) := (Below.refl _ _).alloc (Nat.le_refl _) _
    go_enter Tryd.func49, Tryd.ntmps49
    go_wp2_with fail
    go_ret
    exact ⟨ret_bool hr.out, hB⟩
end Go.Proofs.YtnmgaponnfjciaaDoor
