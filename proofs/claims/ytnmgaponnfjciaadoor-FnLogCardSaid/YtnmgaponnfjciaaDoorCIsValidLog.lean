/- The contracts of IsValidLog in the form that the law's proof takes. Written by wip/src/LogC.py. -/
import Derived.Test.YtnmgaponnfjciaaDoorLogLog
namespace Go.Proofs.YtnmgaponnfjciaaDoor
open Go.RowKit
def resIsValidLog (x0 : Log) : Bool := validR x0.durable.data.toList x0.pending.data.toList x0.count
def PS_IsValidLog : Bool → World → Ending → World → Prop := fun r0 w e w' => e = .returned (.bool r0) ∧ Below w.heap.size w w'
def PI_IsValidLog : Bool → World → Ending → World → Prop := fun r0 w e w' => e = .returned (.bool r0) ∧ Below w.heap.size w w'
set_option maxHeartbeats 1600000 in
set_option maxRecDepth 100000 in
theorem specIsValidLog_c (v0 : Value) (x0 : Log) (F0 : List Nat) (w : World) (h0 : IsV ELog w v0 x0 F0) (hw0 : wtLog x0 ≤ 1048576) :
    Calls Tryd.prog 21 #[v0] w (PS_IsValidLog (resIsValidLog x0) w) := by
  obtain ⟨_, rfl, rfl, s1, s2, rfl⟩ := h0
  have hw := hw0; unfold wtLog at hw
  unfold maxLen at s1 s2
  have hV := fun w => l27Log_c x0.durable x0.pending x0.count w hw
  replace hV := Lib.hid hV
  go_enter Tryd.func21, Tryd.ntmps21
  go_wp2_with fail
  refine (hV.out _).mono ?_
  rintro e w1 ⟨rfl, hb⟩
  go_wp2_with fail
  go_ret
  exact ⟨rfl, ((Below.refl _ _).alloc (Nat.le_refl _) _).trans (hb.mono (by simp))⟩
set_option maxHeartbeats 1600000 in
set_option maxRecDepth 100000 in
theorem IsValidLog_c (v0 : Value) (x0 : Log) (F0 : List Nat) (FT : List Nat) (w : World) (h0 : IsV ELog w v0 x0 F0) (hw0 : wtLog x0 ≤ 1048576) (hT : IsV ETab w (.agg #[]) () FT) :
    Calls Tryd.prog 23 #[v0] w (PI_IsValidLog (resIsValidLog x0) w) := by
  obtain ⟨_, rfl, rfl, s1, s2, rfl⟩ := h0
  unfold wtLog at hw0
  exact IsValidLog_v x0.durable x0.pending x0.count FT w hw0 hT
end Go.Proofs.YtnmgaponnfjciaaDoor
