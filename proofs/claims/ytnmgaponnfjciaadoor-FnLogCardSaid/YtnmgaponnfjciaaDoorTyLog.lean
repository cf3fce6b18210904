/- The type Log of the exact laws: how it reads, how it is owned; the walks of its size, copy, equality, mark and held. Written by wip/gentypes.py. -/
import Derived.Test.YtnmgaponnfjciaaDoorTStr
import Derived.Test.YtnmgaponnfjciaaDoorTInt
namespace Go.Proofs.YtnmgaponnfjciaaDoor
open Go.RowKit
structure Log where
  durable : ByteArray
  pending : ByteArray
  count : Int
/-- read -/
def ELog : Elem Log where
  sz := 3
  rep _ cs x F := cs = [.string x.durable, .string x.pending, .int .i64 x.count] ∧ x.durable.size ≤ maxLen ∧ x.pending.size ≤ maxLen ∧ F = []
  len h := by obtain ⟨rfl, s1, s2, rfl⟩ := h; rfl
  lt h := by obtain ⟨rfl, s1, s2, rfl⟩ := h; simp
  frame h _ := h
theorem one_ELog : One ELog := fun h u hu => by
  obtain ⟨rfl, s1, s2, rfl⟩ := h
  simp only [List.mem_cons, List.not_mem_nil, or_false] at hu
  rcases hu with rfl | rfl | rfl
  · rfl
  · rfl
  · rfl
theorem scal_ELog : Scal ELog := fun h => by obtain ⟨rfl, s1, s2, rfl⟩ := h; rfl
theorem info_Log : (Tryd.prog.info? 31).map (fun i => (i.zero, i.size, i.bytes)) = some (some (.agg #[.string ⟨#[]⟩, .string ⟨#[]⟩, .int .i64 0]), 3, 40) := by kernel_rfl
def wtLog (x : Log) : Nat := x.durable.size + x.pending.size
def cntLog (x : Log) : Nat := cntS x.durable + cntS x.pending + cntI x.count
def mkLog (k : Int) (x : Log) : Log := ⟨mkS (k) x.durable, mkS (k + cntS x.durable) x.pending, mkI (k + cntS x.durable + cntS x.pending) x.count⟩
theorem cntLog_wt (x : Log) : cntLog x ≤ 3 * (1 + wtLog x) := by
  simp only [cntLog, wtLog, cntI, cntB, cntS]
  omega
theorem cntLogS_wt (xs : List Log) (h : wtL wtLog xs ≤ 1048576) : cntL cntLog xs ≤ 4294967296 := by
  have := cntL_wt cntLog wtLog 3 cntLog_wt xs; omega
set_option maxHeartbeats 800000 in
theorem szLog_c (v : Value) (x : Log) (F : List Nat) (n : Int) (w : World) (h : IsV ELog w v x F) (h0 : 0 ≤ n) (h1 : n ≤ 1048576) :
    Calls Tryd.prog 20 #[v, .int .i64 n] w fun e w' => e = .returned (.int .i64 (szr n (wtLog x))) ∧ Below w.heap.size w w' := by
  obtain ⟨_, rfl, rfl, s1, s2, rfl⟩ := h
  have hB0 : ∀ A : Obj, Below w.heap.size w (w.alloc A) := fun A => (Below.refl _ _).alloc (Nat.le_refl _) _
  unfold maxLen at s1 s2
  unfold wtLog
  go_enter Tryd.func20, Tryd.ntmps20
  go_wp2
  all_goals go_ret
  all_goals exact ⟨ret_int (by unfold szr; split <;> omega), hB0 _⟩
set_option maxHeartbeats 1600000 in
theorem toLog_c (v : Value) (x : Log) (F : List Nat) (w : World) (h : IsV ELog w v x F) (hl : wtLog x ≤ 1048576) :
    Calls Tryd.prog 22 #[v] w (RetV ELog x w) := by
  obtain ⟨_, rfl, rfl, s1, s2, rfl⟩ := h
  have hB0 : ∀ A B C : Obj, Below w.heap.size w (((w.alloc A).alloc B).alloc C) := fun A B C => (((Below.refl _ _).alloc (Nat.le_refl _) _).alloc (by simp) _).alloc (by simp <;> omega) _
  go_enter Tryd.func22, Tryd.ntmps22
  go_wp2_with fail
  refine bodyPost_ret (v := .agg #[.string x.durable, .string x.pending, .int .i64 x.count]) ?_ rfl ?_
  · simp [results, Tryd.results22, go_sem]
  · exact ⟨_, [], rfl, ⟨_, rfl, rfl, s1, s2, rfl⟩, by simp, by simp, by repeat (first | exact Below.refl _ _ | refine Below.setCell ?_ (by simp <;> omega) _ | refine Below.alloc ?_ (by simp <;> omega) _)⟩
set_option maxHeartbeats 1600000 in
theorem eqLog_c (va vb : Value) (x : Log) (Fa Fb : List Nat) (w : World) (ha : IsV ELog w va x Fa) (hb : IsV ELog w vb x Fb) :
    Calls Tryd.prog 19 #[va, vb] w fun e w' => e = .returned (.bool true) ∧ Below w.heap.size w w' := by
  obtain ⟨_, rfl, rfl, s1, s2, rfl⟩ := ha
  obtain ⟨_, rfl, rfl, t1, t2, rfl⟩ := hb
  have hB0 : ∀ A B : Obj, Below w.heap.size w ((w.alloc A).alloc B) := fun A B => ((Below.refl _ _).alloc (Nat.le_refl _) _).alloc (by simp) _
  have hE : ∀ z : Int, (z != z) = false := fun z => by simp
  go_enter Tryd.func19, Tryd.ntmps19
  go_wp2_with fail
  go_ret
  exact ⟨rfl, hB0 _ _⟩
end Go.Proofs.YtnmgaponnfjciaaDoor
