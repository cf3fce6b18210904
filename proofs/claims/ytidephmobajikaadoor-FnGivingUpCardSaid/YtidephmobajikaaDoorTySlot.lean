/- The type Slot of the exact laws: how it reads, how it is owned; the walks of its size, copy, equality, mark and held. Written by wip/gentypes.py. -/
import Derived.Test.YtidephmobajikaaDoorTInt
import Derived.Test.YtidephmobajikaaDoorTStr
namespace Go.Proofs.YtidephmobajikaaDoor
open Go.RowKit
structure Slot where
  hav : Bool
  item : ByteArray
/-- read -/
def ESlot : Elem Slot where
  sz := 2
  rep _ cs x F := cs = [.bool x.hav, .string x.item] ∧ x.item.size ≤ maxLen ∧ F = []
  len h := by obtain ⟨rfl, s1, rfl⟩ := h; rfl
  lt h := by obtain ⟨rfl, s1, rfl⟩ := h; simp
  frame h _ := h
theorem one_ESlot : One ESlot := fun h u hu => by
  obtain ⟨rfl, s1, rfl⟩ := h
  simp only [List.mem_cons, List.not_mem_nil, or_false] at hu
  rcases hu with rfl | rfl
  · rfl
  · rfl
theorem scal_ESlot : Scal ESlot := fun h => by obtain ⟨rfl, s1, rfl⟩ := h; rfl
theorem info_Slot : (Tryd.prog.info? 146).map (fun i => (i.zero, i.size, i.bytes)) = some (some (.agg #[.bool false, .string ⟨#[]⟩]), 2, 24) := by kernel_rfl
def wtSlot (x : Slot) : Nat := x.item.size
def cntSlot (x : Slot) : Nat := cntB x.hav + cntS x.item
def mkSlot (k : Int) (x : Slot) : Slot := ⟨mkB (k) x.hav, mkS (k + cntB x.hav) x.item⟩
theorem cntSlot_wt (x : Slot) : cntSlot x ≤ 2 * (1 + wtSlot x) := by
  simp only [cntSlot, wtSlot, cntI, cntB, cntS]
  omega
theorem cntSlotS_wt (xs : List Slot) (h : wtL wtSlot xs ≤ 1048576) : cntL cntSlot xs ≤ 4294967296 := by
  have := cntL_wt cntSlot wtSlot 2 cntSlot_wt xs; omega
end Go.Proofs.YtidephmobajikaaDoor
