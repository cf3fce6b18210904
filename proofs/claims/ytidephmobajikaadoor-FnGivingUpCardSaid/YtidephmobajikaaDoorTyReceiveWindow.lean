/- The type ReceiveWindow of the exact laws: how it reads, how it is owned; the walks of its size, copy, equality, mark and held. Written by wip/gentypes.py. -/
import Derived.Test.YtidephmobajikaaDoorTInt
import Derived.Test.YtidephmobajikaaDoorTySlot
namespace Go.Proofs.YtidephmobajikaaDoor
open Go.RowKit
structure ReceiveWindow where
  next : Int
  slots : List Slot
/-- read -/
def EReceiveWindow : Elem ReceiveWindow where
  sz := 2
  rep w cs x F := ∃ v1, cs = [.int .i64 x.next, v1] ∧ Sl ESlot w v1 x.slots F
  len h := by obtain ⟨v1, rfl, h1⟩ := h; rfl
  lt h := by obtain ⟨v1, rfl, h1⟩ := h; exact h1.lt (by decide)
  frame h hF := by obtain ⟨v1, rfl, h1⟩ := h; exact ⟨v1, rfl, h1.frame hF⟩
theorem one_EReceiveWindow : One EReceiveWindow := fun h u hu => by
  obtain ⟨v1, rfl, h1⟩ := h
  simp only [List.mem_cons, List.not_mem_nil, or_false] at hu
  rcases hu with rfl | rfl
  · rfl
  · exact h1.one
theorem info_ReceiveWindow : (Tryd.prog.info? 60).map (fun i => (i.zero, i.size, i.bytes)) = some (some (.agg #[.int .i64 0, .slice none 0 0]), 2, 32) := by kernel_rfl
/-- owned -/
def OReceiveWindow : Elem ReceiveWindow where
  sz := 2
  rep w cs x F := ∃ v1, cs = [.int .i64 x.next, v1] ∧ Ow ESlot 146 w v1 x.slots F
  len h := by obtain ⟨v1, rfl, h1⟩ := h; rfl
  lt h := by obtain ⟨v1, rfl, h1⟩ := h; exact h1.lt
  frame h hF := by obtain ⟨v1, rfl, h1⟩ := h; exact ⟨v1, rfl, h1.frame hF⟩
theorem one_OReceiveWindow : One OReceiveWindow := fun h u hu => by
  obtain ⟨v1, rfl, h1⟩ := h
  simp only [List.mem_cons, List.not_mem_nil, or_false] at hu
  rcases hu with rfl | rfl
  · rfl
  · exact h1.one
theorem weak_ReceiveWindow : Weak OReceiveWindow EReceiveWindow := ⟨rfl, fun h => by
  obtain ⟨v1, rfl, h1⟩ := h
  obtain ⟨G1, g1, k1⟩ := h1.sl (Weak.refl _)
  exact ⟨G1, g1, v1, rfl, k1⟩⟩
def wtReceiveWindow (x : ReceiveWindow) : Nat := wtL wtSlot x.slots
def cntReceiveWindow (x : ReceiveWindow) : Nat := cntI x.next + (cntL cntSlot) x.slots
def mkReceiveWindow (k : Int) (x : ReceiveWindow) : ReceiveWindow := ⟨mkI (k) x.next, (markL mkSlot cntSlot) (k + cntI x.next) x.slots⟩
/-- the marks of a value: its slices alone -/
def cvReceiveWindow (x : ReceiveWindow) : Nat := (cntL cntSlot) x.slots
def mvReceiveWindow (k : Int) (x : ReceiveWindow) : ReceiveWindow := ⟨x.next, (markL mkSlot cntSlot) (k) x.slots⟩
theorem cntReceiveWindow_wt (x : ReceiveWindow) : cntReceiveWindow x ≤ 2 * (1 + wtReceiveWindow x) := by
  have h0 := cntL_wt cntSlot wtSlot 2 cntSlot_wt x.slots
  simp only [cntReceiveWindow, wtReceiveWindow, cntI, cntB, cntS]
  omega
theorem cvReceiveWindow_wt (x : ReceiveWindow) (h : wtReceiveWindow x ≤ 1048576) : cvReceiveWindow x ≤ 4294967296 := by
  have h0 := cntL_wt cntSlot wtSlot 2 cntSlot_wt x.slots
  simp only [wtReceiveWindow, cvReceiveWindow] at h ⊢
  omega
theorem cntReceiveWindowS_wt (xs : List ReceiveWindow) (h : wtL wtReceiveWindow xs ≤ 1048576) : cntL cntReceiveWindow xs ≤ 4294967296 := by
  have := cntL_wt cntReceiveWindow wtReceiveWindow 2 cntReceiveWindow_wt xs; omega
end Go.Proofs.YtidephmobajikaaDoor
