/- The type Packet of the exact laws: how it reads, how it is owned; the walks of its size, copy, equality, mark and held. Written by wip/gentypes.py. -/
import Derived.Test.YtkcajnpdmgafjaaDoorTInt
import Derived.Test.YtkcajnpdmgafjaaDoorTStr
namespace Go.Proofs.YtkcajnpdmgafjaaDoor
open Go.RowKit
structure Packet where
  kind : Int
  number : Int
  trail : Int
  lead : Int
  data : ByteArray
/-- read -/
def EPacket : Elem Packet where
  sz := 5
  rep _ cs x F := cs = [.int .i64 x.kind, .int .i64 x.number, .int .i64 x.trail, .int .i64 x.lead, .string x.data] ∧ x.data.size ≤ maxLen ∧ F = []
  len h := by obtain ⟨rfl, s1, rfl⟩ := h; rfl
  lt h := by obtain ⟨rfl, s1, rfl⟩ := h; simp
  frame h _ := h
theorem one_EPacket : One EPacket := fun h u hu => by
  obtain ⟨rfl, s1, rfl⟩ := h
  simp only [List.mem_cons, List.not_mem_nil, or_false] at hu
  rcases hu with rfl | rfl | rfl | rfl | rfl
  · rfl
  · rfl
  · rfl
  · rfl
  · rfl
theorem scal_EPacket : Scal EPacket := fun h => by obtain ⟨rfl, s1, rfl⟩ := h; rfl
theorem info_Packet : (Tryd.prog.info? 83).map (fun i => (i.zero, i.size, i.bytes)) = some (some (.agg #[.int .i64 0, .int .i64 0, .int .i64 0, .int .i64 0, .string ⟨#[]⟩]), 5, 48) := by kernel_rfl
def wtPacket (x : Packet) : Nat := x.data.size
def cntPacket (x : Packet) : Nat := cntI x.kind + cntI x.number + cntI x.trail + cntI x.lead + cntS x.data
def mkPacket (k : Int) (x : Packet) : Packet := ⟨mkI (k) x.kind, mkI (k + cntI x.kind) x.number, mkI (k + cntI x.kind + cntI x.number) x.trail, mkI (k + cntI x.kind + cntI x.number + cntI x.trail) x.lead, mkS (k + cntI x.kind + cntI x.number + cntI x.trail + cntI x.lead) x.data⟩
theorem cntPacket_wt (x : Packet) : cntPacket x ≤ 5 * (1 + wtPacket x) := by
  simp only [cntPacket, wtPacket, cntI, cntB, cntS]
  omega
theorem cntPacketS_wt (xs : List Packet) (h : wtL wtPacket xs ≤ 1048576) : cntL cntPacket xs ≤ 4294967296 := by
  have := cntL_wt cntPacket wtPacket 5 cntPacket_wt xs; omega
set_option maxHeartbeats 1600000 in
theorem eqPacket_c (va vb : Value) (x : Packet) (Fa Fb : List Nat) (w : World) (ha : IsV EPacket w va x Fa) (hb : IsV EPacket w vb x Fb) :
    Calls Tryd.prog 114 #[va, vb] w fun e w' => e = .returned (.bool true) ∧ Below w.heap.size w w' := by
  obtain ⟨_, rfl, rfl, s1, rfl⟩ := ha
  obtain ⟨_, rfl, rfl, t1, rfl⟩ := hb
  have hB0 : ∀ A B : Obj, Below w.heap.size w ((w.alloc A).alloc B) := fun A B => ((Below.refl _ _).alloc (Nat.le_refl _) _).alloc (by simp) _
  have hE : ∀ z : Int, (z != z) = false := fun z => by simp
  go_enter Tryd.func114, Tryd.ntmps114
  go_wp2_with fail
  go_ret
  exact ⟨rfl, hB0 _ _⟩
end Go.Proofs.YtkcajnpdmgafjaaDoor
