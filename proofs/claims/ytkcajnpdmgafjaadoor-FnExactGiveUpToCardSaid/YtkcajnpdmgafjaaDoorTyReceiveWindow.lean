/- The type ReceiveWindow of the exact laws: how it reads, how it is owned; the walks of its size, copy, equality, mark and held. Written by wip/gentypes.py. -/
import Derived.Test.YtkcajnpdmgafjaaDoorTInt
import Derived.Test.YtkcajnpdmgafjaaDoorTySlot
namespace Go.Proofs.YtkcajnpdmgafjaaDoor
open Go.RowKit
structure ReceiveWindow where
  next : Int
  slots : List Slot
/-- read -/
def EReceiveWindow : Elem ReceiveWindow where
  sz := 2
  rep w cs x F := ∃ v1, cs = [.int .i64 x.next, v1] ∧ Sl ESlot w v1 x.slots F
  len h := by obtain ⟨v1, rfl, h1⟩ := h; rfl
  lt h := by obtain ⟨v1, rfl, h1⟩ := h; exact h1.lt (by decide)
  frame h hF := by obtain ⟨v1, rfl, h1⟩ := h; exact ⟨v1, rfl, h1.frame hF⟩
theorem one_EReceiveWindow : One EReceiveWindow := fun h u hu => by
  obtain ⟨v1, rfl, h1⟩ := h
  simp only [List.mem_cons, List.not_mem_nil, or_false] at hu
  rcases hu with rfl | rfl
  · rfl
  · exact h1.one
theorem info_ReceiveWindow : (Tryd.prog.info? 69).map (fun i => (i.zero, i.size, i.bytes)) = some (some (.agg #[.int .i64 0, .slice none 0 0]), 2, 32) := by kernel_rfl
/-- owned -/
def OReceiveWindow : Elem ReceiveWindow where
  sz := 2
  rep w cs x F := ∃ v1, cs = [.int .i64 x.next, v1] ∧ Ow ESlot 184 w v1 x.slots F
  len h := by obtain ⟨v1, rfl, h1⟩ := h; rfl
  lt h := by obtain ⟨v1, rfl, h1⟩ := h; exact h1.lt
  frame h hF := by obtain ⟨v1, rfl, h1⟩ := h; exact ⟨v1, rfl, h1.frame hF⟩
theorem one_OReceiveWindow : One OReceiveWindow := fun h u hu => by
  obtain ⟨v1, rfl, h1⟩ := h
  simp only [List.mem_cons, List.not_mem_nil, or_false] at hu
  rcases hu with rfl | rfl
  · rfl
  · exact h1.one
theorem weak_ReceiveWindow : Weak OReceiveWindow EReceiveWindow := ⟨rfl, fun h => by
  obtain ⟨v1, rfl, h1⟩ := h
  obtain ⟨G1, g1, k1⟩ := h1.sl (Weak.refl _)
  exact ⟨G1, g1, v1, rfl, k1⟩⟩
def wtReceiveWindow (x : ReceiveWindow) : Nat := wtL wtSlot x.slots
def cntReceiveWindow (x : ReceiveWindow) : Nat := cntI x.next + (cntL cntSlot) x.slots
def mkReceiveWindow (k : Int) (x : ReceiveWindow) : ReceiveWindow := ⟨mkI (k) x.next, (markL mkSlot cntSlot) (k + cntI x.next) x.slots⟩
/-- the marks of a value: its slices alone -/
def cvReceiveWindow (x : ReceiveWindow) : Nat := (cntL cntSlot) x.slots
def mvReceiveWindow (k : Int) (x : ReceiveWindow) : ReceiveWindow := ⟨x.next, (markL mkSlot cntSlot) (k) x.slots⟩
theorem cntReceiveWindow_wt (x : ReceiveWindow) : cntReceiveWindow x ≤ 2 * (1 + wtReceiveWindow x) := by
  have h0 := cntL_wt cntSlot wtSlot 2 cntSlot_wt x.slots
  simp only [cntReceiveWindow, wtReceiveWindow, cntI, cntB, cntS]
  omega
theorem cvReceiveWindow_wt (x : ReceiveWindow) (h : wtReceiveWindow x ≤ 1048576) : cvReceiveWindow x ≤ 4294967296 := by
  have h0 := cntL_wt cntSlot wtSlot 2 cntSlot_wt x.slots
  simp only [wtReceiveWindow, cvReceiveWindow] at h ⊢
  omega
theorem cntReceiveWindowS_wt (xs : List ReceiveWindow) (h : wtL wtReceiveWindow xs ≤ 1048576) : cntL cntReceiveWindow xs ≤ 4294967296 := by
  have := cntL_wt cntReceiveWindow wtReceiveWindow 2 cntReceiveWindow_wt xs; omega
set_option maxHeartbeats 800000 in
theorem szReceiveWindow_c (v : Value) (x : ReceiveWindow) (F : List Nat) (n : Int) (w : World) (h : IsV EReceiveWindow w v x F) (h0 : 0 ≤ n) (h1 : n ≤ 1048576) :
    Calls Tryd.prog 52 #[v, .int .i64 n] w fun e w' => e = .returned (.int .i64 (szr n (wtReceiveWindow x))) ∧ Below w.heap.size w w' := by
  obtain ⟨_, rfl, v1, rfl, h1⟩ := h
  have hB0 : ∀ A : Obj, Below w.heap.size w (w.alloc A) := fun A => (Below.refl _ _).alloc (Nat.le_refl _) _
  unfold wtReceiveWindow
  go_enter Tryd.func52, Tryd.ntmps52
  go_wp2_with fail
  refine (szSlotS_c _ x.slots _ _ _ (h1.below (by decide) (hB0 _)) (by omega) (by omega)).mono ?_
  rintro e w1 ⟨rfl, hb1⟩
  have r0 := Row.below (g := w.heap.size) (t := 65) (cs := [.int .i64 x.next, v1]) (by simp [row_alloc]) hb1
  have hB := tr (hB0 _) hb1 (Nat.le_refl _)
  have c0 := r0.cells
  clear hb1
  rcases szr_or (n) (wtL wtSlot x.slots) with ⟨e1, l1⟩ | ⟨e1, l1⟩
  · simp only [e1]
    have z1 := Lib.hid e1; clear e1
    go_wp2_with fail
    go_ret
    exact ⟨ret_int (szr_no (by omega)).symm, hB⟩
  simp only [e1]
  have z1 := Lib.hid e1; clear e1
  go_wp2_with fail
  go_ret
  exact ⟨ret_int (by rw [szr_yes (by omega)]; all_goals omega), hB⟩
set_option maxHeartbeats 1600000 in
theorem toReceiveWindow_c (v : Value) (x : ReceiveWindow) (F : List Nat) (w : World) (h : IsV EReceiveWindow w v x F) (hl : wtReceiveWindow x ≤ 1048576) :
    Calls Tryd.prog 54 #[v] w (RetV OReceiveWindow x w) := by
  obtain ⟨_, rfl, v1, rfl, h1⟩ := h
  unfold wtReceiveWindow at hl
  have hB0 : ∀ A B C : Obj, Below w.heap.size w (((w.alloc A).alloc B).alloc C) := fun A B C => (((Below.refl _ _).alloc (Nat.le_refl _) _).alloc (by simp) _).alloc (by simp <;> omega) _
  go_enter Tryd.func54, Tryd.ntmps54
  go_wp2_with fail
  refine (toSlotS_c _ x.slots _ _ (h1.below (by decide) (hB0 _ _ _)) (by omega)).mono ?_
  rintro e w1 ⟨y1, K1, rfl, o1, n1, g1, hb1⟩
  obtain ⟨d1, p1, rfl⟩ := o1.slice
  have l1 : ∀ b ∈ K1, b < w1.heap.size := o1.lt
  have r0 := Row.below (g := w.heap.size) (t := 65) (cs := [.int .i64 x.next, v1]) (by simp [row_alloc] <;> omega) hb1
  have r1 := Row.below (g := w.heap.size + 1) (t := 69) (cs := [.int .i64 0, .slice none 0 0]) (by simp [row_alloc] <;> omega) hb1
  have r2 := Row.below (g := w.heap.size + 1 + 1) (t := 69) (cs := [.int .i64 x.next, .slice none 0 0]) (by simp [row_alloc] <;> omega) hb1
  have hB := tr (hB0 _ _ _) hb1 (Nat.le_refl _)
  have hs1 := hb1.size
  simp only [World.size_alloc] at hs1 g1
  clear hb1
  have c0 := r0.cells; have c1 := r1.cells; have c2 := r2.cells; have f1 := r1.frozens; have f2 := r2.frozens
  have o1_ := Lib.hid o1
  go_wp2_with fail
  refine bodyPost_ret (v := .agg #[.int .i64 x.next, .slice d1 x.slots.length p1]) ?_ rfl ?_
  · simp [results, Tryd.results54, go_sem, c0, c1, c2, f1, f2]
  · refine ⟨_, K1, rfl, ⟨_, rfl, _, rfl, ?_⟩, ?_, ?_, ?_⟩
    · repeat refine Ow.setFar ?_ (fun hm => by have := g1 _ hm; simp at this <;> omega) _
      exact o1
    · exact n1
    · intro b hb
      have := g1 b hb; omega
    · repeat refine Below.setCell ?_ (by simp <;> omega) _
      exact hB
set_option maxHeartbeats 1600000 in
theorem eqReceiveWindow_c (va vb : Value) (x : ReceiveWindow) (Fa Fb : List Nat) (w : World) (ha : IsV EReceiveWindow w va x Fa) (hb : IsV EReceiveWindow w vb x Fb) :
    Calls Tryd.prog 56 #[va, vb] w fun e w' => e = .returned (.bool true) ∧ Below w.heap.size w w' := by
  obtain ⟨_, rfl, v1, rfl, h1⟩ := ha
  obtain ⟨_, rfl, u1, rfl, k1⟩ := hb
  have hB0 : ∀ A B : Obj, Below w.heap.size w ((w.alloc A).alloc B) := fun A B => ((Below.refl _ _).alloc (Nat.le_refl _) _).alloc (by simp) _
  have hE : ∀ z : Int, (z != z) = false := fun z => by simp
  go_enter Tryd.func56, Tryd.ntmps56
  go_wp2_with fail
  refine (eqSlotS_c _ _ x.slots _ _ _ (h1.below (by decide) (hB0 _ _)) (k1.below (by decide) (hB0 _ _))).mono ?_
  rintro e w1 ⟨rfl, hb1⟩
  have r0 := Row.below (g := w.heap.size) (t := 69) (cs := [.int .i64 x.next, v1]) (by simp [row_alloc] <;> omega) hb1
  have r1 := Row.below (g := w.heap.size + 1) (t := 69) (cs := [.int .i64 x.next, u1]) (by simp [row_alloc] <;> omega) hb1
  have hB := tr (hB0 _ _) hb1 (Nat.le_refl _)
  clear hb1
  have c0 := r0.cells; have c1 := r1.cells
  go_wp2_with fail
  go_ret
  exact ⟨rfl, hB⟩
set_option maxHeartbeats 1600000 in
theorem markReceiveWindow_c (v : Value) (x : ReceiveWindow) (F : List Nat) (k0 : Int) (w : World) (h : IsV OReceiveWindow w v x F) (hn : F.Nodup) (p0 : 0 ≤ k0) (p1 : k0 + cvReceiveWindow x ≤ 1099511627776) :
    Calls Tryd.prog 57 #[v, .int .i64 k0] w (RetMarkV OReceiveWindow v (k0 + cvReceiveWindow x) (mvReceiveWindow k0 x) F w) := by
  have hlt : ∀ b ∈ F, b < w.heap.size := by obtain ⟨cs, -, hx⟩ := h; exact OReceiveWindow.lt hx
  obtain ⟨_, rfl, v1, rfl, h1⟩ := h
  unfold cvReceiveWindow at p1 ⊢
  have hB0 : ∀ A : Obj, Below w.heap.size w (w.alloc A) := fun A => (Below.refl _ _).alloc (Nat.le_refl _) _
  have hw : w.heap.size ∉ F := fun e => by have := hlt _ e; omega
  have nF1 := hn
  have w1_ := hw
  go_enter Tryd.func57, Tryd.ntmps57
  go_wp2_with fail
  refine (markSlotS_c _ x.slots _ (k0) _ (h1.below (hB0 _)) nF1 (by omega) (by omega)).mono ?_
  rintro e w1 ⟨rfl, o1, kp1⟩
  have r0 := Row.keepK (g := w.heap.size) (t := 69) (cs := [.int .i64 x.next, v1]) (by simp [row_alloc]) kp1 w1_
  have KK : Keep F w w1 := (Keep.ofBelow (hB0 _)).trans (kp1.mono (fun b hb _ => hb))
  clear kp1
  have c0 := r0.cells
  go_wp2_with fail
  go_ret
  exact ⟨ret_int (by omega), ⟨_, rfl, _, rfl, o1⟩, KK⟩
set_option maxHeartbeats 1600000 in
theorem heldReceiveWindow_c (v : Value) (x : ReceiveWindow) (F : List Nat) (k0 : Int) (w : World) (h : IsV EReceiveWindow w v (mvReceiveWindow k0 x) F) (p0 : 0 ≤ k0) (p1 : k0 + cvReceiveWindow x ≤ 1099511627776) :
    Calls Tryd.prog 58 #[v, .int .i64 k0] w fun e w' => e = .returned (.int .i64 (k0 + cvReceiveWindow x)) ∧ Below w.heap.size w w' := by
  obtain ⟨_, rfl, v1, rfl, h1⟩ := h
  unfold cvReceiveWindow at p1 ⊢
  have hB0 : ∀ A : Obj, Below w.heap.size w (w.alloc A) := fun A => (Below.refl _ _).alloc (Nat.le_refl _) _
  go_enter Tryd.func58, Tryd.ntmps58
  go_wp2_with fail
  refine (heldSlotS_c _ x.slots _ (k0) _ (h1.below (by decide) (hB0 _)) (by omega) (by omega)).mono ?_
  rintro e w1 ⟨rfl, hb1⟩
  have r0 := Row.below (g := w.heap.size) (t := 69) (cs := [.int .i64 x.next, v1]) (by simp [row_alloc, mvReceiveWindow]) hb1
  have hB := tr (hB0 _) hb1 (Nat.le_refl _)
  clear hb1
  have c0 := r0.cells
  go_wp2_with fail
  go_ret
  exact ⟨ret_int (by omega), hB⟩
end Go.Proofs.YtkcajnpdmgafjaaDoor
