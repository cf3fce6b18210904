/- The type SendWindow of the exact laws: how it reads, how it is owned; the walks of its size, copy, equality, mark and held. Written by wip/gentypes.py. -/
import Derived.Test.YtidephmobajikaaDoorTInt
import Derived.Test.YtidephmobajikaaDoorTStr
namespace Go.Proofs.YtidephmobajikaaDoor
open Go.RowKit
structure SendWindow where
  trail : Int
  size : Int
  items : List ByteArray
/-- read -/
def ESendWindow : Elem SendWindow where
  sz := 3
  rep w cs x F := ∃ v1, cs = [.int .i64 x.trail, .int .i64 x.size, v1] ∧ Sl EStr w v1 x.items F
  len h := by obtain ⟨v1, rfl, h1⟩ := h; rfl
  lt h := by obtain ⟨v1, rfl, h1⟩ := h; exact h1.lt (by decide)
  frame h hF := by obtain ⟨v1, rfl, h1⟩ := h; exact ⟨v1, rfl, h1.frame hF⟩
theorem one_ESendWindow : One ESendWindow := fun h u hu => by
  obtain ⟨v1, rfl, h1⟩ := h
  simp only [List.mem_cons, List.not_mem_nil, or_false] at hu
  rcases hu with rfl | rfl | rfl
  · rfl
  · rfl
  · exact h1.one
theorem info_SendWindow : (Tryd.prog.info? 26).map (fun i => (i.zero, i.size, i.bytes)) = some (some (.agg #[.int .i64 0, .int .i64 0, .slice none 0 0]), 3, 40) := by kernel_rfl
/-- owned -/
def OSendWindow : Elem SendWindow where
  sz := 3
  rep w cs x F := ∃ v1, cs = [.int .i64 x.trail, .int .i64 x.size, v1] ∧ Ow EStr 9 w v1 x.items F
  len h := by obtain ⟨v1, rfl, h1⟩ := h; rfl
  lt h := by obtain ⟨v1, rfl, h1⟩ := h; exact h1.lt
  frame h hF := by obtain ⟨v1, rfl, h1⟩ := h; exact ⟨v1, rfl, h1.frame hF⟩
theorem one_OSendWindow : One OSendWindow := fun h u hu => by
  obtain ⟨v1, rfl, h1⟩ := h
  simp only [List.mem_cons, List.not_mem_nil, or_false] at hu
  rcases hu with rfl | rfl | rfl
  · rfl
  · rfl
  · exact h1.one
theorem weak_SendWindow : Weak OSendWindow ESendWindow := ⟨rfl, fun h => by
  obtain ⟨v1, rfl, h1⟩ := h
  obtain ⟨G1, g1, k1⟩ := h1.sl (Weak.refl _)
  exact ⟨G1, g1, v1, rfl, k1⟩⟩
def wtSendWindow (x : SendWindow) : Nat := wtL ByteArray.size x.items
def cntSendWindow (x : SendWindow) : Nat := cntI x.trail + cntI x.size + (cntL cntS) x.items
def mkSendWindow (k : Int) (x : SendWindow) : SendWindow := ⟨mkI (k) x.trail, mkI (k + cntI x.trail) x.size, (markL mkS cntS) (k + cntI x.trail + cntI x.size) x.items⟩
/-- the marks of a value: its slices alone -/
def cvSendWindow (x : SendWindow) : Nat := (cntL cntS) x.items
def mvSendWindow (k : Int) (x : SendWindow) : SendWindow := ⟨x.trail, x.size, (markL mkS cntS) (k) x.items⟩
theorem cntSendWindow_wt (x : SendWindow) : cntSendWindow x ≤ 2 * (1 + wtSendWindow x) := by
  have h0 := cntL_wt cntS ByteArray.size 1 (fun x => by simp [cntS]) x.items
  simp only [cntSendWindow, wtSendWindow, cntI, cntB, cntS]
  omega
theorem cvSendWindow_wt (x : SendWindow) (h : wtSendWindow x ≤ 1048576) : cvSendWindow x ≤ 4294967296 := by
  have h0 := cntL_wt cntS ByteArray.size 1 (fun x => by simp [cntS]) x.items
  simp only [wtSendWindow, cvSendWindow] at h ⊢
  omega
theorem cntSendWindowS_wt (xs : List SendWindow) (h : wtL wtSendWindow xs ≤ 1048576) : cntL cntSendWindow xs ≤ 4294967296 := by
  have := cntL_wt cntSendWindow wtSendWindow 2 cntSendWindow_wt xs; omega
set_option maxHeartbeats 800000 in
theorem szSendWindow_c (v : Value) (x : SendWindow) (F : List Nat) (n : Int) (w : World) (h : IsV ESendWindow w v x F) (h0 : 0 ≤ n) (h1 : n ≤ 1048576) :
    Calls Tryd.prog 153 #[v, .int .i64 n] w fun e w' => e = .returned (.int .i64 (szr n (wtSendWindow x))) ∧ Below w.heap.size w w' := by
  obtain ⟨_, rfl, v1, rfl, h1⟩ := h
  have hB0 : ∀ A : Obj, Below w.heap.size w (w.alloc A) := fun A => (Below.refl _ _).alloc (Nat.le_refl _) _
  unfold wtSendWindow
  go_enter Tryd.func153, Tryd.ntmps153
  go_wp2_with fail
  refine (szStringS_c _ x.items _ _ _ (h1.below (by decide) (hB0 _)) (by omega) (by omega)).mono ?_
  rintro e w1 ⟨rfl, hb1⟩
  have r0 := Row.below (g := w.heap.size) (t := 93) (cs := [.int .i64 x.trail, .int .i64 x.size, v1]) (by simp [row_alloc]) hb1
  have hB := tr (hB0 _) hb1 (Nat.le_refl _)
  have c0 := r0.cells
  clear hb1
  rcases szr_or (n) (wtL ByteArray.size x.items) with ⟨e1, l1⟩ | ⟨e1, l1⟩
  · simp only [e1]
    have z1 := Lib.hid e1; clear e1
    go_wp2_with fail
    go_ret
    exact ⟨ret_int (szr_no (by omega)).symm, hB⟩
  simp only [e1]
  have z1 := Lib.hid e1; clear e1
  go_wp2_with fail
  go_ret
  exact ⟨ret_int (by rw [szr_yes (by omega)]; all_goals omega), hB⟩
set_option maxHeartbeats 1600000 in
theorem toSendWindow_c (v : Value) (x : SendWindow) (F : List Nat) (w : World) (h : IsV ESendWindow w v x F) (hl : wtSendWindow x ≤ 1048576) :
    Calls Tryd.prog 157 #[v] w (RetV OSendWindow x w) := by
  obtain ⟨_, rfl, v1, rfl, h1⟩ := h
  unfold wtSendWindow at hl
  have hB0 : ∀ A B C : Obj, Below w.heap.size w (((w.alloc A).alloc B).alloc C) := fun A B C => (((Below.refl _ _).alloc (Nat.le_refl _) _).alloc (by simp) _).alloc (by simp <;> omega) _
  go_enter Tryd.func157, Tryd.ntmps157
  go_wp2_with fail
  refine (toStringS_c _ x.items _ _ (h1.below (by decide) (hB0 _ _ _)) (by omega)).mono ?_
  rintro e w1 ⟨y1, K1, rfl, o1, n1, g1, hb1⟩
  obtain ⟨d1, p1, rfl⟩ := o1.slice
  have l1 : ∀ b ∈ K1, b < w1.heap.size := o1.lt
  have r0 := Row.below (g := w.heap.size) (t := 93) (cs := [.int .i64 x.trail, .int .i64 x.size, v1]) (by simp [row_alloc] <;> omega) hb1
  have r1 := Row.below (g := w.heap.size + 1) (t := 26) (cs := [.int .i64 0, .int .i64 0, .slice none 0 0]) (by simp [row_alloc] <;> omega) hb1
  have r2 := Row.below (g := w.heap.size + 1 + 1) (t := 26) (cs := [.int .i64 x.trail, .int .i64 x.size, .slice none 0 0]) (by simp [row_alloc] <;> omega) hb1
  have hB := tr (hB0 _ _ _) hb1 (Nat.le_refl _)
  have hs1 := hb1.size
  simp only [World.size_alloc] at hs1 g1
  clear hb1
  have c0 := r0.cells; have c1 := r1.cells; have c2 := r2.cells; have f1 := r1.frozens; have f2 := r2.frozens
  have o1_ := Lib.hid o1
  go_wp2_with fail
  refine bodyPost_ret (v := .agg #[.int .i64 x.trail, .int .i64 x.size, .slice d1 x.items.length p1]) ?_ rfl ?_
  · simp [results, Tryd.results157, go_sem, c0, c1, c2, f1, f2]
  · refine ⟨_, K1, rfl, ⟨_, rfl, _, rfl, ?_⟩, ?_, ?_, ?_⟩
    · repeat refine Ow.setFar ?_ (fun hm => by have := g1 _ hm; simp at this <;> omega) _
      exact o1
    · exact n1
    · intro b hb
      have := g1 b hb; omega
    · repeat refine Below.setCell ?_ (by simp <;> omega) _
      exact hB
set_option maxHeartbeats 1600000 in
theorem eqSendWindow_c (va vb : Value) (x : SendWindow) (Fa Fb : List Nat) (w : World) (ha : IsV ESendWindow w va x Fa) (hb : IsV ESendWindow w vb x Fb) :
    Calls Tryd.prog 162 #[va, vb] w fun e w' => e = .returned (.bool true) ∧ Below w.heap.size w w' := by
  obtain ⟨_, rfl, v1, rfl, h1⟩ := ha
  obtain ⟨_, rfl, u1, rfl, k1⟩ := hb
  have hB0 : ∀ A B : Obj, Below w.heap.size w ((w.alloc A).alloc B) := fun A B => ((Below.refl _ _).alloc (Nat.le_refl _) _).alloc (by simp) _
  have hE : ∀ z : Int, (z != z) = false := fun z => by simp
  go_enter Tryd.func162, Tryd.ntmps162
  go_wp2_with fail
  refine (eqStringS_c _ _ x.items _ _ _ (h1.below (by decide) (hB0 _ _)) (k1.below (by decide) (hB0 _ _))).mono ?_
  rintro e w1 ⟨rfl, hb1⟩
  have r0 := Row.below (g := w.heap.size) (t := 26) (cs := [.int .i64 x.trail, .int .i64 x.size, v1]) (by simp [row_alloc] <;> omega) hb1
  have r1 := Row.below (g := w.heap.size + 1) (t := 26) (cs := [.int .i64 x.trail, .int .i64 x.size, u1]) (by simp [row_alloc] <;> omega) hb1
  have hB := tr (hB0 _ _) hb1 (Nat.le_refl _)
  clear hb1
  have c0 := r0.cells; have c1 := r1.cells
  go_wp2_with fail
  go_ret
  exact ⟨rfl, hB⟩
set_option maxHeartbeats 1600000 in
theorem markSendWindow_c (v : Value) (x : SendWindow) (F : List Nat) (k0 : Int) (w : World) (h : IsV OSendWindow w v x F) (hn : F.Nodup) (p0 : 0 ≤ k0) (p1 : k0 + cvSendWindow x ≤ 1099511627776) :
    Calls Tryd.prog 165 #[v, .int .i64 k0] w (RetMarkV OSendWindow v (k0 + cvSendWindow x) (mvSendWindow k0 x) F w) := by
  have hlt : ∀ b ∈ F, b < w.heap.size := by obtain ⟨cs, -, hx⟩ := h; exact OSendWindow.lt hx
  obtain ⟨_, rfl, v1, rfl, h1⟩ := h
  unfold cvSendWindow at p1 ⊢
  have hB0 : ∀ A : Obj, Below w.heap.size w (w.alloc A) := fun A => (Below.refl _ _).alloc (Nat.le_refl _) _
  have hw : w.heap.size ∉ F := fun e => by have := hlt _ e; omega
  have nF1 := hn
  have w1_ := hw
  go_enter Tryd.func165, Tryd.ntmps165
  go_wp2_with fail
  refine (markStringS_c _ x.items _ (k0) _ (h1.below (hB0 _)) nF1 (by omega) (by omega)).mono ?_
  rintro e w1 ⟨rfl, o1, kp1⟩
  have r0 := Row.keepK (g := w.heap.size) (t := 26) (cs := [.int .i64 x.trail, .int .i64 x.size, v1]) (by simp [row_alloc]) kp1 w1_
  have KK : Keep F w w1 := (Keep.ofBelow (hB0 _)).trans (kp1.mono (fun b hb _ => hb))
  clear kp1
  have c0 := r0.cells
  go_wp2_with fail
  go_ret
  exact ⟨ret_int (by omega), ⟨_, rfl, _, rfl, o1⟩, KK⟩
set_option maxHeartbeats 1600000 in
theorem heldSendWindow_c (v : Value) (x : SendWindow) (F : List Nat) (k0 : Int) (w : World) (h : IsV ESendWindow w v (mvSendWindow k0 x) F) (p0 : 0 ≤ k0) (p1 : k0 + cvSendWindow x ≤ 1099511627776) :
    Calls Tryd.prog 168 #[v, .int .i64 k0] w fun e w' => e = .returned (.int .i64 (k0 + cvSendWindow x)) ∧ Below w.heap.size w w' := by
  obtain ⟨_, rfl, v1, rfl, h1⟩ := h
  unfold cvSendWindow at p1 ⊢
  have hB0 : ∀ A : Obj, Below w.heap.size w (w.alloc A) := fun A => (Below.refl _ _).alloc (Nat.le_refl _) _
  go_enter Tryd.func168, Tryd.ntmps168
  go_wp2_with fail
  refine (heldStringS_c _ x.items _ (k0) _ (h1.below (by decide) (hB0 _)) (by omega) (by omega)).mono ?_
  rintro e w1 ⟨rfl, hb1⟩
  have r0 := Row.below (g := w.heap.size) (t := 26) (cs := [.int .i64 x.trail, .int .i64 x.size, v1]) (by simp [row_alloc, mvSendWindow]) hb1
  have hB := tr (hB0 _) hb1 (Nat.le_refl _)
  clear hb1
  have c0 := r0.cells
  go_wp2_with fail
  go_ret
  exact ⟨ret_int (by omega), hB⟩
end Go.Proofs.YtidephmobajikaaDoor
