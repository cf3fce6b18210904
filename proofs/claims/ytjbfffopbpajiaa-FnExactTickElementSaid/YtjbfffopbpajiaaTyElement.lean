/- The type Element of the exact laws: how it reads, how it is owned; the walks of its size, copy, equality, mark and held. Written by wip/gentypes.py. -/
import Derived.Test.YtjbfffopbpajiaaTInt
import Derived.Test.YtjbfffopbpajiaaTyEntry
namespace Go.Proofs.Ytjbfffopbpajiaa
open Go.RowKit
structure Element where
  clock : Int
  entries : List Entry
/-- read -/
def EElement : Elem Element where
  sz := 2
  rep w cs x F := ∃ v1, cs = [.int .i64 x.clock, v1] ∧ Sl EEntry w v1 x.entries F
  len h := by obtain ⟨v1, rfl, h1⟩ := h; rfl
  lt h := by obtain ⟨v1, rfl, h1⟩ := h; exact h1.lt (by decide)
  frame h hF := by obtain ⟨v1, rfl, h1⟩ := h; exact ⟨v1, rfl, h1.frame hF⟩
theorem one_EElement : One EElement := fun h u hu => by
  obtain ⟨v1, rfl, h1⟩ := h
  simp only [List.mem_cons, List.not_mem_nil, or_false] at hu
  rcases hu with rfl | rfl
  · rfl
  · exact h1.one
theorem info_Element : (Try.prog.info? 35).map (fun i => (i.zero, i.size, i.bytes)) = some (some (.agg #[.int .i64 0, .slice none 0 0]), 2, 32) := by kernel_rfl
/-- owned -/
def OElement : Elem Element where
  sz := 2
  rep w cs x F := ∃ v1, cs = [.int .i64 x.clock, v1] ∧ Ow OEntry 70 w v1 x.entries F
  len h := by obtain ⟨v1, rfl, h1⟩ := h; rfl
  lt h := by obtain ⟨v1, rfl, h1⟩ := h; exact h1.lt
  frame h hF := by obtain ⟨v1, rfl, h1⟩ := h; exact ⟨v1, rfl, h1.frame hF⟩
theorem one_OElement : One OElement := fun h u hu => by
  obtain ⟨v1, rfl, h1⟩ := h
  simp only [List.mem_cons, List.not_mem_nil, or_false] at hu
  rcases hu with rfl | rfl
  · rfl
  · exact h1.one
theorem weak_Element : Weak OElement EElement := ⟨rfl, fun h => by
  obtain ⟨v1, rfl, h1⟩ := h
  obtain ⟨G1, g1, k1⟩ := h1.sl weak_Entry
  exact ⟨G1, g1, v1, rfl, k1⟩⟩
def wtElement (x : Element) : Nat := wtL wtEntry x.entries
def cntElement (x : Element) : Nat := cntI x.clock + (cntL cntEntry) x.entries
def mkElement (k : Int) (x : Element) : Element := ⟨mkI (k) x.clock, (markL mkEntry cntEntry) (k + cntI x.clock) x.entries⟩
/-- the marks of a value: its slices alone -/
def cvElement (x : Element) : Nat := (cntL cntEntry) x.entries
def mvElement (k : Int) (x : Element) : Element := ⟨x.clock, (markL mkEntry cntEntry) (k) x.entries⟩
set_option maxHeartbeats 800000 in
theorem szElement_c (v : Value) (x : Element) (F : List Nat) (n : Int) (w : World) (h : IsV EElement w v x F) (h0 : 0 ≤ n) (h1 : n ≤ 1048576) :
    Calls Try.prog 10 #[v, .int .i64 n] w fun e w' => e = .returned (.int .i64 (szr n (wtElement x))) ∧ Below w.heap.size w w' := by
  obtain ⟨_, rfl, v1, rfl, h1⟩ := h
  have hB0 : ∀ A : Obj, Below w.heap.size w (w.alloc A) := fun A => (Below.refl _ _).alloc (Nat.le_refl _) _
  unfold wtElement
  go_enter Try.func10, Try.ntmps10
  go_wp2_with fail
  refine (szEntryS_c _ x.entries _ _ _ (h1.below (by decide) (hB0 _)) (by omega) (by omega)).mono ?_
  rintro e w1 ⟨rfl, hb1⟩
  have r0 := Row.below (g := w.heap.size) (t := 31) (cs := [.int .i64 x.clock, v1]) (by simp [row_alloc]) hb1
  have hB := tr (hB0 _) hb1 (Nat.le_refl _)
  have c0 := r0.cells
  clear hb1
  rcases szr_or (n) (wtL wtEntry x.entries) with ⟨e1, l1⟩ | ⟨e1, l1⟩
  · simp only [e1]
    have z1 := Lib.hid e1; clear e1
    go_wp2_with fail
    go_ret
    exact ⟨ret_int (szr_no (by omega)).symm, hB⟩
  simp only [e1]
  have z1 := Lib.hid e1; clear e1
  go_wp2_with fail
  go_ret
  exact ⟨ret_int (by rw [szr_yes (by omega)]; all_goals omega), hB⟩
set_option maxHeartbeats 1600000 in
theorem toElement_c (v : Value) (x : Element) (F : List Nat) (w : World) (h : IsV EElement w v x F) (hl : wtElement x ≤ 1048576) :
    Calls Try.prog 12 #[v] w (RetV OElement x w) := by
  obtain ⟨_, rfl, v1, rfl, h1⟩ := h
  unfold wtElement at hl
  have hB0 : ∀ A B C : Obj, Below w.heap.size w (((w.alloc A).alloc B).alloc C) := fun A B C => (((Below.refl _ _).alloc (Nat.le_refl _) _).alloc (by simp) _).alloc (by simp <;> omega) _
  go_enter Try.func12, Try.ntmps12
  go_wp2_with fail
  refine (toEntryS_c _ x.entries _ _ (h1.below (by decide) (hB0 _ _ _)) (by omega)).mono ?_
  rintro e w1 ⟨y1, K1, rfl, o1, n1, g1, hb1⟩
  obtain ⟨d1, p1, rfl⟩ := o1.slice
  have r0 := Row.below (g := w.heap.size) (t := 31) (cs := [.int .i64 x.clock, v1]) (by simp [row_alloc] <;> omega) hb1
  have r1 := Row.below (g := w.heap.size + 1) (t := 35) (cs := [.int .i64 0, .slice none 0 0]) (by simp [row_alloc] <;> omega) hb1
  have r2 := Row.below (g := w.heap.size + 1 + 1) (t := 35) (cs := [.int .i64 x.clock, .slice none 0 0]) (by simp [row_alloc] <;> omega) hb1
  have hB := tr (hB0 _ _ _) hb1 (Nat.le_refl _)
  have hs1 := hb1.size
  simp only [World.size_alloc] at hs1 g1
  clear hb1
  have c0 := r0.cells; have c1 := r1.cells; have c2 := r2.cells; have f1 := r1.frozens; have f2 := r2.frozens
  have o1_ := Lib.hid o1
  go_wp2_with fail
  refine bodyPost_ret (v := .agg #[.int .i64 x.clock, .slice d1 x.entries.length p1]) ?_ rfl ?_
  · simp [results, Try.results12, go_sem, c0, c1, c2, f1, f2]
  · refine ⟨_, K1, rfl, ⟨_, rfl, _, rfl, ?_⟩, ?_, ?_, ?_⟩
    · repeat refine Ow.setFar ?_ (fun hm => by have := g1 _ hm; simp at this <;> omega) _
      exact o1
    · exact n1
    · intro b hb
      have := g1 b hb; omega
    · repeat refine Below.setCell ?_ (by simp <;> omega) _
      exact hB
set_option maxHeartbeats 1600000 in
theorem eqElement_c (va vb : Value) (x : Element) (Fa Fb : List Nat) (w : World) (ha : IsV EElement w va x Fa) (hb : IsV EElement w vb x Fb) :
    Calls Try.prog 14 #[va, vb] w fun e w' => e = .returned (.bool true) ∧ Below w.heap.size w w' := by
  obtain ⟨_, rfl, v1, rfl, h1⟩ := ha
  obtain ⟨_, rfl, u1, rfl, k1⟩ := hb
  have hB0 : ∀ A B : Obj, Below w.heap.size w ((w.alloc A).alloc B) := fun A B => ((Below.refl _ _).alloc (Nat.le_refl _) _).alloc (by simp) _
  have hE : ∀ z : Int, (z != z) = false := fun z => by simp
  go_enter Try.func14, Try.ntmps14
  go_wp2_with fail
  refine (eqEntryS_c _ _ x.entries _ _ _ (h1.below (by decide) (hB0 _ _)) (k1.below (by decide) (hB0 _ _))).mono ?_
  rintro e w1 ⟨rfl, hb1⟩
  have r0 := Row.below (g := w.heap.size) (t := 35) (cs := [.int .i64 x.clock, v1]) (by simp [row_alloc] <;> omega) hb1
  have r1 := Row.below (g := w.heap.size + 1) (t := 35) (cs := [.int .i64 x.clock, u1]) (by simp [row_alloc] <;> omega) hb1
  have hB := tr (hB0 _ _) hb1 (Nat.le_refl _)
  clear hb1
  have c0 := r0.cells; have c1 := r1.cells
  go_wp2_with fail
  go_ret
  exact ⟨rfl, hB⟩
set_option maxHeartbeats 1600000 in
theorem markElement_c (v : Value) (x : Element) (F : List Nat) (k0 : Int) (w : World) (h : IsV OElement w v x F) (hn : F.Nodup) (p0 : 0 ≤ k0) (p1 : k0 + cvElement x ≤ 1099511627776) :
    Calls Try.prog 15 #[v, .int .i64 k0] w (RetMarkV OElement v (k0 + cvElement x) (mvElement k0 x) F w) := by
  have hlt : ∀ b ∈ F, b < w.heap.size := by obtain ⟨cs, -, hx⟩ := h; exact OElement.lt hx
  obtain ⟨_, rfl, v1, rfl, h1⟩ := h
  unfold cvElement at p1 ⊢
  have hB0 : ∀ A : Obj, Below w.heap.size w (w.alloc A) := fun A => (Below.refl _ _).alloc (Nat.le_refl _) _
  have hw : w.heap.size ∉ F := fun e => by have := hlt _ e; omega
  have nF1 := hn
  have w1_ := hw
  go_enter Try.func15, Try.ntmps15
  go_wp2_with fail
  refine (markEntryS_c _ x.entries _ (k0) _ (h1.below (hB0 _)) nF1 (by omega) (by omega)).mono ?_
  rintro e w1 ⟨rfl, o1, kp1⟩
  have r0 := Row.keepK (g := w.heap.size) (t := 35) (cs := [.int .i64 x.clock, v1]) (by simp [row_alloc]) kp1 w1_
  have KK : Keep F w w1 := (Keep.ofBelow (hB0 _)).trans (kp1.mono (fun b hb _ => hb))
  clear kp1
  have c0 := r0.cells
  go_wp2_with fail
  go_ret
  exact ⟨ret_int (by omega), ⟨_, rfl, _, rfl, o1⟩, KK⟩
set_option maxHeartbeats 1600000 in
theorem heldElement_c (v : Value) (x : Element) (F : List Nat) (k0 : Int) (w : World) (h : IsV EElement w v (mvElement k0 x) F) (p0 : 0 ≤ k0) (p1 : k0 + cvElement x ≤ 1099511627776) :
    Calls Try.prog 16 #[v, .int .i64 k0] w fun e w' => e = .returned (.int .i64 (k0 + cvElement x)) ∧ Below w.heap.size w w' := by
  obtain ⟨_, rfl, v1, rfl, h1⟩ := h
  unfold cvElement at p1 ⊢
  have hB0 : ∀ A : Obj, Below w.heap.size w (w.alloc A) := fun A => (Below.refl _ _).alloc (Nat.le_refl _) _
  go_enter Try.func16, Try.ntmps16
  go_wp2_with fail
  refine (heldEntryS_c _ x.entries _ (k0) _ (h1.below (by decide) (hB0 _)) (by omega) (by omega)).mono ?_
  rintro e w1 ⟨rfl, hb1⟩
  have r0 := Row.below (g := w.heap.size) (t := 35) (cs := [.int .i64 x.clock, v1]) (by simp [row_alloc] <;> rfl) hb1
  have hB := tr (hB0 _) hb1 (Nat.le_refl _)
  clear hb1
  have c0 := r0.cells
  go_wp2_with fail
  go_ret
  exact ⟨ret_int (by omega), hB⟩
end Go.Proofs.Ytjbfffopbpajiaa
