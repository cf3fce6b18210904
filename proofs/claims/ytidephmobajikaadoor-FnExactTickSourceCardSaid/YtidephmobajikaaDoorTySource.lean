/- The type Source of the exact laws: how it reads, how it is owned; the walks of its size, copy, equality, mark and held. Written by wip/gentypes.py. -/
import Derived.Test.YtidephmobajikaaDoorTySendWindow
import Derived.Test.YtidephmobajikaaDoorTInt
import Derived.Test.YtidephmobajikaaDoorTyHold
namespace Go.Proofs.YtidephmobajikaaDoor
open Go.RowKit
structure Source where
  window : SendWindow
  clock : Int
  quiet : Int
  holds : List Hold
/-- read -/
def ESource : Elem Source where
  sz := 6
  rep w cs x F := ∃ v1 v2 F1 F2, cs = [.int .i64 x.window.trail, .int .i64 x.window.size, v1, .int .i64 x.clock, .int .i64 x.quiet, v2] ∧ Sl EStr w v1 x.window.items F1 ∧ Sl EHold w v2 x.holds F2 ∧ F = F1 ++ F2
  len h := by obtain ⟨v1, v2, F1, F2, rfl, h1, h2, rfl⟩ := h; rfl
  lt h := by
    obtain ⟨v1, v2, F1, F2, rfl, h1, h2, rfl⟩ := h
    intro b hb
    simp only [List.mem_append] at hb
    rcases hb with hb | hb
    · exact h1.lt (by decide) b hb
    · exact h2.lt (by decide) b hb
  frame h hF := by obtain ⟨v1, v2, F1, F2, rfl, h1, h2, rfl⟩ := h; exact ⟨v1, v2, F1, F2, rfl, h1.frame fun b hb => hF b (by simp [hb]), h2.frame fun b hb => hF b (by simp [hb]), rfl⟩
theorem one_ESource : One ESource := fun h u hu => by
  obtain ⟨v1, v2, F1, F2, rfl, h1, h2, rfl⟩ := h
  simp only [List.mem_cons, List.not_mem_nil, or_false] at hu
  rcases hu with rfl | rfl | rfl | rfl | rfl | rfl
  · rfl
  · rfl
  · exact h1.one
  · rfl
  · rfl
  · exact h2.one
theorem info_Source : (Tryd.prog.info? 100).map (fun i => (i.zero, i.size, i.bytes)) = some (some (.agg #[.int .i64 0, .int .i64 0, .slice none 0 0, .int .i64 0, .int .i64 0, .slice none 0 0]), 6, 80) := by kernel_rfl
/-- owned -/
def OSource : Elem Source where
  sz := 6
  rep w cs x F := ∃ v1 v2 F1 F2, cs = [.int .i64 x.window.trail, .int .i64 x.window.size, v1, .int .i64 x.clock, .int .i64 x.quiet, v2] ∧ Ow EStr 9 w v1 x.window.items F1 ∧ Ow EHold 195 w v2 x.holds F2 ∧ F = F1 ++ F2
  len h := by obtain ⟨v1, v2, F1, F2, rfl, h1, h2, rfl⟩ := h; rfl
  lt h := by
    obtain ⟨v1, v2, F1, F2, rfl, h1, h2, rfl⟩ := h
    intro b hb
    simp only [List.mem_append] at hb
    rcases hb with hb | hb
    · exact h1.lt b hb
    · exact h2.lt b hb
  frame h hF := by obtain ⟨v1, v2, F1, F2, rfl, h1, h2, rfl⟩ := h; exact ⟨v1, v2, F1, F2, rfl, h1.frame fun b hb => hF b (by simp [hb]), h2.frame fun b hb => hF b (by simp [hb]), rfl⟩
theorem one_OSource : One OSource := fun h u hu => by
  obtain ⟨v1, v2, F1, F2, rfl, h1, h2, rfl⟩ := h
  simp only [List.mem_cons, List.not_mem_nil, or_false] at hu
  rcases hu with rfl | rfl | rfl | rfl | rfl | rfl
  · rfl
  · rfl
  · exact h1.one
  · rfl
  · rfl
  · exact h2.one
theorem weak_Source : Weak OSource ESource := ⟨rfl, fun h => by
  obtain ⟨v1, v2, F1, F2, rfl, h1, h2, rfl⟩ := h
  obtain ⟨G1, g1, k1⟩ := h1.sl (Weak.refl _)
  obtain ⟨G2, g2, k2⟩ := h2.sl (Weak.refl _)
  refine ⟨G1 ++ G2, ?_, v1, v2, G1, G2, rfl, k1, k2, rfl⟩
  intro b hb
  simp only [List.mem_append] at hb ⊢
  rcases hb with hb | hb
  · simp [g1 b hb]
  · simp [g2 b hb]⟩
def wtSource (x : Source) : Nat := wtSendWindow x.window + wtL (fun _ => 0) x.holds
def cntSource (x : Source) : Nat := cntI x.window.trail + cntI x.window.size + (cntL cntS) x.window.items + cntI x.clock + cntI x.quiet + (cntL cntHold) x.holds
def mkSource (k : Int) (x : Source) : Source := ⟨⟨mkI (k) x.window.trail, mkI (k + cntI x.window.trail) x.window.size, (markL mkS cntS) (k + cntI x.window.trail + cntI x.window.size) x.window.items⟩, mkI (k + cntI x.window.trail + cntI x.window.size + (cntL cntS) x.window.items) x.clock, mkI (k + cntI x.window.trail + cntI x.window.size + (cntL cntS) x.window.items + cntI x.clock) x.quiet, (markL mkHold cntHold) (k + cntI x.window.trail + cntI x.window.size + (cntL cntS) x.window.items + cntI x.clock + cntI x.quiet) x.holds⟩
/-- the marks of a value: its slices alone -/
def cvSource (x : Source) : Nat := cvSendWindow x.window + (cntL cntHold) x.holds
def mvSource (k : Int) (x : Source) : Source := ⟨mvSendWindow (k) x.window, x.clock, x.quiet, (markL mkHold cntHold) (k + cvSendWindow x.window) x.holds⟩
theorem cntSource_wt (x : Source) : cntSource x ≤ 4 * (1 + wtSource x) := by
  have h0 := cntL_wt cntS ByteArray.size 1 (fun x => by simp [cntS]) x.window.items
  have h1 := cntL_wt cntHold (fun _ => 0) 2 cntHold_wt x.holds
  simp only [cntSource, wtSource, wtSendWindow, cntI, cntB, cntS]
  omega
theorem cvSource_wt (x : Source) (h : wtSource x ≤ 1048576) : cvSource x ≤ 4294967296 := by
  have h0 := cntL_wt cntS ByteArray.size 1 (fun x => by simp [cntS]) x.window.items
  have h1 := cntL_wt cntHold (fun _ => 0) 2 cntHold_wt x.holds
  simp only [wtSource, wtSendWindow, cvSource, cvSendWindow] at h ⊢
  omega
theorem cntSourceS_wt (xs : List Source) (h : wtL wtSource xs ≤ 1048576) : cntL cntSource xs ≤ 4294967296 := by
  have := cntL_wt cntSource wtSource 4 cntSource_wt xs; omega
set_option maxHeartbeats 800000 in
theorem szSource_c (v : Value) (x : Source) (F : List Nat) (n : Int) (w : World) (h : IsV ESource w v x F) (h0 : 0 ≤ n) (h1 : n ≤ 1048576) :
    Calls Tryd.prog 71 #[v, .int .i64 n] w fun e w' => e = .returned (.int .i64 (szr n (wtSource x))) ∧ Below w.heap.size w w' := by
  obtain ⟨_, rfl, v1, v2, F1, F2, rfl, h1, h2, rfl⟩ := h
  have hB0 : ∀ A : Obj, Below w.heap.size w (w.alloc A) := fun A => (Below.refl _ _).alloc (Nat.le_refl _) _
  unfold wtSource
  go_enter Tryd.func71, Tryd.ntmps71
  go_wp2_with fail
  refine (szSendWindow_c _ x.window _ _ _ ⟨_, rfl, _, rfl, h1.below (by decide) (hB0 _)⟩ (by omega) (by omega)).mono ?_
  rintro e w1 ⟨rfl, hb1⟩
  have r0 := Row.below (g := w.heap.size) (t := 96) (cs := [.int .i64 x.window.trail, .int .i64 x.window.size, v1, .int .i64 x.clock, .int .i64 x.quiet, v2]) (by simp [row_alloc]) hb1
  have hB := tr (hB0 _) hb1 (Nat.le_refl _)
  have c0 := r0.cells
  clear hb1
  rcases szr_or (n) (wtSendWindow x.window) with ⟨e1, l1⟩ | ⟨e1, l1⟩
  · simp only [e1]
    have z1 := Lib.hid e1; clear e1
    go_wp2_with fail
    go_ret
    exact ⟨ret_int (szr_no (by omega)).symm, hB⟩
  simp only [e1]
  have z1 := Lib.hid e1; clear e1
  go_wp2_with fail
  refine (szHoldS_c _ x.holds _ _ _ (h2.below (by decide) hB) (by omega) (by omega)).mono ?_
  rintro e w2 ⟨rfl, hb2⟩
  have r0 := r0.below hb2
  have hB := tr hB hb2 (Nat.le_refl _)
  have c0 := r0.cells
  clear hb2
  rcases szr_or (n - (wtSendWindow x.window : Nat)) (wtL (fun _ => 0) x.holds) with ⟨e2, l2⟩ | ⟨e2, l2⟩
  · simp only [e2]
    have z2 := Lib.hid e2; clear e2
    go_wp2_with fail
    go_ret
    exact ⟨ret_int (szr_no (by omega)).symm, hB⟩
  simp only [e2]
  have z2 := Lib.hid e2; clear e2
  go_wp2_with fail
  go_ret
  exact ⟨ret_int (by rw [szr_yes (by omega)]; all_goals omega), hB⟩
set_option maxHeartbeats 1600000 in
theorem toSource_c (v : Value) (x : Source) (F : List Nat) (w : World) (h : IsV ESource w v x F) (hl : wtSource x ≤ 1048576) :
    Calls Tryd.prog 73 #[v] w (RetV OSource x w) := by
  obtain ⟨_, rfl, v1, v2, F1, F2, rfl, h1, h2, rfl⟩ := h
  unfold wtSource at hl
  have hB0 : ∀ A B C : Obj, Below w.heap.size w (((w.alloc A).alloc B).alloc C) := fun A B C => (((Below.refl _ _).alloc (Nat.le_refl _) _).alloc (by simp) _).alloc (by simp <;> omega) _
  go_enter Tryd.func73, Tryd.ntmps73
  go_wp2_with fail
  refine (toSendWindow_c _ x.window _ _ ⟨_, rfl, _, rfl, h1.below (by decide) (hB0 _ _ _)⟩ (by omega)).mono ?_
  rintro e w1 ⟨_, K1, rfl, ⟨_, rfl, y1_1, rfl, o1_1⟩, n1, g1, hb1⟩
  obtain ⟨d1_1, p1_1, rfl⟩ := o1_1.slice
  have l1 : ∀ b ∈ K1, b < w1.heap.size := o1_1.lt
  have r0 := Row.below (g := w.heap.size) (t := 96) (cs := [.int .i64 x.window.trail, .int .i64 x.window.size, v1, .int .i64 x.clock, .int .i64 x.quiet, v2]) (by simp [row_alloc] <;> omega) hb1
  have r1 := Row.below (g := w.heap.size + 1) (t := 100) (cs := [.int .i64 0, .int .i64 0, .slice none 0 0, .int .i64 0, .int .i64 0, .slice none 0 0]) (by simp [row_alloc] <;> omega) hb1
  have r2 := Row.below (g := w.heap.size + 1 + 1) (t := 100) (cs := [.int .i64 0, .int .i64 0, .slice none 0 0, .int .i64 0, .int .i64 0, .slice none 0 0]) (by simp [row_alloc] <;> omega) hb1
  have hB := tr (hB0 _ _ _) hb1 (Nat.le_refl _)
  have hs1 := hb1.size
  simp only [World.size_alloc] at hs1 g1
  clear hb1
  have c0 := r0.cells; have c1 := r1.cells; have c2 := r2.cells; have f1 := r1.frozens; have f2 := r2.frozens
  have o1_1_ := Lib.hid o1_1
  go_wp2_with fail
  refine (toHoldS_c _ x.holds _ _ (h2.below (by decide) (by (repeat (refine Below.setCell ?_ (by simp <;> omega) _)); exact hB)) (by omega)).mono ?_
  rintro e w2 ⟨y2, K2, rfl, o2, n2, g2, hb2⟩
  obtain ⟨d2, p2, rfl⟩ := o2.slice
  have l2 : ∀ b ∈ K2, b < w2.heap.size := o2.lt
  have r0 := Row.below (g := w.heap.size) (t := 96) (cs := [.int .i64 x.window.trail, .int .i64 x.window.size, v1, .int .i64 x.clock, .int .i64 x.quiet, v2]) (by (repeat (refine Row.setOther ?_ (by simp <;> omega) _)); exact r0) hb2
  have r1 := Row.below (g := w.heap.size + 1) (t := 100) (cs := [.int .i64 0, .int .i64 0, .slice none 0 0, .int .i64 0, .int .i64 0, .slice none 0 0]) (by (repeat (refine Row.setOther ?_ (by simp <;> omega) _)); exact r1) hb2
  have r2 := Row.below (g := w.heap.size + 1 + 1) (t := 100) (cs := [.int .i64 x.window.trail, .int .i64 x.window.size, .slice d1_1 x.window.items.length p1_1, .int .i64 x.clock, .int .i64 x.quiet, .slice none 0 0]) (by exact (Row.set (Row.set (Row.set (Row.set (Row.set r2 0 (.int .i64 x.window.trail)) 1 (.int .i64 x.window.size)) 2 (.slice d1_1 x.window.items.length p1_1)) 3 (.int .i64 x.clock)) 4 (.int .i64 x.quiet))) hb2
  have o1_1 := Ow.below (E := EStr) (t := 9) (v := .slice d1_1 x.window.items.length p1_1) (xs := x.window.items) (F := K1) (by (repeat (refine Ow.setFar ?_ (fun hm => by have := g1 _ hm; simp at this <;> omega) _)); exact o1_1) hb2
  have hB := tr (B := w.heap.size) (w := w) (by (repeat (refine Below.setCell ?_ (by simp <;> omega) _)); exact hB) hb2 (Nat.le_refl _)
  have hs2 := hb2.size
  simp only [World.size_setCell] at hs2 g2
  clear hb2
  have c0 := r0.cells; have c1 := r1.cells; have c2 := r2.cells; have f1 := r1.frozens; have f2 := r2.frozens
  have o2_ := Lib.hid o2
  go_wp2_with fail
  refine bodyPost_ret (v := .agg #[.int .i64 x.window.trail, .int .i64 x.window.size, .slice d1_1 x.window.items.length p1_1, .int .i64 x.clock, .int .i64 x.quiet, .slice d2 x.holds.length p2]) ?_ rfl ?_
  · simp [results, Tryd.results73, go_sem, c0, c1, c2, f1, f2]
  · refine ⟨_, K1 ++ K2, rfl, ⟨_, rfl, _, _, K1, K2, rfl, ?_, ?_, rfl⟩, ?_, ?_, ?_⟩
    · repeat refine Ow.setFar ?_ (fun hm => by have := g1 _ hm; simp at this <;> omega) _
      exact o1_1
    · repeat refine Ow.setFar ?_ (fun hm => by have := g2 _ hm; simp at this <;> omega) _
      exact o2
    · simpa only [List.append_assoc] using (nodup_up n1 n2 (fun b hb => by have := l1 b hb; omega) g2)
    · intro b hb
      simp only [List.mem_append] at hb
      rcases hb with hb | hb
      · have := g1 b hb; omega
      · have := g2 b hb; omega
    · repeat refine Below.setCell ?_ (by simp <;> omega) _
      exact hB
set_option maxHeartbeats 1600000 in
theorem eqSource_c (va vb : Value) (x : Source) (Fa Fb : List Nat) (w : World) (ha : IsV ESource w va x Fa) (hb : IsV ESource w vb x Fb) :
    Calls Tryd.prog 75 #[va, vb] w fun e w' => e = .returned (.bool true) ∧ Below w.heap.size w w' := by
  obtain ⟨_, rfl, v1, v2, F1, F2, rfl, h1, h2, rfl⟩ := ha
  obtain ⟨_, rfl, u1, u2, G1, G2, rfl, k1, k2, rfl⟩ := hb
  have hB0 : ∀ A B : Obj, Below w.heap.size w ((w.alloc A).alloc B) := fun A B => ((Below.refl _ _).alloc (Nat.le_refl _) _).alloc (by simp) _
  have hE : ∀ z : Int, (z != z) = false := fun z => by simp
  go_enter Tryd.func75, Tryd.ntmps75
  go_wp2_with fail
  refine (eqSendWindow_c _ _ x.window _ _ _ ⟨_, rfl, _, rfl, h1.below (by decide) (hB0 _ _)⟩ ⟨_, rfl, _, rfl, k1.below (by decide) (hB0 _ _)⟩).mono ?_
  rintro e w1 ⟨rfl, hb1⟩
  have r0 := Row.below (g := w.heap.size) (t := 100) (cs := [.int .i64 x.window.trail, .int .i64 x.window.size, v1, .int .i64 x.clock, .int .i64 x.quiet, v2]) (by simp [row_alloc] <;> omega) hb1
  have r1 := Row.below (g := w.heap.size + 1) (t := 100) (cs := [.int .i64 x.window.trail, .int .i64 x.window.size, u1, .int .i64 x.clock, .int .i64 x.quiet, u2]) (by simp [row_alloc] <;> omega) hb1
  have hB := tr (hB0 _ _) hb1 (Nat.le_refl _)
  clear hb1
  have c0 := r0.cells; have c1 := r1.cells
  go_wp2_with fail
  refine (eqHoldS_c _ _ x.holds _ _ _ (h2.below (by decide) hB) (k2.below (by decide) hB)).mono ?_
  rintro e w2 ⟨rfl, hb2⟩
  have r0 := r0.below hb2; have r1 := r1.below hb2; have hB := tr hB hb2 (Nat.le_refl _)
  clear hb2
  have c0 := r0.cells; have c1 := r1.cells
  go_wp2_with fail
  go_ret
  exact ⟨rfl, hB⟩
set_option maxHeartbeats 1600000 in
theorem markSource_c (v : Value) (x : Source) (F : List Nat) (k0 : Int) (w : World) (h : IsV OSource w v x F) (hn : F.Nodup) (p0 : 0 ≤ k0) (p1 : k0 + cvSource x ≤ 1099511627776) :
    Calls Tryd.prog 77 #[v, .int .i64 k0] w (RetMarkV OSource v (k0 + cvSource x) (mvSource k0 x) F w) := by
  have hlt : ∀ b ∈ F, b < w.heap.size := by obtain ⟨cs, -, hx⟩ := h; exact OSource.lt hx
  obtain ⟨_, rfl, v1, v2, F1, F2, rfl, h1, h2, rfl⟩ := h
  unfold cvSource at p1 ⊢
  have hB0 : ∀ A : Obj, Below w.heap.size w (w.alloc A) := fun A => (Below.refl _ _).alloc (Nat.le_refl _) _
  have hw : w.heap.size ∉ F1 ++ F2 := fun e => by have := hlt _ e; omega
  obtain ⟨nF1, nF2, dF2⟩ := nodup_apart hn
  have w1_ : w.heap.size ∉ F1 := fun e => hw (by simp [e])
  have w2_ : w.heap.size ∉ F2 := fun e => hw (by simp [e])
  go_enter Tryd.func77, Tryd.ntmps77
  go_wp2_with fail
  refine (markSendWindow_c _ x.window F1 (k0) _ ⟨_, rfl, _, rfl, h1.below (hB0 _)⟩ nF1 (by omega) (by omega)).mono ?_
  rintro e w1 ⟨rfl, ⟨cs_, hcs_, hx_⟩, kp1⟩
  obtain ⟨q1_, rfl, o1⟩ := hx_
  obtain rfl : v1 = q1_ := by have := congrArg Value.cells hcs_; simp [Value.cells] at this; first | exact this | exact this.1 | exact this.2 | exact this.2.1 | exact this.2.2
  have r0 := Row.keepK (g := w.heap.size) (t := 100) (cs := [.int .i64 x.window.trail, .int .i64 x.window.size, v1, .int .i64 x.clock, .int .i64 x.quiet, v2]) (by simp [row_alloc]) kp1 w1_
  have h2 := Ow.keep (h2.below (hB0 _)) kp1 (fun b hb hc => dF2 b (by simp [hc]) hb)
  have KK : Keep (F1 ++ F2) w w1 := (Keep.ofBelow (hB0 _)).trans (kp1.mono (fun b hb _ => by simp [hb]))
  clear kp1
  have c0 := r0.cells
  go_wp2_with fail
  refine (markHoldS_c _ x.holds _ (k0 + cvSendWindow x.window) _ h2 nF2 (by omega) (by omega)).mono ?_
  rintro e w2 ⟨rfl, o2, kp2⟩
  have r0 := r0.keepK kp2 w2_
  have o1 := Ow.keep o1 kp2 (fun b hb => dF2 b (by simp [hb]))
  have KK := KK.trans (kp2.mono (fun b hb _ => by simp [hb]))
  clear kp2
  have c0 := r0.cells
  go_wp2_with fail
  go_ret
  exact ⟨ret_int (by omega), ⟨_, rfl, _, _, F1, F2, rfl, o1, o2, rfl⟩, KK⟩
set_option maxHeartbeats 1600000 in
theorem heldSource_c (v : Value) (x : Source) (F : List Nat) (k0 : Int) (w : World) (h : IsV ESource w v (mvSource k0 x) F) (p0 : 0 ≤ k0) (p1 : k0 + cvSource x ≤ 1099511627776) :
    Calls Tryd.prog 79 #[v, .int .i64 k0] w fun e w' => e = .returned (.int .i64 (k0 + cvSource x)) ∧ Below w.heap.size w w' := by
  obtain ⟨_, rfl, v1, v2, F1, F2, rfl, h1, h2, rfl⟩ := h
  unfold cvSource at p1 ⊢
  have hB0 : ∀ A : Obj, Below w.heap.size w (w.alloc A) := fun A => (Below.refl _ _).alloc (Nat.le_refl _) _
  go_enter Tryd.func79, Tryd.ntmps79
  go_wp2_with fail
  refine (heldSendWindow_c _ x.window _ (k0) _ ⟨_, rfl, _, rfl, h1.below (by decide) (hB0 _)⟩ (by omega) (by omega)).mono ?_
  rintro e w1 ⟨rfl, hb1⟩
  have r0 := Row.below (g := w.heap.size) (t := 100) (cs := [.int .i64 x.window.trail, .int .i64 x.window.size, v1, .int .i64 x.clock, .int .i64 x.quiet, v2]) (by simp [row_alloc, mvSource, mvSendWindow]) hb1
  have hB := tr (hB0 _) hb1 (Nat.le_refl _)
  clear hb1
  have c0 := r0.cells
  go_wp2_with fail
  refine (heldHoldS_c _ x.holds _ (k0 + cvSendWindow x.window) _ (h2.below (by decide) hB) (by omega) (by omega)).mono ?_
  rintro e w2 ⟨rfl, hb2⟩
  have r0 := r0.below hb2; have hB := tr hB hb2 (Nat.le_refl _)
  clear hb2
  have c0 := r0.cells
  go_wp2_with fail
  go_ret
  exact ⟨ret_int (by omega), hB⟩
end Go.Proofs.YtidephmobajikaaDoor
