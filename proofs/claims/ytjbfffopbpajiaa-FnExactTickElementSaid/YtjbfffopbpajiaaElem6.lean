/- Walks: TickElement, the program's and the reference's. -/
import Derived.Test.YtjbfffopbpajiaaElem5
namespace Go.Proofs.Ytjbfffopbpajiaa
open Go.RowKit
theorem rising_len {lo hi : Int} {zs : List Int} (h : rising lo hi zs = true) : (zs.length : Int) ≤ hi - lo + 1 ∨ zs = [] := by
  by_cases h0 : zs = []
  · exact .inr h0
  · left
    have key : ∀ i (hi' : i < zs.length), lo + i ≤ zs[i] ∧ zs[i] ≤ hi := by
      intro i
      induction i with
      | zero =>
        intro hi'
        have := allUpTo_get h 0 hi'
        rw [risAt_zero hi'] at this
        simp [btw] at this
        simpa using this
      | succ i ih =>
        intro hi'
        have := allUpTo_get h (i + 1) hi'
        rw [risAt_succ hi'] at this
        have := ih (by omega)
        simp [btw] at *
        omega
    have hp := List.length_pos_iff.2 h0
    have := key (zs.length - 1) (by omega)
    omega
theorem good_room {e : Element} (h : goodElement e = true) : isClk e.clock = true ∧ e.entries.length ≤ 5 ∧ ∀ x ∈ e.entries, x.faces.length ≤ 7 := by
  unfold goodElement at h
  simp only [Bool.and_eq_true, decide_eq_true_eq] at h
  refine ⟨h.1.1, h.1.2, fun x hx => ?_⟩
  obtain ⟨i, hi, rfl⟩ := List.getElem_of_mem hx
  have := allUpTo_get h.2 i hi
  rw [entAt_of hi] at this
  simp [okEntry] at this
  rcases rising_len this.1.2.2.1 with h | h
  · omega
  · rw [h]; simp
def okTick (e : Element) : Bool := goodElement e && !(e.clock == 9999)
def resTick (e : Element) : Element := if okTick e then tickElement e else ⟨0, []⟩
set_option maxHeartbeats 800000 in
theorem specTickElement_c (v : Value) (e : Element) (F : List Nat) (w : World) (h : IsV EElement w v e F) :
    Calls Try.prog 11 #[v] w fun e' w' => ∃ u F', e' = .returned (.tuple #[u, .bool (okTick e)]) ∧ IsV EElement w' u (resTick e) F' ∧ Below w.heap.size w w' := by
  have h0 := h
  obtain ⟨_, rfl, v1, rfl, h1⟩ := h
  obtain ⟨a, cap, rfl⟩ := h1.slice
  have hB0 : ∀ A B : Obj, Below w.heap.size w ((w.alloc A).alloc B) := fun A B => ((Below.refl _ _).alloc (Nat.le_refl _) _).alloc (by simp) _
  go_enter Try.func11, Try.ntmps11
  go_wp2_with fail
  refine (l14Good_c _ e F _ (h0.below (hB0 _ _))).mono ?_
  rintro e' w1 ⟨rfl, hb1⟩
  have r0 := Row.below (g := w.heap.size) (t := 35) (cs := [.int .i64 e.clock, .slice a e.entries.length cap]) (by simp [row_alloc] <;> omega) hb1
  have r1 := Row.below (g := w.heap.size + 1) (t := 35) (cs := [.int .i64 0, .slice none 0 0]) (by simp [row_alloc] <;> omega) hb1
  have hB := tr (hB0 _ _) hb1 (Nat.le_refl _)
  have h2 := h0.below (hB0 (.cells #[.int .i64 e.clock, .slice a e.entries.length cap] 35) (.cells #[.int .i64 0, .slice none 0 0] 35))
  have h2 := h2.below hb1
  have c0 := r0.cells; have c1 := r1.cells; have f1 := r1.frozens
  clear hb1
  cases hg : goodElement e
  · have hr : okTick e = false := by simp [okTick, hg]
    have hs : resTick e = ⟨0, []⟩ := by simp [resTick, hr]
    have hr := Lib.hid hr; have hs := Lib.hid hs
    go_wp2_with fail
    refine bodyPost_ret (v := .tuple #[.agg #[.int .i64 0, .slice none 0 0], .bool false]) ?_ rfl ?_
    · simp [results, Try.results11, go_sem, c0, c1, f1]
    · refine ⟨_, [], by rw [hr.out], by rw [hs.out]; exact ⟨_, rfl, _, rfl, none, 0, rfl, by simp, .inl ⟨rfl, rfl, fun _ => rfl⟩⟩, ?_⟩
      repeat refine Below.setCell ?_ (by simp <;> omega) _
      exact hB
  · obtain ⟨hck, hl5, hf7⟩ := good_room hg
    have hcb := isClk_iff.1 hck
    cases hq : (e.clock == 9999)
    · have hr : okTick e = true := by simp [okTick, hg, hq]
      have hs : resTick e = tickElement e := by simp [resTick, hr]
      have hr := Lib.hid hr; have hs := Lib.hid hs
      go_wp2_with fail
      refine (l14Tick_c _ e F _ h2 hck (by omega) (fun x hx => Nat.le_trans (hf7 x hx) (by decide))).mono ?_
      rintro e' w2 ⟨_, F2, rfl, ⟨_, rfl, v2, rfl, hs2⟩, hF2, hb2⟩
      obtain ⟨a2, p2, rfl⟩ := hs2.slice
      have q1 := r1.below hb2
      have hB2 := tr hB hb2 (Nat.le_refl _)
      have d1 := q1.cells; have g1 := q1.frozens
      clear hb2
      have hsz := r1.lt
      go_wp2_with fail
      refine bodyPost_ret (v := .tuple #[.agg #[.int .i64 (tickElement e).clock, .slice a2 (tickElement e).entries.length p2], .bool true]) ?_ rfl ?_
      · simp [results, Try.results11, go_sem, d1, g1]
      · refine ⟨_, F2, by rw [hr.out], ?_, ?_⟩
        · rw [hs.out]
          refine ⟨_, rfl, _, rfl, hs2.frame fun b hb => ?_⟩
          have h2 := hF2 b hb
          rw [Below.heap_setCell _ _ _ _ (by simp; omega), Below.heap_setCell _ _ _ _ (by simp; omega)]
        · repeat refine Below.setCell ?_ (by simp <;> omega) _
          exact hB2
    · have hr : okTick e = false := by simp [okTick, hg, hq]
      have hs : resTick e = ⟨0, []⟩ := by simp [resTick, hr]
      have hr := Lib.hid hr; have hs := Lib.hid hs
      go_wp2_with fail
      refine bodyPost_ret (v := .tuple #[.agg #[.int .i64 0, .slice none 0 0], .bool false]) ?_ rfl ?_
      · simp [results, Try.results11, go_sem, c0, c1, f1]
      · refine ⟨_, [], by rw [hr.out], by rw [hs.out]; exact ⟨_, rfl, _, rfl, none, 0, rfl, by simp, .inl ⟨rfl, rfl, fun _ => rfl⟩⟩, ?_⟩
        repeat refine Below.setCell ?_ (by simp <;> omega) _
        exact hB
set_option maxHeartbeats 800000 in
theorem TickElement_c (v : Value) (e : Element) (F : List Nat) (w : World) (h : IsV EElement w v e F) :
    Calls Try.prog 13 #[v] w fun e' w' => ∃ u F', e' = .returned (.tuple #[u, .bool (okTick e)]) ∧ IsV OElement w' u (resTick e) F' ∧ F'.Nodup ∧ (∀ b ∈ F', w.heap.size ≤ b) ∧ Below w.heap.size w w' := by
  have h0 := h
  obtain ⟨_, rfl, v1, rfl, h1⟩ := h
  obtain ⟨a, cap, rfl⟩ := h1.slice
  have hB0 : ∀ A B : Obj, Below w.heap.size w ((w.alloc A).alloc B) := fun A B => ((Below.refl _ _).alloc (Nat.le_refl _) _).alloc (by simp) _
  go_enter Try.func13, Try.ntmps13
  go_wp2_with fail
  refine (IsValidElement_c _ e F _ (h0.below (hB0 _ _))).mono ?_
  rintro e' w1 ⟨rfl, hb1⟩
  have r0 := Row.below (g := w.heap.size) (t := 35) (cs := [.int .i64 e.clock, .slice a e.entries.length cap]) (by simp [row_alloc] <;> omega) hb1
  have r1 := Row.below (g := w.heap.size + 1) (t := 35) (cs := [.int .i64 0, .slice none 0 0]) (by simp [row_alloc] <;> omega) hb1
  have hB := tr (hB0 _ _) hb1 (Nat.le_refl _)
  have h2 := h0.below (hB0 (.cells #[.int .i64 e.clock, .slice a e.entries.length cap] 35) (.cells #[.int .i64 0, .slice none 0 0] 35))
  have h2 := h2.below hb1
  have c0 := r0.cells; have c1 := r1.cells; have f1 := r1.frozens
  clear hb1
  cases hg : goodElement e
  · have hr : okTick e = false := by simp [okTick, hg]
    have hs : resTick e = ⟨0, []⟩ := by simp [resTick, hr]
    have hr := Lib.hid hr; have hs := Lib.hid hs
    go_wp2_with fail
    refine bodyPost_ret (v := .tuple #[.agg #[.int .i64 0, .slice none 0 0], .bool false]) ?_ rfl ?_
    · simp [results, Try.results13, go_sem, c0, c1, f1]
    · refine ⟨_, [], by rw [hr.out], by rw [hs.out]; exact ⟨_, rfl, _, rfl, .inl ⟨rfl, rfl, rfl⟩⟩, by simp, by simp, ?_⟩
      repeat refine Below.setCell ?_ (by simp <;> omega) _
      exact hB
  · obtain ⟨hck, hl5, hf7⟩ := good_room hg
    have hcb := isClk_iff.1 hck
    cases hq : (e.clock == 9999)
    · have hr : okTick e = true := by simp [okTick, hg, hq]
      have hs : resTick e = tickElement e := by simp [resTick, hr]
      have hr := Lib.hid hr; have hs := Lib.hid hs
      go_wp2_with fail
      refine (Element_clone_c _ e F _ h2 (by omega) (fun x hx => Nat.le_trans (hf7 x hx) (by decide))).mono ?_
      rintro e' w2 ⟨_, F2, rfl, ⟨_, rfl, v2, rfl, ho2⟩, hn2, hF2, hb2⟩
      obtain ⟨a2, p2, rfl⟩ := ho2.slice
      have q1 := r1.below hb2
      have hB2 := tr hB hb2 (Nat.le_refl _)
      have hsz := r1.lt
      have hF2l := ho2.lt
      have hs2 := hb2.size
      clear hb2
      go_wp2_with fail
      refine (Element_tick_c e w2.heap.size _ F2 _ (Row.made w2 35 [.int .i64 e.clock, .slice a2 e.entries.length p2]) (ho2.below ((Below.refl _ _).alloc (Nat.le_refl _) _)) hn2 (fun hm => Nat.lt_irrefl _ (hF2l _ hm)) hck).mono ?_
      rintro e' w3 ⟨⟨u, rfl⟩, v3, F3, hr3, ho3, hn3, hF3, hk3⟩
      obtain ⟨a3, p3, rfl⟩ := ho3.slice
      have q2 := (q1.alloc _).keepK hk3 (fun hm => by simp at hm; rcases hm with hm | hm; omega; have := hF2 _ hm; omega)
      have hB3 := (hB2.alloc (Nat.le_trans (by have := hB2.size; omega) (Nat.le_refl _)) _).trans (hk3.below (by have := hB2.size; simp; omega) (fun b hb => by simp at hb; rcases hb with hb | hb; (have := hB2.size; omega); (have := hF2 _ hb; have := hB.size; omega)))
      have d1 := q2.cells; have g1 := q2.frozens; have d3 := hr3.cells
      clear hk3
      go_wp2_with fail
      refine bodyPost_ret (v := .tuple #[.agg #[.int .i64 (tickElement e).clock, .slice a3 (tickElement e).entries.length p3], .bool true]) ?_ rfl ?_
      · simp [results, Try.results13, go_sem, d1, g1]
      · refine ⟨_, F3, by rw [hr.out], ?_, hn3, fun b hb => ?_, ?_⟩
        · rw [hs.out]
          refine ⟨_, rfl, _, rfl, ?_⟩
          repeat refine Ow.setFar ?_ (fun hm => by have := hF2 _ (hF3 _ hm); simp at this <;> omega) _
          exact ho3
        · have := hF2 _ (hF3 _ hb); have := hB.size; omega
        · repeat refine Below.setCell ?_ (by simp <;> omega) _
          exact hB3
    · have hr : okTick e = false := by simp [okTick, hg, hq]
      have hs : resTick e = ⟨0, []⟩ := by simp [resTick, hr]
      have hr := Lib.hid hr; have hs := Lib.hid hs
      go_wp2_with fail
      refine bodyPost_ret (v := .tuple #[.agg #[.int .i64 0, .slice none 0 0], .bool false]) ?_ rfl ?_
      · simp [results, Try.results13, go_sem, c0, c1, f1]
      · refine ⟨_, [], by rw [hr.out], by rw [hs.out]; exact ⟨_, rfl, _, rfl, .inl ⟨rfl, rfl, rfl⟩⟩, by simp, by simp, ?_⟩
        repeat refine Below.setCell ?_ (by simp <;> omega) _
        exact hB
end Go.Proofs.Ytjbfffopbpajiaa
