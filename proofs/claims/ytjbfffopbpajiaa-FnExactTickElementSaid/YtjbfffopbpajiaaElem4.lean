/- Walks: the reference's copy of an element. -/
import Derived.Test.YtjbfffopbpajiaaElem3
import Derived.Test.YtjbfffopbpajiaaHeld
namespace Go.Proofs.Ytjbfffopbpajiaa
open Go.RowKit
set_option maxHeartbeats 1600000 in
theorem l14Own_c (v : Value) (e : Element) (F : List Nat) (w : World) (h : IsV EElement w v e F) (hm : e.entries.length ≤ 4294967296) (hm2 : ∀ x ∈ e.entries, x.faces.length ≤ 4294967296) :
    Calls Try.prog 49 #[v] w (RetV OElement e w) := by
  obtain ⟨_, rfl, v1, rfl, h1⟩ := h
  obtain ⟨a, cap, rfl⟩ := h1.slice
  have hl := h1.len
  unfold maxLen at hl
  have hB0 : ∀ A B C : Obj, Below w.heap.size w (((w.alloc A).alloc B).alloc C) := fun A B C => (((Below.refl _ _).alloc (Nat.le_refl _) _).alloc (by simp) _).alloc (by simp <;> omega) _
  go_enter Try.func49, Try.ntmps49
  go_wp2_with fail
  go_loopw [4, 5] (fun i _ wr => ∃ k : Nat, k ≤ e.entries.length ∧ i = .int .i64 k ∧ ∃ oa oc F, Hid (Ow OEntry 70 wr (.slice oa k oc) (e.entries.take k) F) ∧ F.Nodup ∧ (∀ b ∈ F, w.heap.size + 1 + 1 < b) ∧
    Row wr w.heap.size 35 [.int .i64 e.clock, .slice a e.entries.length cap] ∧ Row wr (w.heap.size + 1) 35 [.int .i64 0, .slice none 0 0] ∧ Row wr (w.heap.size + 1 + 1) 35 [.int .i64 e.clock, .slice oa k oc] ∧ Below w.heap.size w wr) (fun i _ _ => e.entries.length - (intOf i).toNat)
  case atStart => exact ⟨0, Nat.zero_le _, rfl, none, 0, [], Lib.hid (.inl ⟨rfl, by simp, rfl⟩), by simp, by simp, by simp [row_alloc] <;> omega, by simp [row_alloc] <;> omega, by simp [row_alloc] <;> omega, hB0 _ _ _⟩
  case round =>
    obtain ⟨k, hk, rfl, oa, oc, F2, ho, hn2, hF2, hr, hr1, hr2, hB⟩ := hrel
    have c0 := hr.cells
    have hsz := hr2.lt
    by_cases hlt : k < e.entries.length
    · obtain ⟨b, off, _, F1, rfl, hx, -, ja⟩ := (h1.below (by decide) hB).at k hlt
      obtain ⟨u1, rfl, hf⟩ := id hx
      obtain ⟨fa, fc, rfl⟩ := hf.slice
      have a0 := ja 0 (by decide)
      have a1 := ja 1 (by decide)
      have a2 := ja 2 (by decide)
      simp only [show EEntry.sz = 3 from rfl, Nat.add_zero, List.getElem?_cons_zero, List.getElem?_cons_succ] at a0 a1 a2
      clear ja
      have hfl := hm2 e.entries[k] (List.getElem_mem _)
      have hAl := fun A : Obj => (Below.refl wr.heap.size wr).alloc (Nat.le_refl _) A
      have hB1 := fun A : Obj => tr hB (hAl A) (Nat.le_refl _)
      have hlF := ho.out.lt
      go_wp2_with fail
      have H0 := hr.alloc (.cells #[.int .i64 e.entries[k].number, .slice fa e.entries[k].faces.length fc, .int .i64 e.entries[k].untl] 70)
      have H1 := hr1.alloc (.cells #[.int .i64 e.entries[k].number, .slice fa e.entries[k].faces.length fc, .int .i64 e.entries[k].untl] 70)
      have H2 := hr2.alloc (.cells #[.int .i64 e.entries[k].number, .slice fa e.entries[k].faces.length fc, .int .i64 e.entries[k].untl] 70)
      have Q := Row.made wr 70 [.int .i64 e.entries[k].number, .slice fa e.entries[k].faces.length fc, .int .i64 e.entries[k].untl]
      have O1 := Lib.hid (ho.out.below (hAl (.cells #[.int .i64 e.entries[k].number, .slice fa e.entries[k].faces.length fc, .int .i64 e.entries[k].untl] 70)))
      have hf1 := hf.below (by decide) (hAl (.cells #[.int .i64 e.entries[k].number, .slice fa e.entries[k].faces.length fc, .int .i64 e.entries[k].untl] 70))
      have hB2 := hB1 (.cells #[.int .i64 e.entries[k].number, .slice fa e.entries[k].faces.length fc, .int .i64 e.entries[k].untl] 70)
      have hs1 : wr.heap.size < (wr.alloc (.cells #[.int .i64 e.entries[k].number, .slice fa e.entries[k].faces.length fc, .int .i64 e.entries[k].untl] 70)).heap.size := by simp
      generalize wr.alloc (.cells #[.int .i64 e.entries[k].number, .slice fa e.entries[k].faces.length fc, .int .i64 e.entries[k].untl] 70) = w1 at *
      have q0 := Q.cells; have t1 := H2.cells 1
      simp only [List.getElem?_cons_zero, List.getElem?_cons_succ] at t1
      have hown := O1.out.own_mem
      have hne : ¬ wr.heap.size = w.heap.size + 1 + 1 := by omega
      have hne2 : ¬ w.heap.size + 1 + 1 = wr.heap.size := by omega
      have htl : (e.entries.take k).length = k := by simp; omega
      have hks : k + 1 ≤ 4294967296 := by omega
      clear hr hr1 hr2 hx hf ho hAl hB1 c0 a0 a1 a2
      have hS0 : (fun w' => w'.cell? ⟨wr.heap.size, 0, none⟩ = some (.int .i64 e.entries[k].number) ∧ w'.cell? ⟨wr.heap.size, 1, none⟩ = some (.slice fa e.entries[k].faces.length fc) ∧ w'.cell? ⟨wr.heap.size, 2, none⟩ = some (.int .i64 e.entries[k].untl) ∧ w'.cell? ⟨w.heap.size + 1 + 1, 1, none⟩ = some (.slice oa k oc)) w1.drew := ⟨by simpa using q0 0, by simpa using q0 1, by simpa using q0 2, t1⟩
      refine AnyX.start (S := (fun w' => w'.cell? ⟨wr.heap.size, 0, none⟩ = some (.int .i64 e.entries[k].number) ∧ w'.cell? ⟨wr.heap.size, 1, none⟩ = some (.slice fa e.entries[k].faces.length fc) ∧ w'.cell? ⟨wr.heap.size, 2, none⟩ = some (.int .i64 e.entries[k].untl) ∧ w'.cell? ⟨w.heap.size + 1 + 1, 1, none⟩ = some (.slice oa k oc))) (X := fun i => i == 13) (by kernel_rfl) ?_
      refine AnyX.take (i := 0) (oi := _) (v := ?_) rfl (by kernel_rfl) (by kernel_rfl) (by kernel_rfl) (by kernel_rfl) (by kernel_rfl) (fun _ _ _ h => h) (Or.inl ⟨by rfl, ?_⟩) (by assumption) ?_
      rotate_left
      · (intro wS hSw; (try dsimp only at hSw); go_simp; try with_reducible rfl)
      try simp only [Act.put, List.setIfInBounds_toArray, List.set_cons_zero, List.set_cons_succ]
      refine AnyX.take (i := 1) (oi := _) (v := ?_) rfl (by kernel_rfl) (by kernel_rfl) (by kernel_rfl) (by kernel_rfl) (by kernel_rfl) (fun _ _ _ h => h) (Or.inl ⟨by rfl, ?_⟩) (by assumption) ?_
      rotate_left
      · (intro wS hSw; (try dsimp only at hSw); go_simp; try with_reducible rfl)
      try simp only [Act.put, List.setIfInBounds_toArray, List.set_cons_zero, List.set_cons_succ]
      refine AnyX.take (i := 2) (oi := _) (v := ?_) rfl (by kernel_rfl) (by kernel_rfl) (by kernel_rfl) (by kernel_rfl) (by kernel_rfl) (fun _ _ _ h => h) (Or.inl ⟨by rfl, ?_⟩) (by assumption) ?_
      rotate_left
      · (intro wS hSw; (try dsimp only at hSw); go_simp; try with_reducible rfl)
      try simp only [Act.put, List.setIfInBounds_toArray, List.set_cons_zero, List.set_cons_succ]
      refine AnyX.take (i := 3) (oi := _) (v := ?_) rfl (by kernel_rfl) (by kernel_rfl) (by kernel_rfl) (by kernel_rfl) (by kernel_rfl) (fun _ _ _ h => h) (Or.inl ⟨by rfl, ?_⟩) (by assumption) ?_
      rotate_left
      · (intro wS hSw; (try dsimp only at hSw); go_simp; try with_reducible rfl)
      try simp only [Act.put, List.setIfInBounds_toArray, List.set_cons_zero, List.set_cons_succ]
      refine AnyX.take (i := 4) (oi := _) (v := ?_) rfl (by kernel_rfl) (by kernel_rfl) (by kernel_rfl) (by kernel_rfl) (by kernel_rfl) (fun _ _ _ h => h) (Or.inl ⟨by rfl, ?_⟩) (by assumption) ?_
      rotate_left
      · (intro wS hSw; (try dsimp only at hSw); go_simp; try with_reducible rfl)
      try simp only [Act.put, List.setIfInBounds_toArray, List.set_cons_zero, List.set_cons_succ]
      refine AnyX.take (i := 5) (oi := _) (v := ?_) rfl (by kernel_rfl) (by kernel_rfl) (by kernel_rfl) (by kernel_rfl) (by kernel_rfl) (fun _ _ _ h => h) (Or.inl ⟨by rfl, ?_⟩) (by assumption) ?_
      rotate_left
      · (intro wS hSw; (try dsimp only at hSw); go_simp; try with_reducible rfl)
      try simp only [Act.put, List.setIfInBounds_toArray, List.set_cons_zero, List.set_cons_succ]
      refine AnyX.take (i := 7) (oi := _) (v := ?_) rfl (by kernel_rfl) (by kernel_rfl) (by kernel_rfl) (by kernel_rfl) (by kernel_rfl) (fun _ _ _ h => h) (Or.inl ⟨by rfl, ?_⟩) (by assumption) ?_
      rotate_left
      · (intro wS hSw; (try dsimp only at hSw); go_simp; try with_reducible rfl)
      try simp only [Act.put, List.setIfInBounds_toArray, List.set_cons_zero, List.set_cons_succ]
      refine AnyX.take (i := 8) (oi := _) (v := ?_) rfl (by kernel_rfl) (by kernel_rfl) (by kernel_rfl) (by kernel_rfl) (by kernel_rfl) (fun _ _ _ h => h) (Or.inl ⟨by rfl, ?_⟩) (by assumption) ?_
      rotate_left
      · (intro wS hSw; (try dsimp only at hSw); go_simp; try with_reducible rfl)
      try simp only [Act.put, List.setIfInBounds_toArray, List.set_cons_zero, List.set_cons_succ]
      refine AnyX.only (i := 6) (o := _) (by kernel_rfl) rfl (fun K hK => ?_)
      go_simp
      go_at_call 70; refine (l1Own_c _ e.entries[k].faces F1 w1.drew (hf1.frame fun _ _ => rfl) hfl).mono ?_; rintro e' w2 ⟨v3, F3, rfl, o3, n3, g3, hb2⟩; obtain ⟨d3, p3, rfl⟩ := o3.slice; have H2b := (show Row w1.drew (w.heap.size + 1 + 1) 35 _ from H2).below hb2; have t2 := H2b.cells 1; have t3 := fun A => (H2b.alloc A).cells 1; have Q2 := (show Row w1.drew wr.heap.size 70 _ from Q).below hb2; simp only [List.getElem?_cons_zero, List.getElem?_cons_succ] at t2 t3
      refine hK.out _ _ (fun _ => ?_) ?_
      · exact ⟨kc hb2 (by simpa using q0 0), kc hb2 (by simpa using q0 1), kc hb2 (by simpa using q0 2), t2⟩
      clear hK K
      try simp only [Act.put, List.setIfInBounds_toArray, List.set_cons_zero, List.set_cons_succ]
      have hS2 : (fun w' => w'.cell? ⟨wr.heap.size, 0, none⟩ = some (.int .i64 e.entries[k].number) ∧ w'.cell? ⟨wr.heap.size, 1, none⟩ = some (.slice fa e.entries[k].faces.length fc) ∧ w'.cell? ⟨wr.heap.size, 2, none⟩ = some (.int .i64 e.entries[k].untl) ∧ w'.cell? ⟨w.heap.size + 1 + 1, 1, none⟩ = some (.slice oa k oc)) w2 := ⟨kc hb2 (by simpa using q0 0), kc hb2 (by simpa using q0 1), kc hb2 (by simpa using q0 2), t2⟩
      have q6 := fun A => (Q2.alloc A).cells
      refine AnyX.take (i := 9) (oi := _) (v := ?_) rfl (by kernel_rfl) (by kernel_rfl) (by kernel_rfl) (by kernel_rfl) (by kernel_rfl) (fun _ _ _ h => h) (Or.inl ⟨by rfl, ?_⟩) (by assumption) ?_
      rotate_left
      · (intro wS hSw; (try dsimp only at hSw); go_simp; try with_reducible rfl)
      try simp only [Act.put, List.setIfInBounds_toArray, List.set_cons_zero, List.set_cons_succ]
      refine AnyX.only (i := 10) (o := _) (by kernel_rfl) rfl (fun K hK => ?_)
      go_simp
      refine hK.out _ _ (fun _ => ?_) ?_
      · exact ⟨by simpa using q6 _ 0, by simpa using q6 _ 1, by simpa using q6 _ 2, t3 _⟩
      clear hK K
      try simp only [Act.put, List.setIfInBounds_toArray, List.set_cons_zero, List.set_cons_succ]
      refine AnyX.only (i := 11) (o := _) (by kernel_rfl) rfl (fun K hK => ?_)
      refine step_apd one_OEntry (by decide) (by rfl) _ _ _ (by rfl) 70 (.agg #[.int .i64 0, .slice none 0 0, .int .i64 0]) 40 Try.underlying33 info_Entry rfl (.slice oa k oc) (e.entries.take k) F2 (by rfl) ((O1.out.frame (w' := w1.drew) fun _ _ => rfl).below (hb2.alloc hb2.size _)) (Hd.of hn2) (some ⟨w2.heap.size, 0, none⟩) [e.entries[k]] 1 (by rfl) [.int .i64 e.entries[k].number, .slice d3 e.entries[k].faces.length p3, .int .i64 e.entries[k].untl] F3 (Flat.one ⟨_, rfl, o3.below ((Below.refl _ _).alloc (Nat.le_refl _) _)⟩) (.inr ⟨_, rfl, World.news_of_block (heap_alloc_new w2 _)⟩) (fun b hb he => by have h1 := hown b he; have h2 := O1.out.lt b h1; have h3 := g3 b hb; exact Nat.lt_irrefl _ (Nat.lt_of_lt_of_le h2 h3)) (by unfold maxLen; rw [htl]; simp; omega) (by rw [htl]; simp; omega) ?_
      intro v4 w4 F4 hA; obtain ⟨oa2, oc2, rfl⟩ := hA.val; rw [htl];  have H4 := (H2b.alloc (.cells #[.int .i64 e.entries[k].number, .slice d3 e.entries[k].faces.length p3, .int .i64 e.entries[k].untl] 70)).keepK hA.keep (fun hm => Nat.lt_irrefl _ (hF2 _ hm)); have q4 := ((Q2.alloc (.cells #[.int .i64 e.entries[k].number, .slice d3 e.entries[k].faces.length p3, .int .i64 e.entries[k].untl] 70)).keepK hA.keep (fun hm => by have := hlF _ hm; omega)).cells; have t4 := H4.cells 1; have f4 := H4.frozens 1; simp only [List.getElem?_cons_zero, List.getElem?_cons_succ] at t4
      refine hK.out _ _ (fun _ => ?_) ?_
      · exact ⟨by simpa using q4 0, by simpa using q4 1, by simpa using q4 2, t4⟩
      clear hK K
      try simp only [Act.put, List.setIfInBounds_toArray, List.set_cons_zero, List.set_cons_succ]
      have hS4 : (fun w' => w'.cell? ⟨wr.heap.size, 0, none⟩ = some (.int .i64 e.entries[k].number) ∧ w'.cell? ⟨wr.heap.size, 1, none⟩ = some (.slice fa e.entries[k].faces.length fc) ∧ w'.cell? ⟨wr.heap.size, 2, none⟩ = some (.int .i64 e.entries[k].untl) ∧ w'.cell? ⟨w.heap.size + 1 + 1, 1, none⟩ = some (.slice oa k oc)) w4 := ⟨by simpa using q4 0, by simpa using q4 1, by simpa using q4 2, t4⟩
      refine AnyX.take (i := 12) (oi := _) (v := ?_) rfl (by kernel_rfl) (by kernel_rfl) (by kernel_rfl) (by kernel_rfl) (by kernel_rfl) (fun _ _ _ h => h) (Or.inl ⟨by rfl, ?_⟩) (by assumption) ?_
      rotate_left
      · (intro wS hSw; (try dsimp only at hSw); go_simp; try with_reducible rfl)
      try simp only [Act.put, List.setIfInBounds_toArray, List.set_cons_zero, List.set_cons_succ]
      refine AnyX.only (i := 13) (o := _) (by kernel_rfl) rfl (fun K hK => ?_)
      go_simp
      refine hK.out _ _ (fun h => by cases h) ?_
      clear hK K
      try simp only [Act.put, List.setIfInBounds_toArray, List.set_cons_zero, List.set_cons_succ]
      refine AnyX.done (by kernel_rfl) ?_ _
      have hz2 : w1.heap.size ≤ w2.heap.size := hb2.size
      have hO4 := hA.ow
      rw [htl, ← List.take_succ_eq_append_getElem hlt] at hO4
      have hF4 : ∀ b ∈ F4, w.heap.size + 1 + 1 < b := fun b hb => by
        rcases hA.mem b hb with h | h | h
        · exact hF2 b h
        · have h3 : w1.heap.size ≤ b := g3 b h; omega
        · simp at h; omega
      have hO5 := Lib.hid (hO4.setFar (p := ⟨w.heap.size + 1 + 1, 1, none⟩) (fun hm => Nat.lt_irrefl _ (hF4 _ hm)) (.slice oa2 (k + 1) oc2))
      have hn4 := hA.nodup hn2 n3 (fun b hb hm => by have h2 := O1.out.lt b hm; have h3 := g3 b hb; exact Nat.lt_irrefl _ (Nat.lt_of_lt_of_le h2 h3))
      have G0 := (((show Row w1.drew w.heap.size 35 _ from H0).below hb2).alloc (.cells #[.int .i64 e.entries[k].number, .slice d3 e.entries[k].faces.length p3, .int .i64 e.entries[k].untl] 70)).keepK hA.keep (fun hm => by have := hF2 _ hm; omega)
      have G1 := (((show Row w1.drew (w.heap.size + 1) 35 _ from H1).below hb2).alloc (.cells #[.int .i64 e.entries[k].number, .slice d3 e.entries[k].faces.length p3, .int .i64 e.entries[k].untl] 70)).keepK hA.keep (fun hm => by have := hF2 _ hm; omega)
      have L0 := G0.setOther (p := ⟨w.heap.size + 1 + 1, 1, none⟩) (by simp; omega) (.slice oa2 (k + 1) oc2)
      have L1 := G1.setOther (p := ⟨w.heap.size + 1 + 1, 1, none⟩) (by simp) (.slice oa2 (k + 1) oc2)
      have L2 := H4.set 1 (.slice oa2 (k + 1) oc2)
      have hB5 : Below w.heap.size w (w4.setCell ⟨w.heap.size + 1 + 1, 1, none⟩ (.slice oa2 (k + 1) oc2)) :=
        Below.setCell (((tr (belowDrewN hB2 1) hb2 (Nat.le_refl _)).alloc (by omega) _).trans (hA.keep.below (by simp; omega) (fun b hb => by have := hF2 b hb; omega))) (by simp <;> omega) _
      clear hA hO4 G0 G1 H4
      go_wp2_with fail
      exact ⟨⟨k + 1, by omega, by go_num, oa2, oc2, F4, hO5, hn4, hF4, L0, L1, by simpa using L2, hB5⟩, by simp [intOf]; omega⟩
    · have hk : k = e.entries.length := by omega
      subst hk
      have hO := Lib.hid (show Ow OEntry 70 wr (.slice oa e.entries.length oc) e.entries F2 by simpa using ho.out)
      clear ho
      have c1 := hr1.cells; have c2 := hr2.cells; have f1 := hr1.frozens
      go_wp2_with fail
      refine bodyPost_ret (v := .agg #[.int .i64 e.clock, .slice oa e.entries.length oc]) ?_ rfl ?_
      · simp [results, Try.results49, go_sem, c1, c2, f1]
      · refine ⟨_, F2, rfl, ⟨_, rfl, _, rfl, ?_⟩, hn2, fun b hb => by have := hF2 b hb; omega, ?_⟩
        · repeat refine Ow.setFar ?_ (fun hm => by have := hF2 _ hm; simp at this <;> omega) _
          exact hO.out
        · repeat refine Below.setCell ?_ (by simp <;> omega) _
          exact hB
end Go.Proofs.Ytjbfffopbpajiaa
