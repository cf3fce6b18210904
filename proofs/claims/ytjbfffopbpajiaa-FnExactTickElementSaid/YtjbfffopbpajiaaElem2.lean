/- Walks: an element is valid. -/
import Derived.Test.YtjbfffopbpajiaaElem1
import Derived.Test.YtjbfffopbpajiaaTyElement
import Derived.Test.YtjbfffopbpajiaaLibEntry
namespace Go.Proofs.Ytjbfffopbpajiaa
open Go.RowKit

def okEntry (c : Int) (x : Entry) : Bool := isSer x.number && (decide (0 < x.faces.length) && (rising 1 7 x.faces && btw (c + 1) x.untl (c + 6)))
/-- entry i is valid, and no earlier one has its number -/
def entAt (c : Int) (es : List Entry) (i : Nat) : Bool := match es[i]? with
  | none => true
  | some x => okEntry c x && !((es.take i).any fun o => o.number == x.number)
theorem entAt_of {c : Int} {es : List Entry} {i : Nat} (h : i < es.length) : entAt c es i = (okEntry c es[i] && !((es.take i).any fun o => o.number == es[i].number)) := by
  simp [entAt, h]
def goodElement (e : Element) : Bool := isClk e.clock && decide (e.entries.length ≤ 5) && allUpTo (entAt e.clock e.entries) e.entries.length
theorem isClk_iff {c : Int} : isClk c = true ↔ 0 ≤ c ∧ c ≤ 9999 := by unfold isClk btw; simp

theorem any_take {es : List Entry} {m k : Nat} {p : Entry → Bool} (h : m < es.length) (hk : m < k) (hp : p es[m] = true) : (es.take k).any p = true := by
  rw [List.any_eq_true]; exact ⟨es[m], List.mem_take_iff_getElem.2 ⟨m, by omega, rfl⟩, hp⟩
theorem any_take_no {es : List Entry} {k : Nat} {n : Int} (h : ∀ q, q < k → ∀ hq : q < es.length, es[q].number ≠ n) : ((es.take k).any fun o => o.number == n) = false := by
  rw [List.any_eq_false]; intro x hx
  obtain ⟨i, hi, rfl⟩ := List.mem_take_iff_getElem.1 hx
  simpa using h i (by omega) (by omega)
theorem wrap_clk {c d : Int} (h : isClk c = true) (h1 : 0 ≤ d) (h2 : d ≤ 100) : wrap64 (c + d) = c + d := by
  have := isClk_iff.1 h; unfold wrap64; omega
theorem good_no {e : Element} {k : Nat} (hk : k < e.entries.length) (h : isClk e.clock = true → entAt e.clock e.entries k = false) : goodElement e = false := by
  unfold goodElement
  cases hc : isClk e.clock
  · rfl
  · rw [allUpTo_no hk (h hc)]; simp
theorem IsValidElement_1_c (x : Entry) (num : Int) (b : Nat) (G : List Nat) (u : Value) (w : World) (h : IsV EEntry w u x G) (hc : w.cell? ⟨b, 0, none⟩ = some (.int .i64 num)) :
    Calls Try.prog 52 #[u, .pointer (some ⟨b, 0, none⟩)] w fun e w' => e = .returned (.bool (x.number == num)) ∧ Below w.heap.size w w' := by
  obtain ⟨_, rfl, v1, rfl, -⟩ := h
  have hc1 := fun o : Obj => kc ((Below.refl w.heap.size w).alloc (Nat.le_refl _) o) hc
  go_enter Try.func52, Try.ntmps52
  go_wp2
  go_ret
  exact ⟨ret_bool rfl, (Below.refl _ _).alloc (Nat.le_refl _) _⟩
set_option maxHeartbeats 1600000 in
theorem IsValidElement_c (v : Value) (e : Element) (F : List Nat) (w : World) (h : IsV EElement w v e F) :
    Calls Try.prog 31 #[v] w fun e' w' => e' = .returned (.bool (goodElement e)) ∧ Below w.heap.size w w' := by
  obtain ⟨_, rfl, v1, rfl, h1⟩ := h
  obtain ⟨a, cap, rfl⟩ := h1.slice
  have hl := h1.len
  unfold maxLen at hl
  have hB0 : ∀ A : Obj, Below w.heap.size w (w.alloc A) := fun A => (Below.refl _ _).alloc (Nat.le_refl _) _
  go_enter Try.func31, Try.ntmps31
  go_wp2
  go_loopw [3, 4, 8] (fun _ _ i wr => ∃ k : Nat, k ≤ e.entries.length ∧ i = .int .i64 k ∧ Hid (isClk e.clock = true → ∀ j, j < k → entAt e.clock e.entries j = true) ∧ Row wr w.heap.size 35 [.int .i64 e.clock, .slice a e.entries.length cap] ∧ Below w.heap.size w wr) (fun _ _ i _ => e.entries.length - (intOf i).toNat)
  case atStart => exact ⟨0, Nat.zero_le _, rfl, fun _ j hj => by omega, by simp [row_alloc], hB0 _⟩
  case round =>
    obtain ⟨k, hk, rfl, hz, hr, hB⟩ := hrel
    have c0 := hr.cells
    by_cases hlt : k < e.entries.length
    · have hz0 := hz; clear hz
      obtain ⟨b, off, _, F1, rfl, hx, -, ja⟩ := (h1.below (by decide) hB).at k hlt
      obtain ⟨u1, rfl, hf⟩ := id hx
      obtain ⟨fa, fc, rfl⟩ := hf.slice
      have a0 := ja 0 (by decide)
      have a1 := ja 1 (by decide)
      have a2 := ja 2 (by decide)
      simp only [show EEntry.sz = 3 from rfl, Nat.mul_one, Nat.add_zero, List.getElem?_cons_zero, List.getElem?_cons_succ] at a0 a1 a2
      clear ja
      have d0 := fun A => (hr.alloc A).cells
      have hf1 := fun A : Obj => hf.below (by decide) ((Below.refl wr.heap.size wr).alloc (Nat.le_refl _) A)
      have hB1 := fun A : Obj => tr hB ((Below.refl wr.heap.size wr).alloc (Nat.le_refl _) A) (Nat.le_refl _)
      have hcp := h1.caps
      by_cases hfe : e.entries[k].faces = []
      · have hE : ((e.entries[k].faces.length : Int) == 0) = true := by simp [hfe]
        have hno := Lib.hid (good_no hlt (fun _ => by rw [entAt_of hlt]; simp [okEntry, hfe]))
        go_wp2_with (first
          | (go_at_call 40; refine (IsSerial_c _ _).mono ?_; rintro e' w' ⟨rfl, rfl⟩)
          | (go_at_call 41; refine (areFaces_c _ _ _ _ (hf1 _)).mono ?_; rintro e' w' ⟨rfl, rfl⟩)
          | (go_at_call 24; refine (within_c _ _ _ _).mono ?_; rintro e' w' ⟨rfl, rfl⟩))
        all_goals go_ret
        all_goals exact ⟨ret_bool hno.out.symm, hB1 _⟩
      · have hE : ((e.entries[k].faces.length : Int) == 0) = false := by simp [hfe]
        have hfe := Lib.hid hfe
        go_wp2_with (first
          | (go_at_call 40; refine (IsSerial_c _ _).mono ?_; rintro e' w' ⟨rfl, rfl⟩)
          | (go_at_call 41; refine (areFaces_c _ _ _ _ (hf1 _)).mono ?_; rintro e' w' ⟨rfl, rfl⟩)
          | (go_at_call 24; refine (within_c _ _ _ _).mono ?_; rintro e' w' ⟨rfl, rfl⟩))
        · have t : (!btw (wrap64 (e.clock + 1)) e.entries[k].untl (wrap64 (e.clock + 6))) = true := by assumption
          go_ret
          refine ⟨ret_bool (good_no hlt fun hc => ?_).symm, hB1 _⟩
          rw [wrap_clk hc (by omega) (by omega), wrap_clk hc (by omega) (by omega)] at t
          rw [entAt_of hlt]; simp only [okEntry]; simp at t; simp [t]
        · have t1 : isSer e.entries[k].number = true := by assumption
          have t2 : rising 1 7 e.entries[k].faces = true := by assumption
          have t : (!btw (wrap64 (e.clock + 1)) e.entries[k].untl (wrap64 (e.clock + 6))) = false := by assumption
          obtain ⟨G, -, hs⟩ := h1.takeS k hk
          refine (ContainsFunc_Entry _ (.mk' Try.func52 rfl rfl) _ _ _ _ (fun o => o.number == e.entries[k].number) _ (hs.below (by decide) (hB1 _)) ?_).mono ?_
          · intro j hj w2 u G2 hb2 hu
            exact IsValidElement_1_c _ _ _ _ _ _ hu (kc hb2 (by simp))
          rintro e' w2 ⟨rfl, hb2⟩
          have hr2 := (hr.alloc _).below hb2
          have hB2 := tr (hB1 _) hb2 (Nat.le_refl _)
          have hc2 := hr2.cells
          have hAt := Lib.hid (entAt_of (c := e.clock) hlt)
          cases hany : (e.entries.take k).any fun o => o.number == e.entries[k].number
          · rw [hany] at hAt
            have hany := Lib.hid hany
            go_wp2_with fail
            refine ⟨⟨k + 1, by omega, by go_num, fun hc => upto_snoc (hz0.out hc) ?_, hr2, hB2⟩, by simp [intOf]; omega⟩
            rw [wrap_clk hc (by omega) (by omega), wrap_clk hc (by omega) (by omega)] at t
            rw [hAt.out]; simp only [okEntry, t1, t2]; simp at t; simp [t, List.length_pos_iff, hfe.out]
          · rw [hany] at hAt
            have hany := Lib.hid hany
            go_wp2_with fail
            go_ret
            exact ⟨ret_bool (good_no hlt fun _ => by rw [hAt.out]; simp).symm, hB2⟩
        · have t : ¬rising 1 7 e.entries[k].faces = true := by assumption
          go_ret
          refine ⟨ret_bool (good_no hlt fun hc => ?_).symm, hB1 _⟩
          rw [entAt_of hlt]; simp [okEntry, t]
        · have t : ¬isSer e.entries[k].number = true := by assumption
          go_ret
          refine ⟨ret_bool (good_no hlt fun hc => ?_).symm, hB1 _⟩
          rw [entAt_of hlt]; simp [okEntry, t]
    · have hk : k = e.entries.length := by omega
      subst hk
      have hz0 := hz; clear hz
      cases hck : isClk e.clock
      · have hn := Lib.hid (show goodElement e = false by unfold goodElement; rw [hck]; rfl)
        have hck := Lib.hid hck
        go_wp2_with (go_at_call 53; refine (isClock_c _ _).mono ?_; rintro e' w' ⟨rfl, rfl⟩; rw [hck.out])
        go_ret
        exact ⟨ret_bool hn.out.symm, hB⟩
      · have hn := Lib.hid (show goodElement e = decide ((e.entries.length : Int) ≤ 5) by unfold goodElement; rw [hck, allUpTo_yes (hz0.out hck)]; simp; omega)
        have hck := Lib.hid hck
        go_wp2_with (go_at_call 53; refine (isClock_c _ _).mono ?_; rintro e' w' ⟨rfl, rfl⟩; rw [hck.out])
        go_ret
        exact ⟨ret_bool hn.out.symm, hB⟩
set_option maxHeartbeats 1600000 in
theorem l14Good_c (v : Value) (e : Element) (F : List Nat) (w : World) (h : IsV EElement w v e F) :
    Calls Try.prog 28 #[v] w fun e' w' => e' = .returned (.bool (goodElement e)) ∧ Below w.heap.size w w' := by
  obtain ⟨_, rfl, v1, rfl, h1⟩ := h
  obtain ⟨a, cap, rfl⟩ := h1.slice
  have hl := h1.len
  unfold maxLen at hl
  have hB0 : ∀ A : Obj, Below w.heap.size w (w.alloc A) := fun A => (Below.refl _ _).alloc (Nat.le_refl _) _
  go_enter Try.func28, Try.ntmps28
  cases hck : isClk e.clock
  · have hn := Lib.hid (show goodElement e = false by unfold goodElement; rw [hck]; rfl)
    have hck := Lib.hid hck
    go_wp2_with (go_at_call 47; refine (l11Clock_c _ _).mono ?_; rintro e' w' ⟨rfl, rfl⟩; rw [hck.out])
    go_ret
    exact ⟨ret_bool hn.out.symm, hB0 _⟩
  by_cases h5 : ¬ (e.entries.length : Int) ≤ 5
  · have hn := Lib.hid (show goodElement e = false by unfold goodElement; rw [hck, decide_eq_false (by omega)]; rfl)
    have hck := Lib.hid hck
    go_wp2_with (go_at_call 47; refine (l11Clock_c _ _).mono ?_; rintro e' w' ⟨rfl, rfl⟩; rw [hck.out])
    go_ret
    exact ⟨ret_bool hn.out.symm, hB0 _⟩
  have h5 : (e.entries.length : Int) ≤ 5 := by omega
  have hcb := isClk_iff.1 hck
  have hgood := Lib.hid (show goodElement e = allUpTo (entAt e.clock e.entries) e.entries.length by unfold goodElement; rw [hck, decide_eq_true (by omega)]; rfl)
  have hck := Lib.hid hck
  go_wp2_with (go_at_call 47; refine (l11Clock_c _ _).mono ?_; rintro e' w' ⟨rfl, rfl⟩; rw [hck.out])
  go_loopw [3, 4, 5] (fun i _ _ wr => ∃ k : Nat, k ≤ e.entries.length ∧ i = .int .i64 k ∧ Hid (∀ j, j < k → entAt e.clock e.entries j = true) ∧ Row wr w.heap.size 35 [.int .i64 e.clock, .slice a e.entries.length cap] ∧ Below w.heap.size w wr) (fun i _ _ _ => e.entries.length - (intOf i).toNat)
  case atStart => exact ⟨0, Nat.zero_le _, rfl, fun j hj => by omega, by simp [row_alloc], hB0 _⟩
  case round =>
    obtain ⟨k, hk, rfl, hz, hr, hB⟩ := hrel
    have c0 := hr.cells
    by_cases hlt : k < e.entries.length
    · have hz0 := hz; clear hz
      obtain ⟨b, off, _, F1, rfl, hx, -, ja⟩ := (h1.below (by decide) hB).at k hlt
      obtain ⟨u1, rfl, hf⟩ := id hx
      obtain ⟨fa, fc, rfl⟩ := hf.slice
      have a0 := ja 0 (by decide)
      have a1 := ja 1 (by decide)
      have a2 := ja 2 (by decide)
      simp only [show EEntry.sz = 3 from rfl, Nat.add_zero, List.getElem?_cons_zero, List.getElem?_cons_succ] at a0 a1 a2
      clear ja
      have d0 := fun A => (hr.alloc A).cells
      have hf1 := fun A : Obj => hf.below (by decide) ((Below.refl wr.heap.size wr).alloc (Nat.le_refl _) A)
      have hB1 := fun A : Obj => tr hB ((Below.refl wr.heap.size wr).alloc (Nat.le_refl _) A) (Nat.le_refl _)
      by_cases hfe : e.entries[k].faces = []
      · have hE : ((e.entries[k].faces.length : Int) == 0) = true := by simp [hfe]
        have hno := Lib.hid (good_no hlt (fun _ => by rw [entAt_of hlt]; simp [okEntry, hfe]))
        go_wp2_with (go_at_call 37; refine (l2Good_c _ _).mono ?_; rintro e' w' ⟨rfl, rfl⟩)
        all_goals go_ret
        all_goals exact ⟨ret_bool hno.out.symm, hB1 _⟩
      · have hE : ((e.entries[k].faces.length : Int) == 0) = false := by simp [hfe]
        have hfe := Lib.hid hfe
        go_wp2_with (go_at_call 37; refine (l2Good_c _ _).mono ?_; rintro e' w' ⟨rfl, rfl⟩)
        · have t1 : isSer e.entries[k].number = true := by assumption
          refine (l14Faces_c _ _ _ _ (hf1 _)).mono ?_
          rintro e' w2 ⟨rfl, hb2⟩
          have hr2 := (hr.alloc _).below hb2
          have q2 := Row.below (g := wr.heap.size) (t := 70) (cs := [.int .i64 e.entries[k].number, .slice fa e.entries[k].faces.length fc, .int .i64 e.entries[k].untl]) (by simp [row_alloc]) hb2
          have hB2 := tr (hB1 _) hb2 (Nat.le_refl _)
          have c2 := hr2.cells; have d2 := q2.cells
          clear hb2
          cases t2 : rising 1 7 e.entries[k].faces
          · have hno := Lib.hid (good_no hlt (fun _ => by rw [entAt_of hlt]; simp [okEntry, t2]))
            go_wp2_with fail
            go_ret
            exact ⟨ret_bool hno.out.symm, hB2⟩
          cases t3 : btw (e.clock + 1) e.entries[k].untl (e.clock + 6)
          · have hno := Lib.hid (good_no hlt (fun _ => by rw [entAt_of hlt]; simp [okEntry, t3]))
            have t3 := Lib.hid t3
            go_wp2_with (go_at_call 48; refine (l1In_c _ _ _ _).mono ?_; rintro e' w' ⟨rfl, rfl⟩; rw [t3.out])
            go_ret
            exact ⟨ret_bool hno.out.symm, hB2⟩
          have hAt := Lib.hid (show entAt e.clock e.entries k = !((e.entries.take k).any fun o => o.number == e.entries[k].number) by rw [entAt_of hlt]; simp [okEntry, t1, t2, t3, List.length_pos_iff, hfe.out])
          have t3 := Lib.hid t3
          clear t1 t2 hE hf1 hx
          go_wp2_with (go_at_call 48; refine (l1In_c _ _ _ _).mono ?_; rintro e' w' ⟨rfl, rfl⟩; rw [t3.out])
          go_loopw [5] (fun j wr2 => ∃ m : Nat, m ≤ k ∧ j = .int .i64 m ∧ Hid (∀ q, q < m → ∀ hq : q < e.entries.length, e.entries[q].number ≠ e.entries[k].number) ∧ Row wr2 w.heap.size 35 [.int .i64 e.clock, .slice (some ⟨b, off, none⟩) e.entries.length cap] ∧ Row wr2 wr.heap.size 70 [.int .i64 e.entries[k].number, .slice fa e.entries[k].faces.length fc, .int .i64 e.entries[k].untl] ∧ Below w.heap.size w wr2) (fun j _ => k - (intOf j).toNat)
          case atStart => exact ⟨0, Nat.zero_le _, rfl, fun q hq => by omega, hr2, q2, hB2⟩
          case round =>
            obtain ⟨m, hm, rfl, hy, hr3, q3, hB3⟩ := hrel
            rename_i wr2
            have c3 := hr3.cells; have d3 := q3.cells
            by_cases hlm : m < k
            · have hy0 := hy; clear hy
              obtain ⟨bb, oo, _, F2, he, hx2, -, jb⟩ := (h1.below (by decide) hB3).at m (by omega)
              cases he
              obtain ⟨u2, rfl, -⟩ := hx2
              have b0 := jb 0 (by decide)
              simp only [show EEntry.sz = 3 from rfl, Nat.add_zero, List.getElem?_cons_zero] at b0
              clear jb
              have hmi : m < e.entries.length := by omega
              by_cases hnum : e.entries[m].number = e.entries[k].number
              · have hno := Lib.hid (good_no hlt fun _ => by rw [hAt.out, any_take hmi hlm (by simpa using hnum)]; rfl)
                have hEq : (e.entries[m].number == e.entries[k].number) = true := by simpa using hnum
                go_wp2_with fail
                go_quiet (fail)
                go_wp2_with fail
                go_ret
                exact ⟨ret_bool hno.out.symm, belowDrewN hB3 _⟩
              · have hEq : (e.entries[m].number == e.entries[k].number) = false := by simpa using hnum
                have hnum := Lib.hid hnum
                go_wp2_with fail
                go_quiet (fail)
                go_wp2_with fail
                exact ⟨⟨m + 1, by omega, by go_num, fun q hq hql => by rcases Nat.lt_or_eq_of_le (Nat.le_of_lt_succ hq) with h | h; exact hy0.out q h hql; subst h; exact hnum.out, hr3, q3, belowDrewN hB3 _⟩, by simp [intOf]; omega⟩
            · have hmk : m = k := by omega
              subst hmk
              have hat : entAt e.clock e.entries m = true := by
                rw [hAt.out, any_take_no hy.out]; rfl
              have hat := Lib.hid hat
              have hy0 := hy; clear hy
              go_wp2_with fail
              exact ⟨⟨m + 1, by omega, by go_num, upto_snoc hz0.out hat.out, hr3, hB3⟩, by simp [intOf]; omega⟩
        · have t : ¬isSer e.entries[k].number = true := by assumption
          go_ret
          refine ⟨ret_bool (good_no hlt fun hc => ?_).symm, hB1 _⟩
          rw [entAt_of hlt]; simp [okEntry, t]
    · have hk : k = e.entries.length := by omega
      subst hk
      have hn := Lib.hid (show goodElement e = true by rw [hgood.out, allUpTo_yes hz.out])
      have hz0 := hz; clear hz
      go_wp2_with fail
      go_ret
      exact ⟨ret_bool hn.out.symm, hB⟩
end Go.Proofs.Ytjbfffopbpajiaa
