/- Walks: copies of an element. -/
import Derived.Deep.RegionLaw
import Derived.Test.YtjbfffopbpajiaaElem2
import Derived.Test.YtjbfffopbpajiaaLibInt
import Derived.Test.YtjbfffopbpajiaaInt1
namespace Go.Proofs.Ytjbfffopbpajiaa
open Go.RowKit
set_option maxHeartbeats 1600000 in
theorem Element_clone_c (v : Value) (e : Element) (F : List Nat) (w : World) (h : IsV EElement w v e F) (hm : e.entries.length ≤ 4294967296) (hm2 : ∀ x ∈ e.entries, x.faces.length ≤ 4294967296) :
    Calls Try.prog 32 #[v] w (RetV OElement e w) := by
  obtain ⟨_, rfl, v1, rfl, h1⟩ := h
  obtain ⟨a, cap, rfl⟩ := h1.slice
  have hl := h1.len
  unfold maxLen at hl
  have hB0 : ∀ A B : Obj, Below w.heap.size w ((w.alloc A).alloc B) := fun A B => ((Below.refl _ _).alloc (Nat.le_refl _) _).alloc (by simp) _
  have hFl := h1.lt (by decide)
  go_enter Try.func32, Try.ntmps32
  go_wp2_with fail
  refine (Clone_Entry _ e.entries F _ (h1.below (by decide) (hB0 _ _)) hm).mono ?_
  rintro e' w1 ⟨v2, F2, rfl, ho, hd, hs, hF2, hb1⟩
  obtain ⟨a2, cap2, rfl⟩ := ho.slice
  have r0 := Row.below (g := w.heap.size) (t := 35) (cs := [.int .i64 e.clock, .slice a e.entries.length cap]) (by simp [row_alloc] <;> omega) hb1
  have r1 := Row.below (g := w.heap.size + 1) (t := 35) (cs := [.int .i64 0, .slice none 0 0]) (by simp [row_alloc] <;> omega) hb1
  have hB := tr (hB0 _ _) hb1 (Nat.le_refl _)
  have hm1 := Lib.hid (Mix.start (O := OEntry) (R := EEntry) (B1 := w.heap.size) (B0 := w.heap.size + 2) rfl ho (by simpa using hs) (fun b hb => (hF2 b hb).imp id fun hb => hFl b hb) hd)
  have c0 := r0.cells; have f0 := r0.frozens
  have f1 := r1.frozens; have c1 := r1.cells
  clear hb1 ho hs hd hF2
  go_wp2_with fail
  have R0 := r0.set 1 (.slice a2 e.entries.length cap2)
  have R1 := r1.setOther (p := ⟨w.heap.size, 1, none⟩) (by simp) (.slice a2 e.entries.length cap2)
  have M1 := Lib.hid (hm1.out.setFar (p := ⟨w.heap.size, 1, none⟩) (Nat.le_refl _) (by simp) (.slice a2 e.entries.length cap2))
  clear hm1
  go_loopw [3, 11] (fun _ i wr => ∃ k : Nat, k ≤ e.entries.length ∧ i = .int .i64 k ∧ Hid (Mix OEntry EEntry 70 w.heap.size (w.heap.size + 2) wr (.slice a2 e.entries.length cap2) e.entries k) ∧ Row wr w.heap.size 35 [.int .i64 e.clock, .slice a2 e.entries.length cap2] ∧ Row wr (w.heap.size + 1) 35 [.int .i64 0, .slice none 0 0] ∧ Below w.heap.size w wr) (fun _ i _ => e.entries.length - (intOf i).toNat)
  case atStart => exact ⟨0, Nat.zero_le _, rfl, M1, by simpa using R0, R1, hB.setCell (Nat.le_refl _) _⟩
  case round =>
    obtain ⟨k, hk, rfl, hM, hr, hr1, hB⟩ := hrel
    have c0 := hr.cells; have f0 := hr.frozens
    have hsz := hr1.lt
    by_cases hlt : k < e.entries.length
    · obtain ⟨g, cap3, A, c, B, Fk, hv, hg, hrow, hA, hcl, hx, -, back⟩ := hM.out.at rfl hlt (by omega) (by omega)
      cases hv
      obtain ⟨u1, rfl, hf⟩ := id hx
      obtain ⟨fa, fc, rfl⟩ := hf.slice
      have a1 := hrow.cellMid (p := k * 3 + 1) (j := 1) (by rw [hA]; rfl) (by simp)
      simp only [List.getElem?_cons_zero, List.getElem?_cons_succ] at a1
      have hne : ¬ g = w.heap.size := by omega
      have hne2 : ¬ w.heap.size = g := by omega
      have hbk := Lib.hid back
      clear back
      have hfl := hm2 e.entries[k] (List.getElem_mem _)
      go_wp2_with fail
      go_region_law (first | (go_simp; go_at_call 55; refine (Clone_Int _ e.entries[k].faces Fk wr.drew (hf.frame fun _ _ => rfl) hfl).mono ?_; rintro e' w2 ⟨v3, F3, rfl, o3, n3, g3, hb2⟩; obtain ⟨d3, p3, rfl⟩ := o3.slice; have z3 := kc hb2 (show wr.drew.cell? ⟨w.heap.size, 1, none⟩ = some (.slice (some ⟨g, 0, none⟩) e.entries.length cap2) by simpa using c0 1); have z1 := kc hb2 (by simpa using a1); have zf := ((show Row wr.drew g 70 _ from hrow).below hb2).frozens (k * 3 + 1)))
      all_goals
        have hr2 := ((show Row wr.drew w.heap.size 35 _ from hr).below hb2).setOther (p := ⟨g, k * 3 + 1, none⟩) hne (.slice d3 e.entries[k].faces.length p3)
        have hr3 := ((show Row wr.drew (w.heap.size + 1) 35 _ from hr1).below hb2).setOther (p := ⟨g, k * 3 + 1, none⟩) (by simp; omega) (.slice d3 e.entries[k].faces.length p3)
        have hro := ((show Row wr.drew g 70 _ from hrow).below hb2).setMid (p := k * 3 + 1) (j := 1) (by rw [hA]; rfl) (by simp) (.slice d3 e.entries[k].faces.length p3)
        have hg3 : ∀ b ∈ F3, wr.heap.size ≤ b := g3
        have hgs := hrow.lt
        have hMk := Lib.hid (hbk.out _ _ F3 hro ⟨_, rfl, o3.setFar (fun hm => by have := hg3 _ hm; simp at this; omega) _⟩ n3 hg3 (fun b hb hbg => (Below.heap_setCell _ _ _ _ hbg).trans (hb2.block b hb)))
        have hB3 : Below w.heap.size w (w2.setCell ⟨g, k * 3 + 1, none⟩ (.slice d3 e.entries[k].faces.length p3)) := (tr (belowDrewN hB 1) hb2 (Nat.le_refl _)).setCell (by simp; omega) _
        go_wp2_with fail
        exact ⟨⟨k + 1, by omega, by go_num, hMk, hr2, hr3, hB3⟩, by simp [intOf]; omega⟩
    · have hk : k = e.entries.length := by omega
      subst hk
      obtain ⟨F4, o4, n4, g4⟩ := hM.out.done
      have O4 := Lib.hid o4
      clear hM o4
      have d1 := hr1.cells; have fd := hr1.frozens
      go_wp2_with fail
      refine bodyPost_ret (v := .agg #[.int .i64 e.clock, .slice a2 e.entries.length cap2]) ?_ rfl ?_
      · simp [results, Try.results32, go_sem, c0, d1, fd]
      · refine ⟨_, F4, rfl, ⟨_, rfl, _, rfl, ?_⟩, n4, fun b hb => by have := g4 b hb; omega, ?_⟩
        · repeat refine Ow.setFar ?_ (fun hm => by have := g4 _ hm; simp at this <;> omega) _
          exact O4.out
        · repeat refine Below.setCell ?_ (by simp <;> omega) _
          exact hB
end Go.Proofs.Ytjbfffopbpajiaa
