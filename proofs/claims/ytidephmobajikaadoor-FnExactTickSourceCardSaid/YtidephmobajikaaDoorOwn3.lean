/- Owned slices out of which elements are taken. Plain: no program in sight. -/
import Derived.Test.YtidephmobajikaaDoorOwn2
import Derived.Lib.SliceRun
namespace Go.Proofs.YtidephmobajikaaDoor
open Go.RowKit

theorem putCells_eq (w : World) (g : Nat) : ∀ (c : List Value) (w : World) (p : Nat), putCells w g p c = w.setCells g p c
  | [], _, _ => rfl
  | _ :: r, _, _ => putCells_eq w g r _ _
theorem zeroCells_len (z : Array Value) (n : Nat) : (Builtin.zeroCells z n).toList.length = n * z.size := by simp [Builtin.zeroCells]
theorem zeroCells_one (z : Array Value) (h : ∀ u ∈ z, u.oneCell' = true) (n : Nat) : ∀ u ∈ (Builtin.zeroCells z n).toList, u.oneCell' = true := by
  intro u hu
  simp only [Builtin.zeroCells, Array.toList_map, List.mem_map] at hu
  obtain ⟨i, hi, rfl⟩ := hu
  simp at hi
  have hz : 0 < z.size := Nat.pos_of_ne_zero fun e => by rw [e, Nat.mul_zero] at hi; omega
  have hm : i % z.size < z.size := Nat.mod_lt _ hz
  rw [getElem!_pos z _ hm]
  exact h _ (Array.getElem_mem _)
/-- clear, for elements of any number of cells -/
theorem run_clear_rows {P : Program} (w : World) (t e ty : TypeId) (z : Value) (ht : P.underlying t = some (.slice e)) (hv : ∀ w, (zeroValue e).run P w = .ok z w) (h1 : ∀ u ∈ z.cells, u.oneCell' = true) (b o n c : Nat) (hn : 0 < n)
    (hc : ∀ j, j < n * z.cells.size → (w.cell? ⟨b, o + j, none⟩).isSome = true) (hf : ∀ j, j < n * z.cells.size → w.frozen? ⟨b, o + j, none⟩ = false) :
    (Builtin.clear_ #[t] ty #[.slice (some ⟨b, o, none⟩) n c]).run P w = .ok (.tuple #[]) (w.setCells b o (Builtin.zeroCells z.cells n).toList) := by
  have hst := run_storeCells_cells (P := P) b o (Builtin.zeroCells z.cells n).toList 0 w (by rw [zeroCells_len]; simpa using hc) (by rw [zeroCells_len]; simpa using hf) (zeroCells_one _ h1 _)
  simp only [Nat.add_zero] at hst
  obtain ⟨m, rfl⟩ : ∃ m, n = m + 1 := ⟨n - 1, by omega⟩
  simp [Builtin.clear_, run_underlying ht, hv, hst]

theorem zeroValue_of {P : Program} {e : TypeId} {z : Value} {size bytes : Nat} (h : (P.info? e).map (fun i => (i.zero, i.size, i.bytes)) = some (some z, size, bytes)) : ∀ w, (zeroValue e).run P w = .ok z w := fun w => by
  obtain ⟨i, hi, hzz⟩ := Option.map_eq_some_iff.1 h
  simp only [Prod.mk.injEq] at hzz
  obtain ⟨hz, -, -⟩ := hzz
  simp [zeroValue, typeInfo, hi, hz]
theorem fidx_some {α : Type} {p : α → Bool} {xs : List α} (h : xs.any p = true) : ∃ k, ∃ hk : k < xs.length, fidx p xs = k ∧ p xs[k] = true ∧ (xs.take k).filter (fun x => !p x) = xs.take k := by
  have hk : xs.findIdx p < xs.length := List.findIdx_lt_length_of_exists (by obtain ⟨x, hx, hp⟩ := List.any_eq_true.1 h; exact ⟨x, hx, hp⟩)
  refine ⟨_, hk, by unfold fidx; rw [if_pos h], List.findIdx_getElem (w := hk), ?_⟩
  rw [List.filter_eq_self]
  intro x hx
  obtain ⟨i, hi, rfl⟩ := List.mem_take_iff_getElem.1 hx
  have := List.not_of_lt_findIdx (p := p) (xs := xs) (show i < xs.findIdx p by omega)
  simpa using this
theorem fidx_all {α : Type} {p : α → Bool} {xs : List α} (h : ¬ xs.any p = true) : fidx p xs = -1 ∧ xs.filter (fun x => !p x) = xs := by
  refine ⟨by unfold fidx; rw [if_neg h], ?_⟩
  rw [List.filter_eq_self]
  intro x hx
  cases hp : p x
  · rfl
  · exact absurd (List.any_eq_true.2 ⟨x, hx, hp⟩) h
theorem filter_take_yes {α : Type} {q : α → Bool} {xs : List α} {j : Nat} (h : j < xs.length) (hq : q xs[j] = true) : (xs.take (j + 1)).filter q = (xs.take j).filter q ++ [xs[j]] := by
  rw [List.take_succ_eq_append_getElem h, List.filter_append]; simp [hq]
theorem filter_take_no {α : Type} {q : α → Bool} {xs : List α} {j : Nat} (h : j < xs.length) (hq : q xs[j] = false) : (xs.take (j + 1)).filter q = (xs.take j).filter q := by
  rw [List.take_succ_eq_append_getElem h, List.filter_append]; simp [hq]
theorem same_cells {w : World} {g off n : Nat} {c c' : List Value} (h : c.length = n) (h' : c'.length = n) (hc : ∀ j, j < n → w.cell? ⟨g, off + j, none⟩ = c[j]?) (hc' : ∀ j, j < n → w.cell? ⟨g, off + j, none⟩ = c'[j]?) : c = c' := by
  apply List.ext_getElem?
  intro j
  by_cases hj : j < n
  · rw [← hc j hj, hc' j hj]
  · rw [List.getElem?_eq_none (by omega), List.getElem?_eq_none (by omega)]
/-- a row that has the kept elements, m places that count no more, and the elements that are still to be looked at -/
def Gap {α : Type} (O : Elem α) (t : TypeId) (w : World) (g n cap : Nat) (ys : List α) (m : Nat) (zs : List α) (F : List Nat) : Prop :=
  ∃ c1 jk c3 rest G1 G3, n = ys.length + m + zs.length ∧ Row w g t (c1 ++ jk ++ c3 ++ rest) ∧ n ≤ cap ∧ cap ≤ maxLen ∧ c1.length + jk.length + c3.length + rest.length = cap * O.sz ∧ jk.length = m * O.sz ∧
    Flat O w c1 ys G1 ∧ Flat O w c3 zs G3 ∧ F = g :: (G1 ++ G3) ∧ F.Nodup
section
variable {α : Type} {O : Elem α} {t : TypeId} {w : World} {g n cap m : Nat} {ys zs : List α} {F : List Nat}
theorem Gap.start {a : Option Addr} {n : Nat} {xs : List α} (h : Ow O t w (.slice a n cap) xs F) (hn : F.Nodup) (e : xs = ys ++ zs) (h0 : 0 < xs.length) : ∃ g, a = some ⟨g, 0, none⟩ ∧ n = xs.length ∧ Gap O t w g n cap ys 0 zs F := by
  subst e
  rcases h with ⟨_, h1, _⟩ | ⟨g, cap', cs, rest, G, hv, hr, h3, h4, h5, hf, rfl⟩
  · rw [h1] at h0; simp at h0
  · cases hv
    obtain ⟨c1, c2, G1, G2, rfl, rfl, f1, f2⟩ := hf.split
    refine ⟨g, rfl, rfl, c1, [], c2, rest, G1, G2, by simp, by simpa using hr, h3, h4, by simpa using h5, by simp, f1, f2, rfl, hn⟩
theorem Gap.skip {x : α} (h : Gap O t w g n cap ys m (x :: zs) F) : ∃ F', Gap O t w g n cap ys (m + 1) zs F' ∧ ∀ b ∈ F', b ∈ F := by
  obtain ⟨c1, jk, c3, rest, G1, G3, hn, hr, h1, h2, h3, h4, f1, ⟨c, c4, Fx, G4, rfl, rfl, hx, f3⟩, rfl, hnd⟩ := h
  have hl := O.len hx
  refine ⟨g :: (G1 ++ G4), ⟨c1, jk ++ c, c4, rest, G1, G4, by simp at hn ⊢; omega, by simpa using hr, h1, h2, by simp at h3 ⊢; omega, by rw [List.length_append, h4, hl, Nat.add_mul]; simp, f1, f3, rfl, ?_⟩, by intro b hb; simp at hb ⊢; rcases hb with hb | hb | hb <;> simp [hb]⟩
  simp only [List.nodup_cons, List.nodup_append, List.mem_append, not_or] at hnd ⊢
  exact ⟨⟨hnd.1.1, hnd.1.2.2⟩, hnd.2.1, hnd.2.2.1.2.1, fun a ha b hb => hnd.2.2.2 a ha b (.inr hb)⟩
theorem Gap.first {x : α} (h : Gap O t w g n cap ys m (x :: zs) F) : ∃ c Fx, O.rep w c x Fx ∧ (∀ b ∈ Fx, b ∈ F) ∧ ∀ j, j < O.sz → w.cell? ⟨g, (ys.length + m) * O.sz + j, none⟩ = c[j]? := by
  obtain ⟨c1, jk, c3, rest, G1, G3, hn, hr, h1, h2, h3, h4, f1, ⟨c, c4, Fx, G4, rfl, rfl, hx, f3⟩, rfl, hnd⟩ := h
  have hl := O.len hx
  refine ⟨c, Fx, hx, fun b hb => by simp [hb], fun j hj => ?_⟩
  have hr' : Row w g t ((c1 ++ jk) ++ c ++ (c4 ++ rest)) := by simpa using hr
  exact hr'.cellMid (by rw [List.length_append, f1.len, h4, Nat.add_mul]) (by omega)
/-- the first of those still to be looked at goes to the end of the kept ones -/
theorem Gap.move {x : α} (hm : 0 < m) (h : Gap O t w g n cap ys m (x :: zs) F) :
    (∀ j, j < O.sz → (∃ u, w.cell? ⟨g, ys.length * O.sz + j, none⟩ = some u) ∧ w.frozen? ⟨g, ys.length * O.sz + j, none⟩ = false) ∧
    ∃ c Fx, O.rep w c x Fx ∧ (∀ b ∈ Fx, b ∈ F) ∧ (∀ j, j < O.sz → w.cell? ⟨g, (ys.length + m) * O.sz + j, none⟩ = c[j]?) ∧ ∀ w', Below w.heap.size w w' → ∃ F', Gap O t (putCells w' g (ys.length * O.sz) c) g n cap (ys ++ [x]) m zs F' ∧ ∀ b ∈ F', b ∈ F := by
  obtain ⟨c, Fx, hx0, hxF, hcell⟩ := h.first
  obtain ⟨c1, jk, c3, rest, G1, G3, hn, hr, h1, h2, h3, h4, f1, ⟨c', c4, Fx', G4, rfl, rfl, hx, f3⟩, rfl, hnd⟩ := h
  have hl := O.len hx
  have hl0 := O.len hx0
  obtain ⟨m', rfl⟩ : ∃ m', m = m' + 1 := ⟨m - 1, by omega⟩
  have hjk : jk = jk.take O.sz ++ jk.drop O.sz := by simp
  have hjl : (jk.take O.sz).length = O.sz := by rw [List.length_take, h4, Nat.add_mul]; omega
  have hA := f1.len
  have hr' : Row w g t (c1 ++ jk.take O.sz ++ (jk.drop O.sz ++ c' ++ c4 ++ rest)) := by
    have e : c1 ++ jk.take O.sz ++ (jk.drop O.sz ++ c' ++ c4 ++ rest) = c1 ++ jk ++ (c' ++ c4) ++ rest := by
      simp only [List.append_assoc]
      rw [← List.append_assoc (jk.take O.sz), List.take_append_drop]
    rw [e]; exact hr
  have hcc : c = c' := by
    apply List.ext_getElem? 
    intro j
    by_cases hj : j < O.sz
    · have hr2 : Row w g t ((c1 ++ jk) ++ c' ++ (c4 ++ rest)) := by simpa using hr
      rw [← hcell j hj, hr2.cellMid (by rw [List.length_append, hA, h4, ← Nat.add_mul]) (by omega)]
    · rw [List.getElem?_eq_none (by omega), List.getElem?_eq_none (by omega)]
  refine ⟨fun j hj => ⟨⟨_, by rw [hr'.cellMid (j := j) (by omega) (by omega), List.getElem?_eq_getElem (by omega)]⟩, hr'.frozen _⟩, c, Fx', hcc ▸ hx, fun b hb => by simp [hb], hcell, fun w' hb => ?_⟩
  subst hcc
  have hgl := hr.lt
  have hnd' := hnd
  simp only [List.nodup_cons, List.nodup_append, List.mem_append, not_or] at hnd'
  have hrow := (hr'.below hb).put c (jk.take O.sz) (p := ys.length * O.sz) hA.symm (by omega)
  have hfr : ∀ b, b < w.heap.size → b ≠ g → (putCells w' g (ys.length * O.sz) c).heap[b]? = w.heap[b]? := fun b hb1 hb2 => (putCells_other c w' _ b hb2).trans (hb.block b hb1)
  have n1 : ∀ b ∈ G1, b ≠ g := fun b hb e => hnd'.1.1 (e ▸ hb)
  have n2 : ∀ b ∈ Fx', b ≠ g := fun b hb e => hnd'.1.2.1 (e ▸ hb)
  have n3 : ∀ b ∈ G4, b ≠ g := fun b hb e => hnd'.1.2.2 (e ▸ hb)
  refine ⟨g :: ((G1 ++ Fx') ++ G4), ⟨c1 ++ c, jk.drop O.sz ++ c, c4, rest, G1 ++ Fx', G4, by simp at hn ⊢; omega, ?_, h1, h2, ?_, ?_, ?_, f3.frame fun b hb => hfr b (f3.lt b hb) (n3 b hb), rfl, ?_⟩, by intro b hb; simpa [or_assoc] using hb⟩
  · simpa using hrow
  · simp [h4, Nat.add_mul] at h3 ⊢; omega
  · simp [h4, Nat.add_mul]; omega
  · exact (f1.frame fun b hb => hfr b (f1.lt b hb) (n1 b hb)).append (Flat.one (O.frame hx fun b hb => hfr b (O.lt hx b hb) (n2 b hb)))
  · simpa using hnd
theorem Gap.below {w' : World} (h : Gap O t w g n cap ys m zs F) (hb : Below w.heap.size w w') : Gap O t w' g n cap ys m zs F := by
  obtain ⟨c1, jk, c3, rest, G1, G3, hn, hr, h1, h2, h3, h4, f1, f3, hF, hnd⟩ := h
  exact ⟨c1, jk, c3, rest, G1, G3, hn, hr.below hb, h1, h2, h3, h4, f1.frame fun b h => hb.block b (f1.lt b h), f3.frame fun b h => hb.block b (f3.lt b h), hF, hnd⟩
theorem Gap.caps (h : Gap O t w g n cap ys m zs F) : n = ys.length + m + zs.length ∧ n ≤ cap ∧ cap ≤ maxLen ∧ g < w.heap.size ∧ g ∈ F ∧ F.Nodup := by
  obtain ⟨c1, jk, c3, rest, G1, G3, hn, hr, h1, h2, h3, h4, f1, f3, rfl, hnd⟩ := h
  exact ⟨hn, h1, h2, hr.lt, by simp, hnd⟩
/-- the places behind the kept ones, cleared -/
theorem Gap.done {z : Array Value} (hz : z.size = O.sz) (h : Gap O t w g n cap ys m [] F) :
    (∀ j, j < m * O.sz → (w.cell? ⟨g, ys.length * O.sz + j, none⟩).isSome = true ∧ w.frozen? ⟨g, ys.length * O.sz + j, none⟩ = false) ∧
    ∃ F', Ow O t (w.setCells g (ys.length * O.sz) (Builtin.zeroCells z m).toList) (.slice (some ⟨g, 0, none⟩) ys.length cap) ys F' ∧ F'.Nodup ∧ ∀ b ∈ F', b ∈ F := by
  obtain ⟨c1, jk, c3, rest, G1, G3, hn, hr, h1, h2, h3, h4, f1, ⟨rfl, rfl⟩, rfl, hnd⟩ := h
  have hA := f1.len
  simp only [List.append_nil] at hr hnd
  have hr' : Row w g t (c1 ++ jk ++ rest) := hr
  refine ⟨fun j hj => ⟨?_, hr'.frozen _⟩, g :: G1, ?_, hnd, by simp⟩
  · rw [hr'.cellMid (j := j) (by omega) (by omega), List.getElem?_eq_getElem (by omega)]; rfl
  · rw [← putCells_eq w]
    have hrow := hr'.put (Builtin.zeroCells z m).toList jk (p := ys.length * O.sz) hA.symm (by rw [zeroCells_len, h4, hz])
    have hng : g ∉ G1 := by simp at hnd; exact hnd.1
    refine .inr ⟨g, cap, c1, (Builtin.zeroCells z m).toList ++ rest, G1, rfl, by simpa using hrow, by simp at hn; omega, h2, ?_, f1.frame fun b hb => putCells_other _ _ _ _ fun e => hng (e ▸ hb), rfl⟩
    rw [List.length_append, zeroCells_len, hz, ← h4]; simp at h3; omega
end
end Go.Proofs.YtidephmobajikaaDoor
