/- Slices that a call owns: one block, unfrozen, from its head on; the elements' cells one behind the other. Plain: no program in sight. -/
import Derived.Test.YtidephmobajikaaDoorRep
import Derived.Deep.Draws
namespace Go.Proofs.YtidephmobajikaaDoor
open Go.RowKit

/-- blocks outside F are as they were -/
structure Keep (F : List Nat) (w w' : World) : Prop where
  os : w'.os = w.os
  tape : w'.tape = w.tape
  output : w'.output = w.output
  size : w.heap.size ≤ w'.heap.size
  block : ∀ k, k < w.heap.size → k ∉ F → w'.heap[k]? = w.heap[k]?
theorem Keep.refl (F : List Nat) (w : World) : Keep F w w := ⟨rfl, rfl, rfl, Nat.le_refl _, fun _ _ _ => rfl⟩
theorem Keep.trans {F : List Nat} {a b c : World} (h : Keep F a b) (k : Keep F b c) : Keep F a c :=
  ⟨k.os.trans h.os, k.tape.trans h.tape, k.output.trans h.output, Nat.le_trans h.size k.size, fun i hi hf => (k.block i (Nat.lt_of_lt_of_le hi h.size) hf).trans (h.block i hi hf)⟩
theorem Keep.mono {F G : List Nat} {a b : World} (h : Keep F a b) (hs : ∀ x ∈ F, x < a.heap.size → x ∈ G) : Keep G a b :=
  ⟨h.os, h.tape, h.output, h.size, fun k hk hg => h.block k hk fun hf => hg (hs k hf hk)⟩
theorem Keep.ofBelow {F : List Nat} {w w' : World} (h : Below w.heap.size w w') : Keep F w w' := ⟨h.os, h.tape, h.output, h.size, fun k hk _ => h.block k hk⟩
theorem Keep.below {F : List Nat} {w w' : World} {B : Nat} (h : Keep F w w') (hB : B ≤ w.heap.size) (hF : ∀ b ∈ F, B ≤ b) : Below B w w' :=
  ⟨h.os, h.tape, h.output, h.size, fun k hk => h.block k (by omega) fun hf => by have := hF k hf; omega⟩
theorem Keep.setCell {F : List Nat} {w w' : World} (h : Keep F w w') {p : Addr} (hp : p.block ∈ F) (u : Value) : Keep F w (w'.setCell p u) :=
  h.trans ⟨rfl, rfl, rfl, by simp [World.setCell], fun k _ hf => Below.heap_setCell _ _ _ _ (fun e => hf (e ▸ hp))⟩
theorem Keep.setNew {F : List Nat} {w w' : World} (h : Keep F w w') {p : Addr} (hp : w.heap.size ≤ p.block) (u : Value) : Keep F w (w'.setCell p u) :=
  ⟨h.os, h.tape, h.output, by simpa [World.setCell] using h.size, fun k hk hf => (Below.heap_setCell _ _ _ _ (by omega)).trans (h.block k hk hf)⟩
theorem Keep.alloc {F : List Nat} {w w' : World} (h : Keep F w w') (o : Obj) : Keep F w (w'.alloc o) :=
  h.trans ⟨rfl, rfl, rfl, by simp, fun k hk _ => Below.heap_alloc _ _ _ hk⟩
theorem Keep.drewN {F : List Nat} {w w' : World} (h : Keep F w w') (n : Nat) : Keep F w (w'.drewN n) := ⟨h.os, h.tape, h.output, h.size, h.block⟩
theorem Keep.cell {F : List Nat} {w w' : World} (h : Keep F w w') {a : Addr} {v : Value} (ha : a.block ∉ F) (hc : w.cell? a = some v) : w'.cell? a = some v :=
  (World.cell?_of_block (w := w) (h.block a.block (World.block_lt_of_cell? w a hc) ha)).trans hc
theorem belowDrewN {B : Nat} {a w : World} (h : Below B a w) (n : Nat) : Below B a (w.drewN n) := ⟨h.os, h.tape, h.output, h.size, h.block⟩

/-- block g is a row of cells of a type, none frozen -/
def Row (w : World) (g : Nat) (t : TypeId) (cs : List Value) : Prop := w.heap[g]? = some (.cells cs.toArray t (0, 0))
theorem Row.lt {w g t cs} (h : Row w g t cs) : g < w.heap.size := by
  rcases Nat.lt_or_ge g w.heap.size with h1 | h1
  · exact h1
  · rw [Row, Array.getElem?_eq_none h1] at h; simp at h
theorem Row.cell {w g t cs} (h : Row w g t cs) (j : Nat) : w.cell? ⟨g, j, none⟩ = cs[j]? := by
  simp [World.cell?, show w.heap[g]? = _ from h]
theorem Row.frozen {w g t cs} (h : Row w g t cs) (j : Nat) : w.frozen? ⟨g, j, none⟩ = false := by
  simp [World.frozen?, show w.heap[g]? = _ from h]
theorem Row.keep {w w' g t cs} (h : Row w g t cs) (e : w'.heap[g]? = w.heap[g]?) : Row w' g t cs := e.trans h
theorem Row.below {w w' g t cs} (h : Row w g t cs) (hb : Below w.heap.size w w') : Row w' g t cs := h.keep (hb.block g h.lt)
theorem Row.set {w g t cs} (h : Row w g t cs) (j : Nat) (u : Value) : Row (w.setCell ⟨g, j, none⟩ u) g t (cs.set j u) := by
  have h' : w.heap[g]? = _ := h
  simp [Row, World.setCell, Array.getElem?_modify, h']
theorem Row.setOther {w g t cs} (h : Row w g t cs) {p : Addr} (hp : p.block ≠ g) (u : Value) : Row (w.setCell p u) g t cs :=
  h.keep (Below.heap_setCell _ _ _ _ (fun e => hp e.symm))

theorem Row.cells {w g t cs} (h : Row w g t cs) : ∀ j, w.cell? ⟨g, j, none⟩ = cs[j]? := h.cell
theorem Row.frozens {w g t cs} (h : Row w g t cs) : ∀ j, w.frozen? ⟨g, j, none⟩ = false := h.frozen
theorem Row.made (w : World) (t : TypeId) (cs : List Value) : Row (w.alloc (.cells cs.toArray t)) w.heap.size t cs := heap_alloc_new w _
theorem Row.alloc {w g t cs} (h : Row w g t cs) (o : Obj) : Row (w.alloc o) g t cs := h.keep (Below.heap_alloc _ _ _ h.lt)

theorem row_alloc (w : World) (o : Obj) (g : Nat) (t : TypeId) (cs : List Value) : Row (w.alloc o) g t cs ↔ if g = w.heap.size then o = .cells cs.toArray t (0, 0) else Row w g t cs := by
  unfold Row
  show (w.heap.push o)[g]? = _ ↔ _
  rw [Array.getElem?_push]
  split <;> simp

/-- the elements' cells, one behind the other -/
def Flat {α : Type} (E : Elem α) (w : World) : List Value → List α → List Nat → Prop
  | cs, [], G => cs = [] ∧ G = []
  | cs, x :: r, G => ∃ c1 c2 F1 F2, cs = c1 ++ c2 ∧ G = F1 ++ F2 ∧ E.rep w c1 x F1 ∧ Flat E w c2 r F2
section
variable {α : Type} {E : Elem α}
theorem Flat.len {w : World} : ∀ {xs : List α} {cs : List Value} {G : List Nat}, Flat E w cs xs G → cs.length = xs.length * E.sz
  | [], _, _, h => by simp [h.1]
  | x :: r, _, _, h => by
    obtain ⟨c1, c2, F1, F2, rfl, rfl, h1, h2⟩ := h
    rw [List.length_append, E.len h1, h2.len, List.length_cons, Nat.add_mul]; omega
theorem Flat.lt {w : World} : ∀ {xs : List α} {cs : List Value} {G : List Nat}, Flat E w cs xs G → ∀ b ∈ G, b < w.heap.size
  | [], _, _, h => by simp [h.2]
  | x :: r, _, _, h => by
    obtain ⟨c1, c2, F1, F2, rfl, rfl, h1, h2⟩ := h
    intro b hb
    rcases List.mem_append.1 hb with hb | hb
    · exact E.lt h1 b hb
    · exact h2.lt b hb
theorem Flat.frame {w w' : World} : ∀ {xs : List α} {cs : List Value} {G : List Nat}, Flat E w cs xs G → (∀ b ∈ G, w'.heap[b]? = w.heap[b]?) → Flat E w' cs xs G
  | [], _, _, h, _ => h
  | x :: r, _, _, h, hG => by
    obtain ⟨c1, c2, F1, F2, rfl, rfl, h1, h2⟩ := h
    exact ⟨c1, c2, F1, F2, rfl, rfl, E.frame h1 fun b hb => hG b (by simp [hb]), h2.frame fun b hb => hG b (by simp [hb])⟩
theorem Flat.append {w : World} : ∀ {xs ys : List α} {cs ds : List Value} {G H : List Nat}, Flat E w cs xs G → Flat E w ds ys H → Flat E w (cs ++ ds) (xs ++ ys) (G ++ H)
  | [], _, _, _, _, _, h, k => by obtain ⟨rfl, rfl⟩ := h; simpa using k
  | x :: r, _, _, _, _, _, h, k => by
    obtain ⟨c1, c2, F1, F2, rfl, rfl, h1, h2⟩ := h
    exact ⟨c1, _, F1, _, by rw [List.append_assoc], by rw [List.append_assoc], h1, h2.append k⟩
theorem Flat.one {w : World} {x : α} {cs : List Value} {G : List Nat} (h : E.rep w cs x G) : Flat E w cs [x] G := ⟨cs, [], G, [], by simp, by simp, h, rfl, rfl⟩
theorem Flat.split {w : World} : ∀ {xs ys : List α} {cs : List Value} {G : List Nat}, Flat E w cs (xs ++ ys) G → ∃ c1 c2 G1 G2, cs = c1 ++ c2 ∧ G = G1 ++ G2 ∧ Flat E w c1 xs G1 ∧ Flat E w c2 ys G2
  | [], _, cs, G, h => ⟨[], cs, [], G, rfl, rfl, ⟨rfl, rfl⟩, h⟩
  | x :: r, _, _, _, h => by
    obtain ⟨c1, c2, F1, F2, rfl, rfl, h1, h2⟩ := h
    obtain ⟨d1, d2, G1, G2, rfl, rfl, h3, h4⟩ := h2.split
    exact ⟨c1 ++ d1, d2, F1 ++ G1, G2, by simp, by simp, ⟨c1, d1, F1, G1, rfl, rfl, h1, h3⟩, h4⟩
theorem Flat.focus {w : World} {xs : List α} {cs : List Value} {G : List Nat} (h : Flat E w cs xs G) (i : Nat) (hi : i < xs.length) :
    ∃ A c B G1 Fi G2, cs = A ++ c ++ B ∧ G = G1 ++ Fi ++ G2 ∧ A.length = i * E.sz ∧ c.length = E.sz ∧ Flat E w A (xs.take i) G1 ∧ E.rep w c xs[i] Fi ∧ Flat E w B (xs.drop (i + 1)) G2 := by
  have e : xs = xs.take i ++ xs[i] :: xs.drop (i + 1) := by simp
  rw [e] at h
  obtain ⟨A, c2, G1, G2, rfl, rfl, h1, c, B, F1, F2, rfl, rfl, h2, h3⟩ := h.split
  exact ⟨A, c, B, G1, F1, F2, by simp, by simp, by rw [h1.len, List.length_take, Nat.min_eq_left (by omega)], E.len h2, h1, h2, h3⟩
theorem Flat.build {w : World} {xs : List α} {A c B : List Value} {G1 Fi G2 : List Nat} {i : Nat} (hi : i < xs.length) {x : α} (h1 : Flat E w A (xs.take i) G1) (h2 : E.rep w c x Fi) (h3 : Flat E w B (xs.drop (i + 1)) G2) :
    Flat E w (A ++ c ++ B) (xs.set i x) (G1 ++ Fi ++ G2) := by
  have e : xs.set i x = xs.take i ++ [x] ++ xs.drop (i + 1) := by
    rw [List.set_eq_take_append_cons_drop]; simp [hi]
  rw [e]
  exact (h1.append (Flat.one h2)).append h3

/-- an owned slice -/
def Ow (E : Elem α) (t : TypeId) (w : World) (v : Value) (xs : List α) (F : List Nat) : Prop :=
  (v = .slice none 0 0 ∧ xs = [] ∧ F = []) ∨
  ∃ g cap cs rest G, v = .slice (some ⟨g, 0, none⟩) xs.length cap ∧ Row w g t (cs ++ rest) ∧ xs.length ≤ cap ∧ cap ≤ maxLen ∧ cs.length + rest.length = cap * E.sz ∧ Flat E w cs xs G ∧ F = g :: G

theorem Ow.lt {t : TypeId} {w v} {xs : List α} {F} (h : Ow E t w v xs F) : ∀ b ∈ F, b < w.heap.size := by
  rcases h with ⟨_, _, rfl⟩ | ⟨g, cap, cs, rest, G, _, hr, _, _, _, hf, rfl⟩
  · simp
  · intro b hb
    rcases List.mem_cons.1 hb with rfl | hb
    · exact hr.lt
    · exact hf.lt b hb
theorem Ow.frame {t : TypeId} {w w' : World} {v} {xs : List α} {F} (h : Ow E t w v xs F) (hF : ∀ b ∈ F, w'.heap[b]? = w.heap[b]?) : Ow E t w' v xs F := by
  rcases h with h | ⟨g, cap, cs, rest, G, hv, hr, h1, h2, h3, hf, rfl⟩
  · exact .inl h
  · exact .inr ⟨g, cap, cs, rest, G, hv, hr.keep (hF g (by simp)), h1, h2, h3, hf.frame fun b hb => hF b (by simp [hb]), rfl⟩
theorem Ow.below {t : TypeId} {w w' : World} {v} {xs : List α} {F} (h : Ow E t w v xs F) (hb : Below w.heap.size w w') : Ow E t w' v xs F :=
  h.frame fun b h' => hb.block b (h.lt b h')
theorem Ow.keep {t : TypeId} {w w' : World} {v} {xs : List α} {F K} (h : Ow E t w v xs F) (hk : Keep K w w') (hd : ∀ b ∈ F, b ∉ K) : Ow E t w' v xs F :=
  h.frame fun b h' => hk.block b (h.lt b h') (hd b h')
theorem Ow.setFar {t : TypeId} {w : World} {v} {xs : List α} {F} (h : Ow E t w v xs F) {p : Addr} (hp : p.block ∉ F) (u : Value) : Ow E t (w.setCell p u) v xs F :=
  h.frame fun b hb => Below.heap_setCell _ _ _ _ fun e => hp (e ▸ hb)
theorem Ow.len {t : TypeId} {w v} {xs : List α} {F} (h : Ow E t w v xs F) : xs.length ≤ maxLen := by
  rcases h with ⟨_, rfl, _⟩ | ⟨g, cap, cs, rest, G, _, _, h1, h2, _⟩
  · simp
  · omega
theorem Ow.slice {t : TypeId} {w v} {xs : List α} {F} (h : Ow E t w v xs F) : ∃ a cap, v = .slice a xs.length cap := by
  rcases h with ⟨rfl, rfl, _⟩ | ⟨g, cap, cs, rest, G, rfl, _⟩
  · exact ⟨none, 0, rfl⟩
  · exact ⟨_, _, rfl⟩
/-- one element of an owned slice, and the way back -/
theorem Ow.focus {t : TypeId} {w v} {xs : List α} {F} (h : Ow E t w v xs F) (i : Nat) (hi : i < xs.length) :
    ∃ g cap A c B G1 Fi G2, v = .slice (some ⟨g, 0, none⟩) xs.length cap ∧ Row w g t (A ++ c ++ B) ∧ A.length = i * E.sz ∧ c.length = E.sz ∧ E.rep w c xs[i] Fi ∧ F = g :: (G1 ++ Fi ++ G2) ∧
      (∀ b ∈ G1 ++ G2, b < w.heap.size) ∧
      ∀ w' c' x' Fi', Row w' g t (A ++ c' ++ B) → E.rep w' c' x' Fi' → (∀ b ∈ G1 ++ G2, w'.heap[b]? = w.heap[b]?) → Ow E t w' v (xs.set i x') (g :: (G1 ++ Fi' ++ G2)) := by
  rcases h with ⟨_, rfl, _⟩ | ⟨g, cap, cs, rest, G, rfl, hr, h1, h2, h3, hf, rfl⟩
  · simp at hi
  · obtain ⟨A, c, B, G1, Fi, G2, rfl, rfl, hA, hc, hfA, hx, hfB⟩ := hf.focus i hi
    refine ⟨g, cap, A, c, B ++ rest, G1, Fi, G2, rfl, by simpa using hr, hA, hc, hx, rfl, ?_, ?_⟩
    · intro b hb
      rcases List.mem_append.1 hb with hb | hb
      · exact hfA.lt b hb
      · exact hfB.lt b hb
    · intro w' c' x' Fi' hr' hx' hG
      refine .inr ⟨g, cap, A ++ c' ++ B, rest, G1 ++ Fi' ++ G2, by simp, by simpa using hr', by simpa using h1, h2, ?_, ?_, rfl⟩
      · have := E.len hx'
        simp only [List.length_append] at h3 ⊢
        omega
      · exact Flat.build hi (hfA.frame fun b hb => hG b (by simp [hb])) hx' (hfB.frame fun b hb => hG b (by simp [hb]))
/-- whatever is owned may be read -/
structure Weak {α : Type} (O R : Elem α) : Prop where
  sz : O.sz = R.sz
  rep : ∀ {w cs x F}, O.rep w cs x F → ∃ F', (∀ b ∈ F', b ∈ F) ∧ R.rep w cs x F'
theorem Weak.refl {α : Type} (E : Elem α) : Weak E E := ⟨rfl, fun h => ⟨_, fun _ h => h, h⟩⟩
theorem Ow.sl {O R : Elem α} (hW : Weak O R) {t : TypeId} {w v} {xs : List α} {F} (h : Ow O t w v xs F) : ∃ F', (∀ b ∈ F', b ∈ F) ∧ Sl R w v xs F' := by
  have key : ∀ (xs : List α) (cs : List Value) (G : List Nat) (g off : Nat), Flat O w cs xs G → (∀ j, j < cs.length → w.cell? ⟨g, off + j, none⟩ = cs[j]?) → ∃ G', (∀ b ∈ G', b ∈ G) ∧ Cells R w g off xs G' := by
    intro xs
    induction xs with
    | nil => intro cs G g off h _; exact ⟨[], by simp, rfl⟩
    | cons x r ih =>
      intro cs G g off h hc
      obtain ⟨c1, c2, F1, F2, rfl, rfl, h1, h2⟩ := h
      have hl := O.len h1
      have hs := hW.sz
      obtain ⟨F1', hs1, hr1⟩ := hW.rep h1
      obtain ⟨F2', hs2, hr2⟩ := ih c2 F2 g (off + R.sz) h2 fun j hj => by
        have := hc (c1.length + j) (by simp; omega)
        rw [List.getElem?_append_right (by omega), show c1.length + j - c1.length = j by omega] at this
        rw [← this, show off + R.sz + j = off + (c1.length + j) by omega]
      refine ⟨F1' ++ F2', fun b hb => ?_, c1, F1', F2', rfl, hr1, fun j hj => ?_, hr2⟩
      · rcases List.mem_append.1 hb with hb | hb
        · simp [hs1 b hb]
        · simp [hs2 b hb]
      · rw [hc j (by simp; omega), List.getElem?_append_left (by omega)]
  have hl := h.len
  rcases h with ⟨rfl, rfl, rfl⟩ | ⟨g, cap, cs, rest, G, rfl, hrow, h1, h2, h3, hf, rfl⟩
  · exact ⟨[], by simp, none, 0, rfl, by simp, .inl ⟨rfl, rfl, fun _ => rfl⟩⟩
  · by_cases h0 : xs = []
    · subst h0
      exact ⟨[], by simp, some ⟨g, 0, none⟩, cap, rfl, ⟨by simp, h2⟩, .inl ⟨rfl, rfl, fun e => by cases e⟩⟩
    · obtain ⟨G', hG, hc⟩ := key xs cs G g 0 hf fun j hj => by rw [Nat.zero_add, hrow.cell, List.getElem?_append_left hj]
      exact ⟨g :: G', fun b hb => by rcases List.mem_cons.1 hb with rfl | hb; simp; simp [hG b hb], _, cap, rfl, ⟨h1, h2⟩, .inr ⟨g, 0, G', rfl, h0, rfl, hc⟩⟩
/-- .. of the same elements -/
theorem Ow.read {t : TypeId} {w v} {xs : List α} {F} (h : Ow E t w v xs F) : ∃ F', (∀ b ∈ F', b ∈ F) ∧ Sl E w v xs F' := by
  exact h.sl (Weak.refl E)
end
/-- a slice of owned elements, read -/
theorem Weak.slice {α : Type} {O R : Elem α} (h : Weak O R) (hz : 0 < R.sz) (t : TypeId) {w v} {xs : List α} {F} (ho : Ow O t w v xs F) : ∃ F', (∀ b ∈ F', b ∈ F) ∧ (ESl R hz).rep w [v] xs F' := by
  obtain ⟨F', h1, h2⟩ := ho.sl h; exact ⟨F', h1, v, rfl, h2⟩
/-- an owned slice as a part of an element -/
def OSl {α : Type} (E : Elem α) (t : TypeId) : Elem (List α) where
  sz := 1
  rep w cs xs F := ∃ v, cs = [v] ∧ Ow E t w v xs F
  len h := by obtain ⟨v, rfl, _⟩ := h; rfl
  lt h := by obtain ⟨v, rfl, h⟩ := h; exact h.lt
  frame h hF := by obtain ⟨v, rfl, h⟩ := h; exact ⟨v, rfl, h.frame hF⟩

theorem set_mid (A c B : List Value) (j : Nat) (hj : j < c.length) (u : Value) : (A ++ c ++ B).set (A.length + j) u = A ++ c.set j u ++ B := by
  rw [List.append_assoc, List.set_append_right _ _ (by omega), show A.length + j - A.length = j by omega, List.set_append_left _ _ hj, List.append_assoc]
theorem Row.setMid {w g t} {A c B : List Value} (h : Row w g t (A ++ c ++ B)) {p j : Nat} (hp : p = A.length + j) (hj : j < c.length) (u : Value) : Row (w.setCell ⟨g, p, none⟩ u) g t (A ++ c.set j u ++ B) := by
  subst hp; rw [← set_mid _ _ _ _ hj]; exact h.set _ u
theorem Row.cellMid {w g t} {A c B : List Value} (h : Row w g t (A ++ c ++ B)) {p j : Nat} (hp : p = A.length + j) (hj : j < c.length) : w.cell? ⟨g, p, none⟩ = c[j]? := by
  subst hp; rw [h.cell, List.append_assoc, List.getElem?_append_right (by omega), show A.length + j - A.length = j by omega, List.getElem?_append_left hj]
/-- cells stored one behind the other -/
def putCells (w : World) (g : Nat) : Nat → List Value → World
  | _, [] => w
  | p, u :: r => putCells (w.setCell ⟨g, p, none⟩ u) g (p + 1) r
theorem Row.put {g t} : ∀ (c' c : List Value) {w : World} {A B : List Value} {p : Nat}, Row w g t (A ++ c ++ B) → p = A.length → c'.length = c.length → Row (putCells w g p c') g t (A ++ c' ++ B)
  | [], [], _, _, _, _, h, _, _ => h
  | u :: r, d :: c, w, A, B, p, h, hp, hl => by
    have h1 := h.setMid (p := p) (j := 0) (by omega) (by simp) u
    simp only [List.set_cons_zero] at h1
    have h2 := Row.put r c (w := w.setCell ⟨g, p, none⟩ u) (A := A ++ [u]) (B := B) (p := p + 1) (by simpa using h1) (by simp; omega) (by simpa using hl)
    simpa [putCells] using h2
  | [], _ :: _, _, _, _, _, _, _, hl => by simp at hl
  | _ :: _, [], _, _, _, _, _, _, hl => by simp at hl
theorem putCells_other {g : Nat} : ∀ (c : List Value) (w : World) (p : Nat) (b : Nat), b ≠ g → (putCells w g p c).heap[b]? = w.heap[b]?
  | [], _, _, _, _ => rfl
  | _ :: r, _, _, b, hb => (putCells_other r _ _ b hb).trans (Below.heap_setCell _ _ _ _ hb)
theorem putCells_keep {g : Nat} : ∀ (c : List Value) (w : World) (p : Nat), Keep [g] w (putCells w g p c)
  | [], w, _ => Keep.refl _ w
  | u :: r, w, p => ((Keep.refl [g] w).setCell (p := ⟨g, p, none⟩) (by simp) u).trans (putCells_keep r _ _)
/-- an element is stored -/
theorem Ow.put {α : Type} {E : Elem α} {t : TypeId} {w : World} {g n cap : Nat} {xs : List α} {F : List Nat} (h : Ow E t w (.slice (some ⟨g, 0, none⟩) n cap) xs F) (hn : F.Nodup) (i : Nat) (hi : i < xs.length) :
    g ∈ F ∧ (∀ j, j < E.sz → (∃ u, w.cell? ⟨g, i * E.sz + j, none⟩ = some u) ∧ w.frozen? ⟨g, i * E.sz + j, none⟩ = false) ∧
    ∀ c' x' F', E.rep w c' x' F' → F'.Nodup → (∀ b ∈ F', b ∉ F) → ∃ F2, Ow E t (putCells w g (i * E.sz) c') (.slice (some ⟨g, 0, none⟩) n cap) (xs.set i x') F2 ∧ F2.Nodup ∧ ∀ b ∈ F2, b ∈ F ∨ b ∈ F' := by
  obtain ⟨g', cp, A, c, B, G1, Fi, G2, hv, hrow, hA, hcl, hx, rfl, hlt, back⟩ := h.focus i hi
  simp only [Value.slice.injEq, Option.some.injEq, Addr.mk.injEq] at hv
  obtain ⟨⟨rfl, _⟩, rfl, rfl⟩ := hv
  have hnd : g ∉ G1 ++ G2 := fun hm => by simp at hn hm; rcases hm with hm | hm <;> simp [hm] at hn
  refine ⟨by simp, fun j hj => ⟨⟨c[j]'(by omega), by rw [hrow.cellMid (j := j) (by omega) (by omega), List.getElem?_eq_getElem]⟩, hrow.frozen _⟩, fun c' x' F' hx' hn' hd => ⟨g :: (G1 ++ F' ++ G2), ?_, ?_, ?_⟩⟩
  · have hl := E.len hx'
    have hg : g ∉ F' := fun e => hd g e (by simp)
    exact back _ c' x' F' (hrow.put c' c (by omega) (by omega)) (E.frame hx' fun b hb => putCells_other _ _ _ _ fun e => hg (e ▸ hb)) fun b hb => putCells_other _ _ _ _ fun e => hnd (e ▸ hb)
  · have hd1 : ∀ b ∈ F', b ≠ g ∧ b ∉ G1 ∧ b ∉ G2 := fun b hb => by have := hd b hb; simp at this; exact ⟨this.1, this.2.1, this.2.2.2⟩
    simp only [List.nodup_cons, List.nodup_append, List.mem_append, not_or] at hn ⊢
    obtain ⟨⟨⟨h1, h2⟩, h3⟩, ⟨h4, h5, h6⟩, h7, h8⟩ := hn
    refine ⟨⟨⟨h1, fun e => (hd1 g e).1 rfl⟩, h3⟩, ⟨h4, hn', fun a ha b hb e => (hd1 b hb).2.1 (e ▸ ha)⟩, h7, fun a ha b hb => ?_⟩
    rcases ha with ha | ha
    · exact h8 a (.inl ha) b hb
    · exact fun e => (hd1 a ha).2.2 (e ▸ hb)
  · intro b hb; simp at hb ⊢; rcases hb with hb | hb | hb | hb <;> simp [hb]
/-- one element in place: its cells, its blocks (which stay), and the way back -/
theorem Ow.inPlace {α : Type} {E : Elem α} {t : TypeId} {w : World} {g n cap : Nat} {xs : List α} {F : List Nat} (h : Ow E t w (.slice (some ⟨g, 0, none⟩) n cap) xs F) (hn : F.Nodup) (i : Nat) (hi : i < xs.length) :
    ∃ A c B Fi, Row w g t (A ++ c ++ B) ∧ A.length = i * E.sz ∧ c.length = E.sz ∧ E.rep w c xs[i] Fi ∧ Fi.Nodup ∧ g ∉ Fi ∧ g ∈ F ∧ (∀ b ∈ Fi, b ∈ F) ∧
      ∀ w' c' x', Row w' g t (A ++ c' ++ B) → E.rep w' c' x' Fi → Keep (g :: Fi) w w' → Ow E t w' (.slice (some ⟨g, 0, none⟩) n cap) (xs.set i x') F := by
  obtain ⟨g', cp, A, c, B, G1, Fi, G2, hv, hrow, hA, hcl, hx, rfl, hlt, back⟩ := h.focus i hi
  simp only [Value.slice.injEq, Option.some.injEq, Addr.mk.injEq] at hv
  obtain ⟨⟨rfl, _⟩, rfl, rfl⟩ := hv
  simp only [List.nodup_cons, List.nodup_append, List.mem_append, not_or] at hn
  obtain ⟨⟨⟨h1, h2⟩, h3⟩, ⟨h4, h5, h6⟩, h7, h8⟩ := hn
  refine ⟨A, c, B, Fi, hrow, hA, hcl, hx, h5, h2, by simp, fun b hb => by simp [hb], fun w' c' x' hr hx' hk => back w' c' x' Fi hr hx' fun b hb => hk.block b (hlt b hb) fun hm => ?_⟩
  rcases List.mem_append.1 hb with hb | hb <;> rcases List.mem_cons.1 hm with e | hm
  · exact h1 (e ▸ hb)
  · exact h6 b hb b hm rfl
  · exact h3 (e ▸ hb)
  · exact h8 b (.inr hm) b hb rfl
theorem Ow.head {α : Type} {E : Elem α} {t : TypeId} {w : World} {a : Option Addr} {n cap : Nat} {xs : List α} {F : List Nat} (h : Ow E t w (.slice a n cap) xs F) (i : Nat) (hi : i < xs.length) : ∃ g, a = some ⟨g, 0, none⟩ := by
  obtain ⟨g, cp, A, c, B, G1, Fi, G2, hv, -⟩ := h.focus i hi
  simp only [Value.slice.injEq] at hv
  exact ⟨g, hv.1⟩
theorem madeCells_flat (z : Array Value) (n : Nat) : (madeCells z (n * z.size)).toList = (List.replicate n z.toList).flatten := by
  apply List.ext_getElem?
  intro p
  by_cases hz : z.size = 0
  · have : z = #[] := Array.eq_empty_of_size_eq_zero hz
    subst this; simp [madeCells]
  · have hlen : ∀ m, ((List.replicate m z.toList).flatten).length = m * z.size := fun m => by simp
    by_cases hp : p < n * z.size
    · have h1 : (madeCells z (n * z.size)).toList[p]? = some z[p % z.size]! := by simp [madeCells, hp]
      rw [h1]
      have hq : p / z.size < n := Nat.div_lt_of_lt_mul (by rwa [Nat.mul_comm])
      have e : List.replicate n z.toList = List.replicate (p / z.size) z.toList ++ z.toList :: List.replicate (n - p / z.size - 1) z.toList := by
        rw [← List.replicate_succ, List.replicate_append_replicate]; congr 1; omega
      have hd := Nat.div_add_mod p z.size
      have hm := Nat.mod_lt p (Nat.pos_of_ne_zero hz)
      rw [Nat.mul_comm] at hd
      rw [e, List.flatten_append, List.flatten_cons, List.getElem?_append_right (by rw [hlen]; omega), hlen, show p - p / z.size * z.size = p % z.size by omega, List.getElem?_append_left (by simpa using hm)]
      simp [hm]
    · rw [List.getElem?_eq_none (by simp [madeCells]; omega), List.getElem?_eq_none (by rw [hlen]; omega)]
theorem Ow.made {α : Type} {E : Elem α} {t : TypeId} (w : World) (z : Array Value) (n : Nat) (x : α) (hsz : z.size = E.sz) (hz : ∀ w, E.rep w z.toList x []) (hn : n ≤ maxLen) :
    Ow E t (w.alloc (.cells (madeCells z (n * E.sz)) t)) (.slice (some ⟨w.heap.size, 0, none⟩) n n) (List.replicate n x) [w.heap.size] := by
  have hf : ∀ (w : World) (m : Nat), Flat E w (List.replicate m z.toList).flatten (List.replicate m x) [] := by
    intro w m
    induction m with
    | zero => exact ⟨rfl, rfl⟩
    | succ m ih => exact ⟨z.toList, _, [], [], by rw [List.replicate_succ, List.flatten_cons], rfl, hz w, ih⟩
  refine .inr ⟨w.heap.size, n, (madeCells z (n * E.sz)).toList, [], [], by simp, ?_, by simp, hn, ?_, ?_, rfl⟩
  · simp only [List.append_nil, Row]
    exact heap_alloc_new w _
  · rw [← hsz, madeCells_flat]; simp
  · rw [← hsz, madeCells_flat]; exact hf _ _
/-- 'make([]T, n)' for elements of any number of cells -/
theorem run_make_rows {P : Program} (t e : TypeId) (z : Value) (size bytes : Nat) (ht : P.underlying t = some (.slice e)) (hinfo : (P.info? e).map (fun i => (i.zero, i.size, i.bytes)) = some (some z, size, bytes))
    (n : Nat) (hbytes : bytes * n ≤ 281474976710656) (h63 : n ≤ 9223372036854775807) (w : World) :
    (Instr.makeSlice t (.int .i64 (n : Int)) (.int .i64 (n : Int))).run P w = .ok (.slice (some ⟨w.heap.size, 0, none⟩) n n) (w.alloc (.cells (madeCells z.cells (n * size)) e)) := by
  obtain ⟨i, hi, hzz⟩ := Option.map_eq_some_iff.1 hinfo
  simp only [Prod.mk.injEq] at hzz
  obtain ⟨hz, rfl, rfl⟩ := hzz
  have hb' : (i.bytes : Int) * (n : Int) ≤ 281474976710656 := by
    have h : ((i.bytes * n : Nat) : Int) ≤ 281474976710656 := by omega
    rwa [Int.natCast_mul] at h
  have hr := run_make (P := P) w t e i z ht hi hz .i64 .i64 n n (by omega) (Int.le_refl _) hb' (by omega)
  simpa only [Int.toNat_natCast] using hr
theorem set_take_rep {α : Type} (xs : List α) (z : α) (k n : Nat) (hn : n = xs.length) (hk : k < n) (x : α) (hx : xs[k]? = some x) :
    (xs.take k ++ List.replicate (n - k) z).set k x = xs.take (k + 1) ++ List.replicate (n - (k + 1)) z := by
  have hl : (xs.take k).length = k := by simp; omega
  rw [List.set_append_right _ _ (by omega), hl, Nat.sub_self, show n - k = (n - (k + 1)) + 1 by omega, List.replicate_succ, List.set_cons_zero, List.take_add_one, hx]
  simp
theorem weak_OSl {α : Type} {O R : Elem α} (h : Weak O R) (hz : 0 < R.sz) (t : TypeId) : Weak (OSl O t) (ESl R hz) := ⟨rfl, fun hh => by
  obtain ⟨v, rfl, ho⟩ := hh; exact h.slice hz t ho⟩
/-- element k of a slice that reads as a list: where it lies, and as what it reads -/
theorem Sl.at {α : Type} {E : Elem α} {w : World} {a : Option Addr} {n cap : Nat} {xs : List α} {F} (h : Sl E w (.slice a n cap) xs F) (k : Nat) (hk : k < xs.length) :
    ∃ b off cs F1, a = some ⟨b, off, none⟩ ∧ E.rep w cs xs[k] F1 ∧ (∀ c ∈ F1, c ∈ F) ∧ ∀ j, j < E.sz → w.cell? ⟨b, off + k * E.sz + j, none⟩ = cs[j]? := by
  obtain ⟨a', cap', hv, hl, h⟩ := h
  cases hv
  rcases h with ⟨rfl, _⟩ | ⟨b, off, F', rfl, _, rfl, hc⟩
  · simp at hk
  · obtain ⟨cs, F1, h1, hj, hm⟩ := hc.get k hk
    exact ⟨b, off, cs, F1, rfl, h1, fun c hc => by simp [hm c hc], hj⟩
theorem Sl.slice {α : Type} {E : Elem α} {w v} {xs : List α} {F} (h : Sl E w v xs F) : ∃ a cap, v = .slice a xs.length cap := by
  obtain ⟨a, cap, h, _⟩ := h; exact ⟨a, cap, h⟩
theorem Sl.len {α : Type} {E : Elem α} {w v} {xs : List α} {F} (h : Sl E w v xs F) : xs.length ≤ maxLen := by
  obtain ⟨a, cap, _, h, _⟩ := h; omega
theorem Sl.caps {α : Type} {E : Elem α} {w} {a : Option Addr} {n cap : Nat} {xs : List α} {F} (h : Sl E w (.slice a n cap) xs F) : n = xs.length ∧ n ≤ cap ∧ cap ≤ maxLen := by
  obtain ⟨a', cap', hv, h, _⟩ := h; cases hv; exact ⟨rfl, h⟩
/-- a struct by value -/
def IsV {α : Type} (E : Elem α) (w : World) (v : Value) (x : α) (F : List Nat) : Prop := ∃ cs : List Value, v = .agg cs.toArray ∧ E.rep w cs x F
theorem IsV.below {α : Type} {E : Elem α} {w w' : World} {v x F} (h : IsV E w v x F) (hb : Below w.heap.size w w') : IsV E w' v x F := by
  obtain ⟨cs, hv, h⟩ := h; exact ⟨cs, hv, E.below h hb⟩
/-- a new struct value with owned parts -/
def RetV {α : Type} (E : Elem α) (x : α) (w : World) (e : Ending) (w' : World) : Prop :=
  ∃ v F, e = .returned v ∧ IsV E w' v x F ∧ F.Nodup ∧ (∀ b ∈ F, w.heap.size ≤ b) ∧ Below w.heap.size w w'
/-- a new owned slice with these elements -/
def RetNew {α : Type} (E : Elem α) (t : TypeId) (xs : List α) (w : World) (e : Ending) (w' : World) : Prop :=
  ∃ v F, e = .returned v ∧ Ow E t w' v xs F ∧ F.Nodup ∧ (∀ b ∈ F, w.heap.size ≤ b) ∧ Below w.heap.size w w'
/-- the number behind the marks; the marked value; nothing else has turned -/
def RetMark {α : Type} (E : Elem α) (t : TypeId) (v : Value) (m : Int) (xs : List α) (F : List Nat) (w : World) (e : Ending) (w' : World) : Prop :=
  e = .returned (.int .i64 m) ∧ Ow E t w' v xs F ∧ Keep F w w'

/-- .. of a struct's value -/
def RetMarkV {α : Type} (E : Elem α) (v : Value) (m : Int) (x : α) (F : List Nat) (w : World) (e : Ending) (w' : World) : Prop :=
  e = .returned (.int .i64 m) ∧ IsV E w' v x F ∧ Keep F w w'
theorem Row.keepK {w w' g t cs F} (h : Row w g t cs) (hk : Keep F w w') (hg : g ∉ F) : Row w' g t cs := h.keep (hk.block g h.lt hg)
theorem Keep.size' {F w w'} (h : Keep F w w') : w.heap.size ≤ w'.heap.size := h.size

/-- a function value that may be called: its body is Go's own text -/
structure Body (P : Program) (f : FuncId) : Prop where
  ok : ∃ fn, P.funcs[f]? = some fn ∧ (fn.name == "runtime.NumGoroutine") = false ∧ fn.body.isNone = false
theorem Body.mk' {P : Program} {f : FuncId} {fn : Func} (h : P.funcs[f]? = some fn) (h1 : (fn.name == "runtime.NumGoroutine") = false) (h2 : fn.body.isNone = false) : Body P f := ⟨fn, h, h1, h2⟩
theorem Body.run {P : Program} {f : FuncId} (h : Body P f) (args : Array Value) (w : World) : (callFunc f args).run P w = .ok (.enter f args) w := by
  obtain ⟨fn, h0, h1, h2⟩ := h.ok
  have h1' : ¬ fn.name = "runtime.NumGoroutine" := by simpa using h1
  have h2' : ¬ fn.body = none := fun e => by rw [e] at h2; simp at h2
  simp [callFunc, program, Sem.run, h0, h1', h2', bind, Sem.bind, pure]
theorem Body.upon {P : Program} {f : FuncId} (h : Body P f) {o : Oper} {a : Act} {K : Act → World → Prop} {Q : Exit → Act → World → Prop} {args : Array Value} {w : World} {R : Ending → World → Prop}
    (hc : Calls P f args w R) (hr : ∀ e w', R e w' → ∃ v, e = .returned v ∧ K (a.put o.dst v) w') : Oper.upon P o a K Q ((callFunc f args).run P w) := by
  rw [h.run, Oper.upon_enter]
  exact hc.mono fun e w' hR => by obtain ⟨v, rfl, hk⟩ := hr e w' hR; exact hk

/-- a value of one cell -/
def IsC {α : Type} (E : Elem α) (w : World) (v : Value) (x : α) (F : List Nat) : Prop := ∃ u, v = u ∧ E.rep w [u] x F
/-- the first index that a predicate answers, or -1 -/
def fidx {α : Type} (p : α → Bool) (xs : List α) : Int := if xs.any p then (xs.findIdx p : Int) else -1
theorem fidx_hit {α : Type} {p : α → Bool} {xs : List α} {k : Nat} (hk : k < xs.length) (h0 : ∀ j, j < k → ∀ hj : j < xs.length, p xs[j] = false) (h1 : p xs[k] = true) : fidx p xs = k := by
  have h : xs.findIdx p = k := by
    rw [List.findIdx_eq hk]
    exact ⟨h1, fun j hj => h0 j hj (by omega)⟩
  have ha : xs.any p = true := List.any_eq_true.2 ⟨xs[k], List.getElem_mem _, h1⟩
  unfold fidx; rw [if_pos ha, h]
theorem fidx_none {α : Type} {p : α → Bool} {xs : List α} (h0 : ∀ j, ∀ hj : j < xs.length, p xs[j] = false) : fidx p xs = -1 := by
  unfold fidx
  rw [if_neg]
  intro ha
  obtain ⟨x, hx, hp⟩ := List.any_eq_true.1 ha
  obtain ⟨i, hi, rfl⟩ := List.getElem_of_mem hx
  rw [h0 i hi] at hp; simp at hp
theorem fidx_any {α : Type} (p : α → Bool) (xs : List α) : decide (0 ≤ fidx p xs) = xs.any p := by
  unfold fidx; cases h : xs.any p <;> simp

/-- a predicate holds of all indexes below n -/
def allUpTo (p : Nat → Bool) (n : Nat) : Bool := (List.range n).all p
theorem allUpTo_yes {p : Nat → Bool} {n : Nat} (h : ∀ i, i < n → p i = true) : allUpTo p n = true := by simp [allUpTo]; exact h
theorem allUpTo_no {p : Nat → Bool} {n k : Nat} (hk : k < n) (h : p k = false) : allUpTo p n = false := by
  rw [Bool.eq_false_iff]; intro ha; simp [allUpTo] at ha; rw [ha k hk] at h; simp at h
theorem allUpTo_get {p : Nat → Bool} {n : Nat} (h : allUpTo p n = true) (i : Nat) (hi : i < n) : p i = true := by simp [allUpTo] at h; exact h i hi
theorem upto_snoc {p : Nat → Bool} {k : Nat} (h : ∀ i, i < k → p i = true) (hk : p k = true) : ∀ i, i < k + 1 → p i = true := fun i hi => by
  rcases Nat.lt_or_eq_of_le (Nat.le_of_lt_succ hi) with h' | rfl
  · exact h i h'
  · exact hk

theorem quiet_eq {P : Program} {f : FuncId} {args : Array Value} {w : World} {n : Nat} {v : Value}
    (h : Calls P f args (w.drewN n) fun e w' => e = .returned v ∧ w.drewN n = w') : Calls P f args (w.drewN n) fun e w'' => e = .returned v ∧ ∃ m, w'' = w.drewN m :=
  h.mono fun _ _ ⟨he, hm⟩ => ⟨he, n, hm.symm⟩

/-- what is left of a room of n behind a weight of k -/
def szr (n : Int) (k : Nat) : Int := if (k : Int) ≤ n then n - k else -1
theorem szr_or (n : Int) (k : Nat) : (szr n k = -1 ∧ n < k) ∨ (szr n k = n - k ∧ (k : Int) ≤ n) := by unfold szr; split <;> omega
theorem szr_no {n : Int} {k : Nat} (h : n < k) : szr n k = -1 := by unfold szr; split <;> omega
theorem szr_yes {n : Int} {k : Nat} (h : (k : Int) ≤ n) : szr n k = n - k := by unfold szr; split <;> omega
/-- the weight of a slice -/
def wtL {α : Type} (f : α → Nat) (xs : List α) : Nat := xs.length + (xs.map f).sum
/-- .. of its first elements -/
def psum {α : Type} (f : α → Nat) (xs : List α) (k : Nat) : Nat := ((xs.take k).map f).sum
theorem psum_zero {α : Type} (f : α → Nat) (xs : List α) : psum f xs 0 = 0 := rfl
theorem psum_snoc {α : Type} (f : α → Nat) (xs : List α) (k : Nat) (h : k < xs.length) : psum f xs (k + 1) = psum f xs k + f xs[k] := by
  unfold psum
  rw [List.take_succ_eq_append_getElem h, List.map_append, List.sum_append]; simp
theorem psum_all {α : Type} (f : α → Nat) (xs : List α) : psum f xs xs.length = (xs.map f).sum := by unfold psum; rw [List.take_length]
theorem psum_le {α : Type} (f : α → Nat) (xs : List α) (k : Nat) : psum f xs k ≤ (xs.map f).sum := by
  have : (xs.map f).sum = psum f xs k + ((xs.drop k).map f).sum := by unfold psum; rw [← List.sum_append, ← List.map_append, List.take_append_drop]
  omega
theorem wtL_eq {α : Type} (f : α → Nat) (xs : List α) : wtL f xs = xs.length + psum f xs xs.length := by rw [psum_all]; rfl
theorem wtL_le {α : Type} (f : α → Nat) (xs : List α) (k : Nat) : xs.length + psum f xs k ≤ wtL f xs := by have := psum_le f xs k; unfold wtL; omega
theorem wtL_zero {α : Type} (xs : List α) : wtL (fun _ => 0) xs = xs.length := by
  have : ∀ ys : List α, (ys.map fun _ => 0).sum = 0 := fun ys => by induction ys <;> simp_all
  unfold wtL; rw [this]; rfl

def mkI (k _x : Int) : Int := k
def cntI (_x : Int) : Nat := 1
def mkB (k : Int) (_x : Bool) : Bool := k % 3 == 0
def cntB (_x : Bool) : Nat := 1
/-- the digits of a number, behind what follows -/
def mdigits : Nat → Nat → List UInt8 → List UInt8
  | 0, _, r => r
  | m + 1, k, r => if k = 0 then r else mdigits m (k / 10) (UInt8.ofNat (48 + k % 10) :: r)
def mtext (k : Int) : ByteArray := if k ≤ 0 then ⟨#[109, 48]⟩ else ⟨(109 :: mdigits 20 k.toNat []).toArray⟩
def mkS (k : Int) (_x : ByteArray) : ByteArray := mtext k
def cntS (_x : ByteArray) : Nat := 1
theorem mdigits_len : ∀ (m k : Nat) (r : List UInt8), (mdigits m k r).length ≤ m + r.length
  | 0, _, r => by simp [mdigits]
  | m + 1, k, r => by
    simp only [mdigits]
    split
    · omega
    · have := mdigits_len m (k / 10) (UInt8.ofNat (48 + k % 10) :: r); simp only [List.length_cons] at this; omega
theorem mtext_len (k : Int) : (mtext k).size ≤ maxLen := by
  have := mdigits_len 20 k.toNat []
  unfold mtext
  split
  · simp [ByteArray.size, maxLen]
  · simp only [ByteArray.size, maxLen, List.size_toArray, List.length_cons]
    simp at this; omega
/-- the marks of a slice, one element after the other -/
def markL {α : Type} (mk : Int → α → α) (cnt : α → Nat) : Int → List α → List α
  | _, [] => []
  | k, x :: r => mk k x :: markL mk cnt (k + cnt x) r
def cntL {α : Type} (cnt : α → Nat) (xs : List α) : Nat := (xs.map cnt).sum
theorem cntL_eq {α : Type} (cnt : α → Nat) (xs : List α) : cntL cnt xs = psum cnt xs xs.length := (psum_all cnt xs).symm
theorem cntL_le {α : Type} (cnt : α → Nat) (xs : List α) (k : Nat) : psum cnt xs k ≤ cntL cnt xs := psum_le cnt xs k
theorem markL_len {α : Type} (mk : Int → α → α) (cnt : α → Nat) : ∀ (xs : List α) (k : Int), (markL mk cnt k xs).length = xs.length
  | [], _ => rfl
  | x :: r, k => by simp [markL, markL_len mk cnt r]
theorem markL_get {α : Type} (mk : Int → α → α) (cnt : α → Nat) : ∀ (xs : List α) (k : Int) (i : Nat) (h : i < xs.length), (markL mk cnt k xs)[i]'(by rw [markL_len]; exact h) = mk (k + psum cnt xs i) xs[i]
  | x :: r, k, 0, _ => by simp [markL, psum]
  | x :: r, k, i + 1, h => by
    simp only [markL, List.getElem_cons_succ, psum, List.take_succ_cons, List.map_cons, List.sum_cons]
    rw [markL_get mk cnt r (k + cnt x) i (by simpa using h)]
    unfold psum
    congr 1; omega
theorem markL_step {α : Type} (mk : Int → α → α) (cnt : α → Nat) (xs : List α) (k : Int) (i : Nat) (h : i < xs.length) :
    ((markL mk cnt k xs).take i ++ xs.drop i).set i (mk (k + psum cnt xs i) xs[i]) = (markL mk cnt k xs).take (i + 1) ++ xs.drop (i + 1) := by
  have hl : ((markL mk cnt k xs).take i).length = i := by simp [markL_len]; omega
  rw [List.set_append_right _ _ (by omega), hl, Nat.sub_self, List.drop_eq_getElem_cons h, List.set_cons_zero, List.take_add_one, List.getElem?_eq_getElem (by rw [markL_len]; exact h), markL_get mk cnt xs k i h]
  simp
theorem mid_get {α : Type} (ys xs : List α) (i : Nat) (hl : ys.length = xs.length) (h : i < xs.length) : (ys.take i ++ xs.drop i)[i]'(by simp; omega) = xs[i] := by
  have hl' : (ys.take i).length = i := by simp; omega
  rw [List.getElem_append_right (by omega)]
  simp [hl']
theorem cntL_wt {α : Type} (cnt wt : α → Nat) (C : Nat) (h : ∀ x, cnt x ≤ C * (1 + wt x)) : ∀ xs : List α, cntL cnt xs ≤ C * wtL wt xs
  | [] => by simp [cntL, wtL]
  | x :: r => by
    have := h x
    have := cntL_wt cnt wt C h r
    simp only [cntL, wtL, List.map_cons, List.sum_cons, List.length_cons, Nat.mul_add, Nat.mul_one] at *
    omega
theorem cntIntS_wt (xs : List Int) (h : wtL (fun _ => 0) xs ≤ 1048576) : cntL cntI xs ≤ 4294967296 := by
  have := cntL_wt cntI (fun _ => 0) 1 (fun x => by simp [cntI]) xs; omega
theorem cntStringS_wt (xs : List ByteArray) (h : wtL ByteArray.size xs ≤ 1048576) : cntL cntS xs ≤ 4294967296 := by
  have := cntL_wt cntS ByteArray.size 1 (fun x => by simp [cntS]) xs; omega
theorem nodup_up {A B : List Nat} {m : Nat} (ha : A.Nodup) (hb : B.Nodup) (la : ∀ b ∈ A, b < m) (lb : ∀ b ∈ B, m ≤ b) : (A ++ B).Nodup :=
  List.nodup_append.2 ⟨ha, hb, fun a h1 b h2 e => by have := la a h1; have := lb b h2; omega⟩
theorem nodup_apart {A B : List Nat} (h : (A ++ B).Nodup) : A.Nodup ∧ B.Nodup ∧ ∀ b ∈ A, b ∉ B := by
  obtain ⟨h1, h2, h3⟩ := List.nodup_append.1 h
  exact ⟨h1, h2, fun b ha hb => h3 b ha b hb rfl⟩
end Go.Proofs.YtidephmobajikaaDoor
