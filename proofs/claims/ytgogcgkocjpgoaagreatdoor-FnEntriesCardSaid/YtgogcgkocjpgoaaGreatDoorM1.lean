/- Part 1 of the proof: 23 texts, one behind the other. -/
import Derived.WalkKit
import Derived.Lib.Hide
import Derived.Deep.Draws
import Derived.Deep.AppendLies
import Derived.OwnWalk
import Derived.Test.YtgogcgkocjpgoaaGreatDoorRows
import Derived.WalkSpells
import Derived.WalkLawsBesides
import Derived.Deep.QuietTactic
import Derived.BigQuiet
import Derived.Deep.RegionHeld3
import Derived.Deep.OwnRows
import Derived.Lib.ItoaNum
import Derived.Lib.Bytealg
import Derived.Deep.RegionHeld
import Derived.Deep.MidRow
import Derived.IntWalk
import Derived.Laws.Strings
import Derived.Lib.SliceRun
import Derived.Lib.Overlaps
import Derived.Lib.AppendZerosOnto
import Derived.Laws.IdiomCopy
import Derived.Test.YtgogcgkocjpgoaaGreatDoorShelf
import Derived.Lib.Strings
import Derived.Lib.LaidTab
import Derived.Lib.ItoaMem
/- How slices of numbers, strings and structs read in a world; the blocks that a reading takes. Plain: no program in sight. -/
namespace Go.Proofs.YtgogcgkocjpgoaaGreatDoor
open Go.RowKit

/-- a cell that is there reads aS before, behind whatever leaves old blocks alone -/
theorem kc {w w' : World} {a : Addr} {v : Value} (hb : Below w.heap.size w w') (h : w.cell? a = some v) : w'.cell? a = some v :=
  (hb.cell (World.block_lt_of_cell? w a h)).trans h
theorem kf {w w' : World} {a : Addr} {v : Value} (hb : Below w.heap.size w w') (h : w.cell? a = some v) : w'.frozen? a = w.frozen? a :=
  hb.frozen (World.block_lt_of_cell? w a h)
theorem tr {B : Nat} {w w1 w2 : World} (h : Below B w w1) (h' : Below w1.heap.size w1 w2) (hB : B ≤ w.heap.size) : Below B w w2 := h.trans (h'.mono (Nat.le_trans hB h.size))

/-- How a value of one Go type lies in its cells: 'F': the blocks that the reading goes through. -/
structure Elem (α : Type) where
  sz : Nat
  rep : World → List Value → α → List Nat → Prop
  len : ∀ {w cs x F}, rep w cs x F → cs.length = sz
  lt : ∀ {w cs x F}, rep w cs x F → ∀ b ∈ F, b < w.heap.size
  frame : ∀ {w w' : World} {cs x F}, rep w cs x F → (∀ b ∈ F, w'.heap[b]? = w.heap[b]?) → rep w' cs x F

/-- the cells from 'off' on hold the elements one behind the other -/
def Cells {α : Type} (E : Elem α) (w : World) (b : Nat) : Nat → List α → List Nat → Prop
  | _, [], F => F = []
  | off, x :: r, F => ∃ cs F1 F2, F = F1 ++ F2 ∧ E.rep w cs x F1 ∧ (∀ j, j < E.sz → w.cell? ⟨b, off + j, none⟩ = cs[j]?) ∧ Cells E w b (off + E.sz) r F2

/-- a slice that reads aS a list -/
def Sl {α : Type} (E : Elem α) (w : World) (v : Value) (xs : List α) (F : List Nat) : Prop :=
  ∃ a cap, v = .slice a xs.length cap ∧ (xs.length ≤ cap ∧ cap ≤ maxLen) ∧
    ((xs = [] ∧ F = [] ∧ (a = none → cap = 0)) ∨ ∃ b off F', a = some ⟨b, off, none⟩ ∧ xs ≠ [] ∧ F = b :: F' ∧ Cells E w b off xs F')

theorem Cells.lt {α : Type} {E : Elem α} {w : World} {b : Nat} : ∀ {xs : List α} {off : Nat} {F : List Nat}, Cells E w b off xs F → ∀ c ∈ F, c < w.heap.size
  | [], _, _, h => by simp [Cells] at h; simp [h]
  | _ :: r, _, _, h => by
    obtain ⟨cs, F1, F2, rfl, h1, _, h2⟩ := h
    intro c hc
    rcases List.mem_append.1 hc with hc | hc
    · exact E.lt h1 c hc
    · exact Cells.lt h2 c hc
theorem Cells.frame {α : Type} {E : Elem α} {w w' : World} {b : Nat} (hb : w'.heap[b]? = w.heap[b]?) : ∀ {xs : List α} {off : Nat} {F : List Nat}, Cells E w b off xs F →
    (∀ c ∈ F, w'.heap[c]? = w.heap[c]?) → Cells E w' b off xs F
  | [], _, _, h, _ => h
  | _ :: r, _, _, h, hF => by
    obtain ⟨cs, F1, F2, rfl, h1, hc, h2⟩ := h
    refine ⟨cs, F1, F2, rfl, E.frame h1 fun c hc => hF c (by simp [hc]), fun j hj => ?_, Cells.frame hb h2 fun c hc => hF c (by simp [hc])⟩
    rw [World.cell?_of_block (w := w) hb]; exact hc j hj
/-- element i: its cells, its blocks -/
theorem Cells.get {α : Type} {E : Elem α} {w : World} {b : Nat} : ∀ {xs : List α} {off : Nat} {F : List Nat}, Cells E w b off xs F → ∀ (i : Nat) (hi : i < xs.length),
    ∃ cs F1, E.rep w cs xs[i] F1 ∧ (∀ j, j < E.sz → w.cell? ⟨b, off + i * E.sz + j, none⟩ = cs[j]?) ∧ ∀ c ∈ F1, c ∈ F
  | [], _, _, _, i, hi => by simp at hi
  | x :: r, off, _, h, 0, _ => by
    obtain ⟨cs, F1, F2, rfl, h1, hc, h2⟩ := h
    exact ⟨cs, F1, h1, by simpa using hc, fun c hc => by simp [hc]⟩
  | x :: r, off, _, h, i + 1, hi => by
    obtain ⟨cs, F1, F2, rfl, h1, hc, h2⟩ := h
    obtain ⟨cs', F3, h3, hc3, hm⟩ := Cells.get h2 i (by simpa using hi)
    refine ⟨cs', F3, by simpa using h3, fun j hj => ?_, fun c hc => by simp [hm c hc]⟩
    rw [← hc3 j hj, show off + (i + 1) * E.sz + j = off + E.sz + i * E.sz + j by rw [Nat.add_mul]; omega]
theorem Cells.block {α : Type} {E : Elem α} {w : World} {b off : Nat} {xs : List α} {F : List Nat} (h : Cells E w b off xs F) (hne : xs ≠ []) (hz : 0 < E.sz) : b < w.heap.size := by
  cases xs with
  | nil => exact absurd rfl hne
  | cons x r =>
    obtain ⟨cs, F1, F2, rfl, h1, hc, h2⟩ := h
    have h0 := hc 0 hz
    have hl := E.len h1
    rw [List.getElem?_eq_getElem (by omega)] at h0
    exact World.block_lt_of_cell? w _ h0

theorem Sl.lt {α : Type} {E : Elem α} (hz : 0 < E.sz) {w v xs F} (h : Sl E w v xs F) : ∀ c ∈ F, c < w.heap.size := by
  obtain ⟨a, cap, _, _, ⟨_, rfl, _⟩ | ⟨b, off, F', _, hne, rfl, hc⟩⟩ := h
  · simp
  · intro c hm
    rcases List.mem_cons.1 hm with rfl | hm
    · exact hc.block hne hz
    · exact hc.lt c hm
theorem Sl.frame {α : Type} {E : Elem α} {w w' : World} {v xs F} (h : Sl E w v xs F) (hF : ∀ b ∈ F, w'.heap[b]? = w.heap[b]?) : Sl E w' v xs F := by
  obtain ⟨a, cap, hv, hl, ⟨h1, h2⟩ | ⟨b, off, F', h1, hne, rfl, hc⟩⟩ := h
  · exact ⟨a, cap, hv, hl, .inl ⟨h1, h2⟩⟩
  · exact ⟨a, cap, hv, hl, .inr ⟨b, off, F', h1, hne, rfl, hc.frame (hF b (by simp)) fun c hc => hF c (by simp [hc])⟩⟩

theorem Sl.below {α : Type} {E : Elem α} (hz : 0 < E.sz) {w w' : World} {v xs F} (h : Sl E w v xs F) (hb : Below w.heap.size w w') : Sl E w' v xs F :=
  h.frame fun c hc => hb.block c (h.lt hz c hc)

def EInt : Elem Int where
  sz := 1
  rep _ cs z F := cs = [.int .i64 z] ∧ F = []
  len h := by simp [h.1]
  lt h := by simp [h.2]
  frame h _ := h
def EStr : Elem ByteArray where
  sz := 1
  rep _ cs s F := cs = [.string s] ∧ s.size ≤ maxLen ∧ F = []
  len h := by simp [h.1]
  lt h := by simp [h.2.2]
  frame h _ := h
def ESl {α : Type} (E : Elem α) (hz : 0 < E.sz) : Elem (List α) where
  sz := 1
  rep w cs xs F := ∃ v, cs = [v] ∧ Sl E w v xs F
  len h := by obtain ⟨v, rfl, _⟩ := h; rfl
  lt h := by obtain ⟨v, rfl, h⟩ := h; exact h.lt hz
  frame h hF := by obtain ⟨v, rfl, h⟩ := h; exact ⟨v, rfl, h.frame hF⟩
/-- a struct without fields -/
def EUnit : Elem Unit where
  sz := 0
  rep _ cs _ F := cs = [] ∧ F = []
  len h := by simp [h.1]
  lt h := by simp [h.2]
  frame h _ := h
/-- a field, then the others -/
def EProd {α β : Type} (A : Elem α) (B : Elem β) : Elem (α × β) where
  sz := A.sz + B.sz
  rep w cs x F := ∃ c1 c2 F1 F2, cs = c1 ++ c2 ∧ F = F1 ++ F2 ∧ A.rep w c1 x.1 F1 ∧ B.rep w c2 x.2 F2
  len h := by obtain ⟨c1, c2, F1, F2, rfl, rfl, h1, h2⟩ := h; simp [A.len h1, B.len h2]
  lt h := by
    obtain ⟨c1, c2, F1, F2, rfl, rfl, h1, h2⟩ := h
    intro b hb
    rcases List.mem_append.1 hb with hb | hb
    · exact A.lt h1 b hb
    · exact B.lt h2 b hb
  frame h hF := by
    obtain ⟨c1, c2, F1, F2, rfl, rfl, h1, h2⟩ := h
    exact ⟨c1, c2, F1, F2, rfl, rfl, A.frame h1 fun b hb => hF b (by simp [hb]), B.frame h2 fun b hb => hF b (by simp [hb])⟩
/-- a type of our own that reads through another one -/
def Elem.comap {α β : Type} (B : Elem β) (f : α → β) : Elem α where
  sz := B.sz
  rep w cs x F := B.rep w cs (f x) F
  len h := B.len h
  lt h := B.lt h
  frame h hF := B.frame h hF
theorem Elem.below {α : Type} (E : Elem α) {w w' : World} {cs x F} (h : E.rep w cs x F) (hb : Below w.heap.size w w') : E.rep w' cs x F :=
  E.frame h fun c hc => hb.block c (E.lt h c hc)

structure LogRec where
  command : ByteArray
  reply : ByteArray
def ERec : Elem LogRec := (EProd EStr (EProd EStr EUnit)).comap fun x => (x.command, x.reply, ())
theorem ERec.open {w cs x F} (h : ERec.rep w cs x F) : cs = [.string x.command, .string x.reply] ∧ x.command.size ≤ maxLen ∧ x.reply.size ≤ maxLen := by
  obtain ⟨c1, c2, F1, F2, rfl, rfl, ⟨rfl, h1, _⟩, c3, c4, F3, F4, rfl, rfl, ⟨rfl, h2, _⟩, rfl, _⟩ := h
  exact ⟨rfl, h1, h2⟩
end Go.Proofs.YtgogcgkocjpgoaaGreatDoor
/- Slices that a call owns: one block, unfrozen, from its head on; the elements' cells one behind the other. Plain: no program in sight. -/
namespace Go.Proofs.YtgogcgkocjpgoaaGreatDoor
open Go.RowKit

/-- blocks outside F are aS they were -/
structure Keep (F : List Nat) (w w' : World) : Prop where
  os : w'.os = w.os
  tape : w'.tape = w.tape
  output : w'.output = w.output
  size : w.heap.size ≤ w'.heap.size
  block : ∀ k, k < w.heap.size → k ∉ F → w'.heap[k]? = w.heap[k]?
theorem Keep.refl (F : List Nat) (w : World) : Keep F w w := ⟨rfl, rfl, rfl, Nat.le_refl _, fun _ _ _ => rfl⟩
theorem Keep.trans {F : List Nat} {a b c : World} (h : Keep F a b) (k : Keep F b c) : Keep F a c :=
  ⟨k.os.trans h.os, k.tape.trans h.tape, k.output.trans h.output, Nat.le_trans h.size k.size, fun i hi hf => (k.block i (Nat.lt_of_lt_of_le hi h.size) hf).trans (h.block i hi hf)⟩
theorem Keep.mono {F G : List Nat} {a b : World} (h : Keep F a b) (hs : ∀ x ∈ F, x < a.heap.size → x ∈ G) : Keep G a b :=
  ⟨h.os, h.tape, h.output, h.size, fun k hk hg => h.block k hk fun hf => hg (hs k hf hk)⟩
theorem Keep.ofBelow {F : List Nat} {w w' : World} (h : Below w.heap.size w w') : Keep F w w' := ⟨h.os, h.tape, h.output, h.size, fun k hk _ => h.block k hk⟩
theorem Keep.below {F : List Nat} {w w' : World} {B : Nat} (h : Keep F w w') (hB : B ≤ w.heap.size) (hF : ∀ b ∈ F, B ≤ b) : Below B w w' :=
  ⟨h.os, h.tape, h.output, h.size, fun k hk => h.block k (by omega) fun hf => by have := hF k hf; omega⟩
theorem Keep.setCell {F : List Nat} {w w' : World} (h : Keep F w w') {p : Addr} (hp : p.block ∈ F) (u : Value) : Keep F w (w'.setCell p u) :=
  h.trans ⟨rfl, rfl, rfl, by simp [World.setCell], fun k _ hf => Below.heap_setCell _ _ _ _ (fun e => hf (e ▸ hp))⟩
theorem Keep.alloc {F : List Nat} {w w' : World} (h : Keep F w w') (o : Obj) : Keep F w (w'.alloc o) :=
  h.trans ⟨rfl, rfl, rfl, by simp, fun k hk _ => Below.heap_alloc _ _ _ hk⟩
theorem Keep.drewN {F : List Nat} {w w' : World} (h : Keep F w w') (n : Nat) : Keep F w (w'.drewN n) := ⟨h.os, h.tape, h.output, h.size, h.block⟩
theorem Keep.cell {F : List Nat} {w w' : World} (h : Keep F w w') {a : Addr} {v : Value} (ha : a.block ∉ F) (hc : w.cell? a = some v) : w'.cell? a = some v :=
  (World.cell?_of_block (w := w) (h.block a.block (World.block_lt_of_cell? w a hc) ha)).trans hc
theorem belowDrewN {B : Nat} {a w : World} (h : Below B a w) (n : Nat) : Below B a (w.drewN n) := ⟨h.os, h.tape, h.output, h.size, h.block⟩

/-- block g is a row of cells of a type, none frozen -/
def Row (w : World) (g : Nat) (t : TypeId) (cs : List Value) : Prop := w.heap[g]? = some (.cells cs.toArray t (0, 0))
theorem Row.lt {w g t cs} (h : Row w g t cs) : g < w.heap.size := by
  rcases Nat.lt_or_ge g w.heap.size with h1 | h1
  · exact h1
  · rw [Row, Array.getElem?_eq_none h1] at h; simp at h
theorem Row.cell {w g t cs} (h : Row w g t cs) (j : Nat) : w.cell? ⟨g, j, none⟩ = cs[j]? := by
  simp [World.cell?, show w.heap[g]? = _ from h]
theorem Row.frozen {w g t cs} (h : Row w g t cs) (j : Nat) : w.frozen? ⟨g, j, none⟩ = false := by
  simp [World.frozen?, show w.heap[g]? = _ from h]
theorem Row.keep {w w' g t cs} (h : Row w g t cs) (e : w'.heap[g]? = w.heap[g]?) : Row w' g t cs := e.trans h
theorem Row.below {w w' g t cs} (h : Row w g t cs) (hb : Below w.heap.size w w') : Row w' g t cs := h.keep (hb.block g h.lt)
theorem Row.set {w g t cs} (h : Row w g t cs) (j : Nat) (u : Value) : Row (w.setCell ⟨g, j, none⟩ u) g t (cs.set j u) := by
  have h' : w.heap[g]? = _ := h
  simp [Row, World.setCell, Array.getElem?_modify, h']
theorem Row.setOther {w g t cs} (h : Row w g t cs) {p : Addr} (hp : p.block ≠ g) (u : Value) : Row (w.setCell p u) g t cs :=
  h.keep (Below.heap_setCell _ _ _ _ (fun e => hp e.symm))

theorem Row.cells {w g t cs} (h : Row w g t cs) : ∀ j, w.cell? ⟨g, j, none⟩ = cs[j]? := h.cell
theorem Row.frozens {w g t cs} (h : Row w g t cs) : ∀ j, w.frozen? ⟨g, j, none⟩ = false := h.frozen
theorem Row.made (w : World) (t : TypeId) (cs : List Value) : Row (w.alloc (.cells cs.toArray t)) w.heap.size t cs := heap_alloc_new w _
theorem Row.alloc {w g t cs} (h : Row w g t cs) (o : Obj) : Row (w.alloc o) g t cs := h.keep (Below.heap_alloc _ _ _ h.lt)

theorem row_alloc (w : World) (o : Obj) (g : Nat) (t : TypeId) (cs : List Value) : Row (w.alloc o) g t cs ↔ if g = w.heap.size then o = .cells cs.toArray t (0, 0) else Row w g t cs := by
  unfold Row
  show (w.heap.push o)[g]? = _ ↔ _
  rw [Array.getElem?_push]
  split <;> simp

/-- the elements' cells, one behind the other -/
def Flat {α : Type} (E : Elem α) (w : World) : List Value → List α → List Nat → Prop
  | cs, [], G => cs = [] ∧ G = []
  | cs, x :: r, G => ∃ c1 c2 F1 F2, cs = c1 ++ c2 ∧ G = F1 ++ F2 ∧ E.rep w c1 x F1 ∧ Flat E w c2 r F2
section
variable {α : Type} {E : Elem α}
theorem Flat.len {w : World} : ∀ {xs : List α} {cs : List Value} {G : List Nat}, Flat E w cs xs G → cs.length = xs.length * E.sz
  | [], _, _, h => by simp [h.1]
  | x :: r, _, _, h => by
    obtain ⟨c1, c2, F1, F2, rfl, rfl, h1, h2⟩ := h
    rw [List.length_append, E.len h1, h2.len, List.length_cons, Nat.add_mul]; omega
theorem Flat.lt {w : World} : ∀ {xs : List α} {cs : List Value} {G : List Nat}, Flat E w cs xs G → ∀ b ∈ G, b < w.heap.size
  | [], _, _, h => by simp [h.2]
  | x :: r, _, _, h => by
    obtain ⟨c1, c2, F1, F2, rfl, rfl, h1, h2⟩ := h
    intro b hb
    rcases List.mem_append.1 hb with hb | hb
    · exact E.lt h1 b hb
    · exact h2.lt b hb
theorem Flat.frame {w w' : World} : ∀ {xs : List α} {cs : List Value} {G : List Nat}, Flat E w cs xs G → (∀ b ∈ G, w'.heap[b]? = w.heap[b]?) → Flat E w' cs xs G
  | [], _, _, h, _ => h
  | x :: r, _, _, h, hG => by
    obtain ⟨c1, c2, F1, F2, rfl, rfl, h1, h2⟩ := h
    exact ⟨c1, c2, F1, F2, rfl, rfl, E.frame h1 fun b hb => hG b (by simp [hb]), h2.frame fun b hb => hG b (by simp [hb])⟩
theorem Flat.append {w : World} : ∀ {xs ys : List α} {cs ds : List Value} {G H : List Nat}, Flat E w cs xs G → Flat E w ds ys H → Flat E w (cs ++ ds) (xs ++ ys) (G ++ H)
  | [], _, _, _, _, _, h, k => by obtain ⟨rfl, rfl⟩ := h; simpa using k
  | x :: r, _, _, _, _, _, h, k => by
    obtain ⟨c1, c2, F1, F2, rfl, rfl, h1, h2⟩ := h
    exact ⟨c1, _, F1, _, by rw [List.append_assoc], by rw [List.append_assoc], h1, h2.append k⟩
theorem Flat.one {w : World} {x : α} {cs : List Value} {G : List Nat} (h : E.rep w cs x G) : Flat E w cs [x] G := ⟨cs, [], G, [], by simp, by simp, h, rfl, rfl⟩
theorem Flat.split {w : World} : ∀ {xs ys : List α} {cs : List Value} {G : List Nat}, Flat E w cs (xs ++ ys) G → ∃ c1 c2 G1 G2, cs = c1 ++ c2 ∧ G = G1 ++ G2 ∧ Flat E w c1 xs G1 ∧ Flat E w c2 ys G2
  | [], _, cs, G, h => ⟨[], cs, [], G, rfl, rfl, ⟨rfl, rfl⟩, h⟩
  | x :: r, _, _, _, h => by
    obtain ⟨c1, c2, F1, F2, rfl, rfl, h1, h2⟩ := h
    obtain ⟨d1, d2, G1, G2, rfl, rfl, h3, h4⟩ := h2.split
    exact ⟨c1 ++ d1, d2, F1 ++ G1, G2, by simp, by simp, ⟨c1, d1, F1, G1, rfl, rfl, h1, h3⟩, h4⟩
theorem Flat.focus {w : World} {xs : List α} {cs : List Value} {G : List Nat} (h : Flat E w cs xs G) (i : Nat) (hi : i < xs.length) :
    ∃ A c B G1 Fi G2, cs = A ++ c ++ B ∧ G = G1 ++ Fi ++ G2 ∧ A.length = i * E.sz ∧ c.length = E.sz ∧ Flat E w A (xs.take i) G1 ∧ E.rep w c xs[i] Fi ∧ Flat E w B (xs.drop (i + 1)) G2 := by
  have e : xs = xs.take i ++ xs[i] :: xs.drop (i + 1) := by simp
  rw [e] at h
  obtain ⟨A, c2, G1, G2, rfl, rfl, h1, c, B, F1, F2, rfl, rfl, h2, h3⟩ := h.split
  exact ⟨A, c, B, G1, F1, F2, by simp, by simp, by rw [h1.len, List.length_take, Nat.min_eq_left (by omega)], E.len h2, h1, h2, h3⟩
theorem Flat.build {w : World} {xs : List α} {A c B : List Value} {G1 Fi G2 : List Nat} {i : Nat} (hi : i < xs.length) {x : α} (h1 : Flat E w A (xs.take i) G1) (h2 : E.rep w c x Fi) (h3 : Flat E w B (xs.drop (i + 1)) G2) :
    Flat E w (A ++ c ++ B) (xs.set i x) (G1 ++ Fi ++ G2) := by
  have e : xs.set i x = xs.take i ++ [x] ++ xs.drop (i + 1) := by
    rw [List.set_eq_take_append_cons_drop]; simp [hi]
  rw [e]
  exact (h1.append (Flat.one h2)).append h3

/-- an owned slice -/
def Ow (E : Elem α) (t : TypeId) (w : World) (v : Value) (xs : List α) (F : List Nat) : Prop :=
  (v = .slice none 0 0 ∧ xs = [] ∧ F = []) ∨
  ∃ g cap cs rest G, v = .slice (some ⟨g, 0, none⟩) xs.length cap ∧ Row w g t (cs ++ rest) ∧ xs.length ≤ cap ∧ cap ≤ maxLen ∧ cs.length + rest.length = cap * E.sz ∧ Flat E w cs xs G ∧ F = g :: G

theorem Ow.lt {t : TypeId} {w v} {xs : List α} {F} (h : Ow E t w v xs F) : ∀ b ∈ F, b < w.heap.size := by
  rcases h with ⟨_, _, rfl⟩ | ⟨g, cap, cs, rest, G, _, hr, _, _, _, hf, rfl⟩
  · simp
  · intro b hb
    rcases List.mem_cons.1 hb with rfl | hb
    · exact hr.lt
    · exact hf.lt b hb
theorem Ow.frame {t : TypeId} {w w' : World} {v} {xs : List α} {F} (h : Ow E t w v xs F) (hF : ∀ b ∈ F, w'.heap[b]? = w.heap[b]?) : Ow E t w' v xs F := by
  rcases h with h | ⟨g, cap, cs, rest, G, hv, hr, h1, h2, h3, hf, rfl⟩
  · exact .inl h
  · exact .inr ⟨g, cap, cs, rest, G, hv, hr.keep (hF g (by simp)), h1, h2, h3, hf.frame fun b hb => hF b (by simp [hb]), rfl⟩
theorem Ow.below {t : TypeId} {w w' : World} {v} {xs : List α} {F} (h : Ow E t w v xs F) (hb : Below w.heap.size w w') : Ow E t w' v xs F :=
  h.frame fun b h' => hb.block b (h.lt b h')
theorem Ow.keep {t : TypeId} {w w' : World} {v} {xs : List α} {F K} (h : Ow E t w v xs F) (hk : Keep K w w') (hd : ∀ b ∈ F, b ∉ K) : Ow E t w' v xs F :=
  h.frame fun b h' => hk.block b (h.lt b h') (hd b h')
theorem Ow.setFar {t : TypeId} {w : World} {v} {xs : List α} {F} (h : Ow E t w v xs F) {p : Addr} (hp : p.block ∉ F) (u : Value) : Ow E t (w.setCell p u) v xs F :=
  h.frame fun b hb => Below.heap_setCell _ _ _ _ fun e => hp (e ▸ hb)
theorem Ow.len {t : TypeId} {w v} {xs : List α} {F} (h : Ow E t w v xs F) : xs.length ≤ maxLen := by
  rcases h with ⟨_, rfl, _⟩ | ⟨g, cap, cs, rest, G, _, _, h1, h2, _⟩
  · simp
  · omega
theorem Ow.slice {t : TypeId} {w v} {xs : List α} {F} (h : Ow E t w v xs F) : ∃ a cap, v = .slice a xs.length cap := by
  rcases h with ⟨rfl, rfl, _⟩ | ⟨g, cap, cs, rest, G, rfl, _⟩
  · exact ⟨none, 0, rfl⟩
  · exact ⟨_, _, rfl⟩
/-- one element of an owned slice, and the way back -/
theorem Ow.focus {t : TypeId} {w v} {xs : List α} {F} (h : Ow E t w v xs F) (i : Nat) (hi : i < xs.length) :
    ∃ g cap A c B G1 Fi G2, v = .slice (some ⟨g, 0, none⟩) xs.length cap ∧ Row w g t (A ++ c ++ B) ∧ A.length = i * E.sz ∧ c.length = E.sz ∧ E.rep w c xs[i] Fi ∧ F = g :: (G1 ++ Fi ++ G2) ∧
      (∀ b ∈ G1 ++ G2, b < w.heap.size) ∧
      ∀ w' c' x' Fi', Row w' g t (A ++ c' ++ B) → E.rep w' c' x' Fi' → (∀ b ∈ G1 ++ G2, w'.heap[b]? = w.heap[b]?) → Ow E t w' v (xs.set i x') (g :: (G1 ++ Fi' ++ G2)) := by
  rcases h with ⟨_, rfl, _⟩ | ⟨g, cap, cs, rest, G, rfl, hr, h1, h2, h3, hf, rfl⟩
  · simp at hi
  · obtain ⟨A, c, B, G1, Fi, G2, rfl, rfl, hA, hc, hfA, hx, hfB⟩ := hf.focus i hi
    refine ⟨g, cap, A, c, B ++ rest, G1, Fi, G2, rfl, by simpa using hr, hA, hc, hx, rfl, ?_, ?_⟩
    · intro b hb
      rcases List.mem_append.1 hb with hb | hb
      · exact hfA.lt b hb
      · exact hfB.lt b hb
    · intro w' c' x' Fi' hr' hx' hG
      refine .inr ⟨g, cap, A ++ c' ++ B, rest, G1 ++ Fi' ++ G2, by simp, by simpa using hr', by simpa using h1, h2, ?_, ?_, rfl⟩
      · have := E.len hx'
        simp only [List.length_append] at h3 ⊢
        omega
      · exact Flat.build hi (hfA.frame fun b hb => hG b (by simp [hb])) hx' (hfB.frame fun b hb => hG b (by simp [hb]))
/-- whatever is owned may be read -/
structure Weak {α : Type} (O R : Elem α) : Prop where
  sz : O.sz = R.sz
  rep : ∀ {w cs x F}, O.rep w cs x F → ∃ F', (∀ b ∈ F', b ∈ F) ∧ R.rep w cs x F'
theorem Weak.refl {α : Type} (E : Elem α) : Weak E E := ⟨rfl, fun h => ⟨_, fun _ h => h, h⟩⟩
theorem Ow.sl {O R : Elem α} (hW : Weak O R) {t : TypeId} {w v} {xs : List α} {F} (h : Ow O t w v xs F) : ∃ F', (∀ b ∈ F', b ∈ F) ∧ Sl R w v xs F' := by
  have key : ∀ (xs : List α) (cs : List Value) (G : List Nat) (g off : Nat), Flat O w cs xs G → (∀ j, j < cs.length → w.cell? ⟨g, off + j, none⟩ = cs[j]?) → ∃ G', (∀ b ∈ G', b ∈ G) ∧ Cells R w g off xs G' := by
    intro xs
    induction xs with
    | nil => intro cs G g off h _; exact ⟨[], by simp, rfl⟩
    | cons x r ih =>
      intro cs G g off h hc
      obtain ⟨c1, c2, F1, F2, rfl, rfl, h1, h2⟩ := h
      have hl := O.len h1
      have hs := hW.sz
      obtain ⟨F1', hs1, hr1⟩ := hW.rep h1
      obtain ⟨F2', hs2, hr2⟩ := ih c2 F2 g (off + R.sz) h2 fun j hj => by
        have := hc (c1.length + j) (by simp; omega)
        rw [List.getElem?_append_right (by omega), show c1.length + j - c1.length = j by omega] at this
        rw [← this, show off + R.sz + j = off + (c1.length + j) by omega]
      refine ⟨F1' ++ F2', fun b hb => ?_, c1, F1', F2', rfl, hr1, fun j hj => ?_, hr2⟩
      · rcases List.mem_append.1 hb with hb | hb
        · simp [hs1 b hb]
        · simp [hs2 b hb]
      · rw [hc j (by simp; omega), List.getElem?_append_left (by omega)]
  have hl := h.len
  rcases h with ⟨rfl, rfl, rfl⟩ | ⟨g, cap, cs, rest, G, rfl, hrow, h1, h2, h3, hf, rfl⟩
  · exact ⟨[], by simp, none, 0, rfl, by simp, .inl ⟨rfl, rfl, fun _ => rfl⟩⟩
  · by_cases h0 : xs = []
    · subst h0
      exact ⟨[], by simp, some ⟨g, 0, none⟩, cap, rfl, ⟨by simp, h2⟩, .inl ⟨rfl, rfl, fun e => by cases e⟩⟩
    · obtain ⟨G', hG, hc⟩ := key xs cs G g 0 hf fun j hj => by rw [Nat.zero_add, hrow.cell, List.getElem?_append_left hj]
      exact ⟨g :: G', fun b hb => by rcases List.mem_cons.1 hb with rfl | hb; simp; simp [hG b hb], _, cap, rfl, ⟨h1, h2⟩, .inr ⟨g, 0, G', rfl, h0, rfl, hc⟩⟩
/-- .. of the same elements -/
theorem Ow.read {t : TypeId} {w v} {xs : List α} {F} (h : Ow E t w v xs F) : ∃ F', (∀ b ∈ F', b ∈ F) ∧ Sl E w v xs F' := by
  exact h.sl (Weak.refl E)
end
/-- a slice of owned elements, read -/
theorem Weak.slice {α : Type} {O R : Elem α} (h : Weak O R) (hz : 0 < R.sz) (t : TypeId) {w v} {xs : List α} {F} (ho : Ow O t w v xs F) : ∃ F', (∀ b ∈ F', b ∈ F) ∧ (ESl R hz).rep w [v] xs F' := by
  obtain ⟨F', h1, h2⟩ := ho.sl h; exact ⟨F', h1, v, rfl, h2⟩
theorem set_mid (A c B : List Value) (j : Nat) (hj : j < c.length) (u : Value) : (A ++ c ++ B).set (A.length + j) u = A ++ c.set j u ++ B := by
  rw [List.append_assoc, List.set_append_right _ _ (by omega), show A.length + j - A.length = j by omega, List.set_append_left _ _ hj, List.append_assoc]
theorem Row.setMid {w g t} {A c B : List Value} (h : Row w g t (A ++ c ++ B)) {p j : Nat} (hp : p = A.length + j) (hj : j < c.length) (u : Value) : Row (w.setCell ⟨g, p, none⟩ u) g t (A ++ c.set j u ++ B) := by
  subst hp; rw [← set_mid _ _ _ _ hj]; exact h.set _ u
theorem Row.cellMid {w g t} {A c B : List Value} (h : Row w g t (A ++ c ++ B)) {p j : Nat} (hp : p = A.length + j) (hj : j < c.length) : w.cell? ⟨g, p, none⟩ = c[j]? := by
  subst hp; rw [h.cell, List.append_assoc, List.getElem?_append_right (by omega), show A.length + j - A.length = j by omega, List.getElem?_append_left hj]
/-- cells stored one behind the other -/
def putCells (w : World) (g : Nat) : Nat → List Value → World
  | _, [] => w
  | p, u :: r => putCells (w.setCell ⟨g, p, none⟩ u) g (p + 1) r
theorem Row.put {g t} : ∀ (c' c : List Value) {w : World} {A B : List Value} {p : Nat}, Row w g t (A ++ c ++ B) → p = A.length → c'.length = c.length → Row (putCells w g p c') g t (A ++ c' ++ B)
  | [], [], _, _, _, _, h, _, _ => h
  | u :: r, d :: c, w, A, B, p, h, hp, hl => by
    have h1 := h.setMid (p := p) (j := 0) (by omega) (by simp) u
    simp only [List.set_cons_zero] at h1
    have h2 := Row.put r c (w := w.setCell ⟨g, p, none⟩ u) (A := A ++ [u]) (B := B) (p := p + 1) (by simpa using h1) (by simp; omega) (by simpa using hl)
    simpa [putCells] using h2
  | [], _ :: _, _, _, _, _, _, _, hl => by simp at hl
  | _ :: _, [], _, _, _, _, _, _, hl => by simp at hl
theorem putCells_other {g : Nat} : ∀ (c : List Value) (w : World) (p : Nat) (b : Nat), b ≠ g → (putCells w g p c).heap[b]? = w.heap[b]?
  | [], _, _, _, _ => rfl
  | _ :: r, _, _, b, hb => (putCells_other r _ _ b hb).trans (Below.heap_setCell _ _ _ _ hb)
theorem putCells_keep {g : Nat} : ∀ (c : List Value) (w : World) (p : Nat), Keep [g] w (putCells w g p c)
  | [], w, _ => Keep.refl _ w
  | u :: r, w, p => ((Keep.refl [g] w).setCell (p := ⟨g, p, none⟩) (by simp) u).trans (putCells_keep r _ _)
/-- an element is stored -/
theorem Ow.put {α : Type} {E : Elem α} {t : TypeId} {w : World} {g n cap : Nat} {xs : List α} {F : List Nat} (h : Ow E t w (.slice (some ⟨g, 0, none⟩) n cap) xs F) (hn : F.Nodup) (i : Nat) (hi : i < xs.length) :
    g ∈ F ∧ (∀ j, j < E.sz → (∃ u, w.cell? ⟨g, i * E.sz + j, none⟩ = some u) ∧ w.frozen? ⟨g, i * E.sz + j, none⟩ = false) ∧
    ∀ c' x' F', E.rep w c' x' F' → F'.Nodup → (∀ b ∈ F', b ∉ F) → ∃ F2, Ow E t (putCells w g (i * E.sz) c') (.slice (some ⟨g, 0, none⟩) n cap) (xs.set i x') F2 ∧ F2.Nodup ∧ ∀ b ∈ F2, b ∈ F ∨ b ∈ F' := by
  obtain ⟨g', cp, A, c, B, G1, Fi, G2, hv, hrow, hA, hcl, hx, rfl, hlt, back⟩ := h.focus i hi
  simp only [Value.slice.injEq, Option.some.injEq, Addr.mk.injEq] at hv
  obtain ⟨⟨rfl, _⟩, rfl, rfl⟩ := hv
  have hnd : g ∉ G1 ++ G2 := fun hm => by simp at hn hm; rcases hm with hm | hm <;> simp [hm] at hn
  refine ⟨by simp, fun j hj => ⟨⟨c[j]'(by omega), by rw [hrow.cellMid (j := j) (by omega) (by omega), List.getElem?_eq_getElem]⟩, hrow.frozen _⟩, fun c' x' F' hx' hn' hd => ⟨g :: (G1 ++ F' ++ G2), ?_, ?_, ?_⟩⟩
  · have hl := E.len hx'
    have hg : g ∉ F' := fun e => hd g e (by simp)
    exact back _ c' x' F' (hrow.put c' c (by omega) (by omega)) (E.frame hx' fun b hb => putCells_other _ _ _ _ fun e => hg (e ▸ hb)) fun b hb => putCells_other _ _ _ _ fun e => hnd (e ▸ hb)
  · have hd1 : ∀ b ∈ F', b ≠ g ∧ b ∉ G1 ∧ b ∉ G2 := fun b hb => by have := hd b hb; simp at this; exact ⟨this.1, this.2.1, this.2.2.2⟩
    simp only [List.nodup_cons, List.nodup_append, List.mem_append, not_or] at hn ⊢
    obtain ⟨⟨⟨h1, h2⟩, h3⟩, ⟨h4, h5, h6⟩, h7, h8⟩ := hn
    refine ⟨⟨⟨h1, fun e => (hd1 g e).1 rfl⟩, h3⟩, ⟨h4, hn', fun a ha b hb e => (hd1 b hb).2.1 (e ▸ ha)⟩, h7, fun a ha b hb => ?_⟩
    rcases ha with ha | ha
    · exact h8 a (.inl ha) b hb
    · exact fun e => (hd1 a ha).2.2 (e ▸ hb)
  · intro b hb; simp at hb ⊢; rcases hb with hb | hb | hb | hb <;> simp [hb]
theorem Ow.head {α : Type} {E : Elem α} {t : TypeId} {w : World} {a : Option Addr} {n cap : Nat} {xs : List α} {F : List Nat} (h : Ow E t w (.slice a n cap) xs F) (i : Nat) (hi : i < xs.length) : ∃ g, a = some ⟨g, 0, none⟩ := by
  obtain ⟨g, cp, A, c, B, G1, Fi, G2, hv, -⟩ := h.focus i hi
  simp only [Value.slice.injEq] at hv
  exact ⟨g, hv.1⟩
theorem madeCells_flat (z : Array Value) (n : Nat) : (madeCells z (n * z.size)).toList = (List.replicate n z.toList).flatten := by
  apply List.ext_getElem?
  intro p
  by_cases hz : z.size = 0
  · have : z = #[] := Array.eq_empty_of_size_eq_zero hz
    subst this; simp [madeCells]
  · have hlen : ∀ m, ((List.replicate m z.toList).flatten).length = m * z.size := fun m => by simp
    by_cases hp : p < n * z.size
    · have h1 : (madeCells z (n * z.size)).toList[p]? = some z[p % z.size]! := by simp [madeCells, hp]
      rw [h1]
      have hq : p / z.size < n := Nat.div_lt_of_lt_mul (by rwa [Nat.mul_comm])
      have e : List.replicate n z.toList = List.replicate (p / z.size) z.toList ++ z.toList :: List.replicate (n - p / z.size - 1) z.toList := by
        rw [← List.replicate_succ, List.replicate_append_replicate]; congr 1; omega
      have hd := Nat.div_add_mod p z.size
      have hm := Nat.mod_lt p (Nat.pos_of_ne_zero hz)
      rw [Nat.mul_comm] at hd
      rw [e, List.flatten_append, List.flatten_cons, List.getElem?_append_right (by rw [hlen]; omega), hlen, show p - p / z.size * z.size = p % z.size by omega, List.getElem?_append_left (by simpa using hm)]
      simp [hm]
    · rw [List.getElem?_eq_none (by simp [madeCells]; omega), List.getElem?_eq_none (by rw [hlen]; omega)]
theorem Ow.made {α : Type} {E : Elem α} {t : TypeId} (w : World) (z : Array Value) (n : Nat) (x : α) (hsz : z.size = E.sz) (hz : ∀ w, E.rep w z.toList x []) (hn : n ≤ maxLen) :
    Ow E t (w.alloc (.cells (madeCells z (n * E.sz)) t)) (.slice (some ⟨w.heap.size, 0, none⟩) n n) (List.replicate n x) [w.heap.size] := by
  have hf : ∀ (w : World) (m : Nat), Flat E w (List.replicate m z.toList).flatten (List.replicate m x) [] := by
    intro w m
    induction m with
    | zero => exact ⟨rfl, rfl⟩
    | succ m ih => exact ⟨z.toList, _, [], [], by rw [List.replicate_succ, List.flatten_cons], rfl, hz w, ih⟩
  refine .inr ⟨w.heap.size, n, (madeCells z (n * E.sz)).toList, [], [], by simp, ?_, by simp, hn, ?_, ?_, rfl⟩
  · simp only [List.append_nil, Row]
    exact heap_alloc_new w _
  · rw [← hsz, madeCells_flat]; simp
  · rw [← hsz, madeCells_flat]; exact hf _ _
/-- element k of a slice that reads aS a list: where it lies, and aS what it reads -/
theorem Sl.at {α : Type} {E : Elem α} {w : World} {a : Option Addr} {n cap : Nat} {xs : List α} {F} (h : Sl E w (.slice a n cap) xs F) (k : Nat) (hk : k < xs.length) :
    ∃ b off cs F1, a = some ⟨b, off, none⟩ ∧ E.rep w cs xs[k] F1 ∧ (∀ c ∈ F1, c ∈ F) ∧ ∀ j, j < E.sz → w.cell? ⟨b, off + k * E.sz + j, none⟩ = cs[j]? := by
  obtain ⟨a', cap', hv, hl, h⟩ := h
  cases hv
  rcases h with ⟨rfl, _⟩ | ⟨b, off, F', rfl, _, rfl, hc⟩
  · simp at hk
  · obtain ⟨cs, F1, h1, hj, hm⟩ := hc.get k hk
    exact ⟨b, off, cs, F1, rfl, h1, fun c hc => by simp [hm c hc], hj⟩
theorem Sl.slice {α : Type} {E : Elem α} {w v} {xs : List α} {F} (h : Sl E w v xs F) : ∃ a cap, v = .slice a xs.length cap := by
  obtain ⟨a, cap, h, _⟩ := h; exact ⟨a, cap, h⟩
theorem Sl.len {α : Type} {E : Elem α} {w v} {xs : List α} {F} (h : Sl E w v xs F) : xs.length ≤ maxLen := by
  obtain ⟨a, cap, _, h, _⟩ := h; omega
theorem Sl.caps {α : Type} {E : Elem α} {w} {a : Option Addr} {n cap : Nat} {xs : List α} {F} (h : Sl E w (.slice a n cap) xs F) : n = xs.length ∧ n ≤ cap ∧ cap ≤ maxLen := by
  obtain ⟨a', cap', hv, h, _⟩ := h; cases hv; exact ⟨rfl, h⟩
/-- a struct by value -/
def IsV {α : Type} (E : Elem α) (w : World) (v : Value) (x : α) (F : List Nat) : Prop := ∃ cs : List Value, v = .agg cs.toArray ∧ E.rep w cs x F
theorem IsV.below {α : Type} {E : Elem α} {w w' : World} {v x F} (h : IsV E w v x F) (hb : Below w.heap.size w w') : IsV E w' v x F := by
  obtain ⟨cs, hv, h⟩ := h; exact ⟨cs, hv, E.below h hb⟩
/-- a new struct value with owned parts -/
def RetV {α : Type} (E : Elem α) (x : α) (w : World) (e : Ending) (w' : World) : Prop :=
  ∃ v F, e = .returned v ∧ IsV E w' v x F ∧ F.Nodup ∧ (∀ b ∈ F, w.heap.size ≤ b) ∧ Below w.heap.size w w'
/-- a new owned slice with these elements -/
def RetNew {α : Type} (E : Elem α) (t : TypeId) (xs : List α) (w : World) (e : Ending) (w' : World) : Prop :=
  ∃ v F, e = .returned v ∧ Ow E t w' v xs F ∧ F.Nodup ∧ (∀ b ∈ F, w.heap.size ≤ b) ∧ Below w.heap.size w w'
theorem Row.keepK {w w' g t cs F} (h : Row w g t cs) (hk : Keep F w w') (hg : g ∉ F) : Row w' g t cs := h.keep (hk.block g h.lt hg)
/-- a function value that may be called: its body is Go's own text -/
structure Body (P : Program) (f : FuncId) : Prop where
  ok : ∃ fn, P.funcs[f]? = some fn ∧ (fn.name == "runtime.NumGoroutine") = false ∧ fn.body.isNone = false
theorem Body.mk' {P : Program} {f : FuncId} {fn : Func} (h : P.funcs[f]? = some fn) (h1 : (fn.name == "runtime.NumGoroutine") = false) (h2 : fn.body.isNone = false) : Body P f := ⟨fn, h, h1, h2⟩
theorem Body.run {P : Program} {f : FuncId} (h : Body P f) (args : Array Value) (w : World) : (callFunc f args).run P w = .ok (.enter f args) w := by
  obtain ⟨fn, h0, h1, h2⟩ := h.ok
  have h1' : ¬ fn.name = "runtime.NumGoroutine" := by simpa using h1
  have h2' : ¬ fn.body = none := fun e => by rw [e] at h2; simp at h2
  simp [callFunc, program, Sem.run, h0, h1', h2', bind, Sem.bind, pure]
theorem Body.upon {P : Program} {f : FuncId} (h : Body P f) {o : Oper} {a : Act} {K : Act → World → Prop} {Q : Exit → Act → World → Prop} {args : Array Value} {w : World} {R : Ending → World → Prop}
    (hc : Calls P f args w R) (hr : ∀ e w', R e w' → ∃ v, e = .returned v ∧ K (a.put o.dst v) w') : Oper.upon P o a K Q ((callFunc f args).run P w) := by
  rw [h.run, Oper.upon_enter]
  exact hc.mono fun e w' hR => by obtain ⟨v, rfl, hk⟩ := hr e w' hR; exact hk

/-- the first index that a predicate answers, or -1 -/
def fidx {α : Type} (p : α → Bool) (xs : List α) : Int := if xs.any p then (xs.findIdx p : Int) else -1
theorem fidx_hit {α : Type} {p : α → Bool} {xs : List α} {k : Nat} (hk : k < xs.length) (h0 : ∀ j, j < k → ∀ hj : j < xs.length, p xs[j] = false) (h1 : p xs[k] = true) : fidx p xs = k := by
  have h : xs.findIdx p = k := by
    rw [List.findIdx_eq hk]
    exact ⟨h1, fun j hj => h0 j hj (by omega)⟩
  have ha : xs.any p = true := List.any_eq_true.2 ⟨xs[k], List.getElem_mem _, h1⟩
  unfold fidx; rw [if_pos ha, h]
theorem fidx_none {α : Type} {p : α → Bool} {xs : List α} (h0 : ∀ j, ∀ hj : j < xs.length, p xs[j] = false) : fidx p xs = -1 := by
  unfold fidx
  rw [if_neg]
  intro ha
  obtain ⟨x, hx, hp⟩ := List.any_eq_true.1 ha
  obtain ⟨i, hi, rfl⟩ := List.getElem_of_mem hx
  rw [h0 i hi] at hp; simp at hp
theorem fidx_any {α : Type} (p : α → Bool) (xs : List α) : decide (0 ≤ fidx p xs) = xs.any p := by
  unfold fidx; cases h : xs.any p <;> simp

/-- a predicate holds of all indexes below n -/
def allUpTo (p : Nat → Bool) (n : Nat) : Bool := (List.range n).all p
theorem allUpTo_yes {p : Nat → Bool} {n : Nat} (h : ∀ i, i < n → p i = true) : allUpTo p n = true := by simp [allUpTo]; exact h
theorem allUpTo_no {p : Nat → Bool} {n k : Nat} (hk : k < n) (h : p k = false) : allUpTo p n = false := by
  rw [Bool.eq_false_iff]; intro ha; simp [allUpTo] at ha; rw [ha k hk] at h; simp at h
theorem allUpTo_get {p : Nat → Bool} {n : Nat} (h : allUpTo p n = true) (i : Nat) (hi : i < n) : p i = true := by simp [allUpTo] at h; exact h i hi
theorem upto_snoc {p : Nat → Bool} {k : Nat} (h : ∀ i, i < k → p i = true) (hk : p k = true) : ∀ i, i < k + 1 → p i = true := fun i hi => by
  rcases Nat.lt_or_eq_of_le (Nat.le_of_lt_succ hi) with h' | rfl
  · exact h i h'
  · exact hk

theorem quiet_eq {P : Program} {f : FuncId} {args : Array Value} {w : World} {n : Nat} {v : Value}
    (h : Calls P f args (w.drewN n) fun e w' => e = .returned v ∧ w.drewN n = w') : Calls P f args (w.drewN n) fun e w'' => e = .returned v ∧ ∃ m, w'' = w.drewN m :=
  h.mono fun _ _ ⟨he, hm⟩ => ⟨he, n, hm.symm⟩

end Go.Proofs.YtgogcgkocjpgoaaGreatDoor
/- Appending to owned slices; copies whose elements are copied one by one; parts of slices. Plain: no program in sight. -/
namespace Go.Proofs.YtgogcgkocjpgoaaGreatDoor
open Go.RowKit

/-- every cell holds one cell's value -/
def One {α : Type} (E : Elem α) : Prop := ∀ {w cs x F}, E.rep w cs x F → ∀ u ∈ cs, u.oneCell' = true
theorem one_EInt : One EInt := fun h u hu => by obtain ⟨rfl, _⟩ := h; simp at hu; subst hu; rfl
theorem one_EStr : One EStr := fun h u hu => by obtain ⟨rfl, _⟩ := h; simp at hu; subst hu; rfl
theorem Sl.one {α : Type} {E : Elem α} {w v} {xs : List α} {F} (h : Sl E w v xs F) : v.oneCell' = true := by obtain ⟨a, c, rfl, _⟩ := h; rfl
theorem Ow.one {α : Type} {E : Elem α} {t w v} {xs : List α} {F} (h : Ow E t w v xs F) : v.oneCell' = true := by obtain ⟨a, c, rfl⟩ := h.slice; rfl
theorem Flat.one' {α : Type} {E : Elem α} (hE : One E) {w : World} : ∀ {xs : List α} {cs : List Value} {G : List Nat}, Flat E w cs xs G → ∀ u ∈ cs, u.oneCell' = true
  | [], _, _, h => by simp [h.1]
  | x :: r, _, _, h => by
    obtain ⟨c1, c2, F1, F2, rfl, rfl, h1, h2⟩ := h
    intro u hu
    rcases List.mem_append.1 hu with hu | hu
    · exact hE h1 u hu
    · exact h2.one' hE u hu
/-- cells that read, aS one row -/
theorem Cells.flat {α : Type} {E : Elem α} {w : World} {b : Nat} : ∀ {xs : List α} {off : Nat} {F : List Nat}, Cells E w b off xs F → ∃ cs, Flat E w cs xs F ∧ ∀ j u, cs[j]? = some u → w.cell? ⟨b, off + j, none⟩ = some u
  | [], off, _, h => ⟨[], ⟨rfl, h⟩, fun j u hu => by simp at hu⟩
  | x :: r, off, _, h => by
    obtain ⟨c1, F1, F2, rfl, h1, hc, h2⟩ := h
    obtain ⟨c2, hf, hc2⟩ := h2.flat
    have hl := E.len h1
    refine ⟨c1 ++ c2, ⟨c1, c2, F1, F2, rfl, rfl, h1, hf⟩, fun j u hu => ?_⟩
    rcases Nat.lt_or_ge j c1.length with hj | hj
    · rw [List.getElem?_append_left hj] at hu
      rw [hc j (by omega)]; exact hu
    · rw [List.getElem?_append_right hj] at hu
      have := hc2 _ _ hu
      rw [← this]; congr 2; omega
theorem Flat.cells {α : Type} {E : Elem α} {w : World} {b : Nat} : ∀ {xs : List α} {cs : List Value} {off : Nat} {F : List Nat}, Flat E w cs xs F → (∀ j u, cs[j]? = some u → w.cell? ⟨b, off + j, none⟩ = some u) → Cells E w b off xs F
  | [], _, off, _, h, _ => h.2
  | x :: r, _, off, _, h, hc => by
    obtain ⟨c1, c2, F1, F2, rfl, rfl, h1, h2⟩ := h
    have hl := E.len h1
    refine ⟨c1, F1, F2, rfl, h1, fun j hj => ?_, h2.cells fun j u hu => ?_⟩
    · have : j < c1.length := by omega
      rw [List.getElem?_eq_getElem this]
      exact hc j _ (by rw [List.getElem?_append_left this, List.getElem?_eq_getElem this])
    · have := hc (c1.length + j) u (by rw [List.getElem?_append_right (by omega), show c1.length + j - c1.length = j by omega]; exact hu)
      rw [← this]; congr 2; omega

/-- the head's block is not among the others -/
def Hd (F : List Nat) : Prop := ∀ g G, F = g :: G → g ∉ G
theorem Hd.of {F : List Nat} (h : F.Nodup) : Hd F := fun g G e => by subst e; simp at h; exact h.1
theorem Ow.owns {α : Type} {E : Elem α} {t w v} {xs : List α} {F} (h : Ow E t w v xs F) : ∃ cs G, w.ownsRow 0 t E.sz v xs.length cs ∧ Flat E w cs xs G ∧ F = v.ownBlock.toList ++ G := by
  rcases h with ⟨rfl, rfl, rfl⟩ | ⟨g, cap, cs, rest, G, rfl, hr, h1, h2, h3, hf, rfl⟩
  · exact ⟨[], [], ⟨by simp, .inl ⟨rfl, rfl⟩⟩, ⟨rfl, rfl⟩, rfl⟩
  · refine ⟨cs, G, ⟨hf.len, .inr ⟨g, cap, (cs ++ rest).toArray, rfl, Nat.zero_le _, hr, h1, h2, by simp [h3], ?_⟩⟩, hf, rfl⟩
    rw [← hf.len]; simp
theorem Ow.ofOwns {α : Type} {E : Elem α} {t w v n} {cs : List Value} {xs : List α} {G} (h : w.ownsRow 0 t E.sz v n cs) (hf : Flat E w cs xs G) (hn : n = xs.length) : Ow E t w v xs (v.ownBlock.toList ++ G) := by
  subst hn
  obtain ⟨hl, h⟩ := h
  rcases h with ⟨rfl, h0⟩ | ⟨g, cap, cur, rfl, _, hg, h1, h2, h3, h4⟩
  · have : xs = [] := List.eq_nil_of_length_eq_zero h0
    subst this
    exact .inl ⟨rfl, rfl, by rw [hf.2]; rfl⟩
  · refine .inr ⟨g, cap, cs, cur.toList.drop cs.length, G, rfl, ?_, h1, h2, ?_, hf, rfl⟩
    · have : cs ++ cur.toList.drop cs.length = cur.toList := by
        rw [hl, ← h4]; simp
      rw [this]; exact hg
    · rw [← h3]; simp; rw [hl]; have := Nat.mul_le_mul_right E.sz h1; omega
theorem ownBlock_lt {w : World} {t v n sz} {cs : List Value} (h : w.ownsRow 0 t sz v n cs) : ∀ b, v.ownBlock = some b → b < w.heap.size := by
  intro b hb
  rcases h.2 with ⟨rfl, _⟩ | ⟨g, cap, cur, rfl, _, hg, _⟩
  · cases hb
  · cases hb
    rcases Nat.lt_or_ge g w.heap.size with hlt | hge
    · exact hlt
    · rw [Array.getElem?_eq_none hge] at hg; cases hg

section
variable {P : Program} {α : Type} {E : Elem α}
/-- what an append brings -/
structure Apd (E : Elem α) (e : TypeId) (w : World) (v : Value) (xs ys : List α) (F Fy : List Nat) (v' : Value) (w' : World) (F' : List Nat) : Prop where
  ow : Ow E e w' v' (xs ++ ys) F'
  hd : Hd F'
  nodup : F.Nodup → Fy.Nodup → (∀ b ∈ Fy, b ∉ F) → F'.Nodup
  mem : ∀ b ∈ F', b ∈ F ∨ b ∈ Fy ∨ b = w.heap.size
  keep : Keep F w w'
  keep1 : Keep v.ownBlock.toList w w'
  val : ∃ a cap, v' = .slice a (xs.length + ys.length) cap
  same : v'.ownBlock = v.ownBlock ∨ v'.ownBlock = some w.heap.size
  form : ∀ Gx, F = v.ownBlock.toList ++ Gx → F' = v'.ownBlock.toList ++ (Gx ++ Fy)
theorem apd_of {e : TypeId} {w : World} {v : Value} {xs ys : List α} {F Fy : List Nat} {v' w'} {cs news G} (hown : w.ownsRow 0 e E.sz v xs.length cs) (hf : Flat E w cs xs G) (hF : F = v.ownBlock.toList ++ G) (hd : Hd F)
    (hfy : Flat E w news ys Fy) (hdis : ∀ b ∈ Fy, v.ownBlock ≠ some b) (h' : w'.ownsRow 0 e E.sz v' (xs.length + ys.length) (cs ++ news)) (hg : w.grownBy w' v.ownBlock)
    (hb : v'.ownBlock = v.ownBlock ∨ v'.ownBlock = some w.heap.size) (hs : ∃ a cap, v' = .slice a (xs.length + ys.length) cap) : ∃ F', Apd E e w v xs ys F Fy v' w' F' := by
  have hGn : ∀ b ∈ G, v.ownBlock ≠ some b := fun b hb e => by
    rw [e] at hF; exact hd b G hF hb
  have hfr : ∀ b, b < w.heap.size → v.ownBlock ≠ some b → w'.heap[b]? = w.heap[b]? := fun b hb hn => hg.block b hb (fun e => hn e.symm)
  have hfl : Flat E w' (cs ++ news) (xs ++ ys) (G ++ Fy) := (hf.frame fun b hb => hfr b (hf.lt b hb) (hGn b hb)).append (hfy.frame fun b hb => hfr b (hfy.lt b hb) (hdis b hb))
  have hvl := ownBlock_lt hown
  have hhead : ∀ g, v'.ownBlock = some g → g ∉ G ∧ g ∉ Fy := fun g e => by
    rcases hb with hb | hb
    · rw [hb] at e; exact ⟨fun hm => hGn g hm e, fun hm => hdis g hm e⟩
    · rw [hb] at e; cases e
      exact ⟨fun hm => Nat.lt_irrefl _ (hf.lt _ hm), fun hm => Nat.lt_irrefl _ (hfy.lt _ hm)⟩
  refine ⟨v'.ownBlock.toList ++ (G ++ Fy), Ow.ofOwns h' hfl (by simp), ?_, ?_, ?_, ?_, ⟨hg.os, hg.tape, hg.output, hg.size, fun k hk hm => hfr k hk fun e => hm (by rw [e]; simp)⟩, hs, hb, fun Gx e => by rw [hF] at e; rw [List.append_cancel_left e]⟩
  · intro g G' e
    cases hv : v'.ownBlock with
    | none =>
      have hxy : xs ++ ys = [] := by
        rcases h'.2 with ⟨rfl, h0⟩ | ⟨g, cap, cur, rfl, _⟩
        · exact List.eq_nil_of_length_eq_zero (by rw [List.length_append]; omega)
        · simp [Value.ownBlock] at hv
      rw [hxy] at hfl; rw [hfl.2, hv] at e; simp at e
    | some g2 =>
      rw [hv] at e; simp at e; obtain ⟨rfl, rfl⟩ := e
      have := hhead g2 hv; simp [this]
  · intro h1 h2 h3
    subst hF
    have hn : (G ++ Fy).Nodup := by
      rw [List.nodup_append] at h1 ⊢
      exact ⟨h1.2.1, h2, fun a ha b hb e => h3 b hb (by rw [← e]; simp [ha])⟩
    cases hv : v'.ownBlock with
    | none => simpa using hn
    | some g2 => have := hhead g2 hv; simp only [Option.toList_some, List.singleton_append, List.nodup_cons, List.mem_append]; exact ⟨by simp [this], hn⟩
  · intro b hm
    simp at hm
    rcases hm with hm | hm | hm
    · rcases hb with hb | hb
      · rw [hb] at hm; left; rw [hF]; simp [hm]
      · rw [hb] at hm; cases hm; simp
    · left; rw [hF]; simp [hm]
    · simp [hm]
  · exact ⟨hg.os, hg.tape, hg.output, hg.size, fun k hk hm => hfr k hk fun e => hm (by rw [hF, e]; simp)⟩
theorem wp_apd (hone : One E) (hsz : 0 < E.sz) {o : Oper} {a : Act} {K : Act → World → Prop} {Q : Exit → Act → World → Prop} {w : World} (s x : Operand) (t : TypeId)
    (ho : o.op = .call { callee := .builtin .append, args := #[s, x], argTypes := #[t, t] }) (e : TypeId) (z : Value) (bytes : Nat) (ht : P.underlying t = some (.slice e))
    (hinfo : (P.info? e).map (fun i => (i.zero, i.size, i.bytes)) = some (some z, E.sz, bytes)) (hzs : z.cells.size = E.sz)
    (v : Value) (xs : List α) (F : List Nat) (hs : a.eval s = v) (hown : Ow E e w v xs F) (hd : Hd F)
    (ao : Option Addr) (ys : List α) (c : Nat) (hx : a.eval x = .slice ao ys.length c) (news : List Value) (Fy : List Nat) (hfy : Flat E w news ys Fy)
    (hsrc : (ao = none ∧ c = 0 ∧ ys = []) ∨ ∃ ad, ao = some ad ∧ ∀ j u, news[j]? = some u → w.cell? (ad.add j) = some u)
    (hdis : ∀ b ∈ Fy, v.ownBlock ≠ some b) (h63 : xs.length + ys.length ≤ maxLen) (hbytes : (xs.length + ys.length) * bytes ≤ 140737488355328)
    (h : ∀ v' w' F', Apd E e w v xs ys F Fy v' w' F' → K (a.put o.dst v') w') : o.wp P a w K Q := by
  obtain ⟨i, hi, hzz⟩ := Option.map_eq_some_iff.1 hinfo
  simp only [Prod.mk.injEq] at hzz
  obtain ⟨hz, hsize, hby⟩ := hzz
  obtain ⟨cs, G, hrow, hf, hF⟩ := hown.owns
  rcases hsrc with ⟨rfl, rfl, rfl⟩ | ⟨ad, rfl, hnews⟩
  · have hn0 : news = [] := hfy.1
    subst hn0
    unfold Oper.wp execOp
    simp only [ho, resolve, invoke, builtin, Sem.run_bind, Sem.run_pure, Result.andThen_ok, List.map_toArray, List.map_cons, List.map_nil, hs, hx]
    have hrun := run_append_owned_none (P := P) w 0 t o.type e i E.sz ht hi _ xs.length cs hrow
    rw [show ([] : List α).length = 0 from rfl, hrun]
    obtain ⟨F', hA⟩ := apd_of (ys := []) hrow hf hF hd hfy hdis (by simpa using hrow) (World.grownBy.refl _ _) (.inl rfl) (by obtain ⟨a, c, rfl⟩ := hown.slice; exact ⟨a, c, by simp⟩)
    exact h _ _ _ hA
  · obtain ⟨v', w', hr, h2, h3, h4, h5⟩ := run_append_own_at (P := P) w 0 t o.type e i z E.sz bytes ht hi hz hsize hby hzs hsz v xs.length cs hrow ad ys.length c news hfy.len hnews (hfy.one' hone) h63 hbytes (Nat.zero_le _)
    unfold Oper.wp execOp
    simp only [ho, resolve, invoke, builtin, Sem.run_bind, Sem.run_pure, Result.andThen_ok, List.map_toArray, List.map_cons, List.map_nil, hs, hx, hr]
    have hs2 : ∃ a cap, v' = .slice a (xs.length + ys.length) cap := by
      rcases h2.2 with ⟨rfl, h0⟩ | ⟨g, cap, cur, rfl, _⟩
      · exact ⟨none, 0, by rw [h0]⟩
      · exact ⟨_, _, rfl⟩
    obtain ⟨F', hA⟩ := apd_of (ys := ys) hrow hf hF hd hfy hdis h2 h3 h5 hs2
    exact h _ _ _ hA
theorem wpList_apd (hone : One E) (hsz : 0 < E.sz) {ops : Array Oper} {rest : List Oper} {o : Oper} {a : Act} {Q : Exit → Act → World → Prop} {w : World} (hgd : o.guard = none) (s x : Operand) (t : TypeId)
    (ho : o.op = .call { callee := .builtin .append, args := #[s, x], argTypes := #[t, t] }) (e : TypeId) (z : Value) (bytes : Nat) (ht : P.underlying t = some (.slice e))
    (hinfo : (P.info? e).map (fun i => (i.zero, i.size, i.bytes)) = some (some z, E.sz, bytes)) (hzs : z.cells.size = E.sz)
    (v : Value) (xs : List α) (F : List Nat) (hs : a.eval s = v) (hown : Ow E e w v xs F) (hd : Hd F)
    (ao : Option Addr) (ys : List α) (c : Nat) (hx : a.eval x = .slice ao ys.length c) (news : List Value) (Fy : List Nat) (hfy : Flat E w news ys Fy)
    (hsrc : (ao = none ∧ c = 0 ∧ ys = []) ∨ ∃ ad, ao = some ad ∧ ∀ j u, news[j]? = some u → w.cell? (ad.add j) = some u)
    (hdis : ∀ b ∈ Fy, v.ownBlock ≠ some b) (h63 : xs.length + ys.length ≤ maxLen) (hbytes : (xs.length + ys.length) * bytes ≤ 140737488355328)
    (h : ∀ v' w' F', Apd E e w v xs ys F Fy v' w' F' → wpList P ops Q rest (a.put o.dst v') w') : wpList P ops Q (o :: rest) a w :=
  wpList_plain hgd fun _ hK => wp_apd hone hsz s x t ho e z bytes ht hinfo hzs v xs F hs hown hd ao ys c hx news Fy hfy hsrc hdis h63 hbytes fun v' w' F' hA => hK _ _ (h v' w' F' hA)
theorem step_apd (hone : One E) (hsz : 0 < E.sz) {ops : Array Oper} {o : Oper} {a : Act} {K : Act → World → Prop} {Q : Exit → Act → World → Prop} {Z : Prop} {w : World} (hgd : o.guard = none) (s x : Operand) (t : TypeId)
    (ho : o.op = .call { callee := .builtin .append, args := #[s, x], argTypes := #[t, t] }) (e : TypeId) (z : Value) (bytes : Nat) (ht : P.underlying t = some (.slice e))
    (hinfo : (P.info? e).map (fun i => (i.zero, i.size, i.bytes)) = some (some z, E.sz, bytes)) (hzs : z.cells.size = E.sz)
    (v : Value) (xs : List α) (F : List Nat) (hs : a.eval s = v) (hown : Ow E e w v xs F) (hd : Hd F)
    (ao : Option Addr) (ys : List α) (c : Nat) (hx : a.eval x = .slice ao ys.length c) (news : List Value) (Fy : List Nat) (hfy : Flat E w news ys Fy)
    (hsrc : (ao = none ∧ c = 0 ∧ ys = []) ∨ ∃ ad, ao = some ad ∧ ∀ j u, news[j]? = some u → w.cell? (ad.add j) = some u)
    (hdis : ∀ b ∈ Fy, v.ownBlock ≠ some b) (h63 : xs.length + ys.length ≤ maxLen) (hbytes : (xs.length + ys.length) * bytes ≤ 140737488355328)
    (h : ∀ v' w' F', Apd E e w v xs ys F Fy v' w' F' → K (a.put o.dst v') w') : if Region.wanted o (yielded ops a.tmps) = true then Oper.wp P o a w K Q else Z := by
  have hw : Region.wanted o (yielded ops a.tmps) = true := by simp [Region.wanted, hgd]
  rw [if_pos hw]
  exact wp_apd hone hsz s x t ho e z bytes ht hinfo hzs v xs F hs hown hd ao ys c hx news Fy hfy hsrc hdis h63 hbytes h
end

theorem Ow.own_mem {α : Type} {E : Elem α} {t w v} {xs : List α} {F} (h : Ow E t w v xs F) : ∀ b, v.ownBlock = some b → b ∈ F := fun b hb => by
  obtain ⟨cs, G, _, _, rfl⟩ := h.owns; simp [hb]
/-- a value that reads so; nothing that was there has turned -/
def RetR {α : Type} (E : Elem α) (x : α) (w : World) (e : Ending) (w' : World) : Prop :=
  ∃ v F, e = .returned v ∧ IsV E w' v x F ∧ (∀ b ∈ F, w.heap.size ≤ b) ∧ Below w.heap.size w w'
theorem IsV.weak {α : Type} {O R : Elem α} (h : Weak O R) {w v x F} (ho : IsV O w v x F) : ∃ F', (∀ b ∈ F', b ∈ F) ∧ IsV R w v x F' := by
  obtain ⟨cs, hv, hx⟩ := ho
  obtain ⟨F', h1, h2⟩ := h.rep hx
  exact ⟨F', h1, cs, hv, h2⟩
/-- an empty literal -/
theorem Ow.empty {α : Type} {E : Elem α} {t : TypeId} {w : World} {g : Nat} (h : Row w g t []) : Ow E t w (.slice (some ⟨g, 0, none⟩) 0 0) ([] : List α) [g] :=
  .inr ⟨g, 0, [], [], [], rfl, by simpa using h, by simp, by simp, by simp, ⟨rfl, rfl⟩, rfl⟩
theorem Hd.one (g : Nat) : Hd [g] := fun a G e => by cases e; simp
theorem Hd.nil : Hd [] := fun a G e => by cases e
/-- the source of an append out of a slice that reads -/
theorem Sl.src {α : Type} {E : Elem α} {w : World} {v : Value} {xs : List α} {F} (h : Sl E w v xs F) : ∃ ao c news Fy, v = .slice ao xs.length c ∧ xs.length ≤ maxLen ∧ Flat E w news xs Fy ∧ (∀ b ∈ Fy, b ∈ F) ∧
    ((ao = none ∧ c = 0 ∧ xs = []) ∨ ∃ ad, ao = some ad ∧ ∀ j u, news[j]? = some u → w.cell? (ad.add j) = some u) := by
  obtain ⟨a, cap, rfl, hl, ⟨rfl, rfl, h0⟩ | ⟨b, off, F', rfl, hne, rfl, hc⟩⟩ := h
  · refine ⟨a, cap, [], [], rfl, by simp, ⟨rfl, rfl⟩, by simp, ?_⟩
    cases a with
    | none => exact .inl ⟨rfl, h0 rfl, rfl⟩
    | some ad => exact .inr ⟨ad, rfl, fun j u hu => by simp at hu⟩
  · obtain ⟨cs, hf, hcs⟩ := hc.flat
    refine ⟨_, cap, cs, F', rfl, by omega, hf, fun b hb => by simp [hb], .inr ⟨_, rfl, fun j u hu => ?_⟩⟩
    rw [← hcs j u hu]
    unfold Addr.add; split <;> simp_all
/-- parts of a slice that reads -/
theorem Sl.takeS {α : Type} {E : Elem α} {w : World} {a : Option Addr} {n cap : Nat} {xs : List α} {F} (h : Sl E w (.slice a n cap) xs F) (k : Nat) (hk : k ≤ xs.length) : ∃ F', (∀ b ∈ F', b ∈ F) ∧ Sl E w (.slice a k cap) (xs.take k) F' := by
  obtain ⟨a', cap', hv, hl, h⟩ := h
  cases hv
  have hlen : (xs.take k).length = k := by simp; omega
  rcases h with ⟨rfl, rfl, h0⟩ | ⟨b, off, F', rfl, hne, rfl, hc⟩
  · simp at hk; subst hk; exact ⟨[], by simp, a, cap, by simp, ⟨by simp, hl.2⟩, .inl ⟨by simp, rfl, h0⟩⟩
  · by_cases hk0 : k = 0
    · subst hk0; exact ⟨[], by simp, some ⟨b, off, none⟩, cap, by simp, ⟨by simp, hl.2⟩, .inl ⟨by simp, rfl, fun e => by cases e⟩⟩
    · obtain ⟨cs, hf, hcs⟩ := hc.flat
      have e : xs = xs.take k ++ xs.drop k := by simp
      rw [e] at hf
      obtain ⟨c1, c2, G1, G2, rfl, rfl, h1, h2⟩ := hf.split
      refine ⟨b :: G1, by intro x hx; simp at hx ⊢; rcases hx with hx | hx <;> simp [hx], _, cap, by rw [hlen], by rw [hlen]; omega, .inr ⟨b, off, G1, rfl, fun e => by rw [e] at hlen; simp at hlen; omega, rfl, h1.cells fun j u hu => hcs j u ?_⟩⟩
      have hj : j < c1.length := by
        rcases Nat.lt_or_ge j c1.length with h | h
        · exact h
        · rw [List.getElem?_eq_none h] at hu; cases hu
      rw [List.getElem?_append_left hj]; exact hu
/-- no blocks behind the elements -/
def Scal {α : Type} (E : Elem α) : Prop := ∀ {w cs x F}, E.rep w cs x F → F = []
theorem scal_EInt : Scal EInt := fun h => h.2
theorem scal_EStr : Scal EStr := fun h => h.2.2
theorem Flat.scal {α : Type} {E : Elem α} (hE : Scal E) {w : World} : ∀ {xs : List α} {cs : List Value} {G : List Nat}, Flat E w cs xs G → G = []
  | [], _, _, h => h.2
  | x :: r, _, _, h => by
    obtain ⟨c1, c2, F1, F2, rfl, rfl, h1, h2⟩ := h
    rw [hE h1, h2.scal hE]; rfl
theorem Ow.scal {α : Type} {E : Elem α} (hE : Scal E) {t w v} {xs : List α} {F} (h : Ow E t w v xs F) : F = v.ownBlock.toList := by
  obtain ⟨cs, G, _, hf, rfl⟩ := h.owns
  rw [hf.scal hE, List.append_nil]

/-- a copy of a slice, whose first k elements are owned, and whose others are read -/
def Mix {α : Type} (O R : Elem α) (t : TypeId) (B1 B0 : Nat) (w : World) (v : Value) (xs : List α) (k : Nat) : Prop :=
  (v = .slice none 0 0 ∧ xs = []) ∨ ∃ g cap c1 c2 rest F G, v = .slice (some ⟨g, 0, none⟩) xs.length cap ∧ Row w g t (c1 ++ c2 ++ rest) ∧ xs.length ≤ cap ∧ cap ≤ maxLen ∧ c1.length + c2.length + rest.length = cap * O.sz ∧
    Flat O w c1 (xs.take k) F ∧ Flat R w c2 (xs.drop k) G ∧ (g :: F).Nodup ∧ (∀ b ∈ g :: F, B0 ≤ b) ∧ ∀ b ∈ G, b < B1
section
variable {α : Type} {O R : Elem α} {t : TypeId} {B1 B0 : Nat} {w : World} {v : Value} {xs : List α}
theorem Mix.start (hsz : R.sz = O.sz) {F : List Nat} (h : Ow R t w v xs F) (h1 : ∀ b, v.ownBlock = some b → B0 ≤ b) (h2 : ∀ b ∈ F, v.ownBlock = some b ∨ b < B1) (hd : Hd F) : Mix O R t B1 B0 w v xs 0 := by
  rcases h with ⟨rfl, rfl, _⟩ | ⟨g, cap, cs, rest, G, rfl, hr, h3, h4, h5, hf, rfl⟩
  · exact .inl ⟨rfl, rfl⟩
  · refine .inr ⟨g, cap, [], cs, rest, [], G, rfl, by simpa using hr, h3, h4, by simpa [← hsz] using h5, ⟨rfl, by simp⟩, by simpa using hf, by simp, by simpa using h1 g rfl, fun b hb => ?_⟩
    rcases h2 b (by simp [hb]) with e | e
    · cases e; exact absurd hb (hd g G rfl)
    · exact e
theorem Mix.done (h : Mix O R t B1 B0 w v xs xs.length) : ∃ F, Ow O t w v xs F ∧ F.Nodup ∧ ∀ b ∈ F, B0 ≤ b := by
  rcases h with ⟨rfl, rfl⟩ | ⟨g, cap, c1, c2, rest, F, G, rfl, hr, h3, h4, h5, hf, hf2, hn, hb, _⟩
  · exact ⟨[], .inl ⟨rfl, rfl, rfl⟩, by simp, by simp⟩
  · have : c2 = [] := by simp at hf2; exact hf2.1
    subst this
    exact ⟨g :: F, .inr ⟨g, cap, c1, rest, F, rfl, by simpa using hr, h3, h4, by simpa using h5, by simpa using hf, rfl⟩, hn, hb⟩
theorem Mix.frame {w' : World} {k : Nat} (h : Mix O R t B1 B0 w v xs k) (hb : ∀ b, b < w.heap.size → b < B1 ∨ B0 ≤ b → w'.heap[b]? = w.heap[b]?) : Mix O R t B1 B0 w' v xs k := by
  rcases h with h | ⟨g, cap, c1, c2, rest, F, G, hv, hr, h3, h4, h5, hf, hf2, hn, hb1, hb2⟩
  · exact .inl h
  · exact .inr ⟨g, cap, c1, c2, rest, F, G, hv, hr.keep (hb g hr.lt (.inr (hb1 g (by simp)))), h3, h4, h5, hf.frame fun b h => hb b (hf.lt b h) (.inr (hb1 b (by simp [h]))), hf2.frame fun b h => hb b (hf2.lt b h) (.inl (hb2 b h)), hn, hb1, hb2⟩
theorem Mix.setFar {k : Nat} (h : Mix O R t B1 B0 w v xs k) {p : Addr} (h1 : B1 ≤ p.block) (h2 : p.block < B0) (u : Value) : Mix O R t B1 B0 (w.setCell p u) v xs k :=
  h.frame fun b _ hb => Below.heap_setCell _ _ _ _ (by omega)
theorem Mix.below {w' : World} {k : Nat} (h : Mix O R t B1 B0 w v xs k) (hb : Below w.heap.size w w') : Mix O R t B1 B0 w' v xs k := h.frame fun b h _ => hb.block b h
theorem Mix.slice {k : Nat} (h : Mix O R t B1 B0 w v xs k) : ∃ a cap, v = .slice a xs.length cap := by
  rcases h with ⟨rfl, rfl⟩ | ⟨g, cap, c1, c2, rest, F, G, rfl, _⟩
  · exact ⟨none, 0, rfl⟩
  · exact ⟨_, _, rfl⟩
theorem Mix.at {k : Nat} (h : Mix O R t B1 B0 w v xs k) (hsz : R.sz = O.sz) (hk : k < xs.length) (hB : B0 ≤ w.heap.size) (h01 : B1 ≤ B0) :
    ∃ g cap A c B Fk, v = .slice (some ⟨g, 0, none⟩) xs.length cap ∧ B0 ≤ g ∧ Row w g t (A ++ c ++ B) ∧ A.length = k * O.sz ∧ c.length = O.sz ∧ R.rep w c xs[k] Fk ∧ (∀ b ∈ Fk, b < B1) ∧
      ∀ w' c' F', Row w' g t (A ++ c' ++ B) → O.rep w' c' xs[k] F' → F'.Nodup → (∀ b ∈ F', w.heap.size ≤ b) → (∀ b, b < w.heap.size → b ≠ g → w'.heap[b]? = w.heap[b]?) → Mix O R t B1 B0 w' v xs (k + 1) := by
  rcases h with ⟨_, rfl⟩ | ⟨g, cap, c1, c2, rest, F, G, rfl, hr, h3, h4, h5, hf, hf2, hn, hb1, hb2⟩
  · simp at hk
  · rw [List.drop_eq_getElem_cons hk] at hf2
    obtain ⟨c, c3, G1, G2, rfl, rfl, h6, h7⟩ := hf2
    have hc1 : c1.length = k * O.sz := by rw [hf.len, List.length_take, Nat.min_eq_left (by omega)]
    have hlc := R.len h6
    refine ⟨g, cap, c1, c, c3 ++ rest, G1, rfl, hb1 g (by simp), by simpa using hr, hc1, by rw [← hsz]; exact hlc, h6, fun b hb => hb2 b (by simp [hb]), fun w' c' F' hr' h8 hn' hF' hk' => ?_⟩
    have hlc' := O.len h8
    have hne : ∀ b ∈ F ++ G2, b < w.heap.size ∧ b ≠ g := fun b hb => by
      rcases List.mem_append.1 hb with hb | hb
      · refine ⟨hf.lt b hb, fun e => ?_⟩
        subst e; simp at hn; exact hn.1 hb
      · have := hb2 b (by simp [hb]); have := hb1 g (by simp); exact ⟨by omega, by omega⟩
    refine .inr ⟨g, cap, c1 ++ c', c3, rest, F ++ F', G2, rfl, by simpa using hr', h3, h4, ?_, ?_, ?_, ?_, ?_, fun b hb => hb2 b (by simp [hb])⟩
    · simp only [List.length_append] at h5 ⊢; omega
    · rw [List.take_succ_eq_append_getElem hk]
      exact (hf.frame fun b hb => hk' b (hne b (by simp [hb])).1 (hne b (by simp [hb])).2).append (Flat.one h8)
    · exact h7.frame fun b hb => hk' b (hne b (by simp [hb])).1 (hne b (by simp [hb])).2
    · have hg := hr.lt
      simp only [List.nodup_cons, List.mem_append, not_or, List.nodup_append] at hn ⊢
      exact ⟨⟨hn.1, fun hm => by have := hF' g hm; omega⟩, hn.2, hn', fun a ha b hb e => by have := hf.lt a ha; have := hF' b hb; omega⟩
    · intro b hb
      simp at hb
      rcases hb with rfl | hb | hb
      · exact hb1 b (by simp)
      · exact hb1 b (by simp [hb])
      · have := hF' b hb; omega
end
end Go.Proofs.YtgogcgkocjpgoaaGreatDoor
/- Walks of small functions on numbers and strings: within, l1In, l1Stands, isLogText, l27Plain. -/
namespace Go.Proofs.YtgogcgkocjpgoaaGreatDoor
open Go.RowKit

def btw (lo x hi : Int) : Bool := decide (lo ≤ x) && decide (x ≤ hi)
theorem ret_bool {a b : Bool} (h : a = b) : Ending.returned (.bool a) = .returned (.bool b) := by rw [h]
theorem within_c (x lo hi : Int) (w : World) :
    Calls Tryz.prog 151 #[.int .i64 x, .int .i64 lo, .int .i64 hi] w fun e w' => e = .returned (.bool (btw lo x hi)) ∧ w = w' := by
  go_enter Tryz.func151, Tryz.ntmps151
  go_wp2
  all_goals go_ret
  all_goals exact ⟨ret_bool (by simp [btw, *] <;> omega), rfl⟩
theorem l1In_c (x lo hi : Int) (w : World) :
    Calls Tryz.prog 177 #[.int .i64 x, .int .i64 lo, .int .i64 hi] w fun e w' => e = .returned (.bool (btw lo x hi)) ∧ w = w' := by
  go_enter Tryz.func177, Tryz.ntmps177
  go_wp2
  all_goals go_ret
  all_goals exact ⟨ret_bool (by simp [btw, *] <;> omega), rfl⟩

def stands (c : UInt8) (l : List UInt8) : Bool := l.any (· == c)

/-- a byte that may stand in a log -/
def logByte (b : UInt8) : Bool := btw 32 b.toNat 126 && !(b == 35)
def logText (l : List UInt8) : Bool := l.all logByte
end Go.Proofs.YtgogcgkocjpgoaaGreatDoor
/- Walks of the exact laws' helpers on slices of numbers: size, copy, equality, mark, held. -/
namespace Go.Proofs.YtgogcgkocjpgoaaGreatDoor
open Go.RowKit

theorem ret_int {a b : Int} (h : a = b) : Ending.returned (.int .i64 a) = .returned (.int .i64 b) := by rw [h]
theorem info_int : (Tryz.prog.info? 3).map (fun i => (i.zero, i.size, i.bytes)) = some (some (.int .i64 0), 1, 8) := by kernel_rfl

/-- what index k of a slice of numbers gives -/
theorem Sl.int {w : World} {a : Option Addr} {n cap : Nat} {xs : List Int} {F} (h : Sl EInt w (.slice a n cap) xs F) : n = xs.length ∧ n ≤ maxLen ∧
    ∀ k (hk : k < xs.length), ∃ b off, a = some ⟨b, off, none⟩ ∧ w.cell? ⟨b, off + k, none⟩ = some (.int .i64 xs[k]) := by
  obtain ⟨a', cap', hv, hl, h⟩ := h
  cases hv
  refine ⟨rfl, by omega, fun k hk => ?_⟩
  rcases h with ⟨rfl, _⟩ | ⟨b, off, F', rfl, _, _, hc⟩
  · simp at hk
  · obtain ⟨cs, F1, ⟨rfl, _⟩, hj, _⟩ := hc.get k hk
    exact ⟨b, off, rfl, by simpa [EInt] using hj 0 (by decide)⟩



end Go.Proofs.YtgogcgkocjpgoaaGreatDoor
/- The type Delivery of the exact laws: how it reads, how it is owned; the walks of its size, copy, equality, mark and held. Written by wip/gentypes.py. -/
namespace Go.Proofs.YtgogcgkocjpgoaaGreatDoor
open Go.RowKit
structure Delivery where
  receiver : Int
  got : Int
  repaired : Int
  lost : Int
end Go.Proofs.YtgogcgkocjpgoaaGreatDoor
/- The log's plain law: lines, records, what is accepted; what the reference reads is what the program reads. No program in sight. -/
namespace Go.Proofs.YtgogcgkocjpgoaaGreatDoor
open Go.RowKit
abbrev Bs := List UInt8
def upTo (b : UInt8) (l : Bs) : Bs := l.takeWhile (· != b)
def behind (b : UInt8) (l : Bs) : Bs := (l.dropWhile (· != b)).drop 1
theorem upTo_no {b : UInt8} {x : Bs} (h : ∀ c ∈ x, c ≠ b) : upTo b x = x := by
  have := List.takeWhile_append_of_pos (p := (· != b)) (l₁ := x) (l₂ := []) (by simpa using h)
  simpa [upTo] using this
theorem behind_no {b : UInt8} {x : Bs} (h : ∀ c ∈ x, c ≠ b) : behind b x = [] := by
  have := List.dropWhile_append_of_pos (p := (· != b)) (l₁ := x) (l₂ := []) (by simpa using h)
  simp only [List.append_nil, List.dropWhile_nil] at this
  simp [behind, this]
theorem upTo_mem {b : UInt8} {l : Bs} : ∀ c ∈ upTo b l, c ≠ b := by
  unfold upTo
  induction l with
  | nil => simp
  | cons d l ih =>
    intro c hc
    rw [List.takeWhile_cons] at hc
    split at hc
    · rename_i h
      rcases List.mem_cons.1 hc with rfl | hc
      · simpa using h
      · exact ih c hc
    · simp at hc
theorem split_at (b : UInt8) (l : Bs) : (b ∈ l ∧ l = upTo b l ++ b :: behind b l) ∨ (b ∉ l ∧ upTo b l = l ∧ behind b l = []) := by
  by_cases h : b ∈ l
  · left
    refine ⟨h, ?_⟩
    unfold upTo behind
    induction l with
    | nil => cases h
    | cons c l ih =>
      by_cases hc : c = b
      · subst hc; simp
      · have hm : b ∈ l := by
          rcases List.mem_cons.1 h with e | e
          · exact absurd e.symm hc
          · exact e
        simp only [List.takeWhile_cons, List.dropWhile_cons, bne_iff_ne, ne_eq, hc, not_false_eq_true, if_true, List.cons_append]
        rw [← ih hm]
  · right
    exact ⟨h, upTo_no fun c hc e => h (e ▸ hc), behind_no fun c hc e => h (e ▸ hc)⟩

/-- a line that is whole -/
def Whole (x : Bs) : Prop := ∃ y, x = y ++ [10] ∧ ∀ c ∈ y, c ≠ 10
/-- numbers, sums, lines of records -/
theorem digit_mem : ∀ (u : Nat) (c : UInt8), c ∈ Lib.decDigits u → 48 ≤ c.toNat ∧ c.toNat ≤ 57 := by
  intro u
  induction u using Nat.strongRecOn with
  | ind u ih =>
    intro c hc
    rw [Lib.decDigits] at hc
    have hd : ∀ d : Nat, d < 10 → 48 ≤ (UInt8.ofNat (48 + d)).toNat ∧ (UInt8.ofNat (48 + d)).toNat ≤ 57 := fun d hd => by
      rw [UInt8.toNat_ofNat']; omega
    split at hc
    · simp only [List.mem_singleton] at hc; subst hc; exact hd _ (by omega)
    · rcases List.mem_append.1 hc with h | h
      · exact ih _ (by omega) c h
      · simp only [List.mem_singleton] at h; subst h; exact hd _ (by omega)
theorem digit_len : ∀ (n u : Nat), u < 10 ^ (n + 1) → (Lib.decDigits u).length ≤ n + 1
  | 0, u, h => by rw [Lib.decDigits, dif_pos (by simpa using h)]; simp
  | n + 1, u, h => by
    rw [Lib.decDigits]
    split
    · simp
    · have := digit_len n (u / 10) (by rw [Nat.pow_succ] at h; omega)
      simp; omega
theorem digit_pos (u : Nat) : 1 ≤ (Lib.decDigits u).length := by
  rw [Lib.decDigits]; split <;> simp
def sumStep (h : Nat) (c : UInt8) : Nat := (41 * h + c.toNat + 1) % 999979
def sumL (l : Bs) : Nat := l.foldl sumStep 7
def sealL (l : Bs) : Bs := l ++ 35 :: Lib.decDigits (sumL l)
def bodyL (k : Nat) (c r : Bs) : Bs := Lib.decDigits k ++ 32 :: (c ++ 64 :: r)
def lineL (k : Nat) (c r : Bs) : Bs := sealL (bodyL k c r) ++ [10]
def goodL (c r : Bs) : Bool := btw 1 c.length 160 && decide ((r.length : Int) ≤ 200) && logText c && logText r && !stands 64 c
structure Good (c r : Bs) : Prop where
  c0 : 1 ≤ c.length
  c1 : c.length ≤ 160
  r1 : r.length ≤ 200
  ct : ∀ b ∈ c, (32 ≤ b.toNat ∧ b.toNat ≤ 126) ∧ b ≠ 35
  rt : ∀ b ∈ r, (32 ≤ b.toNat ∧ b.toNat ≤ 126) ∧ b ≠ 35
  ca : ∀ b ∈ c, b ≠ 64
/-- the encoding of a record, where there is one -/
def encL (k : Int) (c r : Bs) : Option Bs := if btw 0 k 59 && goodL c r then some (lineL k.toNat c r) else none
/-- what the program takes of a line -/
def tailL (x : Bs) : Bs := behind 32 (upTo 35 x)
def cmdL (x : Bs) : Bs := upTo 64 (tailL x)
def repL (x : Bs) : Bs := behind 64 (tailL x)
def okL (k : Nat) (x : Bs) : Bool := encL k (cmdL x) (repL x) == some x
/-- the lines that are accepted, from number k on -/
def acc : Nat → List Bs → List Bs
  | _, [] => []
  | k, x :: r => if okL k x then x :: acc (k + 1) r else []
end Go.Proofs.YtgogcgkocjpgoaaGreatDoor
/- What the laws' walks share: readings behind draws and behind writes elsewhere; the marks of a value against its weight. Plain: no program in sight. -/
namespace Go.Proofs.YtgogcgkocjpgoaaGreatDoor
open Go.RowKit
theorem IsV.keep {α : Type} {E : Elem α} {w w' : World} {v x F K} (h : IsV E w v x F) (hk : Keep K w w') (hd : ∀ b ∈ F, b ∉ K) : IsV E w' v x F := by
  obtain ⟨cs, hv, h⟩ := h; exact ⟨cs, hv, E.frame h fun b hb => hk.block b (E.lt h b hb) (hd b hb)⟩
theorem IsV.lt {α : Type} {E : Elem α} {w : World} {v x F} (h : IsV E w v x F) : ∀ b ∈ F, b < w.heap.size := by
  obtain ⟨cs, hv, h⟩ := h; exact E.lt h
theorem IsV.drewN {α : Type} {E : Elem α} {w : World} {v x F} (h : IsV E w v x F) (n : Nat) : IsV E (w.drewN n) v x F := by
  obtain ⟨cs, hv, h⟩ := h; exact ⟨cs, hv, E.frame h fun _ _ => rfl⟩
theorem Sl.drewN {α : Type} {E : Elem α} {w : World} {v} {xs : List α} {F} (h : Sl E w v xs F) (n : Nat) : Sl E (w.drewN n) v xs F := h.frame fun _ _ => rfl
theorem Sl.keep {α : Type} {E : Elem α} {w w' : World} {v} {xs : List α} {F K} (h : Sl E w v xs F) (hk : Keep K w w') (hd : ∀ b ∈ F, b ∉ K) (hz : 0 < E.sz := by decide) : Sl E w' v xs F :=
  h.frame fun b hb => hk.block b (h.lt hz b hb) (hd b hb)
theorem Ow.drewN {α : Type} {E : Elem α} {t : TypeId} {w : World} {v} {xs : List α} {F} (h : Ow E t w v xs F) (n : Nat) : Ow E t (w.drewN n) v xs F := h.frame fun _ _ => rfl
theorem Row.drewN {w g t cs} (h : Row w g t cs) (n : Nat) : Row (w.drewN n) g t cs := h
end Go.Proofs.YtgogcgkocjpgoaaGreatDoor
/- A region that draws its order: a load may be taken first where S holds behind every operation that does not wait for it. Plain: no program in sight. -/
namespace Go.Proofs.YtgogcgkocjpgoaaGreatDoor
open Go.RowKit
section
variable {P : Program} {ops : Array Oper} {Q : Exit → Act → World → Prop} {md : Region.Mode} {S : World → Prop} {X : Nat → Bool}
/-- whatever order; S is shown behind each operation, but for those of X -/
def AnyX (P : Program) (md : Region.Mode) (ops : Array Oper) (Q : Exit → Act → World → Prop) (S : World → Prop) (X : Nat → Bool) : Nat → Array Bool → Act → World → Prop
  | 0, listed, a, w => Region.ready md ops listed = [] ∧ Q .normal a w
  | f + 1, listed, a, w => (Region.ready md ops listed = [] → Q .normal a w) ∧
    ∀ i ∈ Region.ready md ops listed, wpOp P ops Q i (fun a' w' => (X i = false → S w') ∧ AnyX P md ops Q S X f (listed.setIfInBounds i true) a' w') a w
theorem AnyX.any : ∀ (f : Nat) (listed : Array Bool) (a : Act) (w : World), AnyX P md ops Q S X f listed a w → wpAny P md ops Q f listed a w
  | 0, _, _, _, h => h
  | f + 1, _, _, _, h => ⟨h.1, fun i hi => wpOp_mono (fun a' w' h' => AnyX.any f _ a' w' h'.2) (h.2 i hi)⟩
/-- what a listed operation waits for is listed -/
def Closed (md : Region.Mode) (ops : Array Oper) (listed : Array Bool) : Prop := ∀ j oj, ops[j]? = some oj → listed.getD j false = true → ∀ e ∈ oj.after, Region.binds md e = true → listed.getD e.on false = true
def closedB (md : Region.Mode) (ops : Array Oper) (listed : Array Bool) : Bool :=
  (List.range ops.size).all fun j => !listed.getD j false || ((ops[j]?).map fun o => o.after.all fun e => !Region.binds md e || listed.getD e.on false).getD true
theorem closed_of {listed : Array Bool} (h : closedB md ops listed = true) : Closed md ops listed := fun j oj hj hl e he hb => by
  have h1 := List.all_eq_true.1 h j (List.mem_range.2 (Array.getElem?_eq_some_iff.1 hj).1)
  rw [hl, hj] at h1
  simp only [Bool.not_true, Bool.false_or, Option.map_some, Option.getD_some] at h1
  have h2 := Array.all_eq_true'.1 h1 e he
  rw [hb] at h2; simpa using h2
theorem Closed.set {listed : Array Bool} {i : Nat} (h : Closed md ops listed) (hi : i ∈ Region.ready md ops listed) : Closed md ops (listed.setIfInBounds i true) := fun j oj hj hl e he hb => by
  obtain ⟨_, oi, hoi, hall⟩ := mem_ready.1 hi
  by_cases hij : i = j
  · subst hij
    obtain rfl := Option.some.inj (hj.symm.trans hoi)
    exact getD_set_true (hall e he hb)
  · rw [getD_set_ne false hij] at hl
    exact getD_set_true (h j oj hj hl e he hb)
/-- j waits for i, straight or by others -/
def waitsFor' (md : Region.Mode) (ops : Array Oper) (i : Nat) : Nat → Nat → Bool
  | 0, _ => false
  | f + 1, j => ((ops[j]?).map fun o => o.after.any fun e => Region.binds md e && (e.on == i || waitsFor' md ops i f e.on)).getD false
theorem waits_listed {listed : Array Bool} {i : Nat} (hc : Closed md ops listed) : ∀ (f j : Nat), (∀ oj, ops[j]? = some oj → ∀ e ∈ oj.after, Region.binds md e = true → listed.getD e.on false = true) → waitsFor' md ops i f j = true → listed.getD i false = true
  | 0, _, _, h => by cases h
  | f + 1, j, hd, h => by
    unfold waitsFor' at h
    cases hj : ops[j]? with
    | none => rw [hj] at h; cases h
    | some o =>
      rw [hj] at h
      simp only [Option.map_some, Option.getD_some] at h
      obtain ⟨e, he, hb⟩ := Array.any_eq_true'.1 h
      simp only [Bool.and_eq_true, Bool.or_eq_true, beq_iff_eq] at hb
      have h1 := hd o hj e he hb.1
      rcases hb.2 with h2 | h2
      · rw [← h2]; exact h1
      · exact waits_listed hc f e.on (fun oe ho => hc e.on oe ho h1) h2
/-- every operation of X waits for i -/
def waitsAll (md : Region.Mode) (ops : Array Oper) (X : Nat → Bool) (i : Nat) : Bool := (List.range ops.size).all fun j => !X j || waitsFor' md ops i ops.size j
theorem unlisted {listed : Array Bool} {i : Nat} (h : listed.getD i true = false) : listed.getD i false = false := by
  rcases Nat.lt_or_ge i listed.size with h' | h'
  · simp [h'] at h ⊢; exact h
  · simp [Array.getElem?_eq_none h'] at h
theorem AnyX.first {i : Nat} {oi : Oper} {v : Value} (hi : ops[i]? = some oi) (hsel : ∀ (j : Nat) (o : Oper) cs b, ops[j]? = some o → o.op ≠ .select cs b)
    (hQ : ∀ c a w, Q (.panic c) (a.put oi.dst v) w → Q (.panic c) a w) (hX : waitsAll md ops X i = true) :
    ∀ (f : Nat) (listed : Array Bool) (a : Act) (w : World),
      (∀ j oj, ops[j]? = some oj → j ≠ i → listed.getD j true = false → (∀ e ∈ oj.after, Region.binds md e = true → e.on ≠ i) → oi.apart ops oj = true) →
      Closed md ops listed → i ∈ Region.ready md ops listed → YieldsIf P ops S oi v a → S w → AnyX P md ops Q S X f (listed.setIfInBounds i true) (a.put oi.dst v) w → AnyX P md ops Q S X (f + 1) listed a w := by
  intro f
  induction f with
  | zero =>
    intro listed a w _ _ hr hy hS H
    refine ⟨fun h => (by rw [h] at hr; cases hr), fun j hj => ?_⟩
    by_cases hji : j = i
    · subst hji; exact hy.wpOp hi hS ⟨fun _ => hS, H⟩
    · have := ready_mono hj hji
      rw [H.1] at this; cases this
  | succ f ih =>
    intro listed a w hfree hcl hr hy hS H
    refine ⟨fun h => (by rw [h] at hr; cases hr), fun j hj => ?_⟩
    by_cases hji : j = i
    · subst hji; exact hy.wpOp hi hS ⟨fun _ => hS, H⟩
    · obtain ⟨hju, oj, hoj, hall⟩ := mem_ready.1 hj
      have hiu := unlisted (mem_ready.1 hr).1
      have hnot : ∀ e ∈ oj.after, Region.binds md e = true → e.on ≠ i := fun e he hb heq => by
        have h1 := hall e he hb
        rw [heq, hiu] at h1; cases h1
      have hXj : X j = false := by
        cases hx : X j
        · rfl
        · have h1 := List.all_eq_true.1 hX j (List.mem_range.2 (Array.getElem?_eq_some_iff.1 hoj).1)
          rw [hx] at h1
          have h2 := waits_listed hcl ops.size j (fun o ho => by obtain rfl := Option.some.inj (ho.symm.trans hoj); exact hall) (by simpa using h1)
          rw [hiu] at h2; cases h2
      have h2 := wpOp_putIf hoj (hfree j oj hoj hji hju hnot) (fun cs b => hsel i oi cs b hi) (fun cs b => hsel j oj cs b hoj) hQ hy (H.2 j (ready_mono hj hji))
      refine wpOp_mono (fun a' w' h3 => ⟨fun _ => h3.2.1 hXj, ih (listed.setIfInBounds j true) a' w' (fun k ok hk hki hun hno => hfree k ok hk hki ?_ hno) (hcl.set hj) (ready_mono hr (Ne.symm hji)) h3.1 (h3.2.1 hXj) ?_⟩) h2
      · by_cases hjk : j = k
        · subst hjk; exact hju
        · rw [getD_set_ne true hjk] at hun; exact hun
      · rw [Array.setIfInBounds_comm _ _ hji]; exact h3.2.2
/-- take number i first -/
theorem AnyX.take {i : Nat} {oi : Oper} {v : Value} {f : Nat} {listed : Array Bool} {a : Act} {w : World} (hi : ops[i]? = some oi)
    (hs : Region.noSelect ops = true) (hf : Region.free md ops listed i = true) (hr : (Region.ready md ops listed).contains i = true) (hX : waitsAll md ops X i = true) (hc : closedB md ops listed = true)
    (hQ : ∀ c a w, Q (.panic c) (a.put oi.dst v) w → Q (.panic c) a w) (hy : YieldsIf P ops S oi v a) (hS : S w)
    (h : AnyX P md ops Q S X f (listed.setIfInBounds i true) (a.put oi.dst v) w) : AnyX P md ops Q S X (f + 1) listed a w :=
  AnyX.first hi (Region.noSelect_spec hs) hQ hX f listed a w (Region.free_spec hi hf) (closed_of hc) (by simpa using hr) hy hS h
/-- the only one that may come up -/
theorem AnyX.only {i : Nat} {o : Oper} {f : Nat} {listed : Array Bool} {a : Act} {w : World} (hr : Region.ready md ops listed = [i]) (ho : ops[i]? = some o)
    (h : ∀ K' : Act → World → Prop, Shut (∀ a w, (X i = false → S w) → AnyX P md ops Q S X f (listed.setIfInBounds i true) a w → K' a w) → if Region.wanted o (yielded ops a.tmps) = true then Oper.wp P o a w K' Q else K' (a.put o.dst undef) w) :
    AnyX P md ops Q S X (f + 1) listed a w :=
  by
  refine ⟨fun h0 => (by rw [hr] at h0; cases h0), fun j hj => ?_⟩
  rw [hr] at hj
  obtain rfl : j = i := by simpa using hj
  exact wpOp_step ho (fun K' hK => h K' (fun a w hS hW => hK a w ⟨hS, hW⟩))
/-- two that may come up -/
theorem AnyX.two {i j : Nat} {oi oj : Oper} {f : Nat} {listed : Array Bool} {a : Act} {w : World} (hr : Region.ready md ops listed = [i, j]) (hoi : ops[i]? = some oi) (hoj : ops[j]? = some oj)
    (h : ∀ K' : Act → World → Prop, Shut (∀ a w, (X i = false → S w) → AnyX P md ops Q S X f (listed.setIfInBounds i true) a w → K' a w) → if Region.wanted oi (yielded ops a.tmps) = true then Oper.wp P oi a w K' Q else K' (a.put oi.dst undef) w)
    (h2 : ∀ K' : Act → World → Prop, Shut (∀ a w, (X j = false → S w) → AnyX P md ops Q S X f (listed.setIfInBounds j true) a w → K' a w) → if Region.wanted oj (yielded ops a.tmps) = true then Oper.wp P oj a w K' Q else K' (a.put oj.dst undef) w) :
    AnyX P md ops Q S X (f + 1) listed a w := by
  refine ⟨fun h0 => (by rw [hr] at h0; cases h0), fun k hk => ?_⟩
  rw [hr] at hk
  simp only [List.mem_cons, List.not_mem_nil, or_false] at hk
  rcases hk with rfl | rfl
  · exact wpOp_step hoi (fun K' hK => h K' (fun a w hS hW => hK a w ⟨hS, hW⟩))
  · exact wpOp_step hoj (fun K' hK => h2 K' (fun a w hS hW => hK a w ⟨hS, hW⟩))
theorem AnyX.done {listed : Array Bool} {a : Act} {w : World} (hr : Region.ready md ops listed = []) (h : Q .normal a w) : ∀ f, AnyX P md ops Q S X f listed a w
  | 0 => ⟨hr, h⟩
  | _ + 1 => ⟨fun _ => h, by rw [hr]; simp⟩
theorem AnyX.start {id : Nat} {a : Act} {w : World} (hm : P.follows .mixedOrders = true) (h : AnyX P .any ops Q S X ops.size (Array.replicate ops.size false) a w.drew) : (Code.region id ops true).wp P Q a w :=
  wp_region_any hm (AnyX.any _ _ _ _ h)
end
end Go.Proofs.YtgogcgkocjpgoaaGreatDoor
/- Pieces of memory that a walk knows, and the state that holds them apart. Plain: no program in sight. -/
namespace Go.Proofs.YtgogcgkocjpgoaaGreatDoor
open Go.RowKit
/-- a piece of memory: a row of cells that may be written; a slice that reads, that is owned; a struct's value that reads, that is owned; cells that are known; an element that reads -/
inductive Pc : Type 1
  | row (g : Nat) (t : TypeId) (o : Nat) (A cs B : List Value)
  | sl {α : Type} (E : Elem α) (v : Value) (xs : List α) (F : List Nat)
  | ow {α : Type} (E : Elem α) (t : TypeId) (v : Value) (xs : List α) (F : List Nat)
  | isv {α : Type} (E : Elem α) (v : Value) (x : α) (F : List Nat)
  | own {α : Type} (E : Elem α) (v : Value) (x : α) (F : List Nat)
  | cel (b o : Nat) (cs : List Value)
  | flat {α : Type} (E : Elem α) (cs : List Value) (xs : List α) (F : List Nat)
def Pc.P : Pc → World → Prop
  | .row g t o A cs B, w => A.length = o ∧ Row w g t (A ++ cs ++ B)
  | .sl E v xs F, w => 0 < E.sz ∧ Sl E w v xs F
  | .ow E t v xs F, w => F.Nodup ∧ Ow E t w v xs F
  | .isv E v x F, w => IsV E w v x F
  | .own E v x F, w => F.Nodup ∧ IsV E w v x F
  | .cel b o cs, w => cs ≠ [] ∧ w.rangeAt b o cs
  | .flat E cs xs F, w => F.Nodup ∧ Flat E w cs xs F
def Pc.F : Pc → List Nat
  | .row g .. => [g]
  | .sl _ _ _ F | .ow _ _ _ _ F | .isv _ _ _ F | .own _ _ _ F | .flat _ _ _ F => F
  | .cel b .. => [b]
/-- may it be written? then nothing else stands on its blocks -/
def Pc.mu : Pc → Bool
  | .row .. | .ow .. | .own .. | .flat .. => true
  | _ => false
theorem Pc.st (p : Pc) {w w' : World} (h : p.P w) (hF : ∀ b ∈ p.F, w'.heap[b]? = w.heap[b]?) : p.P w' := by
  cases p with
  | row g t o A cs B => exact ⟨h.1, h.2.keep (hF g (by simp [Pc.F]))⟩
  | sl E v xs F => exact ⟨h.1, h.2.frame hF⟩
  | ow E t v xs F => exact ⟨h.1, h.2.frame hF⟩
  | isv E v x F => obtain ⟨cs, hv, h⟩ := h; exact ⟨cs, hv, E.frame h hF⟩
  | own E v x F => obtain ⟨hn, cs, hv, h⟩ := h; exact ⟨hn, cs, hv, E.frame h hF⟩
  | cel b o cs => exact ⟨h.1, fun j v hv => (World.cell?_of_block (w := w) (hF b (by simp [Pc.F]))).trans (h.2 j v hv)⟩
  | flat E cs xs F => exact ⟨h.1, h.2.frame hF⟩
theorem Pc.lt (p : Pc) {w : World} (h : p.P w) : ∀ b ∈ p.F, b < w.heap.size := by
  cases p with
  | row g t o A cs B => intro b hb; simp [Pc.F] at hb; subst hb; exact h.2.lt
  | sl E v xs F => exact h.2.lt h.1
  | ow E t v xs F => exact h.2.lt
  | isv E v x F => obtain ⟨cs, hv, h⟩ := h; exact E.lt h
  | own E v x F => obtain ⟨_, cs, hv, h⟩ := h; exact E.lt h
  | cel b o cs =>
    intro c hc
    simp [Pc.F] at hc; subst hc
    cases cs with
    | nil => exact absurd rfl h.1
    | cons v r => exact World.block_lt_of_cell? w _ (h.2 0 v rfl)
  | flat E cs xs F => exact h.2.lt
/-- two pieces of which one may be written stand apart -/
def Apart (p q : Pc) : Prop := (p.mu || q.mu) = true → ∀ b ∈ p.F, b ∉ q.F
theorem Apart.symm {p q : Pc} (h : Apart p q) : Apart q p := fun hm b hb hp => h (by rw [Bool.or_comm]; exact hm) b hp hb
def Sep : List Pc → Prop
  | [] => True
  | p :: R => (∀ q ∈ R, Apart p q) ∧ Sep R
/-- all pieces hold -/
def Hol (H : List Pc) (w : World) : Prop := ∀ p ∈ H, p.P w
theorem hol1 {p : Pc} {w : World} (h : p.P w) : Hol [p] w := fun q hq => by simp at hq; subst hq; exact h
/-- the blocks of pieces -/
def fp : List Pc → List Nat
  | [] => []
  | p :: R => p.F ++ fp R
theorem mem_fp {b : Nat} : ∀ {H : List Pc}, b ∈ fp H ↔ ∃ p ∈ H, b ∈ p.F
  | [] => by simp [fp]
  | p :: R => by simp [fp, mem_fp (H := R)]
theorem Hol.st {H : List Pc} {w w' : World} (h : Hol H w) (hF : ∀ p ∈ H, ∀ b ∈ p.F, w'.heap[b]? = w.heap[b]?) : Hol H w' := fun p hp => p.st (h p hp) (hF p hp)
theorem Hol.below {H : List Pc} {w w' : World} (h : Hol H w) (hb : Below w.heap.size w w') : Hol H w' := h.st fun p hp b hm => hb.block b (p.lt (h p hp) b hm)
/-- the state of a walk that began in w0: the pieces of G may be written, those of D may be read -/
structure St (G D : List Nat) (w0 : World) (H : List Pc) (w : World) : Prop where
  keep : Keep G w0 w
  on : Hol H w
  sep : Sep H
  mine : ∀ p ∈ H, ∀ b ∈ p.F, b ∈ G ∨ w0.heap.size ≤ b ∨ (p.mu = false ∧ b ∈ D)
section
variable {G D : List Nat} {w0 : World}
theorem Sep.perm2 {p q : Pc} {R : List Pc} (h : Sep (p :: q :: R)) : Sep (q :: p :: R) :=
  ⟨fun x hx => by
    rcases List.mem_cons.1 hx with rfl | hx
    · exact (h.1 q (by simp)).symm
    · exact h.2.1 x hx, fun x hx => h.1 x (by simp [hx]), h.2.2⟩
/-- taking a piece out -/
inductive Pick : List Pc → Pc → List Pc → Prop
  | here {p R} : Pick (p :: R) p R
  | there {x p R R'} : Pick R p R' → Pick (x :: R) p (x :: R')
theorem Pick.mem {H p R} (h : Pick H p R) : p ∈ H := by
  induction h with
  | here => simp
  | there _ ih => simp [ih]
theorem Pick.sub {H p R} (h : Pick H p R) : ∀ q ∈ R, q ∈ H := by
  induction h with
  | here => intro q hq; simp [hq]
  | there _ ih =>
    intro q hq
    rcases List.mem_cons.1 hq with rfl | hq
    · simp
    · simp [ih q hq]
theorem Pick.sep {H p R} (h : Pick H p R) (hs : Sep H) : Sep (p :: R) := by
  induction h with
  | here => exact hs
  | @there x p R R' h ih =>
    have h2 := ih hs.2
    exact Sep.perm2 ⟨fun q hq => by
      rcases List.mem_cons.1 hq with rfl | hq
      · exact hs.1 _ h.mem
      · exact hs.1 _ (h.sub q hq), h2⟩
theorem St.pick {H p R w} (s : St G D w0 H w) (h : Pick H p R) : St G D w0 (p :: R) w :=
  ⟨s.keep, fun q hq => by
    rcases List.mem_cons.1 hq with rfl | hq
    · exact s.on _ h.mem
    · exact s.on _ (h.sub q hq), h.sep s.sep, fun q hq => by
    rcases List.mem_cons.1 hq with rfl | hq
    · exact s.mine _ h.mem
    · exact s.mine _ (h.sub q hq)⟩
theorem St.tail {p R w} (s : St G D w0 (p :: R) w) : St G D w0 R w := ⟨s.keep, fun q hq => s.on q (by simp [hq]), s.sep.2, fun q hq => s.mine q (by simp [hq])⟩
theorem St.get {H p w} (s : St G D w0 H w) (h : p ∈ H) : p.P w := s.on p h
/-- the pieces N come in the place of M; all else stands -/
theorem St.turn {M R N : List Pc} {w w' : World} (s : St G D w0 (M ++ R) w) (hk : Keep (fp (M.filter (·.mu))) w w') (hN : Hol N w') (hs : Sep N)
    (hF : ∀ p ∈ N, ∀ b ∈ p.F, w.heap.size ≤ b ∨ (∃ q ∈ M, q.mu = true ∧ b ∈ q.F) ∨ (p.mu = false ∧ ∃ q ∈ M ++ R, q.mu = false ∧ b ∈ q.F)) : St G D w0 (N ++ R) w' := by
  have hsep : ∀ (A B : List Pc), Sep (A ++ B) → Sep A ∧ Sep B ∧ ∀ p ∈ A, ∀ q ∈ B, Apart p q := by
    intro A
    induction A with
    | nil => intro B h; exact ⟨trivial, h, by simp⟩
    | cons p A ih =>
      intro B h
      obtain ⟨h1, h2, h3⟩ := ih B h.2
      exact ⟨⟨fun q hq => h.1 q (by simp [hq]), h1⟩, h2, fun x hx q hq => by
        rcases List.mem_cons.1 hx with rfl | hx
        · exact h.1 q (by simp [hq])
        · exact h3 x hx q hq⟩
  have hjoin : ∀ (A B : List Pc), Sep A → Sep B → (∀ p ∈ A, ∀ q ∈ B, Apart p q) → Sep (A ++ B) := by
    intro A
    induction A with
    | nil => intro B _ h _; exact h
    | cons p A ih =>
      intro B hA hB h
      exact ⟨fun q hq => by
        rcases List.mem_append.1 hq with hq | hq
        · exact hA.1 q hq
        · exact h p (by simp) q hq, ih B hA.2 hB fun x hx q hq => h x (by simp [hx]) q hq⟩
  obtain ⟨sM, sR, sMR⟩ := hsep M R s.sep
  have hRlt : ∀ q ∈ R, ∀ b ∈ q.F, b < w.heap.size := fun q hq => q.lt (s.on q (by simp [hq]))
  have hMR : ∀ q ∈ R, ∀ b ∈ q.F, b ∉ fp (M.filter (·.mu)) := fun q hq b hb hm => by
    obtain ⟨p, hp, hpb⟩ := mem_fp.1 hm
    obtain ⟨hp, hmu⟩ := List.mem_filter.1 hp
    exact sMR p hp q hq (by simp [hmu]) b hpb hb
  have hG : ∀ b ∈ fp (M.filter (·.mu)), b ∈ G ∨ w0.heap.size ≤ b := fun b hb => by
    obtain ⟨p, hp, hpb⟩ := mem_fp.1 hb
    obtain ⟨hp, hmu⟩ := List.mem_filter.1 hp
    rcases s.mine p (by simp [hp]) b hpb with h | h | ⟨h, _⟩
    · exact .inl h
    · exact .inr h
    · rw [hmu] at h; cases h
  refine ⟨⟨hk.os.trans s.keep.os, hk.tape.trans s.keep.tape, hk.output.trans s.keep.output, Nat.le_trans s.keep.size hk.size, fun k hlt hn => (hk.block k (Nat.lt_of_lt_of_le hlt s.keep.size) fun hm => ?_).trans (s.keep.block k hlt hn)⟩, fun p hp => ?_, hjoin N R hs sR fun p hp q hq hmu b hb hqb => ?_, fun p hp b hb => ?_⟩
  · rcases hG k hm with h | h
    · exact hn h
    · omega
  · rcases List.mem_append.1 hp with hp | hp
    · exact hN p hp
    · exact p.st (s.on p (by simp [hp])) fun b hb => hk.block b (hRlt p hp b hb) (hMR p hp b hb)
  · rcases hF p hp b hb with h | ⟨m, hm, hmm, hmb⟩ | ⟨hpm, m, hm, hmm, hmb⟩
    · have := hRlt q hq b hqb; omega
    · exact sMR m hm q hq (by simp [hmm]) b hmb hqb
    · have hqm : q.mu = true := by simpa [hpm] using hmu
      rcases List.mem_append.1 hm with hm | hm
      · exact sMR m hm q hq (by simp [hqm]) b hmb hqb
      · -- two pieces of R
        have : ∀ (R : List Pc), Sep R → ∀ m ∈ R, ∀ q ∈ R, m.mu = false → q.mu = true → ∀ b ∈ m.F, b ∉ q.F := by
          intro R
          induction R with
          | nil => intro _ m hm; simp at hm
          | cons x R ih =>
            intro hs m hm q hq h1 h2 b hb hqb
            rcases List.mem_cons.1 hm with e | hm2
            · subst e
              rcases List.mem_cons.1 hq with e | hq2
              · subst e; rw [h1] at h2; cases h2
              · exact hs.1 q hq2 (by simp [h2]) b hb hqb
            · rcases List.mem_cons.1 hq with e | hq2
              · subst e; exact hs.1 m hm2 (by simp [h2]) b hqb hb
              · exact ih hs.2 m hm2 q hq2 h1 h2 b hb hqb
        exact this R sR m hm q hq hmm hqm b hmb hqb
  · rcases List.mem_append.1 hp with hp | hp
    · rcases hF p hp b hb with h | ⟨m, hm, hmm, hmb⟩ | ⟨hpm, m, hm, hmm, hmb⟩
      · right; left; exact Nat.le_trans s.keep.size h
      · rcases s.mine m (by simp [hm]) b hmb with h | h | ⟨h, _⟩
        · exact .inl h
        · exact .inr (.inl h)
        · rw [hmm] at h; cases h
      · rcases s.mine m hm b hmb with h | h | ⟨_, h⟩
        · exact .inl h
        · exact .inr (.inl h)
        · exact .inr (.inr ⟨hpm, h⟩)
    · exact s.mine p (by simp [hp]) b hb
end
end Go.Proofs.YtgogcgkocjpgoaaGreatDoor
/- A walk's frame as a list of what is known of the slots; the rules of control. Plain: no program in sight. -/
namespace Go.Proofs.YtgogcgkocjpgoaaGreatDoor
open Go.RowKit
abbrev Fr := List (Nat × Value)
def look : Fr → Nat → Option Value
  | [], _ => none
  | (k, v) :: r, t => bif Nat.beq k t then some v else look r t
def ev (fr : Fr) : Operand → Option Value
  | .tmp t => look fr t
  | .const v => some v
  | .global g => some (.pointer (some ⟨g, 0, none⟩))
  | .func f => some (.func (.func f) #[] #[])
/-- the operands' values -/
inductive Evs (fr : Fr) : List Operand → List Value → Prop
  | nil : Evs fr [] []
  | cons {x v xs vs} : ev fr x = some v → Evs fr xs vs → Evs fr (x :: xs) (v :: vs)
structure Ag (n : Nat) (fr : Fr) (a : Act) : Prop where
  df : a.defers = []
  sz : a.tmps.size = n
  at_ : ∀ t v, look fr t = some v → a.tmps[t]? = some v
theorem Ag.ev {n fr a x v} (h : Ag n fr a) (hx : ev fr x = some v) : a.eval x = v := by
  cases x with
  | tmp t => have := h.at_ t v hx; simp [Act.eval, Array.getD_eq_getD_getElem?, this]
  | const u => simp [Go.Proofs.YtgogcgkocjpgoaaGreatDoor.ev] at hx; subst hx; rfl
  | global g => simp [Go.Proofs.YtgogcgkocjpgoaaGreatDoor.ev] at hx; subst hx; rfl
  | func f => simp [Go.Proofs.YtgogcgkocjpgoaaGreatDoor.ev] at hx; subst hx; rfl
theorem Ag.evs {n fr a xs vs} (h : Ag n fr a) (hx : Evs fr xs vs) : xs.map a.eval = vs := by
  induction hx with
  | nil => rfl
  | cons hx _ ih => simp [h.ev hx, ih]
theorem look_cons (k : Nat) (v : Value) (r : Fr) (t : Nat) : look ((k, v) :: r) t = if k = t then some v else look r t := by
  show (bif Nat.beq k t then some v else look r t) = _
  by_cases h : k = t
  · subst h; simp
  · have : Nat.beq k t = false := by
      cases hb : Nat.beq k t
      · rfl
      · exact absurd (Nat.eq_of_beq_eq_true hb) h
    rw [this, if_neg h]; rfl
theorem Ag.put {n fr a d v} (h : Ag n fr a) (hd : Nat.blt d n = true) : Ag n ((d, v) :: fr) (a.put (some d) v) := by
  have hd' : d < n := by simpa using hd
  refine ⟨h.df, by simp [Act.put, h.sz], fun t u hu => ?_⟩
  rw [look_cons] at hu
  show (a.tmps.setIfInBounds d v)[t]? = _
  rw [Array.getElem?_setIfInBounds]
  split at hu
  · rename_i e; subst e; simp at hu; subst hu; rw [if_pos rfl, if_pos (by rw [h.sz]; exact hd')]
  · rename_i e; rw [if_neg e]; exact h.at_ t u hu
/-- what is known less of the slots -/
inductive FrSub (fr : Fr) : Fr → Prop
  | nil : FrSub fr []
  | cons {t v r} : look fr t = some v → FrSub fr r → FrSub fr ((t, v) :: r)
theorem FrSub.look {fr fr' : Fr} (h : FrSub fr fr') : ∀ t v, look fr' t = some v → look fr t = some v := by
  induction h with
  | nil => intro t v hv; cases hv
  | cons h1 _ ih =>
    intro t v hv
    rw [look_cons] at hv
    split at hv
    · rename_i e; subst e; rw [← hv]; exact h1
    · exact ih t v hv
theorem Ag.sub {n fr fr' a} (h : Ag n fr a) (hs : FrSub fr fr') : Ag n fr' a := ⟨h.df, h.sz, fun t v hv => h.at_ t v (hs.look t v hv)⟩
/-- what stays the same for a whole walk -/
structure Cx where
  P : Program
  G : List Nat
  D : List Nat
  w0 : World
  n : Nat
  R : Exit → Act → World → Prop
/-- what comes behind -/
inductive It
  | cd (c : Code)
  | blk (id : Nat)
  | lp (I : Act → World → Prop)
def run (c : Cx) : List It → Exit → Act → World → Prop
  | [] => c.R
  | .cd y :: k => Exit.then (fun a w => y.wp c.P (run c k) a w) (run c k)
  | .blk id :: k => Exit.inBlock id (run c k)
  | .lp I :: k => Exit.then I (run c k)
/-- where a walk stands: at a piece of code, at a region's operations, behind a normal end, at an exit, at the end; at a region whose order is drawn, with these operations done -/
inductive Gl
  | code (k : List It) (x : Code)
  | list (k : List It) (ops : Array Oper) (l : List Oper)
  | norm (k : List It)
  | exit (k : List It) (id : Nat)
  | fin (e : Exit)
  | dx (k : List It) (H0 : List Pc) (X : List Nat) (ops : Array Oper) (f : Nat) (listed : Array Bool)
  | dk (i : Nat) (k : List It) (H0 : List Pc) (X : List Nat) (ops : Array Oper) (f : Nat) (listed : Array Bool)
def Gl.sem (c : Cx) : Gl → Act → World → Prop
  | .code k x, a, w => x.wp c.P (run c k) a w
  | .list k ops l, a, w => wpList c.P ops (run c k) l a w
  | .norm k, a, w => run c k .normal a w
  | .exit k id, a, w => run c k (.exit id) a w
  | .fin e, a, w => c.R e a w
  | .dx k H0 X ops f listed, a, w => AnyX c.P .any ops (run c k) (Hol H0) (fun i => X.contains i) f listed a w
  | .dk i k H0 X ops f listed, a, w => (X.contains i = false → Hol H0 w) ∧ AnyX c.P .any ops (run c k) (Hol H0) (fun i => X.contains i) f listed a w
/-- in every world of that state, with every frame that is so known -/
structure T (c : Cx) (fr : Fr) (H : List Pc) (Φ : Gl) : Prop where
  h : ∀ a w, St c.G c.D c.w0 H w → Ag c.n fr a → Φ.sem c a w
theorem run_ret (c : Cx) : ∀ (k : List It), run c k .ret = c.R .ret
  | [] => rfl
  | .cd _ :: k => run_ret c k
  | .blk _ :: k => run_ret c k
  | .lp _ :: k => run_ret c k
theorem run_panic (c : Cx) (ch : List PanicEntry) : ∀ (k : List It), run c k (.panic ch) = c.R (.panic ch)
  | [] => rfl
  | .cd _ :: k => run_panic c ch k
  | .blk _ :: k => run_panic c ch k
  | .lp _ :: k => run_panic c ch k
/-- pieces in another order, or fewer -/
inductive HSub : List Pc → List Pc → Prop
  | nil {A} : HSub A []
  | cons {A p R B} : Pick A p R → HSub R B → HSub A (p :: B)
section
variable {c : Cx} {fr : Fr} {H : List Pc} {k : List It} {Φ : Gl}
theorem HSub.st {G D w0 w} {H H' : List Pc} (h : HSub H H') : ∀ {X : List Pc}, St G D w0 H w → Sep X → (∀ p ∈ X, ∀ q ∈ H, Apart p q) → (∀ p ∈ X, p.P w ∧ ∀ b ∈ p.F, b ∈ G ∨ w0.heap.size ≤ b ∨ (p.mu = false ∧ b ∈ D)) →
    (∀ q ∈ H', q ∈ H) ∧ Sep H' := by
  induction h with
  | nil => intro X _ _ _ _; exact ⟨by simp, trivial⟩
  | @cons A p R B hp hs ih =>
    intro X s hX hXa hXp
    have s1 := s.pick hp
    have ⟨h1, h2⟩ := ih (X := []) s1.tail trivial (by simp) (by simp)
    exact ⟨fun q hq => by
      rcases List.mem_cons.1 hq with rfl | hq
      · exact hp.mem
      · exact hp.sub q (h1 q hq), fun q hq => s1.sep.1 q (h1 q hq), h2⟩
theorem St.sub {G D w0 w} {H H' : List Pc} (s : St G D w0 H w) (h : HSub H H') : St G D w0 H' w :=
  have ⟨h1, h2⟩ := h.st (X := []) s trivial (by simp) (by simp)
  ⟨s.keep, fun p hp => s.on p (h1 p hp), h2, fun p hp => s.mine p (h1 p hp)⟩
/-! the rules of control -/
theorem c_seq {x y : Code} (h : T c fr H (.code (.cd y :: k) x)) : T c fr H (.code k (Code.seq x y)) := .mk fun a w s g => wp_seq (h.h a w s g)
theorem c_skip (h : T c fr H (.norm k)) : T c fr H (.code k Code.skip) := .mk fun a w s g => wp_skip (h.h a w s g)
theorem c_ret (h : T c fr H (.fin .ret)) : T c fr H (.code k Code.ret) := .mk fun a w s g => wp_ret (by rw [run_ret]; exact h.h a w s g)
theorem c_exit {id : Nat} (h : T c fr H (.exit k id)) : T c fr H (.code k (Code.exit id)) := .mk fun a w s g => wp_exit (h.h a w s g)
theorem c_block {id : Nat} {x : Code} (h : T c fr H (.code (.blk id :: k) x)) : T c fr H (.code k (Code.block id x)) := .mk fun a w s g => wp_block (h.h a w s g)
theorem c_reg {id : Nat} {l : List Oper} (h : T c fr H (.list k l.toArray l)) : T c fr H (.code k (Code.region id l.toArray false)) := .mk fun a w s g => wp_region_lit (h.h a w s g)
theorem c_t {x : Operand} {y z : Code} (hc : ev fr x = some (.bool true)) (h : T c fr H (.code k y)) : T c fr H (.code k (Code.cond x y z)) := .mk fun a w s g => wp_cond_true (g.ev hc) (h.h a w s g)
theorem c_f {x : Operand} {y z : Code} (hc : ev fr x = some (.bool false)) (h : T c fr H (.code k z)) : T c fr H (.code k (Code.cond x y z)) := .mk fun a w s g => wp_cond_false (g.ev hc) (h.h a w s g)
/-- a test that parts the ways -/
theorem c_if {x : Operand} {y z : Code} {p : Prop} {_ : Decidable p} (hc : ev fr x = some (.bool (decide p))) (h1 : p → T c fr H (.code k y)) (h2 : ¬ p → T c fr H (.code k z)) :
    T c fr H (.code k (Code.cond x y z)) := .mk fun a w s g => by
  by_cases hp : p
  · exact wp_cond_true (by rw [g.ev hc, decide_eq_true hp]) ((h1 hp).h a w s g)
  · exact wp_cond_false (by rw [g.ev hc, decide_eq_false hp]) ((h2 hp).h a w s g)
theorem n_cd {y : Code} (h : T c fr H (.code k y)) : T c fr H (.norm (.cd y :: k)) := ⟨h.h⟩
theorem n_blk {id : Nat} (h : T c fr H (.norm k)) : T c fr H (.norm (.blk id :: k)) := ⟨h.h⟩
theorem e_cd {y : Code} {id : Nat} (h : T c fr H (.exit k id)) : T c fr H (.exit (.cd y :: k) id) := ⟨h.h⟩
theorem e_lp {I : Act → World → Prop} {id : Nat} (h : T c fr H (.exit k id)) : T c fr H (.exit (.lp I :: k) id) := ⟨h.h⟩
theorem e_hit {id : Nat} (h : T c fr H (.norm k)) : T c fr H (.exit (.blk id :: k) id) := .mk fun a w s g => by
  show (if id = id then run c k .normal a w else run c k (.exit id) a w)
  rw [if_pos rfl]; exact h.h a w s g
theorem e_miss {id id' : Nat} (hne : Nat.beq id' id = false) (h : T c fr H (.exit k id')) : T c fr H (.exit (.blk id :: k) id') := .mk fun a w s g => by
  show (if id' = id then run c k .normal a w else run c k (.exit id') a w)
  rw [if_neg (fun e => by rw [e] at hne; simp at hne)]; exact h.h a w s g
theorem w_nil {ops : Array Oper} (h : T c fr H (.norm k)) : T c fr H (.list k ops []) := ⟨h.h⟩
/-! loops -/
theorem least_ex {p : Nat → Prop} : ∀ n, p n → ∃ m, p m ∧ ∀ j, p j → m ≤ j := fun n => by
  induction n using Nat.strongRecOn with
  | _ n ih =>
    intro hn
    by_cases h : ∃ j, j < n ∧ p j
    · obtain ⟨j, hj, hp⟩ := h; exact ih j hj hp
    · exact ⟨n, hn, fun j hj => Nat.le_of_not_lt fun hl => h ⟨j, hl, hj⟩⟩
theorem wp_loop_m {P : Program} {Q : Exit → Act → World → Prop} {x : Code} {a : Act} {w : World} (I : Nat → Act → World → Prop) (m : Nat) (h0 : I m a w)
    (round : ∀ m a w, I m a w → x.wp P (Exit.then (fun a' w' => ∃ m', m' < m ∧ I m' a' w') Q) a w) : (Code.loop x).wp P Q a w := by
  classical
  refine wp_loop (fun a w => ∃ m, I m a w) (fun a w => if h : ∃ m, I m a w then Classical.choose (least_ex (p := fun m => I m a w) h.choose h.choose_spec) else 0) ⟨m, h0⟩ fun a w hI => ?_
  have hl := Classical.choose_spec (least_ex (p := fun m => I m a w) hI.choose hI.choose_spec)
  refine wp_mono (round _ a w hl.1) fun e a' w' he => ?_
  cases e with
  | normal =>
    obtain ⟨m', hm, hi⟩ := he
    have hex : ∃ m, I m a' w' := ⟨m', hi⟩
    refine ⟨hex, ?_⟩
    simp only [dif_pos hI, dif_pos hex]
    exact Nat.lt_of_le_of_lt ((Classical.choose_spec (least_ex (p := fun m => I m a' w') hex.choose hex.choose_spec)).2 m' hi) hm
  | _ => exact he
/-- the state at a loop's head: what is known of the slots and of memory, aS a function of s -/
def LpI {σ : Type} (c : Cx) (fr' : σ → Fr) (H' : σ → List Pc) (C : σ → Prop) (μ : σ → Nat) (m : Nat) (a : Act) (w : World) : Prop := ∃ s, C s ∧ μ s = m ∧ St c.G c.D c.w0 (H' s) w ∧ Ag c.n (fr' s) a
def LpN {σ : Type} (c : Cx) (fr' : σ → Fr) (H' : σ → List Pc) (C : σ → Prop) (μ : σ → Nat) (m : Nat) (a : Act) (w : World) : Prop := ∃ m', m' < m ∧ LpI c fr' H' C μ m' a w
theorem c_loop {x : Code} {σ : Type} (fr' : σ → Fr) (H' : σ → List Pc) (C : σ → Prop) (μ : σ → Nat) (s0 : σ) (h0 : C s0)
    (round : ∀ s, C s → T c (fr' s) (H' s) (.code (.lp (LpN c fr' H' C μ (μ s)) :: k) x)) (hf : FrSub fr (fr' s0) := by repeat (first | exact FrSub.nil | refine FrSub.cons (by rfl) ?_)) (hH : HSub H (H' s0) := by repeat (first | exact HSub.nil | refine HSub.cons (by (repeat (first | exact .here | apply Pick.there)); first | done | fail) ?_)) : T c fr H (.code k (Code.loop x)) := .mk fun a w st g => by
  refine wp_loop_m (LpI c fr' H' C μ) (μ s0) ⟨s0, h0, rfl, st.sub hH, g.sub hf⟩ fun m a w hI => ?_
  obtain ⟨s, hC, rfl, hst, hg⟩ := hI
  exact (round s hC).h a w hst hg
/-- a round's end -/
theorem n_lp {σ : Type} {fr' : σ → Fr} {H' : σ → List Pc} {C : σ → Prop} {μ : σ → Nat} {m : Nat} (s : σ) (hC : C s) (hm : μ s < m) (hf : FrSub fr (fr' s) := by repeat (first | exact FrSub.nil | refine FrSub.cons (by rfl) ?_)) (hH : HSub H (H' s) := by repeat (first | exact HSub.nil | refine HSub.cons (by (repeat (first | exact .here | apply Pick.there)); first | done | fail) ?_)) :
    T c fr H (.norm (.lp (LpN c fr' H' C μ m) :: k)) := .mk fun _ _ st g => ⟨μ s, hm, s, hC, rfl, st.sub hH, g.sub hf⟩
end
end Go.Proofs.YtgogcgkocjpgoaaGreatDoor
/- Operations that only compute or read: what they yield. Plain: no program in sight. -/
namespace Go.Proofs.YtgogcgkocjpgoaaGreatDoor
open Go.RowKit
/-- a type whose variables take one cell -/
class OneC (P : Program) (t : TypeId) : Prop where
  d : ∃ d, P.underlying t = some d ∧ d.isRow = false
  s : (P.info? t).map (·.size) = some 1
/-- a struct's type, its number of cells -/
class AggC (P : Program) (t : TypeId) (n : outParam Nat) : Prop where
  d : ∃ d, P.underlying t = some d ∧ d.isRow = true
  s : (P.info? t).map (·.size) = some n
/-- field i of a struct's type: where its cells begin, its type, their number -/
class FldC (P : Program) (t : TypeId) (i : Nat) (off : outParam Nat) (ft : outParam TypeId) (n : outParam Nat) : Prop where
  f : ∃ fs f, P.underlying t = some (.struct fs) ∧ fs[i]? = some f ∧ f.offset = off ∧ f.type = ft
  s : (P.info? ft).map (·.size) = some n
  p : n ≠ 0
/-- a slice's type: its elements' type, their number of cells -/
class SlC (P : Program) (t : TypeId) (e : outParam TypeId) (n : outParam Nat) : Prop where
  u : P.underlying t = some (.slice e)
  s : (P.info? e).map (·.size) = some n
class IntC (P : Program) (t : TypeId) (k : outParam IntKind) : Prop where
  u : P.underlying t = some (.int k)
class StrC (P : Program) (t : TypeId) : Prop where
  u : P.underlying t = some .string
class BoolC (P : Program) (t : TypeId) : Prop where
  u : P.underlying t = some .bool
/-- a pointer into a block -/
def ptr (g o j : Nat) : Value := .pointer (some ⟨g, o + j, none⟩)
/-- what an operation yields where only this is known -/
structure Yd (P : Program) (n : Nat) (fr : Fr) (H : List Pc) (o : Op) (ty : TypeId) (v : Value) : Prop where
  h : ∀ (a : Act) (w : World) (d : Option Tmp) (pos : String) (aft : Array Edge) (g : Option (Nat × Bool)), Ag n fr a → Hol H w → (execOp a.eval ⟨d, o, ty, pos, aft, g⟩).run P w = .ok (.value v) w
theorem list_eq_iff (a b : ByteArray) : (a.toList == b.toList) = decide (a = b) := by
  rw [Bool.eq_iff_iff]
  simp only [beq_iff_eq, decide_eq_true_eq, ByteArray.toList_eq]
  exact ⟨fun h => ByteArray.ext (Array.ext' h), fun h => by rw [h]⟩
section
variable {P : Program} {n : Nat} {fr : Fr} {H : List Pc} {ty : TypeId} {v u : Value} {x y z : Operand}
theorem size_of {t : TypeId} {n : Nat} (h : (P.info? t).map (·.size) = some n) (w : World) : (sizeOf t).run P w = .ok n w := by
  obtain ⟨i, hi, hn⟩ := Option.map_eq_some_iff.1 h
  simp [sizeOf, typeInfo, hi, hn]
theorem isAgg_no {t : TypeId} (h : ∃ d, P.underlying t = some d ∧ d.isRow = false) (w : World) : (isAgg t).run P w = .ok false w := by
  obtain ⟨d, hu, hd⟩ := h
  unfold isAgg
  rw [Sem.run_bind, run_underlying hu w]
  cases d <;> simp_all
theorem isAgg_yes {t : TypeId} (h : ∃ d, P.underlying t = some d ∧ d.isRow = true) (w : World) : (isAgg t).run P w = .ok true w := by
  obtain ⟨d, hu, hd⟩ := h
  unfold isAgg
  rw [Sem.run_bind, run_underlying hu w]
  cases d <;> simp_all
theorem yd_move (hx : ev fr x = some v) : Yd P n fr H (.move x) ty v := .mk fun a w d pos aft g hA _ => by
  simp [execOp, hA.ev hx]
theorem yd_assign (hx : ev fr x = some v) : Yd P n fr H (.assign x) ty v := .mk fun a w d pos aft g hA _ => by
  simp [execOp, hA.ev hx]
theorem yd_pick_t (hc : ev fr x = some (.bool true)) (hy : ev fr y = some v) : Yd P n fr H (.pick x y z) ty v := .mk fun a w d pos aft g hA _ => by
  simp [execOp, hA.ev hc, hA.ev hy, asBool]
theorem yd_pick_f (hc : ev fr x = some (.bool false)) (hz : ev fr z = some v) : Yd P n fr H (.pick x y z) ty v := .mk fun a w d pos aft g hA _ => by
  simp [execOp, hA.ev hc, hA.ev hz, asBool]
theorem row_cell {w : World} {g t o j : Nat} {A cs B : List Value} (h : (Pc.row g t o A cs B).P w) (hv : cs[j]? = some v) : w.cell? ⟨g, o + j, none⟩ = some v := by
  obtain ⟨rfl, h⟩ := h
  rw [h.cellMid rfl (List.getElem?_eq_some_iff.1 hv).1]; exact hv
theorem row_range {w : World} {g t o : Nat} {A cs B : List Value} (h : (Pc.row g t o A cs B).P w) : w.rangeAt g o cs := fun _ _ hv => row_cell h hv
theorem row_there {w : World} {g t o : Nat} {A cs B : List Value} (h : (Pc.row g t o A cs B).P w) : w.there g o cs.length := fun j hj =>
  ⟨by rw [row_cell h (List.getElem?_eq_getElem hj)]; rfl, h.2.frozen _⟩
theorem load_one {t : TypeId} [hT : OneC P t] {w : World} {a : Addr} (h : w.cell? a = some v) : (Instr.loadAt t (.pointer (some a))).run P w = .ok v w := by
  simp [Instr.loadAt, Instr.sureAddr, loadVar, isAgg_no hT.d, h]
theorem yd_ld {t g o j tt : Nat} {A cs B : List Value} [OneC P t] (hx : ev fr x = some (ptr g o j)) (hm : Pc.row g tt o A cs B ∈ H) (hv : cs[j]? = some v) : Yd P n fr H (.load t x) ty v := .mk fun a w d pos aft gd hA hH => by
  simp [execOp, hA.ev hx, ptr, load_one (row_cell (hH _ hm) hv)]
theorem yd_ldc {t b o j : Nat} {cs : List Value} [OneC P t] (hx : ev fr x = some (ptr b o j)) (hm : Pc.cel b o cs ∈ H) (hv : cs[j]? = some v) : Yd P n fr H (.load t x) ty v := .mk fun a w d pos aft gd hA hH => by
  simp [execOp, hA.ev hx, ptr, load_one ((hH _ hm).2 j v hv)]
/-- a stretch of a list -/
inductive Cut : List Value → Nat → Nat → List Value → Prop
  | zero {l} : Cut l 0 0 []
  | one {x l m r} : Cut l 0 m r → Cut (x :: l) 0 (m + 1) (x :: r)
  | skip {x l j m r} : Cut l j m r → Cut (x :: l) (j + 1) m r
theorem Cut.get {l j m r} (h : Cut l j m r) : r.length = m ∧ ∀ (i : Nat) u, r[i]? = some u → l[j + i]? = some u := by
  induction h with
  | zero => exact ⟨rfl, fun i u h => by simp at h⟩
  | one _ ih =>
    refine ⟨by simp [ih.1], fun i u h => ?_⟩
    cases i with
    | zero => simpa using h
    | succ i => have := ih.2 i u (by simpa using h); simpa [Nat.add_assoc] using this
  | skip _ ih =>
    refine ⟨ih.1, fun i u h => ?_⟩
    have := ih.2 i u h
    rwa [show ∀ a b : Nat, a + 1 + b = a + b + 1 by omega, List.getElem?_cons_succ]
theorem load_agg {t m : Nat} [hT : AggC P t m] {w : World} {b o j : Nat} {cs r : List Value} (h : w.rangeAt b o cs) (hc : Cut cs j m r) : (Instr.loadAt t (.pointer (some ⟨b, o + j, none⟩))).run P w = .ok (.agg r.toArray) w := by
  obtain ⟨d, hu, hd⟩ := hT.d
  exact run_loadAt_mid w b (o + j) t r d (fun i u hu => by rw [Nat.add_assoc]; exact h _ _ (hc.get.2 i u hu)) hu hd (by rw [hT.s, hc.get.1])
theorem yd_lda {t g o j tt m : Nat} {A cs B r : List Value} [AggC P t m] (hx : ev fr x = some (ptr g o j)) (hm : Pc.row g tt o A cs B ∈ H) (hc : Cut cs j m r) : Yd P n fr H (.load t x) ty (.agg r.toArray) := .mk fun a w d pos aft gd hA hH => by
  simp [execOp, hA.ev hx, ptr, load_agg (row_range (hH _ hm)) hc]
theorem yd_ldac {t b o j m : Nat} {cs r : List Value} [AggC P t m] (hx : ev fr x = some (ptr b o j)) (hm : Pc.cel b o cs ∈ H) (hc : Cut cs j m r) : Yd P n fr H (.load t x) ty (.agg r.toArray) := .mk fun a w d pos aft gd hA hH => by
  simp [execOp, hA.ev hx, ptr, load_agg (hH _ hm).2 hc]
theorem yd_fa {t i g o j off ft m : Nat} [hF : FldC P t i off ft m] (hx : ev fr x = some (ptr g o j)) : Yd P n fr H (.fieldAddr t x i) ty (ptr g o (j + off)) := .mk fun a w d pos aft gd hA _ => by
  obtain ⟨fs, f, hu, hf, rfl, rfl⟩ := hF.f
  simp [execOp, hA.ev hx, ptr, Instr.fieldAt, run_underlying hu, hf, Instr.sureAddr, fieldPlace, size_of hF.s, hF.p, Addr.add_lit, Nat.add_assoc]
theorem yd_fld {t i off ft m : Nat} {l : List Value} [hF : FldC P t i off ft m] [hT : OneC P ft] (hx : ev fr x = some (.agg l.toArray)) (hv : l[off]? = some v) : Yd P n fr H (.field t x i) ty v := .mk fun a w d pos aft gd hA _ => by
  obtain ⟨fs, f, hu, hf, rfl, rfl⟩ := hF.f
  simp [execOp, hA.ev hx, Instr.field, run_underlying hu, hf, asAgg, part, isAgg_no hT.d, hv]
theorem yd_flda {t i off ft m m' : Nat} {l r : List Value} [hF : FldC P t i off ft m] [hT : AggC P ft m'] (hx : ev fr x = some (.agg l.toArray)) (hc : Cut l off m' r) : Yd P n fr H (.field t x i) ty (.agg r.toArray) := .mk fun a w d pos aft gd hA _ => by
  obtain ⟨fs, f, hu, hf, rfl, rfl⟩ := hF.f
  have e : l.toArray.extract f.offset (f.offset + m') = r.toArray := by
    obtain ⟨h1, h2⟩ := hc.get
    apply Array.ext'
    simp only [List.extract_toArray, List.extract_eq_take_drop, Nat.add_sub_cancel_left]
    apply List.ext_getElem?
    intro i
    rw [List.getElem?_take]
    split
    · rename_i hi
      have hr : r[i]? = some (r[i]'(by omega)) := List.getElem?_eq_getElem (by omega)
      rw [List.getElem?_drop, hr]; exact h2 i _ hr
    · rw [List.getElem?_eq_none (by omega)]
  simp [execOp, hA.ev hx, Instr.field, run_underlying hu, hf, asAgg, part, isAgg_yes hT.d, size_of hT.s, ← e]
theorem yd_nil {g o j : Nat} (hx : ev fr x = some (ptr g o j)) : Yd P n fr H (.nilCheck x) ty (ptr g o j) := .mk fun a w d pos aft gd hA _ => by
  simp [execOp, hA.ev hx, ptr]
theorem yd_nilf {f : Nat} {l : Array Value} (hx : ev fr x = some (.func (.func f) #[] l)) : Yd P n fr H (.nilCheck x) ty (.func (.func f) #[] l) := .mk fun a w d pos aft gd hA _ => by
  simp [execOp, hA.ev hx]
theorem yd_ix {t e m b o len cp : Nat} {kd : IntKind} {i : Int} [hS : SlC P t e m] (hx : ev fr x = some (.slice (some ⟨b, o, none⟩) len cp)) (hy : ev fr y = some (.int kd i)) (h0 : 0 ≤ i) (h1 : i < len) :
    Yd P n fr H (.indexAddr t x y) ty (ptr b (o + i.toNat * m) 0) := .mk fun a w d pos aft gd hA _ => by
  simp [execOp, hA.ev hx, hA.ev hy, Instr.indexAt, run_underlying hS.u, asIntOf, h0, h1, size_of hS.s, Addr.add_lit, ptr]
theorem yd_ixs {t : Nat} {kd : IntKind} {i : Int} {s : ByteArray} [hS : StrC P t] (hx : ev fr x = some (.string s)) (hy : ev fr y = some (.int kd i)) (h0 : 0 ≤ i) (h1 : i.toNat < s.size) :
    Yd P n fr H (.index t x y) ty (.int .u8 (s[i.toNat]'h1).toNat) := .mk fun a w d pos aft gd hA _ => by
  simp [execOp, hA.ev hx, hA.ev hy, Instr.index, run_underlying hS.u, asIntOf, h0, h1]
theorem yd_ex {i : Nat} {l : List Value} (hx : ev fr x = some (.tuple l.toArray)) (hv : l[i]? = some v) : Yd P n fr H (.extract x i) ty v := .mk fun a w d pos aft gd hA _ => by
  simp [execOp, hA.ev hx, Instr.extract, hv]
theorem yd_not {b : Bool} {t : Nat} (hx : ev fr x = some (.bool b)) : Yd P n fr H (.unOp .not t x) ty (.bool (!b)) := .mk fun a w d pos aft gd hA _ => by
  simp [execOp, hA.ev hx, Op.unary]
theorem yd_notd {p : Prop} {_ : Decidable p} {t : Nat} (hx : ev fr x = some (.bool (decide p))) : Yd P n fr H (.unOp .not t x) ty (.bool (decide (¬ p))) := .mk fun a w d pos aft gd hA _ => by
  simp [execOp, hA.ev hx, Op.unary]
theorem yd_neg {a : Int} {t : Nat} (hx : ev fr x = some (.int .i64 a)) (h0 : -9223372036854775808 ≤ -a) (h1 : -a ≤ 9223372036854775807) : Yd P n fr H (.unOp .neg t x) ty (.int .i64 (-a)) := .mk fun a w d pos aft gd hA _ => by
  simp [execOp, hA.ev hx, Op.unary, Op.intArith, IntWalk.i64_in _ ⟨h0, h1⟩]
section
variable {a b : Int} {t t' : TypeId} (hx : ev fr x = some (.int .i64 a)) (hy : ev fr y = some (.int .i64 b))
include hx hy
theorem yd_add (h0 : -9223372036854775808 ≤ a + b) (h1 : a + b ≤ 9223372036854775807) : Yd P n fr H (.binOp .add t x y t') ty (.int .i64 (a + b)) := .mk fun a w d pos aft gd hA _ => by
  simp [execOp, hA.ev hx, hA.ev hy, eqGuard_add, binOp_add, Op.intArith, IntWalk.i64_in _ ⟨h0, h1⟩]
theorem yd_sub (h0 : -9223372036854775808 ≤ a - b) (h1 : a - b ≤ 9223372036854775807) : Yd P n fr H (.binOp .sub t x y t') ty (.int .i64 (a - b)) := .mk fun a w d pos aft gd hA _ => by
  simp [execOp, hA.ev hx, hA.ev hy, eqGuard_sub, binOp_sub, Op.intArith, IntWalk.i64_in _ ⟨h0, h1⟩]
theorem yd_mul (h0 : -9223372036854775808 ≤ a * b) (h1 : a * b ≤ 9223372036854775807) : Yd P n fr H (.binOp .mul t x y t') ty (.int .i64 (a * b)) := .mk fun a w d pos aft gd hA _ => by
  simp [execOp, hA.ev hx, hA.ev hy, eqGuard_mul, binOp_mul, Op.intArith, IntWalk.i64_in _ ⟨h0, h1⟩]
theorem yd_quo (h0 : 0 ≤ a) (h2 : a ≤ 9223372036854775807) (h1 : 0 < b) : Yd P n fr H (.binOp .quo t x y t') ty (.int .i64 (a / b)) := .mk fun c w d pos aft gd hA _ => by
  have hle : a / b ≤ a := Int.ediv_le_self _ h0
  have hge : 0 ≤ a / b := Int.ediv_nonneg h0 (by omega)
  have hb : b ≠ 0 := by omega
  simp [execOp, hA.ev hx, hA.ev hy, eqGuard_quo, binOp_quo, Op.intDiv, hb, Int.tdiv_eq_ediv_of_nonneg h0, IntWalk.i64_in _ ⟨(by omega : -9223372036854775808 ≤ a / b), (by omega : a / b ≤ 9223372036854775807)⟩]
theorem yd_rem (h0 : 0 ≤ a) (h1 : 0 < b) : Yd P n fr H (.binOp .rem t x y t') ty (.int .i64 (a % b)) := .mk fun c w d pos aft gd hA _ => by
  have hb : b ≠ 0 := by omega
  simp [execOp, hA.ev hx, hA.ev hy, eqGuard_rem, binOp_rem, Op.intDiv, hb, Int.tmod_eq_emod_of_nonneg h0]
end
section
variable {a b : Int} {k : IntKind} {t t' : TypeId} (hx : ev fr x = some (.int k a)) (hy : ev fr y = some (.int k b))
include hx hy
theorem yd_min {ts : Array TypeId} : Yd P n fr H (.call { callee := .builtin .min, args := #[x, y], argTypes := ts }) ty (.int k (min a b)) := .mk fun c w d pos aft gd hA _ => by
  have e : (if b < a then b else a) = min a b := by split <;> omega
  simp [execOp, hA.ev hx, hA.ev hy, resolve, invoke, builtin, run_min_int2, e]
theorem yd_max {ts : Array TypeId} : Yd P n fr H (.call { callee := .builtin .max, args := #[x, y], argTypes := ts }) ty (.int k (max a b)) := .mk fun c w d pos aft gd hA _ => by
  have e : (if a < b then b else a) = max a b := by split <;> omega
  simp [execOp, hA.ev hx, hA.ev hy, resolve, invoke, builtin, run_max_int2, e]
theorem yd_lt : Yd P n fr H (.binOp .lss t x y t') ty (.bool (decide (a < b))) := .mk fun a w d pos aft gd hA _ => by
  simp [execOp, hA.ev hx, hA.ev hy, eqGuard_lss, binOp_lss]
theorem yd_le : Yd P n fr H (.binOp .leq t x y t') ty (.bool (decide (a ≤ b))) := .mk fun a w d pos aft gd hA _ => by
  simp [execOp, hA.ev hx, hA.ev hy, eqGuard_leq, binOp_leq]
theorem yd_gt : Yd P n fr H (.binOp .gtr t x y t') ty (.bool (decide (b < a))) := .mk fun a w d pos aft gd hA _ => by
  simp [execOp, hA.ev hx, hA.ev hy, eqGuard_gtr, binOp_gtr]
theorem yd_ge : Yd P n fr H (.binOp .geq t x y t') ty (.bool (decide (b ≤ a))) := .mk fun a w d pos aft gd hA _ => by
  simp [execOp, hA.ev hx, hA.ev hy, eqGuard_geq, binOp_geq]
theorem yd_eq : Yd P n fr H (.binOp .eql t x y t') ty (.bool (decide (a = b))) := .mk fun a w d pos aft gd hA _ => by
  simp [execOp, hA.ev hx, hA.ev hy, eqGuard_at_int, binOp_eql]; rfl
theorem yd_ne : Yd P n fr H (.binOp .neq t x y t') ty (.bool (decide (¬ a = b))) := .mk fun a w d pos aft gd hA _ => by
  simp [execOp, hA.ev hx, hA.ev hy, eqGuard_at_int, binOp_neq, bne]; rfl
end
section
variable {a b : ByteArray} {t t' : TypeId} (hx : ev fr x = some (.string a)) (hy : ev fr y = some (.string b))
include hx hy
theorem yd_cat (h : a.size + b.size ≤ 9223372036854775807) : Yd P n fr H (.binOp .add t x y t') ty (.string (a ++ b)) := .mk fun c w d pos aft gd hA _ => by
  have : ¬ ((a.size : Int) + b.size > 9223372036854775807) := by omega
  simp [execOp, hA.ev hx, hA.ev hy, eqGuard_add, binOp, Op.stringOp, this]
theorem yd_eqs : Yd P n fr H (.binOp .eql t x y t') ty (.bool (decide (a = b))) := .mk fun c w d pos aft gd hA _ => by
  simp [execOp, hA.ev hx, hA.ev hy, eqGuard_at_string, binOp, Op.stringOp, list_eq_iff a b]
theorem yd_nes : Yd P n fr H (.binOp .neq t x y t') ty (.bool (decide (¬ a = b))) := .mk fun c w d pos aft gd hA _ => by
  simp [execOp, hA.ev hx, hA.ev hy, eqGuard_at_string, binOp, Op.stringOp, list_eq_iff a b]
end
theorem equal_bool {t : TypeId} [hB : BoolC P t] (a b : Bool) (w : World) : (Op.equal t (.bool a) (.bool b)).run P w = .ok (a == b) w := by
  unfold Op.equal
  rw [show Op.maxDepth = 9999 + 1 from rfl]
  unfold Op.equalIn
  rw [Sem.run_bind, run_underlying hB.u w]
  rfl
theorem yd_eqb {a b : Bool} {t t' : TypeId} [hB : BoolC P t] (hx : ev fr x = some (.bool a)) (hy : ev fr y = some (.bool b)) : Yd P n fr H (.binOp .eql t x y t') ty (.bool (decide (a = b))) := .mk fun c w d pos aft gd hA _ => by
  have e : binOp .eql t (.bool a) (.bool b) = (do pure (.bool (← Op.equal t (.bool a) (.bool b)))) := rfl
  simp only [execOp, hA.ev hx, hA.ev hy, eqGuard_at_bool, e, Sem.run_bind, Sem.run_pure, Result.andThen_ok, equal_bool]; cases a <;> cases b <;> rfl
theorem yd_neb {a b : Bool} {t t' : TypeId} [hB : BoolC P t] (hx : ev fr x = some (.bool a)) (hy : ev fr y = some (.bool b)) : Yd P n fr H (.binOp .neq t x y t') ty (.bool (decide (¬ a = b))) := .mk fun c w d pos aft gd hA _ => by
  have e : binOp .neq t (.bool a) (.bool b) = (do pure (.bool (!(← Op.equal t (.bool a) (.bool b))))) := rfl
  simp only [execOp, hA.ev hx, hA.ev hy, eqGuard_at_bool, e, Sem.run_bind, Sem.run_pure, Result.andThen_ok, equal_bool]; cases a <;> cases b <;> rfl
theorem yd_cv {k k' : IntKind} {a : Int} {s t : TypeId} [hS : IntC P s k'] [hD : IntC P t .i64] (hx : ev fr x = some (.int k a)) (h0 : -9223372036854775808 ≤ a) (h1 : a ≤ 9223372036854775807) : Yd P n fr H (.convert s t x) ty (.int .i64 a) := .mk fun c w d pos aft gd hA _ => by
  simp [execOp, hA.ev hx, convert, run_underlying hS.u, run_underlying hD.u, Conv.intToInt, IntWalk.i64_in _ ⟨h0, h1⟩]
theorem yd_len {a : Option Addr} {len cp t e m : Nat} [hS : SlC P t e m] (hx : ev fr x = some (.slice a len cp)) : Yd P n fr H (.call { callee := .builtin .len, args := #[x], argTypes := #[t] }) ty (.int .i64 len) := .mk fun c w d pos aft gd hA _ => by
  simp [execOp, hA.ev hx, resolve, invoke, builtin, Builtin.len_, run_underlying hS.u, goInt]
theorem yd_lens {s : ByteArray} {t : Nat} [hS : StrC P t] (hx : ev fr x = some (.string s)) : Yd P n fr H (.call { callee := .builtin .len, args := #[x], argTypes := #[t] }) ty (.int .i64 s.size) := .mk fun c w d pos aft gd hA _ => by
  simp [execOp, hA.ev hx, resolve, invoke, builtin, run_len_string (h := hS.u), goInt]
theorem yd_slt {t e m i : Nat} {a : Option Addr} {len cp : Nat} {z : Int} [hS : SlC P t e m] (hx : ev fr x = some (.slice a len cp)) (hy : ev fr y = some (.int .i64 z)) (hz : z = (i : Int)) (hi : i ≤ cp) (hc : cp ≤ 9223372036854775807) : Yd P n fr H (.slice t x none (some y) none) ty (.slice a i cp) := .mk fun ac w d pos aft gd hA _ => by
  subst hz
  have he2 : P.elem t = e := by simp [Program.elem, hS.u]
  have h3 : (Instr.sliceAt t (.slice a len cp) none (some (.int .i64 (i : Int))) none).run P w = .ok (.slice a i cp) w := by
    rw [run_sliceAt_slice (h := by rw [he2]; exact hS.u), run_slice_h (ht := by rw [he2]; exact hS.u) (h0 := by omega) (h2 := by omega), he2, size_of hS.s]
    have h0 : a.map (fun b => b.add 0) = a := by cases a <;> simp [Addr.add]
    simp [Result.andThen, sliced, h0]
  simp only [execOp, Option.map_none, Option.map_some, hA.ev hx, hA.ev hy, Sem.run_bind, h3, Result.andThen_ok, Sem.run_pure]
theorem yd_fn {f : Nat} {caps : List Operand} {vs : List Value} (hc : Evs fr caps vs) : Yd P n fr H (.makeFunc (.func f) #[] caps.toArray) ty (.func (.func f) #[] vs.toArray) := .mk fun c w d pos aft gd hA _ => by
  simp [execOp, Instr.makeFunc, hA.evs hc]
end
end Go.Proofs.YtgogcgkocjpgoaaGreatDoor
/- Owned slices out of which elements are taken. Plain: no program in sight. -/
namespace Go.Proofs.YtgogcgkocjpgoaaGreatDoor
open Go.RowKit

theorem putCells_eq (w : World) (g : Nat) : ∀ (c : List Value) (w : World) (p : Nat), putCells w g p c = w.setCells g p c
  | [], _, _ => rfl
  | _ :: r, _, _ => putCells_eq w g r _ _
theorem zeroCells_len (z : Array Value) (n : Nat) : (Builtin.zeroCells z n).toList.length = n * z.size := by simp [Builtin.zeroCells]
theorem zeroCells_one (z : Array Value) (h : ∀ u ∈ z, u.oneCell' = true) (n : Nat) : ∀ u ∈ (Builtin.zeroCells z n).toList, u.oneCell' = true := by
  intro u hu
  simp only [Builtin.zeroCells, Array.toList_map, List.mem_map] at hu
  obtain ⟨i, hi, rfl⟩ := hu
  simp at hi
  have hz : 0 < z.size := Nat.pos_of_ne_zero fun e => by rw [e, Nat.mul_zero] at hi; omega
  have hm : i % z.size < z.size := Nat.mod_lt _ hz
  rw [getElem!_pos z _ hm]
  exact h _ (Array.getElem_mem _)
/-- clear, for elements of any number of cells -/
theorem run_clear_rows {P : Program} (w : World) (t e ty : TypeId) (z : Value) (ht : P.underlying t = some (.slice e)) (hv : ∀ w, (zeroValue e).run P w = .ok z w) (h1 : ∀ u ∈ z.cells, u.oneCell' = true) (b o n c : Nat) (hn : 0 < n)
    (hc : ∀ j, j < n * z.cells.size → (w.cell? ⟨b, o + j, none⟩).isSome = true) (hf : ∀ j, j < n * z.cells.size → w.frozen? ⟨b, o + j, none⟩ = false) :
    (Builtin.clear_ #[t] ty #[.slice (some ⟨b, o, none⟩) n c]).run P w = .ok (.tuple #[]) (w.setCells b o (Builtin.zeroCells z.cells n).toList) := by
  have hst := run_storeCells_cells (P := P) b o (Builtin.zeroCells z.cells n).toList 0 w (by rw [zeroCells_len]; simpa using hc) (by rw [zeroCells_len]; simpa using hf) (zeroCells_one _ h1 _)
  simp only [Nat.add_zero] at hst
  obtain ⟨m, rfl⟩ : ∃ m, n = m + 1 := ⟨n - 1, by omega⟩
  simp [Builtin.clear_, run_underlying ht, hv, hst]

theorem zeroValue_of {P : Program} {e : TypeId} {z : Value} {size bytes : Nat} (h : (P.info? e).map (fun i => (i.zero, i.size, i.bytes)) = some (some z, size, bytes)) : ∀ w, (zeroValue e).run P w = .ok z w := fun w => by
  obtain ⟨i, hi, hzz⟩ := Option.map_eq_some_iff.1 h
  simp only [Prod.mk.injEq] at hzz
  obtain ⟨hz, -, -⟩ := hzz
  simp [zeroValue, typeInfo, hi, hz]
theorem fidx_some {α : Type} {p : α → Bool} {xs : List α} (h : xs.any p = true) : ∃ k, ∃ hk : k < xs.length, fidx p xs = k ∧ p xs[k] = true ∧ (xs.take k).filter (fun x => !p x) = xs.take k := by
  have hk : xs.findIdx p < xs.length := List.findIdx_lt_length_of_exists (by obtain ⟨x, hx, hp⟩ := List.any_eq_true.1 h; exact ⟨x, hx, hp⟩)
  refine ⟨_, hk, by unfold fidx; rw [if_pos h], List.findIdx_getElem (w := hk), ?_⟩
  rw [List.filter_eq_self]
  intro x hx
  obtain ⟨i, hi, rfl⟩ := List.mem_take_iff_getElem.1 hx
  have := List.not_of_lt_findIdx (p := p) (xs := xs) (show i < xs.findIdx p by omega)
  simpa using this
theorem fidx_all {α : Type} {p : α → Bool} {xs : List α} (h : ¬ xs.any p = true) : fidx p xs = -1 ∧ xs.filter (fun x => !p x) = xs := by
  refine ⟨by unfold fidx; rw [if_neg h], ?_⟩
  rw [List.filter_eq_self]
  intro x hx
  cases hp : p x
  · rfl
  · exact absurd (List.any_eq_true.2 ⟨x, hx, hp⟩) h
theorem filter_take_yes {α : Type} {q : α → Bool} {xs : List α} {j : Nat} (h : j < xs.length) (hq : q xs[j] = true) : (xs.take (j + 1)).filter q = (xs.take j).filter q ++ [xs[j]] := by
  rw [List.take_succ_eq_append_getElem h, List.filter_append]; simp [hq]
theorem filter_take_no {α : Type} {q : α → Bool} {xs : List α} {j : Nat} (h : j < xs.length) (hq : q xs[j] = false) : (xs.take (j + 1)).filter q = (xs.take j).filter q := by
  rw [List.take_succ_eq_append_getElem h, List.filter_append]; simp [hq]
theorem same_cells {w : World} {g off n : Nat} {c c' : List Value} (h : c.length = n) (h' : c'.length = n) (hc : ∀ j, j < n → w.cell? ⟨g, off + j, none⟩ = c[j]?) (hc' : ∀ j, j < n → w.cell? ⟨g, off + j, none⟩ = c'[j]?) : c = c' := by
  apply List.ext_getElem?
  intro j
  by_cases hj : j < n
  · rw [← hc j hj, hc' j hj]
  · rw [List.getElem?_eq_none (by omega), List.getElem?_eq_none (by omega)]
/-- a row that has the kept elements, m places that count no more, and the elements that are still to be looked at -/
def Gap {α : Type} (O : Elem α) (t : TypeId) (w : World) (g n cap : Nat) (ys : List α) (m : Nat) (zs : List α) (F : List Nat) : Prop :=
  ∃ c1 jk c3 rest G1 G3, n = ys.length + m + zs.length ∧ Row w g t (c1 ++ jk ++ c3 ++ rest) ∧ n ≤ cap ∧ cap ≤ maxLen ∧ c1.length + jk.length + c3.length + rest.length = cap * O.sz ∧ jk.length = m * O.sz ∧
    Flat O w c1 ys G1 ∧ Flat O w c3 zs G3 ∧ F = g :: (G1 ++ G3) ∧ F.Nodup
section
variable {α : Type} {O : Elem α} {t : TypeId} {w : World} {g n cap m : Nat} {ys zs : List α} {F : List Nat}
theorem Gap.start {a : Option Addr} {n : Nat} {xs : List α} (h : Ow O t w (.slice a n cap) xs F) (hn : F.Nodup) (e : xs = ys ++ zs) (h0 : 0 < xs.length) : ∃ g, a = some ⟨g, 0, none⟩ ∧ n = xs.length ∧ Gap O t w g n cap ys 0 zs F := by
  subst e
  rcases h with ⟨_, h1, _⟩ | ⟨g, cap', cs, rest, G, hv, hr, h3, h4, h5, hf, rfl⟩
  · rw [h1] at h0; simp at h0
  · cases hv
    obtain ⟨c1, c2, G1, G2, rfl, rfl, f1, f2⟩ := hf.split
    refine ⟨g, rfl, rfl, c1, [], c2, rest, G1, G2, by simp, by simpa using hr, h3, h4, by simpa using h5, by simp, f1, f2, rfl, hn⟩
theorem Gap.skip {x : α} (h : Gap O t w g n cap ys m (x :: zs) F) : ∃ F', Gap O t w g n cap ys (m + 1) zs F' ∧ ∀ b ∈ F', b ∈ F := by
  obtain ⟨c1, jk, c3, rest, G1, G3, hn, hr, h1, h2, h3, h4, f1, ⟨c, c4, Fx, G4, rfl, rfl, hx, f3⟩, rfl, hnd⟩ := h
  have hl := O.len hx
  refine ⟨g :: (G1 ++ G4), ⟨c1, jk ++ c, c4, rest, G1, G4, by simp at hn ⊢; omega, by simpa using hr, h1, h2, by simp at h3 ⊢; omega, by rw [List.length_append, h4, hl, Nat.add_mul]; simp, f1, f3, rfl, ?_⟩, by intro b hb; simp at hb ⊢; rcases hb with hb | hb | hb <;> simp [hb]⟩
  simp only [List.nodup_cons, List.nodup_append, List.mem_append, not_or] at hnd ⊢
  exact ⟨⟨hnd.1.1, hnd.1.2.2⟩, hnd.2.1, hnd.2.2.1.2.1, fun a ha b hb => hnd.2.2.2 a ha b (.inr hb)⟩
theorem Gap.first {x : α} (h : Gap O t w g n cap ys m (x :: zs) F) : ∃ c Fx, O.rep w c x Fx ∧ (∀ b ∈ Fx, b ∈ F) ∧ ∀ j, j < O.sz → w.cell? ⟨g, (ys.length + m) * O.sz + j, none⟩ = c[j]? := by
  obtain ⟨c1, jk, c3, rest, G1, G3, hn, hr, h1, h2, h3, h4, f1, ⟨c, c4, Fx, G4, rfl, rfl, hx, f3⟩, rfl, hnd⟩ := h
  have hl := O.len hx
  refine ⟨c, Fx, hx, fun b hb => by simp [hb], fun j hj => ?_⟩
  have hr' : Row w g t ((c1 ++ jk) ++ c ++ (c4 ++ rest)) := by simpa using hr
  exact hr'.cellMid (by rw [List.length_append, f1.len, h4, Nat.add_mul]) (by omega)
/-- the first of those still to be looked at goes to the end of the kept ones -/
theorem Gap.move {x : α} (hm : 0 < m) (h : Gap O t w g n cap ys m (x :: zs) F) :
    (∀ j, j < O.sz → (∃ u, w.cell? ⟨g, ys.length * O.sz + j, none⟩ = some u) ∧ w.frozen? ⟨g, ys.length * O.sz + j, none⟩ = false) ∧
    ∃ c Fx, O.rep w c x Fx ∧ (∀ b ∈ Fx, b ∈ F) ∧ (∀ j, j < O.sz → w.cell? ⟨g, (ys.length + m) * O.sz + j, none⟩ = c[j]?) ∧ ∀ w', Below w.heap.size w w' → ∃ F', Gap O t (putCells w' g (ys.length * O.sz) c) g n cap (ys ++ [x]) m zs F' ∧ ∀ b ∈ F', b ∈ F := by
  obtain ⟨c, Fx, hx0, hxF, hcell⟩ := h.first
  obtain ⟨c1, jk, c3, rest, G1, G3, hn, hr, h1, h2, h3, h4, f1, ⟨c', c4, Fx', G4, rfl, rfl, hx, f3⟩, rfl, hnd⟩ := h
  have hl := O.len hx
  have hl0 := O.len hx0
  obtain ⟨m', rfl⟩ : ∃ m', m = m' + 1 := ⟨m - 1, by omega⟩
  have hjk : jk = jk.take O.sz ++ jk.drop O.sz := by simp
  have hjl : (jk.take O.sz).length = O.sz := by rw [List.length_take, h4, Nat.add_mul]; omega
  have hA := f1.len
  have hr' : Row w g t (c1 ++ jk.take O.sz ++ (jk.drop O.sz ++ c' ++ c4 ++ rest)) := by
    have e : c1 ++ jk.take O.sz ++ (jk.drop O.sz ++ c' ++ c4 ++ rest) = c1 ++ jk ++ (c' ++ c4) ++ rest := by
      simp only [List.append_assoc]
      rw [← List.append_assoc (jk.take O.sz), List.take_append_drop]
    rw [e]; exact hr
  have hcc : c = c' := by
    apply List.ext_getElem? 
    intro j
    by_cases hj : j < O.sz
    · have hr2 : Row w g t ((c1 ++ jk) ++ c' ++ (c4 ++ rest)) := by simpa using hr
      rw [← hcell j hj, hr2.cellMid (by rw [List.length_append, hA, h4, ← Nat.add_mul]) (by omega)]
    · rw [List.getElem?_eq_none (by omega), List.getElem?_eq_none (by omega)]
  refine ⟨fun j hj => ⟨⟨_, by rw [hr'.cellMid (j := j) (by omega) (by omega), List.getElem?_eq_getElem (by omega)]⟩, hr'.frozen _⟩, c, Fx', hcc ▸ hx, fun b hb => by simp [hb], hcell, fun w' hb => ?_⟩
  subst hcc
  have hgl := hr.lt
  have hnd' := hnd
  simp only [List.nodup_cons, List.nodup_append, List.mem_append, not_or] at hnd'
  have hrow := (hr'.below hb).put c (jk.take O.sz) (p := ys.length * O.sz) hA.symm (by omega)
  have hfr : ∀ b, b < w.heap.size → b ≠ g → (putCells w' g (ys.length * O.sz) c).heap[b]? = w.heap[b]? := fun b hb1 hb2 => (putCells_other c w' _ b hb2).trans (hb.block b hb1)
  have n1 : ∀ b ∈ G1, b ≠ g := fun b hb e => hnd'.1.1 (e ▸ hb)
  have n2 : ∀ b ∈ Fx', b ≠ g := fun b hb e => hnd'.1.2.1 (e ▸ hb)
  have n3 : ∀ b ∈ G4, b ≠ g := fun b hb e => hnd'.1.2.2 (e ▸ hb)
  refine ⟨g :: ((G1 ++ Fx') ++ G4), ⟨c1 ++ c, jk.drop O.sz ++ c, c4, rest, G1 ++ Fx', G4, by simp at hn ⊢; omega, ?_, h1, h2, ?_, ?_, ?_, f3.frame fun b hb => hfr b (f3.lt b hb) (n3 b hb), rfl, ?_⟩, by intro b hb; simpa [or_assoc] using hb⟩
  · simpa using hrow
  · simp [h4, Nat.add_mul] at h3 ⊢; omega
  · simp [h4, Nat.add_mul]; omega
  · exact (f1.frame fun b hb => hfr b (f1.lt b hb) (n1 b hb)).append (Flat.one (O.frame hx fun b hb => hfr b (O.lt hx b hb) (n2 b hb)))
  · simpa using hnd
theorem Gap.below {w' : World} (h : Gap O t w g n cap ys m zs F) (hb : Below w.heap.size w w') : Gap O t w' g n cap ys m zs F := by
  obtain ⟨c1, jk, c3, rest, G1, G3, hn, hr, h1, h2, h3, h4, f1, f3, hF, hnd⟩ := h
  exact ⟨c1, jk, c3, rest, G1, G3, hn, hr.below hb, h1, h2, h3, h4, f1.frame fun b h => hb.block b (f1.lt b h), f3.frame fun b h => hb.block b (f3.lt b h), hF, hnd⟩
theorem Gap.caps (h : Gap O t w g n cap ys m zs F) : n = ys.length + m + zs.length ∧ n ≤ cap ∧ cap ≤ maxLen ∧ g < w.heap.size ∧ g ∈ F ∧ F.Nodup := by
  obtain ⟨c1, jk, c3, rest, G1, G3, hn, hr, h1, h2, h3, h4, f1, f3, rfl, hnd⟩ := h
  exact ⟨hn, h1, h2, hr.lt, by simp, hnd⟩
/-- the places behind the kept ones, cleared -/
theorem Gap.done {z : Array Value} (hz : z.size = O.sz) (h : Gap O t w g n cap ys m [] F) :
    (∀ j, j < m * O.sz → (w.cell? ⟨g, ys.length * O.sz + j, none⟩).isSome = true ∧ w.frozen? ⟨g, ys.length * O.sz + j, none⟩ = false) ∧
    ∃ F', Ow O t (w.setCells g (ys.length * O.sz) (Builtin.zeroCells z m).toList) (.slice (some ⟨g, 0, none⟩) ys.length cap) ys F' ∧ F'.Nodup ∧ ∀ b ∈ F', b ∈ F := by
  obtain ⟨c1, jk, c3, rest, G1, G3, hn, hr, h1, h2, h3, h4, f1, ⟨rfl, rfl⟩, rfl, hnd⟩ := h
  have hA := f1.len
  simp only [List.append_nil] at hr hnd
  have hr' : Row w g t (c1 ++ jk ++ rest) := hr
  refine ⟨fun j hj => ⟨?_, hr'.frozen _⟩, g :: G1, ?_, hnd, by simp⟩
  · rw [hr'.cellMid (j := j) (by omega) (by omega), List.getElem?_eq_getElem (by omega)]; rfl
  · rw [← putCells_eq w]
    have hrow := hr'.put (Builtin.zeroCells z m).toList jk (p := ys.length * O.sz) hA.symm (by rw [zeroCells_len, h4, hz])
    have hng : g ∉ G1 := by simp at hnd; exact hnd.1
    refine .inr ⟨g, cap, c1, (Builtin.zeroCells z m).toList ++ rest, G1, rfl, by simpa using hrow, by simp at hn; omega, h2, ?_, f1.frame fun b hb => putCells_other _ _ _ _ fun e => hng (e ▸ hb), rfl⟩
    rw [List.length_append, zeroCells_len, hz, ← h4]; simp at h3; omega
end
end Go.Proofs.YtgogcgkocjpgoaaGreatDoor
/- Operations that act; calls; regions that draw their order; a function's beginning and end. Plain: no program in sight. -/
namespace Go.Proofs.YtgogcgkocjpgoaaGreatDoor
open Go.RowKit
/-- a type's zero value, aS cells -/
class ZC (P : Program) (t : TypeId) (zs : outParam (List Value)) : Prop where
  z : ∃ v, (P.info? t).map (·.zero) = some (some v) ∧ v.cells = zs.toArray
/-- a slice's elements: zero, cells, bytes -/
class ElT (P : Program) (e : TypeId) (z : outParam Value) (n : outParam Nat) (by_ : outParam Nat) : Prop where
  i : (P.info? e).map (fun i => (i.zero, i.size, i.bytes)) = some (some z, n, by_)
  s : z.cells.size = n
/-- places of a struct's fields: where, how many cells -/
class BldC (P : Program) (t : TypeId) (pl : outParam (List (Nat × Nat))) (zs : outParam (List Value)) : Prop where
  b : ∀ parts, P.built t parts = Instr.fill (pl.toArray[·]?) zs.toArray parts
def bodyB (P : Program) (f : FuncId) : Bool := match P.funcs[f]? with
  | some fn => !(fn.name == "runtime.NumGoroutine") && !fn.body.isNone
  | none => false
theorem body_of {P : Program} {f : FuncId} (h : bodyB P f = true) : Body P f := by
  unfold bodyB at h
  split at h
  · rename_i fn hf
    simp only [Bool.and_eq_true, Bool.not_eq_true'] at h
    exact .mk' hf h.1 h.2
  · cases h
/-- one operation, whatever stands behind it -/
structure Ef (c : Cx) (fr : Fr) (H : List Pc) (o : Oper) (Φ : Gl) : Prop where
  h : ∀ Q a w, St c.G c.D c.w0 H w → Ag c.n fr a → o.wp c.P a w (Φ.sem c) Q
/-- a call of function f at these values, whatever stands behind it -/
structure Cl (c : Cx) (fr : Fr) (H : List Pc) (d : Nat) (f : FuncId) (vs : List Value) (Φ : Gl) : Prop where
  h : ∀ w, St c.G c.D c.w0 H w → ∃ R : Ending → World → Prop, Calls c.P f vs.toArray w R ∧ ∀ e w', R e w' → ∃ v, e = .returned v ∧ ∀ a, Ag c.n ((d, v) :: fr) a → Φ.sem c a w'
theorem ef_of {c : Cx} {fr : Fr} {H : List Pc} {o : Oper} {Φ : Gl} (h : ∀ Q a w, St c.G c.D c.w0 H w → Ag c.n fr a → Oper.upon c.P o a (Φ.sem c) Q ((execOp a.eval o).run c.P w)) : Ef c fr H o Φ := ⟨h⟩
inductive Rpl : List Pc → Pc → Pc → List Pc → Prop
  | here {p q R} : Rpl (p :: R) p q (q :: R)
  | there {x p q R S} : Rpl R p q S → Rpl (x :: R) p q (x :: S)
theorem Rpl.picks {H p q S} (h : Rpl H p q S) : ∃ R, Pick H p R ∧ Pick S q R := by
  induction h with
  | here => exact ⟨_, .here, .here⟩
  | there _ ih => obtain ⟨R, h1, h2⟩ := ih; exact ⟨_, .there h1, .there h2⟩
theorem Pick.unsep {H p R} (h : Pick H p R) (hs : Sep (p :: R)) : Sep H := by
  induction h with
  | here => exact hs
  | @there x p R R' h ih =>
    have h2 := Sep.perm2 hs
    have h3 := ih h2.2
    refine ⟨fun q hq => ?_, h3⟩
    have : ∀ {A : List Pc} {p B}, Pick A p B → ∀ q ∈ A, q = p ∨ q ∈ B := by
      intro A p B h
      induction h with
      | here => intro q hq; simpa using hq
      | there _ ih =>
        intro q hq
        rcases List.mem_cons.1 hq with rfl | hq
        · simp
        · rcases ih q hq with h | h <;> simp [h]
    rcases this h q hq with rfl | hq
    · exact h2.1 _ (by simp)
    · exact h2.1 _ (by simp [hq])
theorem Pick.or {A : List Pc} {p B} (h : Pick A p B) : ∀ q ∈ A, q = p ∨ q ∈ B := by
  induction h with
  | here => intro q hq; simpa using hq
  | there _ ih =>
    intro q hq
    rcases List.mem_cons.1 hq with rfl | hq
    · simp
    · rcases ih q hq with h | h <;> simp [h]
theorem St.unpick {G D w0 H p R w} (s : St G D w0 (p :: R) w) (h : Pick H p R) : St G D w0 H w :=
  ⟨s.keep, fun q hq => by rcases h.or q hq with rfl | hq; exact s.on _ (by simp); exact s.on _ (by simp [hq]), h.unsep s.sep, fun q hq => by rcases h.or q hq with rfl | hq; exact s.mine _ (by simp); exact s.mine _ (by simp [hq])⟩
/-- a piece that may be written turns in its place -/
theorem St.rpl {G D w0 H p q S} {w w' : World} (s : St G D w0 H w) (h : Rpl H p q S) (hm : p.mu = true) (hF : ∀ b ∈ q.F, b ∈ p.F ∨ w.heap.size ≤ b) (hk : Keep p.F w w') (hq : q.P w') : St G D w0 S w' := by
  obtain ⟨R, h1, h2⟩ := h.picks
  refine St.unpick (R := R) ?_ h2
  refine St.turn (M := [p]) (R := R) (N := [q]) (s.pick h1) (by simpa [List.filter, hm, fp] using hk) (by intro x hx; simp at hx; subst hx; exact hq) ⟨by simp, trivial⟩ fun x hx b hb => ?_
  simp at hx; subst hx
  rcases hF b hb with h | h
  · exact .inr (.inl ⟨p, by simp, hm, h⟩)
  · exact .inl h
theorem St.add {G D w0 H} {w w' : World} {N : List Pc} (s : St G D w0 H w) (hb : Below w.heap.size w w') (hN : Hol N w') (hs : Sep N) (hF : ∀ p ∈ N, ∀ b ∈ p.F, w.heap.size ≤ b ∨ (p.mu = false ∧ ∃ q ∈ H, q.mu = false ∧ b ∈ q.F)) : St G D w0 (N ++ H) w' :=
  St.turn (M := []) (R := H) (N := N) s (by simpa [fp] using Keep.ofBelow hb) hN hs fun p hp b hb => by
    rcases hF p hp b hb with h | h
    · exact .inl h
    · exact .inr (.inr (by simpa using h))
theorem St.below {G D w0 H} {w w' : World} (s : St G D w0 H w) (hb : Below w.heap.size w w') : St G D w0 H w' := s.add (N := []) hb (by intro p hp; simp at hp) trivial (by simp)
theorem below_alloc (w : World) (o : Obj) : Below w.heap.size w (w.alloc o) := (Below.refl _ _).alloc (Nat.le_refl _) o
theorem St.new {G D w0 H} {w : World} (s : St G D w0 H w) (t : TypeId) (cs : List Value) : St G D w0 (.row w.heap.size t 0 [] cs [] :: H) (w.alloc (.cells cs.toArray t)) :=
  s.add (N := [.row w.heap.size t 0 [] cs []]) (below_alloc _ _) (by intro p hp; simp at hp; subst hp; exact ⟨rfl, by simpa using Row.made w t cs⟩) ⟨by simp, trivial⟩ (by intro p hp b hb; simp at hp; subst hp; simp [Pc.F] at hb; subst hb; exact .inl (Nat.le_refl _))
/-- l goes in the place of the cells from j on -/
inductive Put : List Value → Nat → List Value → List Value → Prop
  | zero {cs} : Put cs 0 [] cs
  | one {x cs u l r} : Put cs 0 l r → Put (x :: cs) 0 (u :: l) (u :: r)
  | skip {x cs j l r} : Put cs j l r → Put (x :: cs) (j + 1) l (x :: r)
theorem Put.parts {cs j l r} (h : Put cs j l r) : ∃ A o B, cs = A ++ o ++ B ∧ r = A ++ l ++ B ∧ A.length = j ∧ o.length = l.length := by
  induction h with
  | @zero cs => exact ⟨[], [], cs, by simp, by simp, rfl, rfl⟩
  | @one x cs u l r _ ih =>
    obtain ⟨A, o, B, rfl, rfl, hA, ho⟩ := ih
    have : A = [] := List.eq_nil_of_length_eq_zero hA
    subst this
    exact ⟨[], x :: o, B, by simp, by simp, rfl, by simp [ho]⟩
  | @skip x cs j l r _ ih =>
    obtain ⟨A, o, B, rfl, rfl, hA, ho⟩ := ih
    exact ⟨x :: A, o, B, by simp, by simp, by simp [hA], ho⟩
theorem storeAt_cells {P : Program} {t : TypeId} {n : Nat} (hs : (P.info? t).map (·.size) = some n) {w : World} {b o : Nat} {v : Value} {l : List Value} (hv : v.cells = l.toArray) (hl : l.length = n) (ht : w.there b o n) (h1 : l.all (·.oneCell') = true) :
    (Instr.storeAt t (.pointer (some ⟨b, o, none⟩)) v).run P w = .ok () (w.setCells b o l) := by
  subst hl
  have := run_storeCells_cells (P := P) b o l 0 w (fun j hj => by simpa using (ht j hj).1) (fun j hj => by simpa using (ht j hj).2) (fun v hv => List.all_eq_true.1 h1 v hv)
  simp only [Nat.add_zero] at this
  simp [Instr.storeAt, Instr.sureAddr, storeVar, size_of hs, hv, this]
theorem row_set {w : World} {g t o j : Nat} {A cs B l r : List Value} (h : (Pc.row g t o A cs B).P w) (hp : Put cs j l r) : (Pc.row g t o A r B).P (w.setCells g (o + j) l) ∧ Keep [g] w (w.setCells g (o + j) l) := by
  obtain ⟨rfl, h⟩ := h
  obtain ⟨X, y, Y, rfl, rfl, rfl, hy⟩ := hp.parts
  have h2 : Row w g t ((A ++ X) ++ y ++ (Y ++ B)) := by simpa using h
  have h3 := Row.put l y h2 (p := A.length + X.length) (by simp) hy.symm
  have hk := putCells_keep (g := g) l w (A.length + X.length)
  rw [putCells_eq w g l w] at h3 hk
  exact ⟨⟨rfl, by simpa using h3⟩, hk⟩
/-- what a function does, said of pieces: with those of A to read and those of M to write it returns v s, and the pieces N s hold -/
def Fn (P : Program) (f : FuncId) (args : List Value) (A M : List Pc) {σ : Type} (C : σ → Prop) (v : σ → Value) (N : σ → List Pc) : Prop :=
  ∀ w, Hol (M ++ A) w → Sep (M ++ A) → Calls P f args.toArray w fun e w' => ∃ s, C s ∧ e = .returned (v s) ∧ Hol (N s) w' ∧ Sep (N s) ∧ Keep (fp M) w w' ∧
    ∀ p ∈ N s, ∀ b ∈ p.F, w.heap.size ≤ b ∨ (∃ q ∈ M, b ∈ q.F) ∨ (p.mu = false ∧ ∃ q ∈ A, b ∈ q.F)
inductive Picks : List Pc → List Pc → List Pc → Prop
  | nil {H} : Picks H [] H
  | cons {H p R M S} : Pick H p R → Picks R M S → Picks H (p :: M) S
theorem Picks.st {G D w0 H M R w} (h : Picks H M R) : ∀ {X : List Pc}, St G D w0 (X ++ H) w → St G D w0 (X ++ (M ++ R)) w := by
  induction h with
  | nil => intro X s; simpa using s
  | @cons H p R M S hp _ ih =>
    intro X s
    have h1 : ∀ (X : List Pc), Pick (X ++ H) p (X ++ R) := by
      intro X; induction X with
      | nil => exact hp
      | cons x X ih => exact .there ih
    have h2 : ∀ (X : List Pc), Pick (X ++ (p :: (M ++ S))) p (X ++ (M ++ S)) := by
      intro X; induction X with
      | nil => exact .here
      | cons x X ih => exact .there ih
    have s1 := s.pick (h1 X)
    have s2 := ih (X := p :: X) (by simpa using s1)
    exact St.unpick (by simpa using s2) (h2 X)
inductive Mems : List Pc → List Pc → Prop
  | nil {H} : Mems [] H
  | cons {p A H} : p ∈ H → Mems A H → Mems (p :: A) H
theorem Mems.all {A H} (h : Mems A H) : ∀ p ∈ A, p ∈ H := by
  induction h with
  | nil => simp
  | cons h _ ih => intro q hq; rcases List.mem_cons.1 hq with rfl | hq; exact h; exact ih q hq
section
variable {c : Cx} {fr : Fr} {H : List Pc} {k : List It} {Φ : Gl} {ops : Array Oper} {rest : List Oper} {d : Nat} {o : Op} {ty : TypeId} {pos : String} {aft : Array Edge} {v u : Value} {x y : Operand}
theorem w_ef {o : Oper} (h : Ef c fr H o (.list k ops rest)) (hg : o.guard = none := by rfl) : T c fr H (.list k ops (o :: rest)) := .mk fun a w s g =>
  wpList_plain hg fun K hK => Oper.wp_mono hK (h.h _ a w s g)
theorem ef_yd {gd : Option (Nat × Bool)} (hy : Yd c.P c.n fr H o ty v) (hd : Nat.blt d c.n = true) (h : T c ((d, v) :: fr) H Φ) : Ef c fr H ⟨some d, o, ty, pos, aft, gd⟩ Φ := ef_of fun Q a w s g => by
  rw [hy.h a w (some d) pos aft gd g s.on]
  exact h.h _ _ s (g.put hd)
/-- one operation, wherever it stands -/
structure On (c : Cx) (fr : Fr) (H : List Pc) (od : Option Tmp) (o : Op) (ty : TypeId) (Φ : Gl) : Prop where
  h : ∀ pos aft gd, Ef c fr H ⟨od, o, ty, pos, aft, gd⟩ Φ
theorem wO {od : Option Tmp} (h : On c fr H od o ty (.list k ops rest)) : T c fr H (.list k ops (⟨od, o, ty, pos, aft, none⟩ :: rest)) := w_ef (h.h pos aft none)
theorem oc (hd : Nat.blt d c.n = true) (hy : Yd c.P c.n fr H o ty v) (h : T c ((d, v) :: fr) H Φ) : On c fr H (some d) o ty Φ := ⟨fun _ _ _ => ef_yd hy hd h⟩
/-! guards of a plain region -/
theorem wanted_eq {a : Act} {j t : Nat} {b b' : Bool} {od : Option Tmp} (ht : (ops[j]?).bind (·.dst) = some t) (hl : look fr t = some (.bool b')) (g : Ag c.n fr a) : Region.wanted ⟨od, o, ty, pos, aft, some (j, b)⟩ (yielded ops a.tmps) = (b' == b) := by
  simp only [Region.wanted, yielded, ht, Option.bind_some, g.at_ t _ hl]
  cases b <;> cases b' <;> rfl
theorem wg_t {j t : Nat} {b : Bool} {od : Option Tmp} (ht : (ops[j]?).bind (·.dst) = some t) (hl : look fr t = some (.bool b)) (h : T c fr H (.list k ops (⟨od, o, ty, pos, aft, none⟩ :: rest))) :
    T c fr H (.list k ops (⟨od, o, ty, pos, aft, some (j, b)⟩ :: rest)) := .mk fun a w s g => by
  have h1 := h.h a w s g
  simp only [Gl.sem] at h1 ⊢
  unfold wpList at h1 ⊢
  rw [wanted_eq (c := c) ht hl g]
  simp only [Region.wanted, if_true, beq_self_eq_true] at h1 ⊢
  exact h1
theorem wg_f {j t : Nat} {b b' : Bool} (ht : (ops[j]?).bind (·.dst) = some t) (hl : look fr t = some (.bool b')) (hb : (b' == b) = false) (hd : Nat.blt d c.n = true) (h : T c ((d, undef) :: fr) H (.list k ops rest)) :
    T c fr H (.list k ops (⟨some d, o, ty, pos, aft, some (j, b)⟩ :: rest)) := .mk fun a w s g => by
  simp only [Gl.sem]
  unfold wpList
  rw [wanted_eq (c := c) ht hl g, hb]
  simp only [Bool.false_eq_true, if_false]
  exact h.h _ _ s (g.put hd)
/-- a guard on an operation that was not carried out -/
theorem wg_u {j t : Nat} {b : Bool} (ht : (ops[j]?).bind (·.dst) = some t) (hl : look fr t = some undef) (hd : Nat.blt d c.n = true) (h : T c ((d, undef) :: fr) H (.list k ops rest)) :
    T c fr H (.list k ops (⟨some d, o, ty, pos, aft, some (j, b)⟩ :: rest)) := .mk fun a w s g => by
  have hw : Region.wanted ⟨some d, o, ty, pos, aft, some (j, b)⟩ (yielded ops a.tmps) = false := by
    simp only [Region.wanted, yielded, ht, Option.bind_some, g.at_ t _ hl]; rfl
  simp only [Gl.sem]
  unfold wpList
  rw [hw]
  simp only [Bool.false_eq_true, if_false]
  exact h.h _ _ s (g.put hd)
/-- a guard that parts the ways -/
theorem wg_if {j t : Nat} {b : Bool} {od : Option Tmp} {p : Prop} {_ : Decidable p} (ht : (ops[j]?).bind (·.dst) = some t) (hl : look fr t = some (.bool (decide p))) (h1 : p → T c ((t, .bool true) :: fr) H (.list k ops (⟨od, o, ty, pos, aft, some (j, b)⟩ :: rest))) (h2 : ¬ p → T c ((t, .bool false) :: fr) H (.list k ops (⟨od, o, ty, pos, aft, some (j, b)⟩ :: rest))) :
    T c fr H (.list k ops (⟨od, o, ty, pos, aft, some (j, b)⟩ :: rest)) := .mk fun a w s g => by
  by_cases hp : p
  · rw [decide_eq_true hp] at hl
    exact (h1 hp).h a w s ⟨g.df, g.sz, fun i z hz => by rw [look_cons] at hz; split at hz; (rename_i e; subst e; rw [← hz, g.at_ _ _ hl]); exact g.at_ i z hz⟩
  · rw [decide_eq_false hp] at hl
    exact (h2 hp).h a w s ⟨g.df, g.sz, fun i z hz => by rw [look_cons] at hz; split at hz; (rename_i e; subst e; rw [← hz, g.at_ _ _ hl]); exact g.at_ i z hz⟩
/-! memory -/
theorem ef_alloc {t : TypeId} {zs : List Value} {gd : Option (Nat × Bool)} [hZ : ZC c.P t zs] (h : ∀ g, T c ((d, ptr g 0 0) :: fr) (.row g t 0 [] zs [] :: H) Φ) (hd : Nat.blt d c.n = true := by rfl) : Ef c fr H ⟨some d, .alloc t, ty, pos, aft, gd⟩ Φ := ef_of fun Q a w s g => by
  obtain ⟨z, hz, hzc⟩ := hZ.z
  obtain ⟨i, hi, hiz⟩ := Option.map_eq_some_iff.1 hz
  have e : (execOp a.eval ⟨some d, .alloc t, ty, pos, aft, gd⟩).run c.P w = .ok (.value (ptr w.heap.size 0 0)) (w.alloc (.cells zs.toArray t)) := by
    simp [execOp, Instr.alloc, zeroValue, typeInfo, hi, hiz, newVar, newRow, hzc, ptr]
  rw [e]
  exact (h _).h _ _ (s.new t zs) (g.put hd)
theorem ef_box {t : TypeId} {l : List Value} {gd : Option (Nat × Bool)} (hx : ev fr x = some v) (hv : v.cells = l.toArray) (h : ∀ g, T c ((d, ptr g 0 0) :: fr) (.row g t 0 [] l [] :: H) Φ) (hd : Nat.blt d c.n = true := by rfl) : Ef c fr H ⟨some d, .box t x, ty, pos, aft, gd⟩ Φ := ef_of fun Q a w s g => by
  have e : (execOp a.eval ⟨some d, .box t x, ty, pos, aft, gd⟩).run c.P w = .ok (.value (ptr w.heap.size 0 0)) (w.alloc (.cells l.toArray t)) := by
    simp [execOp, Instr.box, g.ev hx, newVar, newRow, hv, ptr]
  rw [e]
  exact (h _).h _ _ (s.new t l) (g.put hd)
theorem ef_store {t g tt o' j m : Nat} {A cs B l r : List Value} {S : List Pc} {gd : Option (Nat × Bool)} (hs : (c.P.info? t).map (·.size) = some m) (hx : ev fr x = some (ptr g o' j)) (hy : ev fr y = some v) (hv : v.cells = l.toArray) (hl : l.length = m) (h1 : l.all (·.oneCell') = true)
    (hp : Put cs j l r) (hr : Rpl H (.row g tt o' A cs B) (.row g tt o' A r B) S) (h : T c fr S Φ) : Ef c fr H ⟨none, .store t x y, ty, pos, aft, gd⟩ Φ := ef_of fun Q a w s ag => by
  have hP : (Pc.row g tt o' A cs B).P w := by obtain ⟨R, h1, _⟩ := hr.picks; exact s.on _ h1.mem
  have ht : w.there g (o' + j) m := fun i hi => by
    obtain ⟨X, z, Y, rfl, -, rfl, hz⟩ := hp.parts
    have := row_there hP (X.length + i) (by simp; omega)
    rwa [← Nat.add_assoc] at this
  have e : (execOp a.eval ⟨none, .store t x y, ty, pos, aft, gd⟩).run c.P w = .ok .skip (w.setCells g (o' + j) l) := by
    simp [execOp, ag.ev hx, ag.ev hy, ptr, storeAt_cells hs hv hl ht h1]
  rw [e]
  have ⟨h2, h3⟩ := row_set hP hp
  exact h.h _ _ (s.rpl hr rfl (fun b hb => .inl hb) h3 h2) ag
theorem o_alloc {t : TypeId} {zs : List Value} [hZ : ZC c.P t zs] (hd : Nat.blt d c.n = true) (h : ∀ g, T c ((d, ptr g 0 0) :: fr) (.row g t 0 [] zs [] :: H) Φ) : On c fr H (some d) (.alloc t) ty Φ := ⟨fun _ _ _ => ef_alloc h hd⟩
theorem o_box {t : TypeId} {l : List Value} (hd : Nat.blt d c.n = true) (hx : ev fr x = some v) (hv : v.cells = l.toArray) (h : ∀ g, T c ((d, ptr g 0 0) :: fr) (.row g t 0 [] l [] :: H) Φ) : On c fr H (some d) (.box t x) ty Φ := ⟨fun _ _ _ => ef_box hx hv h hd⟩
theorem o_st {t g tt o' j m : Nat} {A cs B l r : List Value} {S : List Pc} (hx : ev fr x = some (ptr g o' j)) (hy : ev fr y = some v) (hv : v.cells = l.toArray) (hs : (c.P.info? t).map (·.size) = some m) (hl : l.length = m) (hr : Rpl H (.row g tt o' A cs B) (.row g tt o' A r B) S) (hp : Put cs j l r) (h1 : l.all (·.oneCell') = true) (h : T c fr S Φ) : On c fr H none (.store t x y) ty Φ :=
  ⟨fun _ _ _ => ef_store hs hx hy hv hl h1 hp hr h⟩
/-! calls -/
theorem cl_ef {f : Nat} {aS : List Operand} {ts : Array TypeId} {vs : List Value} {gd : Option (Nat × Bool)} (h : Cl c fr H d f vs Φ) (ha : Evs fr aS vs) (hb : bodyB c.P f = true) (hd : Nat.blt d c.n = true) : Ef c fr H ⟨some d, .call { callee := .value (.func f), args := aS.toArray, argTypes := ts }, ty, pos, aft, gd⟩ Φ := ef_of fun Q a w s g => by
  have e : (execOp a.eval ⟨some d, .call { callee := .value (.func f), args := aS.toArray, argTypes := ts }, ty, pos, aft, gd⟩).run c.P w = (callFunc f vs.toArray).run c.P w := by
    simp [execOp, resolve, Deferred.ofValue, Act.eval, invoke, g.evs ha]
  rw [e]
  obtain ⟨R, hc, hk⟩ := h.h w s
  refine (body_of hb).upon hc fun e w' hR => ?_
  obtain ⟨v, he, hv⟩ := hk e w' hR
  exact ⟨v, he, hv _ (g.put hd)⟩
theorem cl_of {f : Nat} {vs : List Value} {R : World → Ending → World → Prop} (hc : ∀ w, St c.G c.D c.w0 H w → Calls c.P f vs.toArray w (R w))
    (hk : ∀ w e w', St c.G c.D c.w0 H w → R w e w' → ∃ v, e = .returned v ∧ ∀ a, Ag c.n ((d, v) :: fr) a → Φ.sem c a w') : Cl c fr H d f vs Φ := ⟨fun w s => ⟨R w, hc w s, fun e w' hR => hk w e w' s hR⟩⟩
/-- a call that returns v; nothing that was there has turned -/
theorem cb {f : Nat} {vs : List Value} (hc : ∀ w, St c.G c.D c.w0 H w → Calls c.P f vs.toArray w fun e w' => e = .returned v ∧ Below w.heap.size w w') (h : T c ((d, v) :: fr) H Φ) : Cl c fr H d f vs Φ :=
  cl_of hc fun w e w' s ⟨he, hB⟩ => ⟨v, he, fun a g => h.h a w' (s.below hB) g⟩
/-- a call that returns v and leaves the world -/
theorem ce {f : Nat} {vs : List Value} (hc : ∀ w, St c.G c.D c.w0 H w → Calls c.P f vs.toArray w fun e w' => e = .returned v ∧ w = w') (h : T c ((d, v) :: fr) H Φ) : Cl c fr H d f vs Φ :=
  cl_of hc fun w e w' s ⟨he, hB⟩ => ⟨v, he, fun a g => h.h a w' (hB ▸ s) g⟩
theorem cf_ {f : Nat} {vs : List Value} {A M R : List Pc} {σ : Type} {C : σ → Prop} {vv : σ → Value} {N : σ → List Pc} (hf : Fn c.P f vs A M C vv N) (h : ∀ s, C s → T c ((d, vv s) :: fr) (N s ++ R) Φ)
    (hM : Picks H M R) (hA : Mems A R) (hmM : M.all (·.mu) = true) (hmA : A.all (fun p => !p.mu) = true) : Cl c fr H d f vs Φ :=
  have hMR : ∀ w, St c.G c.D c.w0 H w → St c.G c.D c.w0 (M ++ R) w := fun w s => by simpa using hM.st (X := []) (by simpa using s)
  have hmu : ∀ p ∈ M, p.mu = true := fun p hp => List.all_eq_true.1 hmM p hp
  have hro : ∀ p ∈ A, p.mu = false := fun p hp => by simpa using List.all_eq_true.1 hmA p hp
  have hpre : ∀ w, St c.G c.D c.w0 H w → Hol (M ++ A) w ∧ Sep (M ++ A) := fun w s => by
    have s2 := hMR w s
    have hAR := hA.all
    refine ⟨fun p hp => ?_, ?_⟩
    · rcases List.mem_append.1 hp with hp | hp
      · exact s2.on p (by simp [hp])
      · exact s2.on p (by simp [hAR p hp])
    · have : ∀ (M : List Pc), Sep (M ++ R) → Sep (M ++ A) := by
        intro M
        induction M with
        | nil =>
          intro _
          have : ∀ (A : List Pc), (∀ p ∈ A, p.mu = false) → Sep A := by
            intro A
            induction A with
            | nil => intro _; trivial
            | cons p A ih => intro h; exact ⟨fun q hq hm => by rw [h p (by simp), h q (by simp [hq])] at hm; simp at hm, ih fun q hq => h q (by simp [hq])⟩
          exact this A hro
        | cons p M ih =>
          intro hs
          exact ⟨fun q hq => hs.1 q (by rcases List.mem_append.1 hq with h | h; simp [h]; simp [hAR q h]), ih hs.2⟩
      exact this M s2.sep
  cl_of (R := fun w e w' => ∃ s, C s ∧ e = .returned (vv s) ∧ Hol (N s) w' ∧ Sep (N s) ∧ Keep (fp M) w w' ∧ ∀ p ∈ N s, ∀ b ∈ p.F, w.heap.size ≤ b ∨ (∃ q ∈ M, b ∈ q.F) ∨ (p.mu = false ∧ ∃ q ∈ A, b ∈ q.F))
    (fun w s => hf w (hpre w s).1 (hpre w s).2)
    (fun w e w' s ⟨z, hz, he, hN, hS, hK, hF⟩ => ⟨_, he, fun a g => (h z hz).h a w' (St.turn (hMR w s) (by rwa [List.filter_eq_self.2 hmu]) hN hS fun p hp b hb => by
      rcases hF p hp b hb with h | ⟨q, hq, hqb⟩ | ⟨hp, q, hq, hqb⟩
      · exact .inl h
      · exact .inr (.inl ⟨q, hq, hmu q hq, hqb⟩)
      · exact .inr (.inr ⟨hp, q, by simp [hA.all q hq], hro q hq, hqb⟩)) g⟩)
theorem o_call {f : Nat} {aS : List Operand} {ts : Array TypeId} {vs : List Value} (hd : Nat.blt d c.n = true) (hb : bodyB c.P f = true) (ha : Evs fr aS vs) (h : Cl c fr H d f vs Φ) : On c fr H (some d) (.call { callee := .value (.func f), args := aS.toArray, argTypes := ts }) ty Φ := ⟨fun _ _ _ => cl_ef h ha hb hd⟩
/-! a function's beginning and end -/
end
def FnPost (P : Program) (w : World) (A M : List Pc) {σ : Type} (C : σ → Prop) (v : σ → Value) (N : σ → List Pc) (e : Ending) (w' : World) : Prop := ∃ s, C s ∧ e = .returned (v s) ∧ Hol (N s) w' ∧ Sep (N s) ∧ Keep (fp M) w w' ∧
    ∀ p ∈ N s, ∀ b ∈ p.F, w.heap.size ≤ b ∨ (∃ q ∈ M, b ∈ q.F) ∨ (p.mu = false ∧ ∃ q ∈ A, b ∈ q.F)
def args0 : Nat → List Value → Fr
  | _, [] => []
  | i, v :: r => (i, v) :: args0 (i + 1) r
theorem look_args (vs : List Value) : ∀ i t v, look (args0 i vs) t = some v → i ≤ t ∧ vs[t - i]? = some v := by
  induction vs with
  | nil => intro i t v h; cases h
  | cons x r ih =>
    intro i t v h
    unfold args0 at h
    rw [look_cons] at h
    split at h
    · rename_i e; subst e; exact ⟨Nat.le_refl _, by simpa using h⟩
    · have ⟨h1, h2⟩ := ih (i + 1) t v h
      refine ⟨by omega, ?_⟩
      rw [show t - i = (t - (i + 1)) + 1 by omega, List.getElem?_cons_succ]; exact h2
theorem fn_enter {P : Program} {f : FuncId} {fn : Func} {cd : Code} {args : List Value} {A M : List Pc} {σ : Type} {C : σ → Prop} {v : σ → Value} {N : σ → List Pc} (hf : P.funcs[f]? = some fn) (hb : fn.body = some cd)
    (h : ∀ w, T ⟨P, fp M, fp A, w, fn.ntmps, bodyPost P fn (FnPost P w A M C v N)⟩ (args0 0 args) (M ++ A) (.code [] cd))
    (hn : args.length ≤ fn.ntmps) (hmA : A.all (fun p => !p.mu) = true) : Fn P f args A M C v N := fun w hH hS => by
  refine calls_of_wp hf hb ?_
  have hro : ∀ p ∈ A, p.mu = false := fun p hp => by simpa using List.all_eq_true.1 hmA p hp
  refine (h w).h _ _ ⟨Keep.refl _ _, hH, hS, fun p hp b hb => ?_⟩ ⟨rfl, by simp; omega, fun t u hu => ?_⟩
  · rcases List.mem_append.1 hp with hp | hp
    · exact .inl (mem_fp.2 ⟨p, hp, hb⟩)
    · exact .inr (.inr ⟨hro p hp, mem_fp.2 ⟨p, hp, hb⟩⟩)
  · obtain ⟨-, h2⟩ := look_args args 0 t u hu
    simp only [Nat.sub_zero] at h2
    show (args.toArray ++ Array.replicate (fn.ntmps - args.toArray.size) undef)[t]? = _
    have ht : t < args.length := (List.getElem?_eq_some_iff.1 h2).1
    rw [Array.getElem?_append_left (by simpa using ht)]
    simpa using h2
/-- what the results are -/
inductive Res (P : Program) (fr : Fr) (H : List Pc) : List ResultVar → List Value → Prop
  | nil : Res P fr H [] []
  | tmp {t v r vs} : look fr t = some v → Res P fr H r vs → Res P fr H (.tmp t :: r) (v :: vs)
  | agg {t ty m g o tt A cs B r vs} : AggC P ty m → look fr t = some (ptr g o 0) → Pc.row g tt o A cs B ∈ H → cs.length = m → Res P fr H r vs → Res P fr H (.cell t ty :: r) (.agg cs.toArray :: vs)
  | one {t ty g o tt A v B r vs} : OneC P ty → look fr t = some (ptr g o 0) → Pc.row g tt o A [v] B ∈ H → Res P fr H r vs → Res P fr H (.cell t ty :: r) (v :: vs)
theorem Cut.whole : ∀ (l : List Value), Cut l 0 l.length l
  | [] => .zero
  | _ :: r => .one (Cut.whole r)
theorem asAddr_ptr (x : Addr) : asAddr (.pointer (some x)) = pure x := rfl
theorem res_run {P : Program} {fr : Fr} {H : List Pc} {n : Nat} {rs vs} (f : ResultVar → Sem Value) {a : Act} (f1 : ∀ t, f (.tmp t) = pure (a.tmps.getD t undef)) (f2 : ∀ p t, f (.cell p t) = do loadVar t (← asAddr (a.tmps.getD p undef)))
    (h : Res P fr H rs vs) {w : World} (g : Ag n fr a) (hH : Hol H w) : (rs.mapM f).run P w = .ok vs w := by
  simp only [Array.getD_eq_getD_getElem?] at f1 f2
  induction h with
  | nil => simp
  | tmp hl _ ih => simp [List.mapM_cons, f1, g.at_ _ _ hl, ih]
  | @agg t ty m gg o tt A cs B r vs hT hl hm hc _ ih =>
    have h1 := load_agg (hT := hT) (j := 0) (row_range (hH _ hm)) (by rw [← hc]; exact Cut.whole cs)
    simp only [Instr.loadAt, Instr.sureAddr, Sem.run_bind, Sem.run_pure, Result.andThen_ok, Nat.add_zero] at h1
    simp [List.mapM_cons, f2, g.at_ _ _ hl, ptr, asAddr_ptr, h1, ih]
  | @one t ty gg o tt A v B r vs hT hl hm _ ih =>
    have h1 := load_one (hT := hT) (row_cell (j := 0) (hH _ hm) rfl)
    simp only [Instr.loadAt, Instr.sureAddr, Sem.run_bind, Sem.run_pure, Result.andThen_ok, Nat.add_zero] at h1
    simp [List.mapM_cons, f2, g.at_ _ _ hl, ptr, asAddr_ptr, h1, ih]
/-- one result bare, several aS a tuple -/
def tup : List Value → Value
  | [v] => v
  | vs => .tuple vs.toArray
theorem results_run {P : Program} {fr : Fr} {H : List Pc} {n : Nat} {fn : Func} {rs vs} (hr : fn.results = rs.toArray) (h : Res P fr H rs vs) {a : Act} {w : World} (g : Ag n fr a) (hH : Hol H w) : (results fn a.tmps).run P w = .ok (tup vs) w := by
  unfold results
  rw [hr]
  simp only [Sem.run_bind, Array.mapM_eq_mapM_toList]
  have : ∀ (f : ResultVar → Sem Value), (rs.mapM f).run P w = .ok vs w → ((List.toArray <$> rs.mapM f : Sem (Array Value))).run P w = .ok vs.toArray w := fun f hf => by
    simp [hf]
  refine (congrArg (fun x => Result.andThen x _) (this _ (res_run _ ?_ ?_ h g hH))).trans ?_
  · intro t; rfl
  · intro p t; rfl
  simp only [Result.andThen_ok, Sem.run_pure]
  congr 1
  match vs with
  | [] => rfl
  | [v] => rfl
  | v :: u :: r => simp [tup]
theorem fn_ret {P : Program} {fn : Func} {G D : List Nat} {w0 : World} {n : Nat} {A M : List Pc} {σ : Type} {C : σ → Prop} {v : σ → Value} {N : σ → List Pc} {fr : Fr} {H : List Pc} {rs : List ResultVar} {vs : List Value} (s : σ) (hC : C s)
    (hr : fn.results = rs.toArray) (h : Res P fr H rs vs) (hv : tup vs = v s) (hN : HSub H (N s)) (hG : G = fp M) (hD : D = fp A) : T ⟨P, G, D, w0, n, bodyPost P fn (FnPost P w0 A M C v N)⟩ fr H (.fin .ret) := .mk fun a w st g => by
  subst hG hD
  refine ⟨g.df, _, results_run hr h g st.on, s, hC, by rw [hv], ?_⟩
  have s2 := st.sub hN
  refine ⟨s2.on, s2.sep, s2.keep, fun p hp b hb => ?_⟩
  rcases s2.mine p hp b hb with h | h | ⟨h1, h⟩
  · exact .inr (.inl (mem_fp.1 h))
  · exact .inl h
  · exact .inr (.inr ⟨h1, mem_fp.1 h⟩)
end Go.Proofs.YtgogcgkocjpgoaaGreatDoor
/- Parts of slices that read. Plain: no program in sight. -/
namespace Go.Proofs.YtgogcgkocjpgoaaGreatDoor
open Go.RowKit
/-- 's[k:]' of a slice that reads: what it is, and that it reads -/
theorem Sl.dropS {P : Program} {α : Type} {E : Elem α} {w : World} {a : Option Addr} {n cap : Nat} {xs : List α} {F} (h : Sl E w (.slice a n cap) xs F) (t : TypeId) (ht : P.underlying t = some (.slice (P.elem t))) (k : Nat) (hk : k ≤ xs.length)
    (hs : ∀ W, (sizeOf (P.elem t)).run P W = .ok E.sz W) : ∃ a2 c2 F', (∀ W, (Instr.sliceAt t (.slice a n cap) (some (.int .i64 (k : Int))) none none).run P W = .ok (.slice a2 (xs.length - k) c2) W) ∧ (∀ b ∈ F', b ∈ F) ∧ Sl E w (.slice a2 (xs.length - k) c2) (xs.drop k) F' := by
  obtain ⟨a', cap', hv, hl, h⟩ := h
  cases hv
  have hrun : ∀ W, (Instr.sliceAt t (.slice a xs.length cap) (some (.int .i64 (k : Int))) none none).run P W = .ok (.slice (if cap = k then a else a.map (·.add (k * E.sz))) (xs.length - k) (cap - k)) W := fun W => by
    rw [run_sliceAt_slice (h := ht), run_slice_l (ht := ht) (h0 := by omega) (h1 := by omega), hs]; simp [Result.andThen, sliced]
  refine ⟨if cap = k then a else a.map (·.add (k * E.sz)), cap - k, ?_⟩
  rcases h with ⟨rfl, rfl, h0⟩ | ⟨b, off, F', rfl, hne, rfl, hc⟩
  · refine ⟨[], hrun, by simp, if cap = k then a else a.map (·.add (k * E.sz)), cap - k, by simp, ⟨by simp, by omega⟩, .inl ⟨by simp, rfl, fun e => ?_⟩⟩
    cases a with
    | none => rw [h0 rfl]; simp
    | some ad => split at e <;> simp at e
  · by_cases hkn : k = xs.length
    · subst hkn
      refine ⟨[], hrun, by simp, if cap = xs.length then some ⟨b, off, none⟩ else (some (⟨b, off, none⟩ : Addr)).map (·.add (xs.length * E.sz)), cap - xs.length, by simp, ⟨by simp, by omega⟩, .inl ⟨by simp, rfl, fun e => ?_⟩⟩
      split at e <;> simp at e
    · obtain ⟨cs, hf, hcs⟩ := hc.flat
      have e : xs = xs.take k ++ xs.drop k := by simp
      rw [e] at hf
      obtain ⟨c1, c2, G1, G2, rfl, rfl, h1, h2⟩ := hf.split
      have hl1 := h1.len
      have hck : ¬ cap = k := by omega
      rw [List.length_take, Nat.min_eq_left (by omega)] at hl1
      refine ⟨b :: G2, hrun, by intro x hx; simp at hx ⊢; rcases hx with hx | hx <;> simp [hx], some ⟨b, off + k * E.sz, none⟩, cap - k, ?_, ⟨by simp; omega, by omega⟩, .inr ⟨b, off + k * E.sz, G2, rfl, fun e => ?_, rfl, h2.cells fun j u hu => ?_⟩⟩
      · rw [if_neg hck]; simp only [Option.map_some, Addr.add, List.length_drop, Value.slice.injEq, Option.some.injEq, and_true, true_and]
        by_cases h0 : k * E.sz = 0 <;> simp [h0]
      · have := congrArg List.length e; simp at this; omega
      · have := hcs (c1.length + j) u (by rw [List.getElem?_append_right (by omega), show c1.length + j - c1.length = j by omega]; exact hu)
        rw [← this, hl1]; congr 2; omega
end Go.Proofs.YtgogcgkocjpgoaaGreatDoor
/- The rules as walks use them, with the tactics that close their side conditions; parts of slices; appending; regions that draw their order. Plain: no program in sight. -/
namespace Go.Proofs.YtgogcgkocjpgoaaGreatDoor
open Go.RowKit
theorem memE {p : Pc} {H : List Pc} (h : p ∈ H := by (repeat (first | exact .head _ | apply List.Mem.tail)); first | done | fail) : p ∈ H := h
theorem cutE {l : List Value} {j m : Nat} {r : List Value} (h : Cut l j m r := by repeat constructor) : Cut l j m r := h
theorem putE {l r s : List Value} {j : Nat} (h : Put l j r s := by first | exact .one .zero | repeat constructor) : Put l j r s := h
theorem evsE {fr : Fr} {aS : List Operand} {vs : List Value} (h : Evs fr aS vs := by repeat (first | exact Evs.nil | apply Evs.cons (by rfl))) : Evs fr aS vs := h
theorem rplE {H S : List Pc} {p q : Pc} (h : Rpl H p q S := by (repeat (first | exact .here | apply Rpl.there)); first | done | fail) : Rpl H p q S := h
theorem picksE {H M R : List Pc} (h : Picks H M R := by repeat (first | exact Picks.nil | apply Picks.cons (by (repeat (first | exact .here | apply Pick.there)); first | done | fail))) : Picks H M R := h
theorem frE {a b : Fr} (h : FrSub a b := by repeat (first | exact FrSub.nil | refine FrSub.cons (by rfl) ?_)) : FrSub a b := h
theorem foldl_put (l : List Value) : ∀ (k off : Nat) (A o B : List Value), A.length = off + k → o.length = l.length → (l.zipIdx k).foldl (fun (cs : Array Value) (x : Value × Nat) => cs.setIfInBounds (off + x.2) x.1) (A ++ o ++ B).toArray = (A ++ l ++ B).toArray := by
  induction l with
  | nil => intro k off A o B _ ho; simp at ho; subst ho; simp
  | cons u r ih =>
    intro k off A o B hA ho
    cases o with
    | nil => simp at ho
    | cons z o =>
      rw [List.zipIdx_cons, List.foldl_cons]
      have h4 : (A ++ (z :: o) ++ B).toArray.setIfInBounds (off + k) u = ((A ++ [u]) ++ o ++ B).toArray := by
        rw [← hA]; simp [List.set_append]
      show List.foldl _ ((A ++ (z :: o) ++ B).toArray.setIfInBounds (off + k) u) _ = _
      rw [h4, ih (k + 1) off (A ++ [u]) o B (by simp; omega) (by simpa using ho)]; simp
/-- parts go to their places -/
inductive Fil (pl : Nat → Option (Nat × Nat)) (fr : Fr) : List Value → List (Nat × Operand) → List Value → Prop
  | nil {cs} : Fil pl fr cs [] cs
  | cons {cs i x ps v l off r q} : ev fr x = some v → v.cells = l.toArray → pl i = some (off, l.length) → Put cs off l r → Fil pl fr r ps q → Fil pl fr cs ((i, x) :: ps) q
theorem Fil.run {pl : Nat → Option (Nat × Nat)} {fr : Fr} {n : Nat} {cs q : List Value} {ps : List (Nat × Operand)} (h : Fil pl fr cs ps q) {a : Act} (g : Ag n fr a) : Instr.fill pl cs.toArray (ps.map fun (i, x) => (i, a.eval x)) = some q.toArray := by
  induction h with
  | nil => rfl
  | @cons cs i x ps v l off r q hx hv hp hput _ ih =>
    obtain ⟨A, o, B, rfl, rfl, rfl, ho⟩ := hput.parts
    rw [List.map_cons]
    unfold Instr.fill
    simp only [hp, g.ev hx, hv]
    have h1 : ¬ ((l.toArray.size ≠ l.length) ∨ (A.length + l.toArray.size > (A ++ o ++ B).toArray.size)) := by simp; omega
    rw [if_neg (by simpa using h1)]
    have h2 : l.toArray.zipIdx.foldl (fun (cs : Array Value) (x : Value × Nat) => cs.setIfInBounds (A.length + x.2) x.1) (A ++ o ++ B).toArray = (A ++ l ++ B).toArray := by
      rw [← Array.foldl_toList]
      have := foldl_put l 0 A.length A o B rfl ho
      simpa using this
    rw [h2]; exact ih
theorem filE {pl : Nat → Option (Nat × Nat)} {fr : Fr} {cs q : List Value} {ps : List (Nat × Operand)} (h : Fil pl fr cs ps q := by repeat (first | exact Fil.nil | apply Fil.cons (by rfl) (by rfl) (by rfl) (by repeat constructor))) : Fil pl fr cs ps q := h
theorem yd_bd {P : Program} {n : Nat} {fr : Fr} {H : List Pc} {ty : TypeId} {t : Nat} {pl : List (Nat × Nat)} {zs q : List Value} {ps : List (Nat × Operand)} [hB : BldC P t pl zs] (hf : Fil (pl.toArray[·]?) fr zs ps q) : Yd P n fr H (.build t ps.toArray) ty (.agg q.toArray) := .mk fun a w d pos aft gd g _ => by
  have h3 := hf.run g
  have h4 := run_build (P := P) w t (ps.map fun (i, x) => (i, a.eval x)).toArray q.toArray (by rw [hB.b]; exact h3)
  simp only [List.map_toArray] at h4
  simp [execOp, h4]
theorem ydE {P : Program} {n : Nat} {fr : Fr} {H : List Pc} {o : Op} {ty : TypeId} {v : Value} (h : Yd P n fr H o ty v := by first | (apply yd_move; rfl) | (apply yd_assign; rfl) | (apply yd_nil; rfl) | (apply yd_fa; rfl) | (apply yd_ld; rfl; exact memE; rfl) | (apply yd_ldc; rfl; exact memE; rfl) | (apply yd_lda; rfl; exact memE; exact cutE) | (apply yd_ldac; rfl; exact memE; exact cutE) | (apply yd_pick_t; rfl; rfl) | (apply yd_pick_f; rfl; rfl) | (apply yd_len; rfl) | (apply yd_lens; rfl) | (apply yd_ex; rfl; rfl) | (apply yd_fld; rfl; rfl) | (apply yd_flda; rfl; exact cutE) | (apply yd_lt; rfl; rfl) | (apply yd_le; rfl; rfl) | (apply yd_gt; rfl; rfl) | (apply yd_ge; rfl; rfl) | (apply yd_eq; rfl; rfl) | (apply yd_ne; rfl; rfl) | (apply yd_add; rfl; rfl; omega; omega) | (apply yd_sub; rfl; rfl; omega; omega) | (apply yd_eqs; rfl; rfl) | (apply yd_nes; rfl; rfl) | (apply yd_cat; rfl; rfl; omega) | (apply yd_notd; rfl) | (apply yd_not; rfl) | (apply yd_neg; rfl; omega; omega) | (apply yd_ix; rfl; rfl; omega; omega) | (apply yd_ixs; rfl; rfl; omega; omega) | (apply yd_quo; rfl; rfl; omega; omega; omega) | (apply yd_rem; rfl; rfl; omega; omega) | (apply yd_mul; rfl; rfl; omega; omega) | (apply yd_cv; rfl; omega; omega) | (apply yd_eqb; rfl; rfl) | (apply yd_neb; rfl; rfl) | (apply yd_fn; exact evsE) | (apply yd_nilf; rfl) | (apply yd_min; rfl; rfl) | (apply yd_max; rfl; rfl) | (apply yd_bd; exact filE)) : Yd P n fr H o ty v := h
section
variable {c : Cx} {fr : Fr} {H : List Pc} {k : List It} {Φ : Gl} {ops : Array Oper} {rest : List Oper} {d : Nat} {o : Op} {ty : TypeId} {pos : String} {aft : Array Edge} {v u : Value} {x y : Operand}
theorem wc (h : T c ((d, v) :: fr) H (.list k ops rest)) (hy : Yd c.P c.n fr H o ty v := by first | (apply yd_move; rfl) | (apply yd_assign; rfl) | (apply yd_nil; rfl) | (apply yd_fa; rfl) | (apply yd_ld; rfl; exact memE; rfl) | (apply yd_ldc; rfl; exact memE; rfl) | (apply yd_lda; rfl; exact memE; exact cutE) | (apply yd_ldac; rfl; exact memE; exact cutE) | (apply yd_pick_t; rfl; rfl) | (apply yd_pick_f; rfl; rfl) | (apply yd_len; rfl) | (apply yd_lens; rfl) | (apply yd_ex; rfl; rfl) | (apply yd_fld; rfl; rfl) | (apply yd_flda; rfl; exact cutE) | (apply yd_lt; rfl; rfl) | (apply yd_le; rfl; rfl) | (apply yd_gt; rfl; rfl) | (apply yd_ge; rfl; rfl) | (apply yd_eq; rfl; rfl) | (apply yd_ne; rfl; rfl) | (apply yd_add; rfl; rfl; omega; omega) | (apply yd_sub; rfl; rfl; omega; omega) | (apply yd_eqs; rfl; rfl) | (apply yd_nes; rfl; rfl) | (apply yd_cat; rfl; rfl; omega) | (apply yd_notd; rfl) | (apply yd_not; rfl) | (apply yd_neg; rfl; omega; omega) | (apply yd_ix; rfl; rfl; omega; omega) | (apply yd_ixs; rfl; rfl; omega; omega) | (apply yd_quo; rfl; rfl; omega; omega; omega) | (apply yd_rem; rfl; rfl; omega; omega) | (apply yd_mul; rfl; rfl; omega; omega) | (apply yd_cv; rfl; omega; omega) | (apply yd_eqb; rfl; rfl) | (apply yd_neb; rfl; rfl) | (apply yd_fn; exact evsE) | (apply yd_nilf; rfl) | (apply yd_min; rfl; rfl) | (apply yd_max; rfl; rfl) | (apply yd_bd; exact filE)) (hd : Nat.blt d c.n = true := by rfl) : T c fr H (.list k ops (⟨some d, o, ty, pos, aft, none⟩ :: rest)) := w_ef (ef_yd hy hd h)
theorem st {t g tt o' j m : Nat} {A cs B l r : List Value} {S : List Pc} {gd : Option (Nat × Bool)} (h : T c fr S Φ) (hx : ev fr x = some (ptr g o' j) := by rfl) (hy : ev fr y = some v := by rfl) (hv : v.cells = l.toArray := by rfl) (hs : (c.P.info? t).map (·.size) = some m := by first | exact AggC.s | exact OneC.s) (hl : l.length = m := by rfl)
    (hr : Rpl H (.row g tt o' A cs B) (.row g tt o' A r B) S := by (repeat (first | exact .here | apply Rpl.there)); first | done | fail) (hp : Put cs j l r := by first | exact .one .zero | repeat constructor) (h1 : l.all (·.oneCell') = true := by rfl) : Ef c fr H ⟨none, .store t x y, ty, pos, aft, gd⟩ Φ := ef_store hs hx hy hv hl h1 hp hr h
theorem cf {f : Nat} {vs : List Value} {A M R : List Pc} {σ : Type} {C : σ → Prop} {vv : σ → Value} {N : σ → List Pc} (hf : Fn c.P f vs A M C vv N) (h : ∀ s, C s → T c ((d, vv s) :: fr) (N s ++ R) Φ)
    (hM : Picks H M R := by repeat (first | exact Picks.nil | apply Picks.cons (by (repeat (first | exact .here | apply Pick.there)); first | done | fail))) (hA : Mems A R := by repeat (first | exact Mems.nil | refine Mems.cons (by (repeat (first | exact .head _ | apply List.Mem.tail)); first | done | fail) ?_)) (hmM : M.all (·.mu) = true := by rfl) (hmA : A.all (fun p => !p.mu) = true := by rfl) : Cl c fr H d f vs Φ := cf_ hf h hM hA hmM hmA
/-- lists put together -/
inductive AppL : List Pc → List Pc → List Pc → Prop
  | nil {R} : AppL [] R R
  | cons {p N R X} : AppL N R X → AppL (p :: N) R (p :: X)
theorem AppL.eq {N R X} (h : AppL N R X) : N ++ R = X := by
  induction h with
  | nil => rfl
  | cons _ ih => simp [ih]
theorem t_app {N R X : List Pc} (h : T c fr X Φ) (hX : AppL N R X := by repeat constructor) : T c fr (N ++ R) Φ := by rw [hX.eq]; exact h
theorem St.ro {G D w0 w} {p q : Pc} (s : St G D w0 H w) (hq : q ∈ H) (hm : q.mu = false) (hpm : p.mu = false) (hp : p.P w) (hF : ∀ b ∈ p.F, b ∈ q.F) : St G D w0 (p :: H) w :=
  s.add (N := [p]) (Below.refl _ _) (by intro x hx; simp at hx; subst hx; exact hp) ⟨by simp, trivial⟩ (by intro x hx b hb; simp at hx; subst hx; exact .inr ⟨hpm, q, hq, hm, hF b hb⟩)
theorem St.conv {G D w0 w} {p q : Pc} {S : List Pc} (s : St G D w0 (p :: S) w) (hm : p.mu = true) (hq : q.P w) (hF : ∀ b ∈ q.F, b ∈ p.F) : St G D w0 (q :: S) w :=
  St.turn (M := [p]) (N := [q]) s (Keep.refl _ w) (by intro x hx; simp at hx; subst hx; exact hq) ⟨by simp, trivial⟩ (by intro x hx b hb; simp at hx; subst hx; exact .inr (.inl ⟨p, by simp, hm, hF b hb⟩))
/-! elements, parts of slices that read -/
/-- what holds of element i: its cells lie there -/
theorem sl_at {α : Type} {E : Elem α} {w : World} {a : Option Addr} {n cp : Nat} {xs : List α} {F : List Nat} (h : (Pc.sl E (.slice a n cp) xs F).P w) (i : Nat) (hi : i < xs.length) :
    ∃ b o cs G, a = some ⟨b, o, none⟩ ∧ E.rep w cs xs[i] G ∧ (∀ x ∈ G, x ∈ F) ∧ b ∈ F ∧ cs ≠ [] ∧ w.rangeAt b (o + i * E.sz) cs := by
  obtain ⟨hz, a', cap, hv, hl, h | ⟨b, o, F', rfl, hne, rfl, hc⟩⟩ := h
  · rw [h.1] at hi; simp at hi
  · simp only [Value.slice.injEq] at hv
    obtain ⟨rfl, -, -⟩ := hv
    obtain ⟨cs, F1, h1, h2, h3⟩ := hc.get i hi
    have hl := E.len h1
    refine ⟨b, o, cs, F1, rfl, h1, fun x hx => by simp [h3 x hx], by simp, fun e => by subst e; simp at hl; omega, fun j u hu => ?_⟩
    have hj : j < E.sz := by have := (List.getElem?_eq_some_iff.1 hu).1; omega
    rw [h2 j hj]; exact hu
theorem at_int {a : Option Addr} {n cp : Nat} {xs : List Int} {F : List Nat} (i : Nat) (h : ∀ (hi : i < xs.length) b o, a = some ⟨b, o, none⟩ → T c fr (.cel b (o + i * 1) [.int .i64 xs[i]] :: H) Φ) (hm : .sl EInt (.slice a n cp) xs F ∈ H := by (repeat (first | exact .head _ | apply List.Mem.tail)); first | done | fail) (hi : i < xs.length := by omega) : T c fr H Φ := .mk fun ac w s g => by
  obtain ⟨b, o, cs, G, ha, ⟨rfl, rfl⟩, -, hb, hne, hr⟩ := sl_at (s.get hm) i hi
  exact (h hi b o ha).h ac w (s.ro hm rfl rfl ⟨hne, hr⟩ (by intro x hx; simp [Pc.F] at hx; subst hx; exact hb)) g
theorem at_str {a : Option Addr} {n cp : Nat} {xs : List ByteArray} {F : List Nat} (i : Nat) (h : ∀ (hi : i < xs.length) b o, a = some ⟨b, o, none⟩ → xs[i].size ≤ maxLen → T c fr (.cel b (o + i * 1) [.string xs[i]] :: H) Φ) (hm : .sl EStr (.slice a n cp) xs F ∈ H := by (repeat (first | exact .head _ | apply List.Mem.tail)); first | done | fail) (hi : i < xs.length := by omega) : T c fr H Φ := .mk fun ac w s g => by
  obtain ⟨b, o, cs, G, ha, ⟨rfl, hs, rfl⟩, -, hb, hne, hr⟩ := sl_at (s.get hm) i hi
  exact (h hi b o ha hs).h ac w (s.ro hm rfl rfl ⟨hne, hr⟩ (by intro x hx; simp [Pc.F] at hx; subst hx; exact hb)) g
/-- an owned slice may be read aS one -/
theorem t_read {α : Type} {E : Elem α} {t : TypeId} {v : Value} {xs : List α} {F : List Nat} {S : List Pc} (h : ∀ F', T c fr (.sl E v xs F' :: S) Φ) (hp : Pick H (.ow E t v xs F) S := by (repeat (first | exact .here | apply Pick.there)); first | done | fail) (hz : 0 < E.sz := by decide) : T c fr H Φ := .mk fun a w s g => by
  have s1 := s.pick hp
  obtain ⟨-, ho⟩ := s1.on (.ow E t v xs F) (by simp)
  obtain ⟨F', hF, hs⟩ := ho.read
  exact (h F').h a w (s1.conv rfl ⟨hz, hs⟩ hF) g
/-- the empty slice is owned -/
theorem t_nilow {α : Type} (E : Elem α) (t : TypeId) (h : T c fr (.ow E t (.slice none 0 0) [] [] :: H) Φ) : T c fr H Φ := .mk fun a w s g =>
  h.h a w (s.add (N := [.ow E t (.slice none 0 0) [] []]) (Below.refl _ _) (by intro p hp; simp at hp; subst hp; exact ⟨by simp, .inl ⟨rfl, rfl, rfl⟩⟩) ⟨by simp, trivial⟩ (by intro p hp b hb; simp at hp; subst hp; simp [Pc.F] at hb)) g
theorem t_nilsl {α : Type} (E : Elem α) (hz : 0 < E.sz) (h : T c fr (.sl E (.slice none 0 0) [] [] :: H) Φ) : T c fr H Φ := .mk fun a w s g =>
  h.h a w (s.add (N := [.sl E (.slice none 0 0) [] []]) (Below.refl _ _) (by intro p hp; simp at hp; subst hp; exact ⟨hz, none, 0, rfl, ⟨Nat.le_refl _, by unfold maxLen; omega⟩, .inl ⟨rfl, rfl, fun _ => rfl⟩⟩) ⟨by simp, trivial⟩ (by intro p hp b hb; simp at hp; subst hp; simp [Pc.F] at hb)) g
/-- a row of no cells is an empty owned slice -/
theorem t_emp {α : Type} (E : Elem α) {t g : Nat} {S : List Pc} (h : T c fr (.ow E t (.slice (some ⟨g, 0, none⟩) 0 0) [] [g] :: S) Φ) (hp : Pick H (.row g t 0 [] [] []) S := by (repeat (first | exact .here | apply Pick.there)); first | done | fail) : T c fr H Φ := .mk fun a w s ag => by
  have s1 := s.pick hp
  obtain ⟨-, hr⟩ := s1.on (.row g t 0 [] [] []) (by simp)
  exact h.h a w (s1.conv rfl ⟨by simp, Ow.empty (by simpa using hr)⟩ (fun b hb => hb)) ag
/-- an empty slice is built -/
theorem bs0 {t e m : Nat} {gd : Option (Nat × Bool)} [hS : SlC c.P t e m] (h : ∀ g, T c ((d, .slice (some ⟨g, 0, none⟩) 0 0) :: fr) (.row g e 0 [] [] [] :: H) Φ) (hd : Nat.blt d c.n = true := by rfl) : Ef c fr H ⟨some d, .buildSlice t 0 #[], ty, pos, aft, gd⟩ Φ := ef_of fun Q a w s g => by
  have e1 : (execOp a.eval ⟨some d, .buildSlice t 0 #[], ty, pos, aft, gd⟩).run c.P w = .ok (.value (.slice (some ⟨w.heap.size, 0, none⟩) 0 0)) (w.alloc (.cells #[] e)) := by
    simp [execOp, Instr.buildSlice, run_underlying hS.u, size_of hS.s, Instr.fill, newRow, Array.range_zero']
  rw [e1]
  exact (h _).h _ _ (s.new e []) (g.put hd)
inductive AppV : List Value → List Value → List Value → Prop
  | nil {r} : AppV [] r r
  | cons {u l r q} : AppV l r q → AppV (u :: l) r (u :: q)
theorem AppV.eq {l r q} (h : AppV l r q) : l ++ r = q := by
  induction h with
  | nil => rfl
  | cons _ ih => simp [ih]
inductive Rpt (zs : List Value) : Nat → List Value → Prop
  | zero : Rpt zs 0 []
  | succ {n r q} : Rpt zs n r → AppV zs r q → Rpt zs (n + 1) q
theorem Rpt.eq {zs : List Value} {n q} (h : Rpt zs n q) : q = (List.replicate n zs).flatten := by
  induction h with
  | zero => rfl
  | succ _ h2 ih => rw [← h2.eq, ih, List.replicate_succ, List.flatten_cons]
/-- a slice's literal -/
theorem bs {t e m b len : Nat} {z : Value} {zs cs q : List Value} {ps : List (Nat × Operand)} {gd : Option (Nat × Bool)} [hS : SlC c.P t e m] [hE : ElT c.P e z m b] [hZ : ZC c.P e zs] (h : ∀ g, T c ((d, .slice (some ⟨g, 0, none⟩) len len) :: fr) (.row g e 0 [] q [] :: H) Φ)
    (hc : Rpt zs len cs := by repeat constructor) (hf : Fil (fun i => some (i * m, m)) fr cs ps q := by repeat (first | exact Fil.nil | apply Fil.cons (by rfl) (by rfl) (by rfl) (by repeat constructor))) (hl : Nat.ble (len * m) 1000 = true := by rfl) (hm : Nat.blt 0 m = true := by rfl) (hlen : Nat.blt 0 len = true := by rfl) (hd : Nat.blt d c.n = true := by rfl) :
    Ef c fr H ⟨some d, .buildSlice t len ps.toArray, ty, pos, aft, gd⟩ Φ := ef_of fun Q a w s g => by
  have hm0 : m ≠ 0 := by have : 0 < m := by simpa using hm
                         omega
  have hlen0 : len ≠ 0 := by have : 0 < len := by simpa using hlen
                             omega
  have hl2 : len * m ≤ 1000 := by simpa using hl
  obtain ⟨i, hi, hz⟩ := Option.map_eq_some_iff.1 hE.i
  simp only [Prod.mk.injEq] at hz
  obtain ⟨hz, hs, -⟩ := hz
  obtain ⟨z', hz', hzc⟩ := hZ.z
  obtain rfl : z' = z := by rw [hi] at hz'; simp [hz] at hz'; exact hz'.symm
  have hzl : zs.length = m := by have := hE.s; rw [hzc] at this; simpa using this
  have e2 : ((Array.range (len * m)).map (zs.toArray[· % zs.toArray.size]!)) = cs.toArray := by
    have := madeCells_flat zs.toArray len
    rw [hc.eq]
    apply Array.ext'
    rw [show zs.toArray.size = m from by simp [hzl]] at this
    simpa [madeCells] using this
  have e1 : (execOp a.eval ⟨some d, .buildSlice t len ps.toArray, ty, pos, aft, gd⟩).run c.P w = .ok (.value (.slice (some ⟨w.heap.size, 0, none⟩) len len)) (w.alloc (.cells q.toArray e)) := by
    have h3 := hf.run g
    have hne : ¬ (len * m = 0) := Nat.mul_ne_zero hlen0 hm0
    have hns : ¬ (len * m > 2 ^ 24) := by omega
    have hzv : (zeroValue e).run c.P w = .ok z' w := by simp [zeroValue, typeInfo, hi, hz]
    simp only [execOp, Instr.buildSlice, Sem.run_bind, run_underlying hS.u, size_of hS.s, Result.andThen_ok, if_neg hns, if_neg hne, hzv, hzc, Sem.run_pure, Sem.run_ite, e2]
    simp only [List.map_toArray, h3, newRow, Sem.run_bind, run_newObj_alloc, Result.andThen_ok, Sem.run_pure]
  rw [e1]
  exact (h _).h _ _ (s.new e q) (g.put hd)
theorem o_bs0 {t e m : Nat} [SlC c.P t e m] (hd : Nat.blt d c.n = true) (h : ∀ g, T c ((d, .slice (some ⟨g, 0, none⟩) 0 0) :: fr) (.row g e 0 [] [] [] :: H) Φ) : On c fr H (some d) (.buildSlice t 0 #[]) ty Φ := ⟨fun _ _ _ => bs0 h hd⟩
theorem rptE {zs : List Value} {n : Nat} {q : List Value} (h : Rpt zs n q := by repeat constructor) : Rpt zs n q := h
theorem o_bs {t e m b len : Nat} {z : Value} {zs cs q : List Value} {ps : List (Nat × Operand)} [SlC c.P t e m] [ElT c.P e z m b] [ZC c.P e zs] (hd : Nat.blt d c.n = true) (hlen : Nat.blt 0 len = true) (hm : Nat.blt 0 m = true) (hl : Nat.ble (len * m) 1000 = true) (hc : Rpt zs len cs) (hf : Fil (fun i => some (i * m, m)) fr cs ps q) (h : ∀ g, T c ((d, .slice (some ⟨g, 0, none⟩) len len) :: fr) (.row g e 0 [] q [] :: H) Φ) :
    On c fr H (some d) (.buildSlice t len ps.toArray) ty Φ := ⟨fun _ _ _ => bs h hc hf hl hm hlen hd⟩
end
end Go.Proofs.YtgogcgkocjpgoaaGreatDoor
/- Appending, parts of slices, regions that draw their order, a function's beginning and end: as walks use them. Plain: no program in sight. -/
namespace Go.Proofs.YtgogcgkocjpgoaaGreatDoor
open Go.RowKit
/-- two parts of a list without repeats stand apart -/
theorem nodup_apt {A B : List Nat} (h : (A ++ B).Nodup) {b : Nat} (ha : b ∈ A) (hb : b ∈ B) : False := (List.nodup_append.1 h).2.2 b ha b hb rfl
section
variable {c : Cx} {fr : Fr} {H : List Pc} {k : List It} {Φ : Gl} {ops : Array Oper} {rest : List Oper} {d : Nat} {o : Op} {ty : TypeId} {pos : String} {aft : Array Edge} {v u : Value} {x y : Operand}
theorem ap {α : Type} {E : Elem α} {t e m b : Nat} {z : Value} [hS : SlC c.P t e m] [hE : ElT c.P e z m b] {xs ys : List α} {F Fy : List Nat} {ao : Option Addr} {n cp : Nat} {gd : Option (Nat × Bool)} {R S : List Pc} (one : One E) (hz : 0 < E.sz) (hm : E.sz = m)
    (hp : Pick H (.ow E e v xs F) R) (hx : ev fr x = some v) (hy : ev fr y = some (.slice ao n cp)) (hn : n = ys.length)
    (hsrc : ∀ w, St c.G c.D c.w0 (.ow E e v xs F :: R) w → ∃ news, Flat E w news ys Fy ∧ ((ao = none ∧ cp = 0 ∧ ys = []) ∨ ∃ ad, ao = some ad ∧ ∀ j u, news[j]? = some u → w.cell? (ad.add j) = some u) ∧ (∀ b ∈ Fy, b ∉ F) ∧ Fy.Nodup)
    (hFy : ∀ w v' F', St c.G c.D c.w0 (.ow E e v xs F :: R) w → (∀ b ∈ F', b ∈ F ∨ b ∈ Fy ∨ b = w.heap.size) → ∀ w', Keep F w w' → (Pc.ow E e v' (xs ++ ys) F').P w' → St c.G c.D c.w0 (.ow E e v' (xs ++ ys) F' :: S) w')
    (h63 : xs.length + ys.length ≤ maxLen) (hby : (xs.length + ys.length) * b ≤ 140737488355328)
    (h : ∀ a' c' F', T c ((d, .slice a' (xs ++ ys).length c') :: fr) (.ow E e (.slice a' (xs ++ ys).length c') (xs ++ ys) F' :: S) Φ) (hd : Nat.blt d c.n = true) :
    Ef c fr H ⟨some d, .call { callee := .builtin .append, args := #[x, y], argTypes := #[t, t] }, ty, pos, aft, gd⟩ Φ := .mk fun Q a w s g => by
  have s1 := s.pick hp
  obtain ⟨hnd, how⟩ := s1.on (.ow E e v xs F) (by simp)
  obtain ⟨news, hfl, hsr, hdis, hny⟩ := hsrc w s1
  subst hn
  refine wp_apd (P := c.P) one hz x y t rfl e z b hS.u (by rw [hE.i, hm]) (by rw [hE.s, hm]) v xs F (g.ev hx) how (Hd.of hnd) ao ys cp (g.ev hy) news Fy hfl hsr (fun b hb e => hdis b hb (how.own_mem b e)) h63 hby fun v' w' F' hA => ?_
  obtain ⟨a', c', rfl⟩ := hA.val
  rw [← List.length_append] at hA ⊢
  have hw := hA.ow
  exact (h a' c' F').h _ _ (hFy w _ F' s1 hA.mem w' hA.keep ⟨hA.nodup hnd hny hdis, hw⟩) (g.put hd)
/-- what is appended lies in a row of our own -/
theorem ap1 {α : Type} {E : Elem α} {t e m b : Nat} {z : Value} [hS : SlC c.P t e m] [hE : ElT c.P e z m b] {xs ys : List α} {F : List Nat} {g n cp tt : Nat} {cs : List Value} {R S : List Pc}
    (hfl : ∀ w, Flat E w cs ys []) (one : One E) (h : ∀ a' c' F', T c ((d, .slice a' (xs ++ ys).length c') :: fr) (.ow E e (.slice a' (xs ++ ys).length c') (xs ++ ys) F' :: S) Φ)
    (hx : ev fr x = some v := by rfl) (hy : ev fr y = some (.slice (some ⟨g, 0, none⟩) n cp) := by rfl) (hp : Pick H (.ow E e v xs F) R := by (repeat (first | exact .here | apply Pick.there)); first | done | fail) (hp2 : Pick R (.row g tt 0 [] cs []) S := by (repeat (first | exact .here | apply Pick.there)); first | done | fail) (hn : n = ys.length := by rfl) (hz : 0 < E.sz := by decide) (hm : E.sz = m := by rfl)
    (h63 : xs.length + ys.length ≤ 9223372036854775807 := by simp only [List.length_cons, List.length_nil]; omega) (hby : (xs.length + ys.length) * b ≤ 140737488355328 := by simp only [List.length_cons, List.length_nil]; omega) (hd : Nat.blt d c.n = true := by rfl) :
    On c fr H (some d) (.call { callee := .builtin .append, args := #[x, y], argTypes := #[t, t] }) ty Φ :=
  ⟨fun _ _ _ => ap one hz hm hp hx hy hn (Fy := []) (fun w s => ⟨cs, hfl w, .inr ⟨_, rfl, fun j u hu => by
      have hr := (s.on (.row g tt 0 [] cs []) (by simp [hp2.mem])).2
      have := hr.cell j
      simp only [List.nil_append, List.append_nil] at this
      rw [hu] at this
      unfold Addr.add
      split
      · rename_i e; subst e; exact this
      · simpa using this⟩, by simp, by simp⟩)
    (fun w v' F' s hF w' hk hv => by
      have s2 : St c.G c.D c.w0 (.ow E e v xs F :: S) w := ⟨s.keep, fun q hq => s.on q (by rcases List.mem_cons.1 hq with rfl | hq; simp; simp [hp2.sub q hq]), ⟨fun q hq => s.sep.1 q (hp2.sub q hq), (hp2.sep s.sep.2).2⟩, fun q hq => s.mine q (by rcases List.mem_cons.1 hq with rfl | hq; simp; simp [hp2.sub q hq])⟩
      exact St.turn (M := [.ow E e v xs F]) (N := [.ow E e v' (xs ++ ys) F']) s2 (by simpa [List.filter, Pc.mu, fp, Pc.F] using hk) (by intro q hq; simp at hq; subst hq; exact hv) ⟨by simp, trivial⟩ (by
        intro q hq b hb
        simp at hq; subst hq
        rcases hF b hb with h | h | h
        · exact .inr (.inl ⟨.ow E e v xs F, by simp, rfl, h⟩)
        · simp at h
        · exact .inl (by omega)))
    (by unfold maxLen; exact h63) hby h hd⟩
/-- a slice that reads, of elements without blocks of their own, is appended -/
theorem aps {α : Type} {E : Elem α} {t e m b : Nat} {z : Value} [hS : SlC c.P t e m] [hE : ElT c.P e z m b] {xs ys : List α} {F G : List Nat} {ao : Option Addr} {n cp : Nat} {R : List Pc}
    (one : One E) (sc : ∀ {w cs x F}, E.rep w cs x F → F = []) (h : ∀ a' c' F', T c ((d, .slice a' (xs ++ ys).length c') :: fr) (.ow E e (.slice a' (xs ++ ys).length c') (xs ++ ys) F' :: R) Φ)
    (hx : ev fr x = some v := by rfl) (hy : ev fr y = some (.slice ao n cp) := by rfl) (hp : Pick H (.ow E e v xs F) R := by (repeat (first | exact .here | apply Pick.there)); first | done | fail) (hp2 : .sl E (.slice ao n cp) ys G ∈ R := by (repeat (first | exact .head _ | apply List.Mem.tail)); first | done | fail) (hn : n = ys.length := by rfl) (hz : 0 < E.sz := by decide) (hm : E.sz = m := by rfl)
    (h63 : xs.length + ys.length ≤ 9223372036854775807 := by first | omega | (simp only [List.length_cons, List.length_nil]; omega)) (hby : (xs.length + ys.length) * b ≤ 140737488355328 := by first | omega | (simp only [List.length_cons, List.length_nil]; omega)) (hd : Nat.blt d c.n = true := by rfl) :
    On c fr H (some d) (.call { callee := .builtin .append, args := #[x, y], argTypes := #[t, t] }) ty Φ :=
  have flat0 : ∀ {w cs zs G}, Flat E w cs zs G → G = [] := fun {w cs zs G} => by
    induction zs generalizing cs G with
    | nil => intro h; exact h.2
    | cons z r ih => intro h; obtain ⟨c1, c2, F1, F2, _, rfl, h1, h2⟩ := h; rw [sc h1, ih h2]; rfl
  ⟨fun _ _ _ => ap one hz hm hp hx hy hn (Fy := []) (fun w s => by
      obtain ⟨-, hs⟩ := s.on (.sl E (.slice ao n cp) ys G) (by simp [hp2])
      obtain ⟨ao', cc, news, Fy, he, -, hfy, -, hsrc⟩ := hs.src
      simp only [Value.slice.injEq] at he
      obtain ⟨rfl, -, rfl⟩ := he
      obtain rfl := flat0 hfy
      exact ⟨news, hfy, hsrc, by simp, by simp⟩)
    (fun w v' F' s hF w' hk hv => St.turn (M := [.ow E e v xs F]) (N := [.ow E e v' (xs ++ ys) F']) s (by simpa [List.filter, Pc.mu, fp, Pc.F] using hk) (by intro q hq; simp at hq; subst hq; exact hv) ⟨by simp, trivial⟩ (by
        intro q hq b hb
        simp at hq; subst hq
        rcases hF b hb with h | h | h
        · exact .inr (.inl ⟨.ow E e v xs F, by simp, rfl, h⟩)
        · simp at h
        · exact .inl (by omega)))
    (by unfold maxLen; exact h63) hby h hd⟩
/-! parts of slices that read -/
theorem elem_of {P : Program} {t e m : Nat} (hS : SlC P t e m) : P.elem t = e := by simp [Program.elem, hS.u]
theorem sld {α : Type} {E : Elem α} {t e m : Nat} [hS : SlC c.P t e m] {a : Option Addr} {n cp : Nat} {xs : List α} {F : List Nat} {i : Int} (j : Nat) (h : ∀ a' c' F', T c ((d, .slice a' (xs.drop j).length c') :: fr) (.sl E (.slice a' (xs.drop j).length c') (xs.drop j) F' :: H) Φ)
    (hx : ev fr x = some (.slice a n cp) := by rfl) (hy : ev fr y = some (.int .i64 i) := by rfl) (hm : .sl E (.slice a n cp) xs F ∈ H := by (repeat (first | exact .head _ | apply List.Mem.tail)); first | done | fail) (hi : i = (j : Int) := by first | rfl | omega) (hj : j ≤ xs.length := by omega) (he : E.sz = m := by rfl) (hd : Nat.blt d c.n = true := by rfl) : On c fr H (some d) (.slice t x (some y) none none) ty Φ := ⟨fun pos aft gd => ef_of fun Q ac w s g => by
  subst hi
  obtain ⟨hz, hs⟩ := s.get hm
  have he2 := elem_of hS
  obtain ⟨a2, c2, F', hr, hF, h2⟩ := hs.dropS t (by rw [he2]; exact hS.u) j hj (fun W => by rw [he2, he]; exact size_of hS.s W)
  have e1 : (execOp ac.eval ⟨some d, .slice t x (some y) none none, ty, pos, aft, gd⟩).run c.P w = .ok (.value (.slice a2 (xs.drop j).length c2)) w := by
    simp [execOp, g.ev hx, g.ev hy, hr]
  rw [e1]
  rw [← List.length_drop] at h2
  exact (h a2 c2 F').h _ w (s.ro hm rfl rfl ⟨hz, h2⟩ hF) (g.put hd)⟩
/-! one element of an owned slice, of elements without blocks of their own -/
def Hole {α : Type} (E : Elem α) (t : TypeId) (g : Nat) (v : Value) (xs : List α) (i : Nat) (A B : List Value) : Prop := ∀ w cs y, Row w g t (A ++ cs ++ B) → E.rep w cs y [] → Ow E t w v (xs.set i y) [g]
theorem focF {α : Type} {E : Elem α} {t : TypeId} {a : Option Addr} {n cp m : Nat} {xs : List α} {F : List Nat} {S : List Pc} (sc : Scal E) (i : Nat) (h : ∀ (_ : i < xs.length) g A cs B, a = some ⟨g, 0, none⟩ → F = [g] → (∀ w, E.rep w cs xs[i] []) → Hole E t g (.slice (some ⟨g, 0, none⟩) n cp) xs i A B → T c fr (.row g t (0 + i * m) A cs B :: S) Φ)
    (hp : Pick H (.ow E t (.slice a n cp) xs F) S) (hm : E.sz = m) (hi : i < xs.length) : T c fr H Φ := .mk fun ac w s g => by
  have z1 := s.pick hp
  obtain ⟨-, ho⟩ := z1.on (.ow E t (.slice a n cp) xs F) (by simp)
  obtain ⟨g0, cap, A, cs, B, G1, Fi, G2, hv, hr, hA, -, hx, rfl, -, hW⟩ := ho.focus i hi
  cases hv
  obtain rfl := sc hx
  have hG : ∀ b, b ∉ G1 ++ G2 := by
    intro b hb
    have := ho.scal sc
    simp only [Value.ownBlock, Option.toList_some, List.append_nil, List.cons.injEq, true_and] at this
    rw [this] at hb; simp at hb
  have hG0 : G1 ++ G2 = [] := List.eq_nil_iff_forall_not_mem.2 hG
  subst hm
  refine (h hi g0 A cs B rfl (by simpa using hG0) (fun w' => E.frame hx (by simp)) (fun w' c' y hr' hy => ?_)).h ac w (z1.conv rfl ⟨by omega, hr⟩ (by intro b hb; simp [Pc.F] at hb; subst hb; simp [Pc.F])) g
  have := hW w' c' y [] hr' hy (fun b hb => absurd hb (hG b))
  simpa [hG0] using this
theorem unfF {α : Type} {E : Elem α} {t : TypeId} {g o : Nat} {v : Value} {xs : List α} {i : Nat} {A cs B : List Value} {S : List Pc} (y : α) (hh : Hole E t g v xs i A B) (hy : ∀ w, E.rep w cs y []) (h : T c fr (.ow E t v (xs.set i y) [g] :: S) Φ) (hp : Pick H (.row g t o A cs B) S := by (repeat (first | exact .here | apply Pick.there)); first | done | fail) : T c fr H Φ := .mk fun ac w s ag => by
  have z1 := s.pick hp
  obtain ⟨-, hr⟩ := z1.on (.row g t o A cs B) (by simp)
  exact h.h ac w (z1.conv rfl ⟨by simp, hh w cs y hr (hy w)⟩ (fun b hb => hb)) ag
/-! calls by the elder contracts -/
theorem cn {α : Type} {E : Elem α} {t : TypeId} {xs : List α} {f : Nat} {vs : List Value} (hc : ∀ w, St c.G c.D c.w0 H w → Calls c.P f vs.toArray w (RetNew E t xs w)) (h : ∀ a cp F, T c ((d, .slice a xs.length cp) :: fr) (.ow E t (.slice a xs.length cp) xs F :: H) Φ) : Cl c fr H d f vs Φ :=
  cl_of hc (fun w e w' s hR => by
    obtain ⟨v, F, he, ho, hn, hF, hB⟩ := hR
    obtain ⟨a, cp, rfl⟩ := ho.slice
    exact ⟨_, he, fun ac g => (h a cp F).h ac w' (s.add (N := [.ow E t (.slice a xs.length cp) xs F]) hB (by intro q hq; simp at hq; subst hq; exact ⟨hn, ho⟩) ⟨by simp, trivial⟩ (by intro q hq b hb; simp at hq; subst hq; exact .inl (hF b hb))) g⟩)
theorem cr {α : Type} {E : Elem α} {z : α} {f : Nat} {vs : List Value} (hc : ∀ w, St c.G c.D c.w0 H w → Calls c.P f vs.toArray w (RetR E z w)) (h : ∀ v F, T c ((d, v) :: fr) (.isv E v z F :: H) Φ) : Cl c fr H d f vs Φ :=
  cl_of hc (fun w e w' s hR => by
    obtain ⟨v, F, he, ho, hF, hB⟩ := hR
    exact ⟨_, he, fun ac g => (h v F).h ac w' (s.add (N := [.isv E v z F]) hB (by intro q hq; simp at hq; subst hq; exact ho) ⟨by simp, trivial⟩ (by intro q hq b hb; simp at hq; subst hq; exact .inl (hF b hb))) g⟩)
theorem cv {α : Type} {E : Elem α} {z : α} {f : Nat} {vs : List Value} (hc : ∀ w, St c.G c.D c.w0 H w → Calls c.P f vs.toArray w (RetV E z w)) (h : ∀ v F, T c ((d, v) :: fr) (.own E v z F :: H) Φ) : Cl c fr H d f vs Φ :=
  cl_of hc (fun w e w' s hR => by
    obtain ⟨v, F, he, ho, hn, hF, hB⟩ := hR
    exact ⟨_, he, fun ac g => (h v F).h ac w' (s.add (N := [.own E v z F]) hB (by intro q hq; simp at hq; subst hq; exact ⟨hn, ho⟩) ⟨by simp, trivial⟩ (by intro q hq b hb; simp at hq; subst hq; exact .inl (hF b hb))) g⟩)
/-! regions that draw their order -/
inductive Nth : List Pc → Nat → Pc → Prop
  | zero {p R} : Nth (p :: R) 0 p
  | succ {x p R i} : Nth R i p → Nth (x :: R) (i + 1) p
inductive Sel (H : List Pc) : List Nat → List Pc → Prop
  | nil : Sel H [] []
  | cons {i is p R} : Nth H i p → Sel H is R → Sel H (i :: is) (p :: R)
theorem Nth.mem {H i p} (h : Nth H i p) : p ∈ H := by
  induction h with
  | zero => simp
  | succ _ ih => simp [ih]
variable {H0 : List Pc} {X : List Nat} {f : Nat} {listed : Array Bool}
theorem d_start {id : Nat} {l : List Oper} (is X : List Nat) (h : T c fr H (.dx k H0 X l.toArray l.length (Array.replicate l.length false))) (_hsel : Sel H is H0 := by repeat constructor) (hm : c.P.follows .mixedOrders = true := by kernel_rfl) : T c fr H (.code k (Code.region id l.toArray true)) := .mk fun a w s g => by
  refine AnyX.start (S := Hol H0) (X := fun i => X.contains i) hm ?_
  have := h.h a w.drew (s.below (belowDrewN (Below.refl _ _) 1)) g
  simpa [Gl.sem] using this
/-- a panic leaves the slots alone -/
def PanOk (c : Cx) : Prop := ∀ ch d v a w, c.R (.panic ch) (Act.put a d v) w → c.R (.panic ch) a w
theorem panOk {P : Program} {D G : List Nat} {w0 : World} {n : Nat} {fn : Func} {R : Ending → World → Prop} : PanOk ⟨P, G, D, w0, n, bodyPost P fn R⟩ := fun ch d v a w h => by
  cases d <;> exact h
theorem dt (i : Nat) (h : T c ((d, v) :: fr) H (.dx k H0 X ops f (listed.setIfInBounds i true))) (ho : ops[i]? = some ⟨some d, o, ty, pos, aft, none⟩ := by rw [List.getElem?_toArray]; rfl) (hy : Yd c.P c.n fr H0 o ty v := by exact ydE) (hs : Mems H0 H := by repeat (first | exact Mems.nil | refine Mems.cons (by (repeat (first | exact .head _ | apply List.Mem.tail)); first | done | fail) ?_))
    (h1 : Region.noSelect ops = true := by kernel_rfl) (h2 : Region.free .any ops listed i = true := by kernel_rfl) (h3 : (Region.ready .any ops listed).contains i = true := by kernel_rfl) (h4 : waitsAll .any ops (fun i => X.contains i) i = true := by kernel_rfl) (h5 : closedB .any ops listed = true := by kernel_rfl) (hR : PanOk c := by exact panOk) (hd : Nat.blt d c.n = true := by rfl) :
    T c fr H (.dx k H0 X ops (f + 1) listed) := .mk fun a w s g =>
  AnyX.take (v := v) ho h1 h2 h3 h4 h5 (fun ch a w hp => by rw [run_panic] at hp ⊢; exact hR _ _ _ _ _ hp) (.inl ⟨rfl, fun w' hw' => hy.h a w' _ _ _ _ g hw'⟩) (fun p hp => s.on p (hs.all p hp)) (h.h _ _ s (g.put hd))
/-- 's[j:]' of a slice that reads, taken first -/
theorem dsld (i j : Nat) {α : Type} {E : Elem α} {t e m : Nat} [hS : SlC c.P t e m] {a : Option Addr} {n cp : Nat} {xs : List α} {F : List Nat} {z : Int} (h : ∀ a' c' F', T c ((d, .slice a' (xs.drop j).length c') :: fr) (.sl E (.slice a' (xs.drop j).length c') (xs.drop j) F' :: H) (.dx k H0 X ops f (listed.setIfInBounds i true))) (ho : ops[i]? = some ⟨some d, .slice t x (some y) none none, ty, pos, aft, none⟩ := by rw [List.getElem?_toArray]; rfl)
    (hx : ev fr x = some (.slice a n cp) := by rfl) (hy : ev fr y = some (.int .i64 z) := by rfl) (hm : .sl E (.slice a n cp) xs F ∈ H := by (repeat (first | exact .head _ | apply List.Mem.tail)); first | done | fail) (hi : z = (j : Int) := by first | rfl | omega) (hj : j ≤ xs.length := by omega) (he : E.sz = m := by rfl) (hs : Mems H0 H := by repeat (first | exact Mems.nil | refine Mems.cons (by (repeat (first | exact .head _ | apply List.Mem.tail)); first | done | fail) ?_))
    (h1 : Region.noSelect ops = true := by kernel_rfl) (h2 : Region.free .any ops listed i = true := by kernel_rfl) (h3 : (Region.ready .any ops listed).contains i = true := by kernel_rfl) (h4 : waitsAll .any ops (fun i => X.contains i) i = true := by kernel_rfl) (h5 : closedB .any ops listed = true := by kernel_rfl) (hR : PanOk c := by exact panOk) (hd : Nat.blt d c.n = true := by rfl) :
    T c fr H (.dx k H0 X ops (f + 1) listed) := .mk fun ac w s g => by
  subst hi
  obtain ⟨hz, hs'⟩ := s.get hm
  have he2 := elem_of hS
  obtain ⟨a2, c2, F', hr, hF, h2'⟩ := hs'.dropS t (by rw [he2]; exact hS.u) j hj (fun W => by rw [he2, he]; exact size_of hS.s W)
  rw [← List.length_drop] at h2' hr
  refine AnyX.take (v := .slice a2 (xs.drop j).length c2) ho h1 h2 h3 h4 h5 (fun ch a w hp => by rw [run_panic] at hp ⊢; exact hR _ _ _ _ _ hp) (.inl ⟨rfl, fun w' _ => ?_⟩) (fun p hp => s.on p (hs.all p hp)) ((h a2 c2 F').h _ w (s.ro hm rfl rfl ⟨hz, h2'⟩ hF) (g.put hd))
  simp only [execOp, Option.map_none, Option.map_some, g.ev hx, g.ev hy, Sem.run_bind, hr, Result.andThen_ok, Sem.run_pure]
/-- an operation whose guard says no -/
theorem ds (i : Nat) {j t : Nat} {b b' : Bool} (h : T c ((d, undef) :: fr) H (.dx k H0 X ops f (listed.setIfInBounds i true))) (ho : ops[i]? = some ⟨some d, o, ty, pos, aft, some (j, b)⟩ := by rw [List.getElem?_toArray]; rfl) (ht : (ops[j]?).bind (·.dst) = some t := by rfl) (hl : look fr t = some (.bool b') := by rfl) (hb : (b' == b) = false := by rfl) (hs : Mems H0 H := by repeat (first | exact Mems.nil | refine Mems.cons (by (repeat (first | exact .head _ | apply List.Mem.tail)); first | done | fail) ?_))
    (h1 : Region.noSelect ops = true := by kernel_rfl) (h2 : Region.free .any ops listed i = true := by kernel_rfl) (h3 : (Region.ready .any ops listed).contains i = true := by kernel_rfl) (h4 : waitsAll .any ops (fun i => X.contains i) i = true := by kernel_rfl) (h5 : closedB .any ops listed = true := by kernel_rfl) (hR : PanOk c := by exact panOk) (hd : Nat.blt d c.n = true := by rfl) :
    T c fr H (.dx k H0 X ops (f + 1) listed) := .mk fun a w s g =>
  AnyX.take (v := undef) ho h1 h2 h3 h4 h5 (fun ch a w hp => by rw [run_panic] at hp ⊢; exact hR _ _ _ _ _ hp) (.inr ⟨by rw [wanted_eq (c := c) ht hl g]; exact hb, rfl⟩) (fun p hp => s.on p (hs.all p hp)) (h.h _ _ s (g.put hd))
/-- the state holds once more behind an operation -/
theorem dk {i : Nat} (h : T c fr H (.dx k H0 X ops f listed)) (hs : Mems H0 H := by repeat (first | exact Mems.nil | refine Mems.cons (by (repeat (first | exact .head _ | apply List.Mem.tail)); first | done | fail) ?_)) : T c fr H (.dk i k H0 X ops f listed) := .mk fun a w s g => ⟨fun _ p hp => s.on p (hs.all p hp), h.h a w s g⟩
theorem dkx {i : Nat} (h : T c fr H (.dx k H0 X ops f listed)) (hi : X.contains i = true := by rfl) : T c fr H (.dk i k H0 X ops f listed) := .mk fun a w s g => ⟨fun h0 => (by rw [hi] at h0; cases h0), h.h a w s g⟩
/-- the only one that may come up -/
theorem d1 (i : Nat) {o : Oper} (h : Ef c fr H o (.dk i k H0 X ops f (listed.setIfInBounds i true))) (hr : Region.ready .any ops listed = [i] := by kernel_rfl) (ho : ops[i]? = some o := by rw [List.getElem?_toArray]; rfl) (hg : o.guard = none := by rfl) : T c fr H (.dx k H0 X ops (f + 1) listed) := .mk fun a w s g =>
  AnyX.only hr ho fun K hK => by
    rw [if_pos (by simp [Region.wanted, hg])]
    exact Oper.wp_mono (fun a' w' h' => hK a' w' h'.1 h'.2) (h.h _ a w s g)
/-- two that may come up -/
theorem d2 (i j : Nat) {o o2 : Oper} (h : Ef c fr H o (.dk i k H0 X ops f (listed.setIfInBounds i true))) (h' : Ef c fr H o2 (.dk j k H0 X ops f (listed.setIfInBounds j true)))
    (hr : Region.ready .any ops listed = [i, j] := by kernel_rfl) (ho : ops[i]? = some o := by rw [List.getElem?_toArray]; rfl) (ho2 : ops[j]? = some o2 := by rw [List.getElem?_toArray]; rfl) (hg : o.guard = none := by rfl) (hg2 : o2.guard = none := by rfl) : T c fr H (.dx k H0 X ops (f + 1) listed) := .mk fun a w s g =>
  AnyX.two hr ho ho2 (fun K hK => by
    rw [if_pos (by simp [Region.wanted, hg])]
    exact Oper.wp_mono (fun a' w' h' => hK a' w' h'.1 h'.2) (h.h _ a w s g)) (fun K hK => by
    rw [if_pos (by simp [Region.wanted, hg2])]
    exact Oper.wp_mono (fun a' w' h'' => hK a' w' h''.1 h''.2) (h'.h _ a w s g))
theorem dO (i : Nat) {od : Option Tmp} (hr : Region.ready .any ops listed = [i]) (ho : ops[i]? = some ⟨od, o, ty, pos, aft, none⟩) (h : On c fr H od o ty (.dk i k H0 X ops f (listed.setIfInBounds i true))) : T c fr H (.dx k H0 X ops (f + 1) listed) := d1 i (h.h pos aft none) hr ho rfl
theorem dO2 (i j : Nat) {od od2 : Option Tmp} {o2 : Op} {ty2 : TypeId} {pos2 : String} {aft2 : Array Edge} (hr : Region.ready .any ops listed = [i, j]) (ho : ops[i]? = some ⟨od, o, ty, pos, aft, none⟩) (ho2 : ops[j]? = some ⟨od2, o2, ty2, pos2, aft2, none⟩) (h : On c fr H od o ty (.dk i k H0 X ops f (listed.setIfInBounds i true))) (h' : On c fr H od2 o2 ty2 (.dk j k H0 X ops f (listed.setIfInBounds j true))) : T c fr H (.dx k H0 X ops (f + 1) listed) := d2 i j (h.h pos aft none) (h'.h pos2 aft2 none) hr ho ho2 rfl rfl
theorem dd (h : T c fr H (.norm k)) (hr : Region.ready .any ops listed = [] := by kernel_rfl) : T c fr H (.dx k H0 X ops f listed) := .mk fun a w s g => AnyX.done hr (h.h a w s g) f
/-- an operation that only yields, taken aS the one that comes up -/
theorem ey {gd : Option (Nat × Bool)} (h : T c ((d, v) :: fr) H Φ) (hy : Yd c.P c.n fr H o ty v := by exact ydE) (hd : Nat.blt d c.n = true := by rfl) : Ef c fr H ⟨some d, o, ty, pos, aft, gd⟩ Φ := ef_yd hy hd h
end
/-- slots that keep their values -/
inductive Kf (fr : Fr) : List Nat → Fr → Prop
  | nil : Kf fr [] []
  | cons {t v ts r} : look fr t = some v → Kf fr ts r → Kf fr (t :: ts) ((t, v) :: r)
theorem Kf.sub {fr ts r} (h : Kf fr ts r) : FrSub fr r := by
  induction h with
  | nil => exact .nil
  | cons h _ ih => exact .cons h ih
theorem FrSub.app {fr a b : Fr} (h : FrSub fr a) (h2 : FrSub fr b) : FrSub fr (a ++ b) := by
  induction h with
  | nil => exact h2
  | cons h _ ih => exact .cons h ih
theorem Picks.hsub {H M R : List Pc} (h : Picks H M R) : HSub H (M ++ R) := by
  have all : ∀ (H : List Pc), HSub H H := by
    intro H
    induction H with
    | nil => exact .nil
    | cons p H ih => exact .cons .here ih
  induction h with
  | nil => exact all _
  | cons hp _ ih => exact .cons hp ih
theorem c_loopS {c : Cx} {fr : Fr} {H : List Pc} {k : List It} {x : Code} {σ : Type} {cst : Fr} {rest : List Pc} (ks : List Nat) (upd : σ → Fr) (chg : σ → List Pc) (C : σ → Prop) (μ : σ → Nat) (s0 : σ) (h0 : C s0)
    (round : ∀ s, C s → T c (upd s ++ cst) (chg s ++ rest) (.code (.lp (LpN c (fun s => upd s ++ cst) (fun s => chg s ++ rest) C μ (μ s)) :: k) x)) (hk : Kf fr ks cst := by repeat (first | exact Kf.nil | apply Kf.cons (by rfl))) (hf : FrSub fr (upd s0) := by exact frE) (hH : Picks H (chg s0) rest := by exact picksE) : T c fr H (.code k (Code.loop x)) :=
  c_loop (fun s => upd s ++ cst) (fun s => chg s ++ rest) C μ s0 h0 round (hf.app hk.sub) hH.hsub
/-- a loop that leaves the pieces alone -/
theorem c_loopR {c : Cx} {fr : Fr} {H : List Pc} {k : List It} {x : Code} {σ : Type} {cst : Fr} (ks : List Nat) (upd : σ → Fr) (C : σ → Prop) (μ : σ → Nat) (s0 : σ) (h0 : C s0)
    (round : ∀ s, C s → T c (upd s ++ cst) H (.code (.lp (LpN c (fun s => upd s ++ cst) (fun _ => H) C μ (μ s)) :: k) x)) (hk : Kf fr ks cst := by repeat (first | exact Kf.nil | apply Kf.cons (by rfl))) (hf : FrSub fr (upd s0) := by exact frE) : T c fr H (.code k (Code.loop x)) :=
  c_loop (fun s => upd s ++ cst) (fun _ => H) C μ s0 h0 round (hf.app hk.sub) (by
    have all : ∀ (H : List Pc), HSub H H := by
      intro H
      induction H with
      | nil => exact .nil
      | cons p H ih => exact .cons .here ih
    exact all _)
/-- ways that meet: what is known where they do, aS a function of s -/
def Jn {σ : Type} (c : Cx) (fr' : σ → Fr) (H' : σ → List Pc) (C : σ → Prop) (a : Act) (w : World) : Prop := ∃ s, C s ∧ St c.G c.D c.w0 (H' s) w ∧ Ag c.n (fr' s) a
theorem c_join {c : Cx} {fr : Fr} {H : List Pc} {k : List It} {x : Code} {σ : Type} (fr' : σ → Fr) (H' : σ → List Pc) (C : σ → Prop) (h : T c fr H (.code (.lp (Jn c fr' H' C) :: k) x)) (h2 : ∀ s, C s → T c (fr' s) (H' s) (.norm k)) : T c fr H (.code k x) := .mk fun a w s g =>
  wp_mono (h.h a w s g) fun e a' w' he => by
    cases e with
    | normal => obtain ⟨z, hz, hs, hg⟩ := he; exact (h2 z hz).h a' w' hs hg
    | _ => exact he
theorem n_join {c : Cx} {fr : Fr} {H : List Pc} {k : List It} {σ : Type} {fr' : σ → Fr} {H' : σ → List Pc} {C : σ → Prop} (s : σ) (hC : C s) (hf : FrSub fr (fr' s) := by repeat (first | exact FrSub.nil | refine FrSub.cons (by rfl) ?_)) (hH : HSub H (H' s) := by repeat (first | exact HSub.nil | refine HSub.cons (by (repeat (first | exact .here | apply Pick.there)); first | done | fail) ?_)) : T c fr H (.norm (.lp (Jn c fr' H' C) :: k)) :=
  .mk fun _ _ st g => ⟨s, hC, st.sub hH, g.sub hf⟩
theorem c_joinS {c : Cx} {fr : Fr} {H : List Pc} {k : List It} {x : Code} {σ : Type} {cst : Fr} {rest : List Pc} (ks rs : List Nat) (upd : σ → Fr) (chg : σ → List Pc) (C : σ → Prop) (h : T c fr H (.code (.lp (Jn c (fun s => upd s ++ cst) (fun s => chg s ++ rest) C) :: k) x)) (h2 : ∀ s, C s → T c (upd s ++ cst) (chg s ++ rest) (.norm k)) (_hk : Kf fr ks cst := by repeat (first | exact Kf.nil | apply Kf.cons (by rfl))) (_hr : Sel H rs rest := by repeat constructor) : T c fr H (.code k x) :=
  c_join _ _ C h h2
theorem enter {P : Program} {f : FuncId} {fn : Func} {cd : Code} {args : List Value} {A M H : List Pc} {σ : Type} {C : σ → Prop} {v : σ → Value} {N : σ → List Pc} {n : Nat} (hf : P.funcs[f]? = some fn) (hb : fn.body = some cd) (hn : fn.ntmps = n)
    (h : ∀ w, T ⟨P, fp M, fp A, w, n, bodyPost P fn (FnPost P w A M C v N)⟩ (args0 0 args) H (.code [] cd))
    (hl : Nat.ble args.length n = true := by rfl) (hmA : A.all (fun p => !p.mu) = true := by rfl) (hH : AppL M A H := by repeat constructor) : Fn P f args A M C v N := by
  subst hn
  exact fn_enter hf hb (fun w => by rw [hH.eq]; exact h w) (by simpa using hl) hmA
theorem ret {P : Program} {fn : Func} {G D : List Nat} {w0 : World} {n : Nat} {A M : List Pc} {σ : Type} {C : σ → Prop} {v : σ → Value} {N : σ → List Pc} {fr : Fr} {H : List Pc} {rs : List ResultVar} {vs : List Value} (s : σ) (hC : C s) (hv : tup vs = v s)
    (hr : fn.results = rs.toArray := by rfl) (h : Res P fr H rs vs := by repeat (first | exact Res.nil | apply Res.tmp (by rfl) | apply Res.agg inferInstance (by rfl) (by (repeat (first | exact .head _ | apply List.Mem.tail)); first | done | fail) (by rfl) | apply Res.one inferInstance (by rfl) (by (repeat (first | exact .head _ | apply List.Mem.tail)); first | done | fail))) (hN : HSub H (N s) := by repeat (first | exact HSub.nil | refine HSub.cons (by (repeat (first | exact .here | apply Pick.there)); first | done | fail) ?_)) (hG : G = fp M := by rfl) (hD : D = fp A := by rfl) : T ⟨P, G, D, w0, n, bodyPost P fn (FnPost P w0 A M C v N)⟩ fr H (.fin .ret) := fn_ret s hC hr h hv hN hG hD
/-- out of a triple: a value, nothing that was there has turned -/
theorem Fn.val {P : Program} {f : FuncId} {args : List Value} {A : List Pc} {C : Unit → Prop} {v : Value} (h : Fn P f args A [] C (fun _ => v) (fun _ => [])) (w : World) (hA : Hol A w) (hm : A.all (fun p => !p.mu) = true := by rfl) : Calls P f args.toArray w fun e w' => e = .returned v ∧ Below w.heap.size w w' :=
  have hs : ∀ (A : List Pc), A.all (fun p => !p.mu) = true → Sep A := by
    intro A
    induction A with
    | nil => intro _; trivial
    | cons p A ih =>
      intro h
      simp only [List.all_cons, Bool.and_eq_true, Bool.not_eq_true'] at h
      exact ⟨fun q hq hm => by have := List.all_eq_true.1 h.2 q hq; simp [h.1] at hm; simp [hm] at this, ih h.2⟩
  (h w (by simpa using hA) (by simpa using hs A hm)).mono fun e w' ⟨_, _, he, _, _, hk, _⟩ => ⟨he, hk.below (Nat.le_refl _) (by simp [fp])⟩
theorem sep_ro : ∀ (A : List Pc), A.all (fun p => !p.mu) = true → Sep A
  | [], _ => trivial
  | p :: A, h => by
    simp only [List.all_cons, Bool.and_eq_true, Bool.not_eq_true'] at h
    exact ⟨fun q hq hm => by have := List.all_eq_true.1 h.2 q hq; simp [h.1] at hm; simp [hm] at this, sep_ro A h.2⟩
theorem Pc.nd {p : Pc} (hm : p.mu = true) {w : World} (h : p.P w) : p.F.Nodup := by
  cases p with
  | row g t o A cs B => simp [Pc.F]
  | ow E t v xs F => exact h.1
  | own E v x F => exact h.1
  | flat E cs xs F => exact h.1
  | _ => cases hm
theorem fp_nd {w : World} : ∀ {N : List Pc}, N.all (·.mu) = true → Hol N w → Sep N → (fp N).Nodup
  | [], _, _, _ => by simp [fp]
  | p :: N, hm, hH, hs => by
    simp only [List.all_cons, Bool.and_eq_true] at hm
    refine List.nodup_append.2 ⟨Pc.nd hm.1 (hH p (by simp)), fp_nd hm.2 (fun q hq => hH q (by simp [hq])) hs.2, fun b hb b' hb' e => ?_⟩
    subst e
    obtain ⟨q, hq, hqb⟩ := mem_fp.1 hb'
    exact hs.1 q hq (by simp [hm.1]) b hb hqb
/-- out of a triple that only reads: what it returns is owned, and new -/
theorem Fn.made {P : Program} {f : FuncId} {args : List Value} {A : List Pc} {σ : Type} {C : σ → Prop} {v : σ → Value} {N : σ → List Pc} (h : Fn P f args A [] C v N) (w : World) (hA : Hol A w) (hN : ∀ s, (N s).all (·.mu) = true) (hm : A.all (fun p => !p.mu) = true := by rfl) :
    Calls P f args.toArray w fun e w' => ∃ s, C s ∧ e = .returned (v s) ∧ Hol (N s) w' ∧ (fp (N s)).Nodup ∧ (∀ b ∈ fp (N s), w.heap.size ≤ b) ∧ Below w.heap.size w w' :=
  (h w (by simpa using hA) (by simpa using sep_ro A hm)).mono fun e w' ⟨s, hC, he, hH, hS, hk, hF⟩ => ⟨s, hC, he, hH, fp_nd (hN s) hH hS, (fun b hb => by
    obtain ⟨p, hp, hpb⟩ := mem_fp.1 hb
    rcases hF p hp b hpb with h | ⟨q, hq, _⟩ | ⟨h, _⟩
    · exact h
    · simp at hq
    · have := List.all_eq_true.1 (hN s) p hp; rw [h] at this; cases this), hk.below (Nat.le_refl _) (by simp [fp])⟩
/-- out of a triple that only reads: what it returns may be read -/
theorem Fn.read {P : Program} {f : FuncId} {args : List Value} {A : List Pc} {σ : Type} {C : σ → Prop} {v : σ → Value} {N : σ → List Pc} (h : Fn P f args A [] C v N) (w : World) (hA : Hol A w) (hm : A.all (fun p => !p.mu) = true := by rfl) :
    Calls P f args.toArray w fun e w' => ∃ s, C s ∧ e = .returned (v s) ∧ Hol (N s) w' ∧ Below w.heap.size w w' :=
  (h w (by simpa using hA) (by simpa using sep_ro A hm)).mono fun e w' ⟨s, hC, he, hH, hS, hk, hF⟩ => ⟨s, hC, he, hH, hk.below (Nat.le_refl _) (by simp [fp])⟩
theorem hol2 {p q : Pc} {w : World} (h : p.P w) (h2 : q.P w) : Hol [p, q] w := fun r hr => by
  simp only [List.mem_cons, List.not_mem_nil, or_false] at hr
  rcases hr with rfl | rfl <;> assumption
/-- what is to be shown behind the steps -/
structure Kp (X : Prop) : Prop where
  h : X
section
variable {c : Cx} {fr : Fr} {H : List Pc} {d : Nat} {ty : TypeId} {v : Value} {x : Operand} {Φ : Gl}
theorem o_boxX {Y : Nat → Prop} {t : TypeId} {l : List Value} (hd : Nat.blt d c.n = true) (hx : ev fr x = some v) (hv : v.cells = l.toArray) (hX : Kp (∀ g, Y g)) (h : ∀ g, Kp (Y g) → T c ((d, ptr g 0 0) :: fr) (.row g t 0 [] l [] :: H) Φ) : On c fr H (some d) (.box t x) ty Φ := o_box hd hx hv fun g => h g ⟨hX.h g⟩
theorem o_allocX {Y : Nat → Prop} {t : TypeId} {zs : List Value} [ZC c.P t zs] (hd : Nat.blt d c.n = true) (hX : Kp (∀ g, Y g)) (h : ∀ g, Kp (Y g) → T c ((d, ptr g 0 0) :: fr) (.row g t 0 [] zs [] :: H) Φ) : On c fr H (some d) (.alloc t) ty Φ := o_alloc hd fun g => h g ⟨hX.h g⟩
theorem o_bs0X {Y : Nat → Prop} {t e m : Nat} [SlC c.P t e m] (hd : Nat.blt d c.n = true) (hX : Kp (∀ g, Y g)) (h : ∀ g, Kp (Y g) → T c ((d, .slice (some ⟨g, 0, none⟩) 0 0) :: fr) (.row g e 0 [] [] [] :: H) Φ) : On c fr H (some d) (.buildSlice t 0 #[]) ty Φ := o_bs0 hd fun g => h g ⟨hX.h g⟩
theorem o_bsX {Y : Nat → Prop} {t e m b len : Nat} {z : Value} {zs cs q : List Value} {ps : List (Nat × Operand)} [SlC c.P t e m] [ElT c.P e z m b] [ZC c.P e zs] (hd : Nat.blt d c.n = true) (hlen : Nat.blt 0 len = true) (hm : Nat.blt 0 m = true) (hl : Nat.ble (len * m) 1000 = true) (hc : Rpt zs len cs) (hf : Fil (fun i => some (i * m, m)) fr cs ps q) (hX : Kp (∀ g, Y g)) (h : ∀ g, Kp (Y g) → T c ((d, .slice (some ⟨g, 0, none⟩) len len) :: fr) (.row g e 0 [] q [] :: H) Φ) :
    On c fr H (some d) (.buildSlice t len ps.toArray) ty Φ := o_bs hd hlen hm hl hc hf fun g => h g ⟨hX.h g⟩
end
/-- the steps of a walk that need no choice -/
theorem go {X : Prop} {c : Cx} {fr : Fr} {H : List Pc} {Φ : Gl} (h : X) (hs : Kp X → T c fr H Φ := by intro hX; (repeat (first | apply c_seq | apply c_reg | (apply wO; apply oc; rfl; exact ydE) | apply w_nil | apply n_cd | (apply wg_t; rfl; rfl) | (apply wg_f; rfl; rfl; rfl; rfl) | (apply wg_u; rfl; rfl; rfl) | (apply c_t; rfl) | (apply c_f; rfl) | apply c_skip | apply c_block | apply n_blk | apply c_exit | apply e_hit | apply e_cd | apply e_lp | (apply e_miss; rfl) | apply c_ret | (apply wO; apply o_boxX; rfl; rfl; rfl; exact hX; clear hX; intro _ hX) | (apply wO; apply o_allocX; rfl; exact hX; clear hX; intro _ hX) | (apply wO; apply o_st; rfl; rfl; rfl; (first | exact AggC.s | exact OneC.s); rfl; exact rplE; exact putE; rfl) | (apply wO; apply o_bs0X; rfl; exact hX; clear hX; intro _ hX) | (apply wO; apply o_bsX; rfl; rfl; rfl; rfl; exact rptE; exact filE; exact hX; clear hX; intro _ hX) | (apply wO; apply o_call; rfl; kernel_rfl; exact evsE))); exact hX.h) : T c fr H Φ := hs ⟨h⟩
/-- .. up to the next call -/
theorem goN {X : Prop} {c : Cx} {fr : Fr} {H : List Pc} {Φ : Gl} (h : X) (hs : Kp X → T c fr H Φ := by intro hX; (repeat (first | apply c_seq | apply c_reg | (apply wO; apply oc; rfl; exact ydE) | apply w_nil | apply n_cd | (apply wg_t; rfl; rfl) | (apply wg_f; rfl; rfl; rfl; rfl) | (apply wg_u; rfl; rfl; rfl) | (apply c_t; rfl) | (apply c_f; rfl) | apply c_skip | apply c_block | apply n_blk | apply c_exit | apply e_hit | apply e_cd | apply e_lp | (apply e_miss; rfl) | apply c_ret | (apply wO; apply o_boxX; rfl; rfl; rfl; exact hX; clear hX; intro _ hX) | (apply wO; apply o_allocX; rfl; exact hX; clear hX; intro _ hX) | (apply wO; apply o_st; rfl; rfl; rfl; (first | exact AggC.s | exact OneC.s); rfl; exact rplE; exact putE; rfl) | (apply wO; apply o_bs0X; rfl; exact hX; clear hX; intro _ hX) | (apply wO; apply o_bsX; rfl; rfl; rfl; rfl; exact rptE; exact filE; exact hX; clear hX; intro _ hX))); exact hX.h) : T c fr H Φ := hs ⟨h⟩
end Go.Proofs.YtgogcgkocjpgoaaGreatDoor
/- Walks of the exact laws' helpers on slices of strings: size, copy, equality, mark, held; the text of a mark. -/
namespace Go.Proofs.YtgogcgkocjpgoaaGreatDoor
open Go.RowKit

end Go.Proofs.YtgogcgkocjpgoaaGreatDoor
/- A string as a row of one. -/
namespace Go.Proofs.YtgogcgkocjpgoaaGreatDoor
open Go.RowKit
theorem rep_s {s : ByteArray} (h : s.size ≤ maxLen) (w : World) : Flat EStr w [.string s] [s] [] := ⟨_, [], [], [], by simp, by simp, ⟨rfl, h, rfl⟩, rfl, rfl⟩
theorem rep_s2 {s r : ByteArray} (h : s.size ≤ maxLen) (h2 : r.size ≤ maxLen) (w : World) : Flat EStr w [.string s, .string r] [s, r] [] := ⟨[.string s], [.string r], [], [], by simp, by simp, ⟨rfl, h, rfl⟩, rep_s h2 w⟩
theorem t_sl {c : Cx} {fr : Fr} {H : List Pc} {Φ : Gl} {α : Type} {E : Elem α} {v : Value} {xs : List α} {F : List Nat} (h : ∀ a cp, v = .slice a xs.length cp → xs.length ≤ cp → cp ≤ 9223372036854775807 → T c fr H Φ) (hm : .sl E v xs F ∈ H := by (repeat (first | exact .head _ | apply List.Mem.tail)); first | done | fail) : T c fr H Φ := .mk fun ac w s g => by
  obtain ⟨-, hs⟩ := s.get hm
  obtain ⟨a, cp, rfl⟩ := hs.slice
  obtain ⟨-, h2, h3⟩ := hs.caps
  exact (h a cp rfl h2 (by unfold maxLen at h3; omega)).h ac w s g
/-- a row of our own is an owned slice -/
theorem t_row {c : Cx} {fr : Fr} {H : List Pc} {Φ : Gl} {α : Type} {E : Elem α} {t g : Nat} {cs : List Value} {xs : List α} {S : List Pc} (hfl : ∀ w, Flat E w cs xs []) (h : T c fr (.ow E t (.slice (some ⟨g, 0, none⟩) xs.length xs.length) xs [g] :: S) Φ) (hl : xs.length ≤ 1000000) (hp : Pick H (.row g t 0 [] cs []) S := by (repeat (first | exact .here | apply Pick.there)); first | done | fail) : T c fr H Φ := .mk fun a w s g' => by
  have s1 := s.pick hp
  have hr := (s1.on (.row g t 0 [] cs []) (by simp)).2
  have hlen := (hfl w).len
  refine h.h a w (s1.conv rfl ⟨by simp, .inr ⟨g, xs.length, cs, [], [], rfl, by simpa using hr, Nat.le_refl _, by unfold maxLen; omega, by simpa using hlen, hfl w, rfl⟩⟩ (by simp [Pc.F])) g'
/-- out of a contract that makes a value -/
theorem fn_made {P : Program} {f : FuncId} {args : List Value} {A : List Pc} {σ : Type} {C : σ → Prop} {v : σ → Value} {N : σ → Pc}
    (h : ∀ w, Hol A w → Calls P f args.toArray w fun e w' => ∃ s, C s ∧ e = .returned (v s) ∧ (N s).P w' ∧ (∀ b ∈ (N s).F, w.heap.size ≤ b) ∧ Below w.heap.size w w') : Fn P f args A [] C v (fun s => [N s]) := fun w hA _ => by
  refine (h w (by simpa using hA)).mono ?_
  rintro e w' ⟨s, hC, he, hN, hF, hB⟩
  refine ⟨s, hC, he, hol1 hN, ⟨by simp, trivial⟩, Keep.ofBelow hB, fun p hp b hb => ?_⟩
  simp at hp
  subst hp
  exact .inl (hF b hb)
end Go.Proofs.YtgogcgkocjpgoaaGreatDoor
/- More operations: parts of texts, slices made, functions called by their value; a part of a slice that reads. -/
namespace Go.Proofs.YtgogcgkocjpgoaaGreatDoor
open Go.RowKit
section
variable {P : Program} {n : Nat} {fr : Fr} {H : List Pc} {ty : TypeId} {x y z : Operand}
theorem yd_sll {t : TypeId} {s : ByteArray} {kd : IntKind} {i : Int} [hS : StrC P t] (hx : ev fr x = some (.string s)) (hy : ev fr y = some (.int kd i)) (h0 : 0 ≤ i) (h1 : i ≤ s.size) : Yd P n fr H (.slice t x (some y) none none) ty (.string (s.extract i.toNat s.size)) := .mk fun a w d pos aft g hA _ => by
  have h3 : (Instr.sliceAt t (.string s) (some (.int kd i)) none none).run P w = .ok (.string (s.extract i.toNat s.size)) w := by
    rw [run_sliceAt_string (h := hS.u), run_slice_string_l (ht := hS.u) (h0 := h0) (h1 := h1)]
  simp only [execOp, Option.map_none, Option.map_some, hA.ev hx, hA.ev hy, Sem.run_bind, h3, Result.andThen_ok, Sem.run_pure]
theorem yd_slh {t : TypeId} {s : ByteArray} {kd : IntKind} {i : Int} [hS : StrC P t] (hx : ev fr x = some (.string s)) (hy : ev fr y = some (.int kd i)) (h0 : 0 ≤ i) (h1 : i ≤ s.size) : Yd P n fr H (.slice t x none (some y) none) ty (.string (s.extract 0 i.toNat)) := .mk fun a w d pos aft g hA _ => by
  have h3 : (Instr.sliceAt t (.string s) none (some (.int kd i)) none).run P w = .ok (.string (s.extract 0 i.toNat)) w := by
    rw [run_sliceAt_string (h := hS.u), run_slice_string_h (ht := hS.u) (h0 := h0) (h2 := h1)]
  simp only [execOp, Option.map_none, Option.map_some, hA.ev hx, hA.ev hy, Sem.run_bind, h3, Result.andThen_ok, Sem.run_pure]
theorem yd_slb {t : TypeId} {s : ByteArray} {kd kd2 : IntKind} {i j : Int} [hS : StrC P t] (hx : ev fr x = some (.string s)) (hy : ev fr y = some (.int kd i)) (hz : ev fr z = some (.int kd2 j)) (h0 : 0 ≤ i) (h1 : i ≤ j) (h2 : j ≤ s.size) : Yd P n fr H (.slice t x (some y) (some z) none) ty (.string (s.extract i.toNat j.toNat)) := .mk fun a w d pos aft g hA _ => by
  have h3 : (Instr.sliceAt t (.string s) (some (.int kd i)) (some (.int kd2 j)) none).run P w = .ok (.string (s.extract i.toNat j.toNat)) w := by
    rw [run_sliceAt_string (h := hS.u), run_slice_string (h := hS.u) (h0 := h0) (h1 := h1) (h2 := h2)]
  simp only [execOp, Option.map_none, Option.map_some, hA.ev hx, hA.ev hy, hA.ev hz, Sem.run_bind, h3, Result.andThen_ok, Sem.run_pure]
end
section
variable {c : Cx} {fr : Fr} {H : List Pc} {k : List It} {Φ : Gl} {ops : Array Oper} {rest : List Oper} {d : Nat} {o : Op} {ty : TypeId} {v u : Value} {x y : Operand}
theorem o_ms {t e m b : Nat} {z : Value} [hS : SlC c.P t e m] [hE : ElT c.P e z m b] (k : Nat) {kl kc : IntKind} {cs : List Value} (hd : Nat.blt d c.n = true) (hx : ev fr x = some (.int kl (k : Nat))) (hy : ev fr y = some (.int kc (k : Nat))) (hcs : madeCells z.cells (k * m) = cs.toArray) (hb : b * k ≤ 281474976710656) (h63 : k ≤ 9223372036854775807)
    (h : ∀ g, T c ((d, .slice (some ⟨g, 0, none⟩) k k) :: fr) (.row g e 0 [] cs [] :: H) Φ) : On c fr H (some d) (.makeSlice t x y) ty Φ := ⟨fun _ _ _ => ef_of fun Q a w s g => by
  obtain ⟨i, hi, hiz⟩ := Option.map_eq_some_iff.1 hE.i
  simp only [Prod.mk.injEq] at hiz
  obtain ⟨i1, i2, i3⟩ := hiz
  have hb' : (i.bytes : Int) * ((k : Nat) : Int) ≤ 281474976710656 := by rw [i3]; have : ((b * k : Nat) : Int) ≤ 281474976710656 := by omega
                                                                         rwa [Int.natCast_mul] at this
  have hr := run_make (P := c.P) w t e i z hS.u hi i1 kl kc (k : Nat) (k : Nat) (by omega) (by omega) hb' (by omega)
  simp only [Int.toNat_natCast, i2, hcs] at hr
  have e1 : ∀ pos aft gd, (execOp a.eval ⟨some d, .makeSlice t x y, ty, pos, aft, gd⟩).run c.P w = .ok (.value (.slice (some ⟨w.heap.size, 0, none⟩) k k)) (w.alloc (.cells cs.toArray e)) := by
    intro pos aft gd
    simp [execOp, g.ev hx, g.ev hy, hr]
  rw [e1]
  exact (h _).h _ _ (s.new e cs) (g.put hd)⟩
end
end Go.Proofs.YtgogcgkocjpgoaaGreatDoor
/- Rows written as wholes: an owned slice as its row and back, copying, appending that grows, functions that are entries of the model, parts of a slice as values. -/
namespace Go.Proofs.YtgogcgkocjpgoaaGreatDoor
open Go.RowKit
theorem Flat.all {α : Type} {E : Elem α} {w : World} {cs : List Value} {xs : List α} (h : Flat E w cs xs []) (w' : World) : Flat E w' cs xs [] := h.frame (by simp)
section
variable {P : Program} {n : Nat} {fr : Fr} {H : List Pc} {ty : TypeId} {x y z : Operand}
end
section
variable {c : Cx} {fr : Fr} {H k' : List Pc} {k : List It} {Φ : Gl} {d : Nat} {o : Op} {ty : TypeId} {v u : Value} {x y : Operand}
end
end Go.Proofs.YtgogcgkocjpgoaaGreatDoor
/- Functions bound to a receiver, clearing, loops beside pieces that are not told. -/
namespace Go.Proofs.YtgogcgkocjpgoaaGreatDoor
open Go.RowKit
section
variable {P : Program} {n : Nat} {fr : Fr} {H : List Pc} {ty : TypeId}
end
section
variable {c : Cx} {fr : Fr} {H : List Pc} {k : List It} {Φ : Gl} {d : Nat} {ty : TypeId} {x : Operand}
end
end Go.Proofs.YtgogcgkocjpgoaaGreatDoor
/- Numbers as texts; what the library's variables read as: the environment as one piece. -/
namespace Go.Proofs.YtgogcgkocjpgoaaGreatDoor
open Go.RowKit
def bz (l : Bs) : ByteArray := ⟨l.toArray⟩
theorem bz_list (l : Bs) : (bz l).data.toList = l := by simp [bz]
theorem bz_of (s : ByteArray) : bz s.data.toList = s := by simp [bz]
theorem bz_size (l : Bs) : (bz l).size = l.length := by simp [bz, ByteArray.size]
theorem size_list (s : ByteArray) : s.data.toList.length = s.size := by simp
theorem bz_app (a b : Bs) : bz a ++ bz b = bz (a ++ b) := by apply ByteArray.ext; simp [bz, ByteArray.data_append]
theorem ret_str {a b : ByteArray} (h : a = b) : Ending.returned (.string a) = .returned (.string b) := by rw [h]
theorem below_grow (w : World) (k : Nat) (os : Array Obj) : Below w.heap.size w (Go.Sort.grow (w.drewN k) os) := by
  refine ⟨rfl, rfl, rfl, ?_, fun i hi => ?_⟩
  · simp [Go.Sort.grow, World.drewN]
  · simp [Go.Sort.grow, World.drewN, Array.getElem?_append_left hi]
/-- the library's variables lie where they lay -/
def EEnv : Elem Unit where
  sz := 0
  rep w cs _ F := cs = [] ∧ (Lib.TabIs Tryz.prog w "internal/strconv.uint64pow10" .u64 Lib.pow10Tab ∧ (∃ m, w.cell? ⟨0, 0, none⟩ = some (.int .i64 m)) ∧ (∃ tp p, w.var? Tryz.prog "strconv.ErrSyntax" = some #[.iface tp p]) ∧ (∃ tp p, w.var? Tryz.prog "strconv.ErrRange" = some #[.iface tp p])) ∧ F = [3, 0, 1, 2] ∧ ∀ b ∈ F, b < w.heap.size
  len h := by simp [h.1]
  lt h := h.2.2.2
  frame h hF := by
    obtain ⟨h1, ⟨h2, h3, h4, h5⟩, rfl, h6⟩ := h
    have e0 := hF 3 (by simp)
    have e1 := hF 0 (by simp)
    have e2 := hF 1 (by simp)
    have e3 := hF 2 (by simp)
    refine ⟨h1, ⟨?_, ?_, ?_, ?_⟩, rfl, fun b hb => ?_⟩
    · unfold Lib.TabIs World.var? at h2 ⊢
      rw [show Tryz.prog.globalNamed "internal/strconv.uint64pow10" = some 3 by kernel_rfl] at h2 ⊢
      simp only [Option.bind_some] at h2 ⊢
      rw [e0]; exact h2
    · obtain ⟨m, hm⟩ := h3
      refine ⟨m, ?_⟩
      unfold World.cell? at hm ⊢
      rw [e1]; exact hm
    · obtain ⟨tp, p, hm⟩ := h4
      refine ⟨tp, p, ?_⟩
      unfold World.var? at hm ⊢
      rw [show Tryz.prog.globalNamed "strconv.ErrSyntax" = some 1 by kernel_rfl] at hm ⊢
      simp only [Option.bind_some] at hm ⊢
      rw [e2]; exact hm
    · obtain ⟨tp, p, hm⟩ := h5
      refine ⟨tp, p, ?_⟩
      unfold World.var? at hm ⊢
      rw [show Tryz.prog.globalNamed "strconv.ErrRange" = some 2 by kernel_rfl] at hm ⊢
      simp only [Option.bind_some] at hm ⊢
      rw [e3]; exact hm
    · have e := hF b hb
      have := h6 b hb
      rw [Array.getElem?_eq_getElem this] at e
      exact (Array.getElem?_eq_some_iff.1 e).1
theorem dig_small : ∀ n : Nat, n < 10 → (⟨#[48, 49, 50, 51, 52, 53, 54, 55, 56, 57]⟩ : ByteArray).extract n (n + 1) = ⟨#[UInt8.ofNat (48 + n)]⟩ := by decide
set_option maxHeartbeats 400000 in
set_option maxRecDepth 100000 in
theorem l1Num_c : ∀ (k n : Nat) (w : World), n < 10 ^ (k + 1) → n ≤ 999999999999999999 →
    Calls Tryz.prog 178 #[.int .i64 (n : Int)] w fun e w' => e = .returned (.string (bz (Lib.decDigits n))) ∧ ∃ j, w' = w.drewN j := by
  intro k
  induction k with
  | zero =>
    intro n w h1 h2
    have h3 : n < 10 := by simpa using h1
    have hd := Lib.hid (dig_small n h3)
    have hn : ¬ ((n : Int) < 0) := by omega
    go_enter Tryz.func178, Tryz.ntmps178
    go_wp2_with fail
    go_ret
    refine ⟨ret_str ?_, 0, rfl⟩
    rw [hd.out, Lib.decDigits, dif_pos h3]; rfl
  | succ k ih =>
    intro n w h1 h2
    by_cases h3 : n < 10
    · have hd := Lib.hid (dig_small n h3)
      have hn : ¬ ((n : Int) < 0) := by omega
      go_enter Tryz.func178, Tryz.ntmps178
      go_wp2_with fail
      go_ret
      refine ⟨ret_str ?_, 0, rfl⟩
      rw [hd.out, Lib.decDigits, dif_pos h3]; rfl
    · have h4 : n / 10 < 10 ^ (k + 1) := by rw [Nat.pow_succ] at h1; omega
      have hc := fun w => ih (n / 10) w h4 (by omega)
      rw [show ((n / 10 : Nat) : Int) = (n : Int) / 10 from by omega] at hc
      have hn : ¬ ((n : Int) < 0) := by omega
      have h5 : ¬ ((n : Int) < 10) := by omega
      have hd := Lib.hid (dig_small (n % 10) (by omega))
      have b0 : (0 : Int) ≤ (n : Int) % 10 := by omega
      have b1 : (n : Int) % 10 ≤ 9 := by omega
      have e0 : IntKind.i64.wrap ((n : Int) / 10) = (n : Int) / 10 := by rw [IntKind.wrap_i64]; omega
      have e1 : IntKind.i64.wrap ((n : Int) % 10) = (n : Int) % 10 := by rw [IntKind.wrap_i64]; omega
      have e2 : IntKind.i64.wrap ((n : Int) % 10 + 1) = (n : Int) % 10 + 1 := by rw [IntKind.wrap_i64]; omega
      have e3 : ((n : Int) % 10).toNat = n % 10 := by omega
      have e4 : ((n : Int) % 10 + 1).toNat = n % 10 + 1 := by omega
      have e5 : (n : Int).tmod 10 = (n : Int) % 10 := Int.tmod_eq_emod_of_nonneg (by omega)
      have e6 : (n : Int).tdiv 10 = (n : Int) / 10 := Int.tdiv_eq_ediv_of_nonneg (by omega)
      have hsl : ∀ wx, (Instr.slice 9 (.string ⟨#[48, 49, 50, 51, 52, 53, 54, 55, 56, 57]⟩) (some (.int .i64 ((n : Int) % 10))) (some (.int .i64 ((n : Int) % 10 + 1))) none).run Tryz.prog wx = .ok (.string ⟨#[UInt8.ofNat (48 + n % 10)]⟩) wx := fun wx => by
        have h6 := run_slice_string (P := Tryz.prog) wx 9 ⟨#[48, 49, 50, 51, 52, 53, 54, 55, 56, 57]⟩ .i64 .i64 ((n : Int) % 10) ((n : Int) % 10 + 1) Tryz.underlying9 (by omega) (by omega) (by show _ ≤ ((10 : Nat) : Int); omega)
        rw [h6, e3, e4, hd.out]
      have hD : (bz (Lib.decDigits (n / 10))).size ≤ 18 := by rw [bz_size]; exact digit_len 17 _ (by omega)
      have hd1 : (⟨#[UInt8.ofNat (48 + n % 10)]⟩ : ByteArray).size ≤ 1 := by simp [ByteArray.size]
      have hR : Hid (bz (Lib.decDigits (n / 10)) ++ ⟨#[UInt8.ofNat (48 + n % 10)]⟩ = bz (Lib.decDigits n)) := by
        refine Lib.hid ?_
        conv => rhs; rw [Lib.decDigits, dif_neg (by omega), ← bz_app]
        rfl
      generalize bz (Lib.decDigits (n / 10)) = D at *
      generalize (⟨#[UInt8.ofNat (48 + n % 10)]⟩ : ByteArray) = d at *
      clear ih h1 e3 e4
      go_enter Tryz.func178, Tryz.ntmps178
      go_wp2_with fail
      go_quiet ((go_at_call 178; exact Calls.quiet_of (v := .string D) (hc (World.drewN _ _))))
      go_wp2_with fail
      go_ret
      refine ⟨ret_str ?_, _, rfl⟩
      exact hR.out
def EnvP (FT : List Nat) : Pc := .isv EEnv (.agg #[]) () FT
theorem EnvP.env {w : World} {FT : List Nat} (h : (EnvP FT).P w) : Lib.TabIs Tryz.prog w "internal/strconv.uint64pow10" .u64 Lib.pow10Tab ∧ (∃ m, w.cell? ⟨0, 0, none⟩ = some (.int .i64 m)) ∧ (∃ tp p, w.var? Tryz.prog "strconv.ErrSyntax" = some #[.iface tp p]) ∧ (∃ tp p, w.var? Tryz.prog "strconv.ErrRange" = some #[.iface tp p]) := by
  obtain ⟨cs, _, h⟩ := h; exact h.2.1
theorem itoa_c (n : Int) (h0 : -9223372036854775808 ≤ n) (h1 : n ≤ 9223372036854775807) (FT : List Nat) (w : World) (hT : (EnvP FT).P w) :
    Calls Tryz.prog 171 #[.int .i64 n] w fun e w' => e = .returned (.string (bz (Lib.itoa n))) ∧ Below w.heap.size w w' := by
  refine (Tryz.strconv_Itoa n h0 h1 w (EnvP.env hT).1).mono ?_
  rintro e w' ⟨rfl, k, os, rfl⟩
  exact ⟨rfl, below_grow w k os⟩
theorem flat_strs {w : World} : ∀ {l : List ByteArray}, (∀ s ∈ l, s.size ≤ maxLen) → Flat EStr w (l.map Value.string) l []
  | [], _ => ⟨rfl, rfl⟩
  | s :: l, h => ⟨[.string s], l.map Value.string, [], [], by simp, by simp, ⟨rfl, h s (by simp), rfl⟩, flat_strs fun t ht => h t (by simp [ht])⟩
theorem splitB_small (sep : ByteArray) (n : Nat) : ∀ (k : Nat) (s : ByteArray), s.size ≤ n → ∀ t ∈ Lib.splitB sep 0 k s, t.size ≤ n
  | 0, s, h, t, ht => by rw [Lib.splitB_zero, List.mem_singleton] at ht; subst ht; exact h
  | k + 1, s, h, t, ht => by
    unfold Lib.splitB at ht
    split at ht
    · rw [List.mem_singleton] at ht; subst ht; exact h
    · rcases List.mem_cons.1 ht with rfl | ht
      · simp [ByteArray.size_extract]; omega
      · exact splitB_small sep n k _ (by simp [ByteArray.size_extract]; omega) t ht
theorem split_c (s sep : ByteArray) (hs : s.size ≤ 1000000000) (h1 : 1 ≤ sep.size) (FT : List Nat) (w : World) (hT : (EnvP FT).P w) :
    Calls Tryz.prog 86 #[.string s, .string sep] w (RetNew EStr 9 (Lib.splitB sep 0 (Lib.countB s sep) s) w) := by
  obtain ⟨m, hm⟩ := (EnvP.env hT).2.1
  refine (Tryz.strings_Split s sep m w (by omega) hm h1).mono ?_
  rintro e w2 ⟨rfl, rfl⟩
  have hl := Lib.splitB_all sep h1 0 (Lib.countB s sep) s rfl
  have hc := Lib.countB_le sep h1 s.size s (Nat.le_refl _)
  have hb : Below w.heap.size w (w.alloc (.cells ((Lib.splitB sep 0 (Lib.countB s sep) s).map Value.string).toArray 9)) := below_alloc _ _
  refine ⟨_, [w.heap.size], rfl, .inr ⟨w.heap.size, Lib.countB s sep + 1, (Lib.splitB sep 0 (Lib.countB s sep) s).map Value.string, [], [], by rw [hl], by rw [List.append_nil]; exact Row.made _ _ _, by omega, by unfold maxLen; omega, by simp [hl, EStr], flat_strs fun t ht => ?_, rfl⟩, by simp, by simp, hb⟩
  have := splitB_small sep s.size _ s (Nat.le_refl _) t ht
  unfold maxLen; omega
end Go.Proofs.YtgogcgkocjpgoaaGreatDoor
