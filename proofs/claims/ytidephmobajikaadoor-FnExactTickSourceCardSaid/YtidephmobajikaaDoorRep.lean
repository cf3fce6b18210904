/- How slices of numbers, strings and structs read in a world; the blocks that a reading takes. Plain: no program in sight. -/
import Derived.WalkKit
import Derived.Lib.Hide
namespace Go.Proofs.YtidephmobajikaaDoor
open Go.RowKit

/-- a cell that is there reads as before, behind whatever leaves old blocks alone -/
theorem kc {w w' : World} {a : Addr} {v : Value} (hb : Below w.heap.size w w') (h : w.cell? a = some v) : w'.cell? a = some v :=
  (hb.cell (World.block_lt_of_cell? w a h)).trans h
theorem kf {w w' : World} {a : Addr} {v : Value} (hb : Below w.heap.size w w') (h : w.cell? a = some v) : w'.frozen? a = w.frozen? a :=
  hb.frozen (World.block_lt_of_cell? w a h)
theorem tr {B : Nat} {w w1 w2 : World} (h : Below B w w1) (h' : Below w1.heap.size w1 w2) (hB : B ≤ w.heap.size) : Below B w w2 := h.trans (h'.mono (Nat.le_trans hB h.size))

/-- How a value of one Go type lies in its cells: 'F': the blocks that the reading goes through. -/
structure Elem (α : Type) where
  sz : Nat
  rep : World → List Value → α → List Nat → Prop
  len : ∀ {w cs x F}, rep w cs x F → cs.length = sz
  lt : ∀ {w cs x F}, rep w cs x F → ∀ b ∈ F, b < w.heap.size
  frame : ∀ {w w' : World} {cs x F}, rep w cs x F → (∀ b ∈ F, w'.heap[b]? = w.heap[b]?) → rep w' cs x F

/-- the cells from 'off' on hold the elements one behind the other -/
def Cells {α : Type} (E : Elem α) (w : World) (b : Nat) : Nat → List α → List Nat → Prop
  | _, [], F => F = []
  | off, x :: r, F => ∃ cs F1 F2, F = F1 ++ F2 ∧ E.rep w cs x F1 ∧ (∀ j, j < E.sz → w.cell? ⟨b, off + j, none⟩ = cs[j]?) ∧ Cells E w b (off + E.sz) r F2

/-- a slice that reads as a list -/
def Sl {α : Type} (E : Elem α) (w : World) (v : Value) (xs : List α) (F : List Nat) : Prop :=
  ∃ a cap, v = .slice a xs.length cap ∧ (xs.length ≤ cap ∧ cap ≤ maxLen) ∧
    ((xs = [] ∧ F = [] ∧ (a = none → cap = 0)) ∨ ∃ b off F', a = some ⟨b, off, none⟩ ∧ xs ≠ [] ∧ F = b :: F' ∧ Cells E w b off xs F')

theorem Cells.lt {α : Type} {E : Elem α} {w : World} {b : Nat} : ∀ {xs : List α} {off : Nat} {F : List Nat}, Cells E w b off xs F → ∀ c ∈ F, c < w.heap.size
  | [], _, _, h => by simp [Cells] at h; simp [h]
  | _ :: r, _, _, h => by
    obtain ⟨cs, F1, F2, rfl, h1, _, h2⟩ := h
    intro c hc
    rcases List.mem_append.1 hc with hc | hc
    · exact E.lt h1 c hc
    · exact Cells.lt h2 c hc
theorem Cells.frame {α : Type} {E : Elem α} {w w' : World} {b : Nat} (hb : w'.heap[b]? = w.heap[b]?) : ∀ {xs : List α} {off : Nat} {F : List Nat}, Cells E w b off xs F →
    (∀ c ∈ F, w'.heap[c]? = w.heap[c]?) → Cells E w' b off xs F
  | [], _, _, h, _ => h
  | _ :: r, _, _, h, hF => by
    obtain ⟨cs, F1, F2, rfl, h1, hc, h2⟩ := h
    refine ⟨cs, F1, F2, rfl, E.frame h1 fun c hc => hF c (by simp [hc]), fun j hj => ?_, Cells.frame hb h2 fun c hc => hF c (by simp [hc])⟩
    rw [World.cell?_of_block (w := w) hb]; exact hc j hj
/-- element i: its cells, its blocks -/
theorem Cells.get {α : Type} {E : Elem α} {w : World} {b : Nat} : ∀ {xs : List α} {off : Nat} {F : List Nat}, Cells E w b off xs F → ∀ (i : Nat) (hi : i < xs.length),
    ∃ cs F1, E.rep w cs xs[i] F1 ∧ (∀ j, j < E.sz → w.cell? ⟨b, off + i * E.sz + j, none⟩ = cs[j]?) ∧ ∀ c ∈ F1, c ∈ F
  | [], _, _, _, i, hi => by simp at hi
  | x :: r, off, _, h, 0, _ => by
    obtain ⟨cs, F1, F2, rfl, h1, hc, h2⟩ := h
    exact ⟨cs, F1, h1, by simpa using hc, fun c hc => by simp [hc]⟩
  | x :: r, off, _, h, i + 1, hi => by
    obtain ⟨cs, F1, F2, rfl, h1, hc, h2⟩ := h
    obtain ⟨cs', F3, h3, hc3, hm⟩ := Cells.get h2 i (by simpa using hi)
    refine ⟨cs', F3, by simpa using h3, fun j hj => ?_, fun c hc => by simp [hm c hc]⟩
    rw [← hc3 j hj, show off + (i + 1) * E.sz + j = off + E.sz + i * E.sz + j by rw [Nat.add_mul]; omega]
theorem Cells.block {α : Type} {E : Elem α} {w : World} {b off : Nat} {xs : List α} {F : List Nat} (h : Cells E w b off xs F) (hne : xs ≠ []) (hz : 0 < E.sz) : b < w.heap.size := by
  cases xs with
  | nil => exact absurd rfl hne
  | cons x r =>
    obtain ⟨cs, F1, F2, rfl, h1, hc, h2⟩ := h
    have h0 := hc 0 hz
    have hl := E.len h1
    rw [List.getElem?_eq_getElem (by omega)] at h0
    exact World.block_lt_of_cell? w _ h0

theorem Sl.lt {α : Type} {E : Elem α} (hz : 0 < E.sz) {w v xs F} (h : Sl E w v xs F) : ∀ c ∈ F, c < w.heap.size := by
  obtain ⟨a, cap, _, _, ⟨_, rfl, _⟩ | ⟨b, off, F', _, hne, rfl, hc⟩⟩ := h
  · simp
  · intro c hm
    rcases List.mem_cons.1 hm with rfl | hm
    · exact hc.block hne hz
    · exact hc.lt c hm
theorem Sl.frame {α : Type} {E : Elem α} {w w' : World} {v xs F} (h : Sl E w v xs F) (hF : ∀ b ∈ F, w'.heap[b]? = w.heap[b]?) : Sl E w' v xs F := by
  obtain ⟨a, cap, hv, hl, ⟨h1, h2⟩ | ⟨b, off, F', h1, hne, rfl, hc⟩⟩ := h
  · exact ⟨a, cap, hv, hl, .inl ⟨h1, h2⟩⟩
  · exact ⟨a, cap, hv, hl, .inr ⟨b, off, F', h1, hne, rfl, hc.frame (hF b (by simp)) fun c hc => hF c (by simp [hc])⟩⟩

theorem Sl.below {α : Type} {E : Elem α} (hz : 0 < E.sz) {w w' : World} {v xs F} (h : Sl E w v xs F) (hb : Below w.heap.size w w') : Sl E w' v xs F :=
  h.frame fun c hc => hb.block c (h.lt hz c hc)

def EInt : Elem Int where
  sz := 1
  rep _ cs z F := cs = [.int .i64 z] ∧ F = []
  len h := by simp [h.1]
  lt h := by simp [h.2]
  frame h _ := h
def EBool : Elem Bool where
  sz := 1
  rep _ cs z F := cs = [.bool z] ∧ F = []
  len h := by simp [h.1]
  lt h := by simp [h.2]
  frame h _ := h
def EStr : Elem ByteArray where
  sz := 1
  rep _ cs s F := cs = [.string s] ∧ s.size ≤ maxLen ∧ F = []
  len h := by simp [h.1]
  lt h := by simp [h.2.2]
  frame h _ := h
def ESl {α : Type} (E : Elem α) (hz : 0 < E.sz) : Elem (List α) where
  sz := 1
  rep w cs xs F := ∃ v, cs = [v] ∧ Sl E w v xs F
  len h := by obtain ⟨v, rfl, _⟩ := h; rfl
  lt h := by obtain ⟨v, rfl, h⟩ := h; exact h.lt hz
  frame h hF := by obtain ⟨v, rfl, h⟩ := h; exact ⟨v, rfl, h.frame hF⟩
/-- a struct without fields -/
def EUnit : Elem Unit where
  sz := 0
  rep _ cs _ F := cs = [] ∧ F = []
  len h := by simp [h.1]
  lt h := by simp [h.2]
  frame h _ := h
/-- a field, then the others -/
def EProd {α β : Type} (A : Elem α) (B : Elem β) : Elem (α × β) where
  sz := A.sz + B.sz
  rep w cs x F := ∃ c1 c2 F1 F2, cs = c1 ++ c2 ∧ F = F1 ++ F2 ∧ A.rep w c1 x.1 F1 ∧ B.rep w c2 x.2 F2
  len h := by obtain ⟨c1, c2, F1, F2, rfl, rfl, h1, h2⟩ := h; simp [A.len h1, B.len h2]
  lt h := by
    obtain ⟨c1, c2, F1, F2, rfl, rfl, h1, h2⟩ := h
    intro b hb
    rcases List.mem_append.1 hb with hb | hb
    · exact A.lt h1 b hb
    · exact B.lt h2 b hb
  frame h hF := by
    obtain ⟨c1, c2, F1, F2, rfl, rfl, h1, h2⟩ := h
    exact ⟨c1, c2, F1, F2, rfl, rfl, A.frame h1 fun b hb => hF b (by simp [hb]), B.frame h2 fun b hb => hF b (by simp [hb])⟩
/-- a type of our own that reads through another one -/
def Elem.comap {α β : Type} (B : Elem β) (f : α → β) : Elem α where
  sz := B.sz
  rep w cs x F := B.rep w cs (f x) F
  len h := B.len h
  lt h := B.lt h
  frame h hF := B.frame h hF
theorem Elem.below {α : Type} (E : Elem α) {w w' : World} {cs x F} (h : E.rep w cs x F) (hb : Below w.heap.size w w') : E.rep w' cs x F :=
  E.frame h fun c hc => hb.block c (E.lt h c hc)

structure LogRec where
  command : ByteArray
  reply : ByteArray
def ERec : Elem LogRec := (EProd EStr (EProd EStr EUnit)).comap fun x => (x.command, x.reply, ())
theorem ERec.open {w cs x F} (h : ERec.rep w cs x F) : cs = [.string x.command, .string x.reply] ∧ x.command.size ≤ maxLen ∧ x.reply.size ≤ maxLen := by
  obtain ⟨c1, c2, F1, F2, rfl, rfl, ⟨rfl, h1, _⟩, c3, c4, F3, F4, rfl, rfl, ⟨rfl, h2, _⟩, rfl, _⟩ := h
  exact ⟨rfl, h1, h2⟩
end Go.Proofs.YtidephmobajikaaDoor
