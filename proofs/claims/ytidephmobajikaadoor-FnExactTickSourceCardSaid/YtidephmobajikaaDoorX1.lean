/- Pieces of memory that a walk knows, and the state that holds them apart. Plain: no program in sight. -/
import Derived.Test.YtidephmobajikaaDoorLaw2
import Derived.Test.YtidephmobajikaaDoorHeld
import Derived.Deep.MidRow
namespace Go.Proofs.YtidephmobajikaaDoor
open Go.RowKit
/-- a piece of memory: a row of cells that may be written; a slice that reads, that is owned; a struct's value that reads, that is owned; cells that are known; an element that reads -/
inductive Pc : Type 1
  | row (g : Nat) (t : TypeId) (o : Nat) (A cs B : List Value)
  | sl {α : Type} (E : Elem α) (v : Value) (xs : List α) (F : List Nat)
  | ow {α : Type} (E : Elem α) (t : TypeId) (v : Value) (xs : List α) (F : List Nat)
  | isv {α : Type} (E : Elem α) (v : Value) (x : α) (F : List Nat)
  | own {α : Type} (E : Elem α) (v : Value) (x : α) (F : List Nat)
  | cel (b o : Nat) (cs : List Value)
  | flat {α : Type} (E : Elem α) (cs : List Value) (xs : List α) (F : List Nat)
def Pc.P : Pc → World → Prop
  | .row g t o A cs B, w => A.length = o ∧ Row w g t (A ++ cs ++ B)
  | .sl E v xs F, w => 0 < E.sz ∧ Sl E w v xs F
  | .ow E t v xs F, w => F.Nodup ∧ Ow E t w v xs F
  | .isv E v x F, w => IsV E w v x F
  | .own E v x F, w => F.Nodup ∧ IsV E w v x F
  | .cel b o cs, w => cs ≠ [] ∧ w.rangeAt b o cs
  | .flat E cs xs F, w => F.Nodup ∧ Flat E w cs xs F
def Pc.F : Pc → List Nat
  | .row g .. => [g]
  | .sl _ _ _ F | .ow _ _ _ _ F | .isv _ _ _ F | .own _ _ _ F | .flat _ _ _ F => F
  | .cel b .. => [b]
/-- may it be written? then nothing else stands on its blocks -/
def Pc.mu : Pc → Bool
  | .row .. | .ow .. | .own .. | .flat .. => true
  | _ => false
theorem Pc.st (p : Pc) {w w' : World} (h : p.P w) (hF : ∀ b ∈ p.F, w'.heap[b]? = w.heap[b]?) : p.P w' := by
  cases p with
  | row g t o A cs B => exact ⟨h.1, h.2.keep (hF g (by simp [Pc.F]))⟩
  | sl E v xs F => exact ⟨h.1, h.2.frame hF⟩
  | ow E t v xs F => exact ⟨h.1, h.2.frame hF⟩
  | isv E v x F => obtain ⟨cs, hv, h⟩ := h; exact ⟨cs, hv, E.frame h hF⟩
  | own E v x F => obtain ⟨hn, cs, hv, h⟩ := h; exact ⟨hn, cs, hv, E.frame h hF⟩
  | cel b o cs => exact ⟨h.1, fun j v hv => (World.cell?_of_block (w := w) (hF b (by simp [Pc.F]))).trans (h.2 j v hv)⟩
  | flat E cs xs F => exact ⟨h.1, h.2.frame hF⟩
theorem Pc.lt (p : Pc) {w : World} (h : p.P w) : ∀ b ∈ p.F, b < w.heap.size := by
  cases p with
  | row g t o A cs B => intro b hb; simp [Pc.F] at hb; subst hb; exact h.2.lt
  | sl E v xs F => exact h.2.lt h.1
  | ow E t v xs F => exact h.2.lt
  | isv E v x F => obtain ⟨cs, hv, h⟩ := h; exact E.lt h
  | own E v x F => obtain ⟨_, cs, hv, h⟩ := h; exact E.lt h
  | cel b o cs =>
    intro c hc
    simp [Pc.F] at hc; subst hc
    cases cs with
    | nil => exact absurd rfl h.1
    | cons v r => exact World.block_lt_of_cell? w _ (h.2 0 v rfl)
  | flat E cs xs F => exact h.2.lt
/-- two pieces of which one may be written stand apart -/
def Apart (p q : Pc) : Prop := (p.mu || q.mu) = true → ∀ b ∈ p.F, b ∉ q.F
theorem Apart.symm {p q : Pc} (h : Apart p q) : Apart q p := fun hm b hb hp => h (by rw [Bool.or_comm]; exact hm) b hp hb
def Sep : List Pc → Prop
  | [] => True
  | p :: R => (∀ q ∈ R, Apart p q) ∧ Sep R
/-- all pieces hold -/
def Hol (H : List Pc) (w : World) : Prop := ∀ p ∈ H, p.P w
theorem hol1 {p : Pc} {w : World} (h : p.P w) : Hol [p] w := fun q hq => by simp at hq; subst hq; exact h
/-- the blocks of pieces -/
def fp : List Pc → List Nat
  | [] => []
  | p :: R => p.F ++ fp R
theorem mem_fp {b : Nat} : ∀ {H : List Pc}, b ∈ fp H ↔ ∃ p ∈ H, b ∈ p.F
  | [] => by simp [fp]
  | p :: R => by simp [fp, mem_fp (H := R)]
theorem Hol.st {H : List Pc} {w w' : World} (h : Hol H w) (hF : ∀ p ∈ H, ∀ b ∈ p.F, w'.heap[b]? = w.heap[b]?) : Hol H w' := fun p hp => p.st (h p hp) (hF p hp)
theorem Hol.below {H : List Pc} {w w' : World} (h : Hol H w) (hb : Below w.heap.size w w') : Hol H w' := h.st fun p hp b hm => hb.block b (p.lt (h p hp) b hm)
/-- the state of a walk that began in w0: the pieces of G may be written, those of D may be read -/
structure St (G D : List Nat) (w0 : World) (H : List Pc) (w : World) : Prop where
  keep : Keep G w0 w
  on : Hol H w
  sep : Sep H
  mine : ∀ p ∈ H, ∀ b ∈ p.F, b ∈ G ∨ w0.heap.size ≤ b ∨ (p.mu = false ∧ b ∈ D)
section
variable {G D : List Nat} {w0 : World}
theorem Sep.perm2 {p q : Pc} {R : List Pc} (h : Sep (p :: q :: R)) : Sep (q :: p :: R) :=
  ⟨fun x hx => by
    rcases List.mem_cons.1 hx with rfl | hx
    · exact (h.1 q (by simp)).symm
    · exact h.2.1 x hx, fun x hx => h.1 x (by simp [hx]), h.2.2⟩
/-- taking a piece out -/
inductive Pick : List Pc → Pc → List Pc → Prop
  | here {p R} : Pick (p :: R) p R
  | there {x p R R'} : Pick R p R' → Pick (x :: R) p (x :: R')
theorem Pick.mem {H p R} (h : Pick H p R) : p ∈ H := by
  induction h with
  | here => simp
  | there _ ih => simp [ih]
theorem Pick.sub {H p R} (h : Pick H p R) : ∀ q ∈ R, q ∈ H := by
  induction h with
  | here => intro q hq; simp [hq]
  | there _ ih =>
    intro q hq
    rcases List.mem_cons.1 hq with rfl | hq
    · simp
    · simp [ih q hq]
theorem Pick.sep {H p R} (h : Pick H p R) (hs : Sep H) : Sep (p :: R) := by
  induction h with
  | here => exact hs
  | @there x p R R' h ih =>
    have h2 := ih hs.2
    exact Sep.perm2 ⟨fun q hq => by
      rcases List.mem_cons.1 hq with rfl | hq
      · exact hs.1 _ h.mem
      · exact hs.1 _ (h.sub q hq), h2⟩
theorem St.pick {H p R w} (s : St G D w0 H w) (h : Pick H p R) : St G D w0 (p :: R) w :=
  ⟨s.keep, fun q hq => by
    rcases List.mem_cons.1 hq with rfl | hq
    · exact s.on _ h.mem
    · exact s.on _ (h.sub q hq), h.sep s.sep, fun q hq => by
    rcases List.mem_cons.1 hq with rfl | hq
    · exact s.mine _ h.mem
    · exact s.mine _ (h.sub q hq)⟩
theorem St.tail {p R w} (s : St G D w0 (p :: R) w) : St G D w0 R w := ⟨s.keep, fun q hq => s.on q (by simp [hq]), s.sep.2, fun q hq => s.mine q (by simp [hq])⟩
theorem St.get {H p w} (s : St G D w0 H w) (h : p ∈ H) : p.P w := s.on p h
/-- the pieces N come in the place of M; all else stands -/
theorem St.turn {M R N : List Pc} {w w' : World} (s : St G D w0 (M ++ R) w) (hk : Keep (fp (M.filter (·.mu))) w w') (hN : Hol N w') (hs : Sep N)
    (hF : ∀ p ∈ N, ∀ b ∈ p.F, w.heap.size ≤ b ∨ (∃ q ∈ M, q.mu = true ∧ b ∈ q.F) ∨ (p.mu = false ∧ ∃ q ∈ M ++ R, q.mu = false ∧ b ∈ q.F)) : St G D w0 (N ++ R) w' := by
  have hsep : ∀ (A B : List Pc), Sep (A ++ B) → Sep A ∧ Sep B ∧ ∀ p ∈ A, ∀ q ∈ B, Apart p q := by
    intro A
    induction A with
    | nil => intro B h; exact ⟨trivial, h, by simp⟩
    | cons p A ih =>
      intro B h
      obtain ⟨h1, h2, h3⟩ := ih B h.2
      exact ⟨⟨fun q hq => h.1 q (by simp [hq]), h1⟩, h2, fun x hx q hq => by
        rcases List.mem_cons.1 hx with rfl | hx
        · exact h.1 q (by simp [hq])
        · exact h3 x hx q hq⟩
  have hjoin : ∀ (A B : List Pc), Sep A → Sep B → (∀ p ∈ A, ∀ q ∈ B, Apart p q) → Sep (A ++ B) := by
    intro A
    induction A with
    | nil => intro B _ h _; exact h
    | cons p A ih =>
      intro B hA hB h
      exact ⟨fun q hq => by
        rcases List.mem_append.1 hq with hq | hq
        · exact hA.1 q hq
        · exact h p (by simp) q hq, ih B hA.2 hB fun x hx q hq => h x (by simp [hx]) q hq⟩
  obtain ⟨sM, sR, sMR⟩ := hsep M R s.sep
  have hRlt : ∀ q ∈ R, ∀ b ∈ q.F, b < w.heap.size := fun q hq => q.lt (s.on q (by simp [hq]))
  have hMR : ∀ q ∈ R, ∀ b ∈ q.F, b ∉ fp (M.filter (·.mu)) := fun q hq b hb hm => by
    obtain ⟨p, hp, hpb⟩ := mem_fp.1 hm
    obtain ⟨hp, hmu⟩ := List.mem_filter.1 hp
    exact sMR p hp q hq (by simp [hmu]) b hpb hb
  have hG : ∀ b ∈ fp (M.filter (·.mu)), b ∈ G ∨ w0.heap.size ≤ b := fun b hb => by
    obtain ⟨p, hp, hpb⟩ := mem_fp.1 hb
    obtain ⟨hp, hmu⟩ := List.mem_filter.1 hp
    rcases s.mine p (by simp [hp]) b hpb with h | h | ⟨h, _⟩
    · exact .inl h
    · exact .inr h
    · rw [hmu] at h; cases h
  refine ⟨⟨hk.os.trans s.keep.os, hk.tape.trans s.keep.tape, hk.output.trans s.keep.output, Nat.le_trans s.keep.size hk.size, fun k hlt hn => (hk.block k (Nat.lt_of_lt_of_le hlt s.keep.size) fun hm => ?_).trans (s.keep.block k hlt hn)⟩, fun p hp => ?_, hjoin N R hs sR fun p hp q hq hmu b hb hqb => ?_, fun p hp b hb => ?_⟩
  · rcases hG k hm with h | h
    · exact hn h
    · omega
  · rcases List.mem_append.1 hp with hp | hp
    · exact hN p hp
    · exact p.st (s.on p (by simp [hp])) fun b hb => hk.block b (hRlt p hp b hb) (hMR p hp b hb)
  · rcases hF p hp b hb with h | ⟨m, hm, hmm, hmb⟩ | ⟨hpm, m, hm, hmm, hmb⟩
    · have := hRlt q hq b hqb; omega
    · exact sMR m hm q hq (by simp [hmm]) b hmb hqb
    · have hqm : q.mu = true := by simpa [hpm] using hmu
      rcases List.mem_append.1 hm with hm | hm
      · exact sMR m hm q hq (by simp [hqm]) b hmb hqb
      · -- two pieces of R
        have : ∀ (R : List Pc), Sep R → ∀ m ∈ R, ∀ q ∈ R, m.mu = false → q.mu = true → ∀ b ∈ m.F, b ∉ q.F := by
          intro R
          induction R with
          | nil => intro _ m hm; simp at hm
          | cons x R ih =>
            intro hs m hm q hq h1 h2 b hb hqb
            rcases List.mem_cons.1 hm with e | hm2
            · subst e
              rcases List.mem_cons.1 hq with e | hq2
              · subst e; rw [h1] at h2; cases h2
              · exact hs.1 q hq2 (by simp [h2]) b hb hqb
            · rcases List.mem_cons.1 hq with e | hq2
              · subst e; exact hs.1 m hm2 (by simp [h2]) b hqb hb
              · exact ih hs.2 m hm2 q hq2 h1 h2 b hb hqb
        exact this R sR m hm q hq hmm hqm b hmb hqb
  · rcases List.mem_append.1 hp with hp | hp
    · rcases hF p hp b hb with h | ⟨m, hm, hmm, hmb⟩ | ⟨hpm, m, hm, hmm, hmb⟩
      · right; left; exact Nat.le_trans s.keep.size h
      · rcases s.mine m (by simp [hm]) b hmb with h | h | ⟨h, _⟩
        · exact .inl h
        · exact .inr (.inl h)
        · rw [hmm] at h; cases h
      · rcases s.mine m hm b hmb with h | h | ⟨_, h⟩
        · exact .inl h
        · exact .inr (.inl h)
        · exact .inr (.inr ⟨hpm, h⟩)
    · exact s.mine p (by simp [hp]) b hb
end
end Go.Proofs.YtidephmobajikaaDoor
