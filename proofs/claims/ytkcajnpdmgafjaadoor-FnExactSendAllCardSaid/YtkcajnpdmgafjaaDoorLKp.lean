/- Links: what is sent. Plain lists. -/
import Derived.Test.YtkcajnpdmgafjaaDoorLink
namespace Go.Proofs.YtkcajnpdmgafjaaDoor
open Go.RowKit
def fateAt (f : ByteArray) (u : Int) : Int := if u = f.size then 107 else if h : u.toNat < f.size then (f[u.toNat].toNat : Int) else 0
theorem fateAt_end {f : ByteArray} {u : Int} (h : u = f.size) : fateAt f u = 107 := by unfold fateAt; rw [if_pos h]
theorem fateAt_lt {f : ByteArray} {u : Int} (h : ¬ u = f.size) (h2 : u.toNat < f.size) : fateAt f u = (f[u.toNat].toNat : Int) := by unfold fateAt; rw [if_neg h, dif_pos h2]
def sentQ (q : List ByteArray) (f : Int) (s : ByteArray) : List ByteArray :=
  if f = 108 then q else if f = 115 ∧ 0 < q.length then q.take (q.length - 1) ++ s :: q.drop (q.length - 1) else if f = 100 ∧ q.length + 1 < 8 then q ++ [s, s] else q ++ [s]
def sendOk (x : Link) (s : ByteArray) : Bool := !decide (60 < (s.size : Int)) && (decide (fateAt x.fates x.used = 108) || !decide (x.queue.length = 8))
def sentL (x : Link) (s : ByteArray) : Link := ⟨sentQ x.queue (fateAt x.fates x.used) s, x.fates, min (x.used + 1) x.fates.size⟩
structure GoodL (x : Link) : Prop where
  l : x.queue.length ≤ 8
  q : ∀ s ∈ x.queue, s.size ≤ 60
  f : x.fates.size ≤ 40
  u0 : 0 ≤ x.used
  u1 : x.used ≤ x.fates.size
theorem goodL_of {x : Link} (h : goodLink x = true) : GoodL x := by
  obtain ⟨⟨⟨⟨h1, h2⟩, h3⟩, h4⟩, h5, h6⟩ := goodLink_iff.1 h
  exact ⟨by omega, fun s hs => by have := List.all_eq_true.1 h2 s hs; unfold shortT at this; simp at this; omega, by omega, h5, h6⟩
theorem fateS_at {x : Link} (h : goodLink x = true) (hu : ¬ x.used = x.fates.size) : fateAt x.fates x.used = 107 ∨ fateAt x.fates x.used = 108 ∨ fateAt x.fates x.used = 100 ∨ fateAt x.fates x.used = 115 := by
  have g := goodL_of h
  have h0 := g.u0; have h1 := g.u1
  have h2 : x.used.toNat < x.fates.size := by omega
  rw [fateAt_lt hu h2]
  obtain ⟨⟨⟨⟨-, -⟩, -⟩, h4⟩, -⟩ := goodLink_iff.1 h
  have hb : fateB x.fates[x.used.toNat] = true := by
    have := List.all_eq_true.1 h4 x.fates[x.used.toNat]
    exact this (by rw [ByteArray.getElem_eq_getElem_data, Array.mem_toList_iff]; exact Array.getElem_mem _)
  unfold fateB at hb
  simp only [decide_eq_true_eq] at hb
  rcases fateN_or (x.fates[x.used.toNat].toNat : Int) with ⟨e, -⟩ | ⟨e, -⟩ | ⟨e, -⟩ | ⟨e, -⟩ | ⟨-, -, -, -, e⟩
  · exact .inl e
  · exact .inr (.inl e)
  · exact .inr (.inr (.inl e))
  · exact .inr (.inr (.inr e))
  · omega
theorem fate_or {x : Link} (h : goodLink x = true) : fateAt x.fates x.used = 107 ∨ fateAt x.fates x.used = 108 ∨ fateAt x.fates x.used = 100 ∨ fateAt x.fates x.used = 115 := by
  by_cases hu : x.used = x.fates.size
  · exact .inl (fateAt_end hu)
  · exact fateS_at h hu
theorem sent_good {x : Link} {s : ByteArray} (h : goodLink x = true) (hs : sendOk x s = true) : goodLink (sentL x s) = true := by
  obtain ⟨⟨⟨⟨h1, h2⟩, h3⟩, h4⟩, h5, h6⟩ := goodLink_iff.1 h
  unfold sendOk at hs
  simp only [Bool.and_eq_true, Bool.or_eq_true, Bool.not_eq_true', decide_eq_true_eq, decide_eq_false_iff_not] at hs
  obtain ⟨hz, hq⟩ := hs
  have hsh : shortT s = true := by unfold shortT; simp; omega
  refine goodLink_iff.2 ⟨⟨⟨⟨?_, ?_⟩, h3⟩, h4⟩, ?_, ?_⟩
  · unfold sentL sentQ
    dsimp only
    split
    · exact h1
    · have : x.queue.length ≠ 8 := by rcases hq with e | e; contradiction; exact e
      split
      · simp; omega
      · split <;> simp <;> omega
  · unfold sentL sentQ
    dsimp only
    have hd : ∀ k, (x.queue.drop k).all shortT = true := fun k => List.all_eq_true.2 fun z hz => List.all_eq_true.1 h2 z (List.mem_of_mem_drop hz)
    have ht : ∀ k, (x.queue.take k).all shortT = true := fun k => List.all_eq_true.2 fun z hz => List.all_eq_true.1 h2 z (List.mem_of_mem_take hz)
    split
    · exact h2
    · split
      · simp only [List.all_append, List.all_cons, hd, ht, hsh, Bool.and_self]
      · split <;> simp only [List.all_append, List.all_cons, List.all_nil, h2, hsh, Bool.and_self]
  · show 0 ≤ min (x.used + 1) x.fates.size; omega
  · show min (x.used + 1) x.fates.size ≤ x.fates.size; omega
end Go.Proofs.YtkcajnpdmgafjaaDoor
