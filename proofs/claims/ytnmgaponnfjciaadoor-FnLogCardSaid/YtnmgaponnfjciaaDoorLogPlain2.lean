/- The log's plain law, second part: what is appended, what a crash leaves, what is read back. No program in sight. -/
import Derived.Test.YtnmgaponnfjciaaDoorLogPlain
namespace Go.Proofs.YtnmgaponnfjciaaDoor
open Go.RowKit
theorem okL_bytes {k : Nat} {x : Bs} (h : okL k x = true) : ∃ y, x = y ++ [10] ∧ ∀ b ∈ y, 32 ≤ b.toNat ∧ b.toNat ≤ 126 := by
  obtain ⟨c, r, _, hg, rfl⟩ := okL_iff.1 h
  have hG := goodL_good hg
  refine ⟨sealL (bodyL k c r), rfl, fun b hb => ?_⟩
  unfold sealL at hb
  simp only [List.mem_append, List.mem_cons] at hb
  rcases hb with hb | rfl | hb
  · exact (bodyL_mem hG b hb).1
  · decide
  · have := digit_mem _ b hb; omega
theorem okL_no {k : Nat} {z : Bs} (h : ∀ b ∈ z, b ≠ 10) : okL k z = false := by
  cases hk : okL k z with
  | false => rfl
  | true =>
    obtain ⟨y, rfl, _⟩ := okL_bytes hk
    exact absurd rfl (h 10 (by simp))
theorem acc_no {k : Nat} {z : Bs} (h : ∀ b ∈ z, b ≠ 10) : acc k (linesOf z) = [] := by
  by_cases hz : z = []
  · subst hz; rfl
  · rw [linesOf_last hz h]; simp [acc, okL_no h]
theorem acc_cons {k : Nat} {x : Bs} {xs : List Bs} (h : acc k (x :: xs) = x :: xs) : okL k x = true ∧ acc (k + 1) xs = xs := by
  unfold acc at h
  split at h
  · rename_i h1; exact ⟨h1, by simpa using h⟩
  · cases h
theorem acc_whole {k : Nat} {x : Bs} (h : okL k x = true) (r : Bs) : acc k (linesOf (x ++ r)) = x :: acc (k + 1) (linesOf r) := by
  obtain ⟨y, rfl, hy⟩ := okL_whole h
  rw [List.append_assoc, List.singleton_append, linesOf_nl _ hy]
  simp [acc, h]
/-- a text is cut short: the records that are whole stay -/
theorem acc_cut : ∀ (xs : List Bs) (k m : Nat), acc k xs = xs → ∃ j, acc k (linesOf (xs.flatten.take m)) = xs.take j
  | [], k, m, _ => ⟨0, by simp [linesOf, acc]⟩
  | x :: xs, k, m, h => by
    obtain ⟨hx, hr⟩ := acc_cons h
    by_cases hm : x.length ≤ m
    · obtain ⟨j, hj⟩ := acc_cut xs (k + 1) (m - x.length) hr
      refine ⟨j + 1, ?_⟩
      rw [List.flatten_cons, List.take_append, List.take_of_length_le hm, acc_whole hx, hj]
      rfl
    · refine ⟨0, ?_⟩
      rw [List.flatten_cons, List.take_append_of_le_length (by omega)]
      obtain ⟨y, rfl, hy⟩ := okL_bytes hx
      rw [List.take_append_of_le_length (by simp at hm; omega)]
      rw [acc_no fun b hb e => by have := hy b (List.mem_of_mem_take hb); subst e; simp at this]
      rfl
/-- the last byte turned -/
def torn : Bs → Bs
  | [] => []
  | [b] => [255 - b]
  | b :: c :: r => b :: torn (c :: r)
theorem torn_len : ∀ l : Bs, (torn l).length = l.length
  | [] => rfl
  | [_] => rfl
  | b :: c :: r => by simp [torn, torn_len (c :: r)]
theorem torn_append : ∀ (x : Bs) {r : Bs}, r ≠ [] → torn (x ++ r) = x ++ torn r
  | [], _, _ => rfl
  | [b], c :: r, _ => rfl
  | b :: c :: x, r, h => by
    have := torn_append (c :: x) h
    simp only [List.cons_append] at this ⊢
    simp only [torn, this]
theorem torn_snoc (l : Bs) (b : UInt8) : torn (l ++ [b]) = l ++ [255 - b] := torn_append l (r := [b]) (by simp)
theorem flip_ne {b : UInt8} (h : 32 ≤ b.toNat ∧ b.toNat ≤ 126) : (255 - b) ≠ 10 := by
  have h2 : (255 - b).toNat = 255 - b.toNat := by rw [UInt8.toNat_sub_of_le]; rfl; exact UInt8.le_iff_toNat_le.2 (by have := b.toNat_lt; simp; omega)
  exact ne_of_toNat (by rw [h2]; simp; omega)
theorem torn_ne {z : Bs} (h : ∀ b ∈ z, 32 ≤ b.toNat ∧ b.toNat ≤ 126) : ∀ b ∈ torn z, b ≠ 10 := by
  rcases List.eq_nil_or_concat z with rfl | ⟨y, c, rfl⟩
  · intro b hb; simp [torn] at hb
  · rw [List.concat_eq_append] at h ⊢
    rw [torn_snoc]
    intro b hb
    rcases List.mem_append.1 hb with hb | hb
    · have := h b (by simp [hb]); exact ne_of_toNat (by simp; omega)
    · simp only [List.mem_singleton] at hb; subst hb; exact flip_ne (h c (by simp))
theorem acc_torn : ∀ (xs : List Bs) (k m : Nat), acc k xs = xs → ∃ j, acc k (linesOf (torn (xs.flatten.take m))) = xs.take j
  | [], k, m, _ => ⟨0, by simp [linesOf, acc, torn]⟩
  | x :: xs, k, m, h => by
    obtain ⟨hx, hr⟩ := acc_cons h
    obtain ⟨y, rfl, hy⟩ := okL_bytes hx
    by_cases hm : (y ++ [10]).length < m ∧ xs.flatten.take (m - (y ++ [10]).length) ≠ []
    · obtain ⟨j, hj⟩ := acc_torn xs (k + 1) (m - (y ++ [10]).length) hr
      refine ⟨j + 1, ?_⟩
      rw [List.flatten_cons, List.take_append, List.take_of_length_le (by omega), torn_append _ hm.2, acc_whole hx, hj]
      rfl
    · refine ⟨0, ?_⟩
      have e : ∃ i, (List.flatten ((y ++ [10]) :: xs)).take m = (y ++ [10]).take i := by
        rw [List.flatten_cons, List.take_append]
        by_cases h2 : (y ++ [10]).length < m
        · have h3 : xs.flatten.take (m - (y ++ [10]).length) = [] := Classical.byContradiction fun h3 => hm ⟨h2, h3⟩
          exact ⟨m, by rw [h3, List.append_nil]⟩
        · have h4 : m - (y ++ [10]).length = 0 := by omega
          exact ⟨m, by rw [h4]; simp⟩
      obtain ⟨i, hi⟩ := e
      rw [hi]
      rw [acc_no ?_]
      · rfl
      by_cases h2 : i ≤ y.length
      · rw [List.take_append_of_le_length h2]
        exact torn_ne fun b hb => hy b (List.mem_of_mem_take hb)
      · rw [List.take_of_length_le (by simp; omega), torn_snoc]
        intro b hb
        rcases List.mem_append.1 hb with hb | hb
        · have := hy b hb; exact ne_of_toNat (by simp; omega)
        · simp only [List.mem_singleton] at hb; subst hb; decide
theorem opened_split {d : Bs} (hd : (opened d).flatten.length = d.length) (q : Bs) : opened (d ++ q) = opened d ++ acc (opened d).length (linesOf q) := by
  have hf := opened_full hd
  have h2 := opened_lines (xs := opened d) (by rw [hf]; exact hf) q
  rw [opened_eq hd] at h2
  exact h2
theorem acc_idem (s : Bs) : acc 0 (opened s) = opened s := by
  have h := acc_all 0 (linesOf s) (opened s).length
  have e : (acc 0 (linesOf s)).take (opened s).length = opened s := List.take_length
  rwa [e] at h
theorem opened_again (s : Bs) : opened (opened s).flatten = opened s := by
  have h := opened_lines (xs := opened s) (acc_idem s) []
  simpa [linesOf, acc] using h
/-- the log is valid -/
structure Valid (d p : Bs) (n : Int) : Prop where
  all : (opened (d ++ p)).flatten = d ++ p
  dur : (opened d).flatten = d
  cnt : n = (opened (d ++ p)).length
theorem valid_of {d p : Bs} {n : Int} (h : validR d p n = true) : Valid d p n := by
  unfold validR at h
  simp only [Bool.and_eq_true, decide_eq_true_eq] at h
  exact ⟨opened_eq (by simp [h.2.1.1]), opened_eq h.2.1.2, h.2.2.symm⟩
theorem Valid.bool {d p : Bs} {n : Int} (h : Valid d p n) : validR d p n = true := by
  unfold validR
  have h1 := opened_small (d ++ p)
  have h2 := congrArg List.length h.all
  have h3 := congrArg List.length h.dur
  rw [List.length_append] at h2
  simp only [Bool.and_eq_true, decide_eq_true_eq]
  exact ⟨by omega, ⟨h2, h3⟩, h.cnt.symm⟩
/-- what has been recovered is valid -/
theorem Valid.recovered (s : Bs) : Valid (opened s).flatten [] (opened s).length := by
  refine ⟨?_, ?_, ?_⟩ <;> simp only [List.append_nil, opened_again]
/-- a record appended -/
theorem Valid.append {d p x : Bs} {n : Int} (h : Valid d p n) (hx : okL (opened (d ++ p)).length x = true) : Valid d (p ++ x) (n + 1) ∧ opened (d ++ (p ++ x)) = opened (d ++ p) ++ [x] := by
  have h1 := opened_split (d := d ++ p) (by rw [h.all]) x
  have h2 := acc_whole hx []
  simp only [List.append_nil, linesOf, acc] at h2
  rw [h2, List.append_assoc] at h1
  refine ⟨⟨?_, h.dur, ?_⟩, h1⟩
  · rw [h1, List.flatten_append, h.all]; simp
  · rw [h1, List.length_append, h.cnt]; simp
/-- a log made durable -/
theorem Valid.sync {d p : Bs} {n : Int} (h : Valid d p n) : Valid (d ++ p) [] n := by
  refine ⟨?_, ?_, ?_⟩
  · rw [List.append_nil]; exact h.all
  · exact h.all
  · rw [List.append_nil]; exact h.cnt
/-- what a crash leaves -/
theorem Valid.crash {d p : Bs} {n : Int} (h : Valid d p n) (m : Nat) (t : Bool) : ∃ j, opened (d ++ (if t then torn (p.take m) else p.take m)) = opened d ++ ((opened (d ++ p)).drop (opened d).length).take j := by
  have hp := opened_split (d := d) (by rw [h.dur]) p
  have hd : (opened (d ++ p)).drop (opened d).length = acc (opened d).length (linesOf p) := by rw [hp]; simp
  have hf : (acc (opened d).length (linesOf p)).flatten = p := by
    have := h.all
    rw [hp, List.flatten_append, h.dur] at this
    exact List.append_cancel_left this
  have hi : acc (opened d).length (acc (opened d).length (linesOf p)) = acc (opened d).length (linesOf p) := by
    have := acc_all (opened d).length (linesOf p) (acc (opened d).length (linesOf p)).length
    rwa [List.take_length] at this
  rw [hd, opened_split (d := d) (by rw [h.dur])]
  cases t with
  | false =>
    obtain ⟨j, hj⟩ := acc_cut _ _ m hi
    rw [hf] at hj
    exact ⟨j, by simpa using hj⟩
  | true =>
    obtain ⟨j, hj⟩ := acc_torn _ _ m hi
    rw [hf] at hj
    exact ⟨j, by simpa using hj⟩
theorem digits_zero {k : Nat} (h : Lib.decDigits k = Lib.decDigits 0) : k = 0 := by
  have h0 : Lib.decDigits 0 = [48] := by rw [Lib.decDigits]; rfl
  rw [h0] at h
  rw [Lib.decDigits] at h
  split at h
  · rename_i hk
    simp only [List.cons.injEq, and_true] at h
    have := congrArg UInt8.toNat h
    rw [UInt8.toNat_ofNat'] at this
    simp at this; omega
  · have h1 := congrArg List.length h
    have h2 := digit_pos (k / 10)
    rw [List.length_append] at h1
    simp only [List.length_cons, List.length_nil] at h1
    omega
theorem okL_zero {k : Nat} {c r : Bs} (hk : k ≤ 59) (hg : goodL c r = true) : okL 0 (lineL k c r) = decide (k = 0) := by
  rw [Bool.eq_iff_iff, okL_iff, decide_eq_true_iff]
  constructor
  · rintro ⟨c', r', _, hg', e⟩
    have h1 : upTo 32 (lineL k c r) = Lib.decDigits k := by
      rw [lineL_eq]; unfold bodyL; rw [List.append_assoc, List.cons_append]; exact upTo_at (digit_ne (by simp))
    have h2 : upTo 32 (lineL 0 c' r') = Lib.decDigits 0 := by
      rw [lineL_eq]; unfold bodyL; rw [List.append_assoc, List.cons_append]; exact upTo_at (digit_ne (by simp))
    rw [e, h2] at h1
    exact digits_zero h1.symm
  · rintro rfl
    exact ⟨c, r, by omega, hg, rfl⟩
end Go.Proofs.YtnmgaponnfjciaaDoor
