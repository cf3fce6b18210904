/- The log's plain law: lines, records, what is accepted; what the reference reads is what the program reads. No program in sight. -/
import Derived.Test.YtnmgaponnfjciaaDoorStr1
import Derived.Lib.ItoaNum
import Derived.Lib.Bytealg
namespace Go.Proofs.YtnmgaponnfjciaaDoor
open Go.RowKit
abbrev Bs := List UInt8
def upTo (b : UInt8) (l : Bs) : Bs := l.takeWhile (· != b)
def behind (b : UInt8) (l : Bs) : Bs := (l.dropWhile (· != b)).drop 1
theorem upTo_at {b : UInt8} {x r : Bs} (h : ∀ c ∈ x, c ≠ b) : upTo b (x ++ b :: r) = x := by
  unfold upTo
  rw [List.takeWhile_append_of_pos (by simpa using h)]
  simp
theorem upTo_no {b : UInt8} {x : Bs} (h : ∀ c ∈ x, c ≠ b) : upTo b x = x := by
  have := List.takeWhile_append_of_pos (p := (· != b)) (l₁ := x) (l₂ := []) (by simpa using h)
  simpa [upTo] using this
theorem behind_at {b : UInt8} {x r : Bs} (h : ∀ c ∈ x, c ≠ b) : behind b (x ++ b :: r) = r := by
  unfold behind
  rw [List.dropWhile_append_of_pos (by simpa using h)]
  simp
theorem behind_no {b : UInt8} {x : Bs} (h : ∀ c ∈ x, c ≠ b) : behind b x = [] := by
  have := List.dropWhile_append_of_pos (p := (· != b)) (l₁ := x) (l₂ := []) (by simpa using h)
  simp only [List.append_nil, List.dropWhile_nil] at this
  simp [behind, this]
theorem upTo_mem {b : UInt8} {l : Bs} : ∀ c ∈ upTo b l, c ≠ b := by
  unfold upTo
  induction l with
  | nil => simp
  | cons d l ih =>
    intro c hc
    rw [List.takeWhile_cons] at hc
    split at hc
    · rename_i h
      rcases List.mem_cons.1 hc with rfl | hc
      · simpa using h
      · exact ih c hc
    · simp at hc
theorem split_at (b : UInt8) (l : Bs) : (b ∈ l ∧ l = upTo b l ++ b :: behind b l) ∨ (b ∉ l ∧ upTo b l = l ∧ behind b l = []) := by
  by_cases h : b ∈ l
  · left
    refine ⟨h, ?_⟩
    unfold upTo behind
    induction l with
    | nil => cases h
    | cons c l ih =>
      by_cases hc : c = b
      · subst hc; simp
      · have hm : b ∈ l := by
          rcases List.mem_cons.1 h with e | e
          · exact absurd e.symm hc
          · exact e
        simp only [List.takeWhile_cons, List.dropWhile_cons, bne_iff_ne, ne_eq, hc, not_false_eq_true, if_true, List.cons_append]
        rw [← ih hm]
  · right
    exact ⟨h, upTo_no fun c hc e => h (e ▸ hc), behind_no fun c hc e => h (e ▸ hc)⟩

/-- a text's lines, each with its newline -/
def linesOf : Bs → List Bs
  | [] => []
  | b :: r => if b == 10 then [10] :: linesOf r else match linesOf r with
    | [] => [[b]]
    | x :: xs => (b :: x) :: xs
theorem linesOf_flat : ∀ l : Bs, (linesOf l).flatten = l
  | [] => rfl
  | b :: r => by
    have ih := linesOf_flat r
    unfold linesOf
    split
    · rename_i h; simp at h; subst h; simp [ih]
    · cases h : linesOf r with
      | nil => rw [h] at ih; simp at ih; subst ih; simp
      | cons x xs => rw [h] at ih; simp at ih; simp [ih]
theorem linesOf_nl : ∀ {x : Bs} (r : Bs), (∀ c ∈ x, c ≠ 10) → linesOf (x ++ 10 :: r) = (x ++ [10]) :: linesOf r
  | [], r, _ => by simp [linesOf]
  | b :: x, r, h => by
    have ih := linesOf_nl (x := x) r fun c hc => h c (by simp [hc])
    have hb : (b == 10) = false := by simpa using h b (by simp)
    simp only [List.cons_append, linesOf, hb, ih]
    simp
theorem linesOf_last : ∀ {x : Bs}, x ≠ [] → (∀ c ∈ x, c ≠ 10) → linesOf x = [x]
  | [b], _, h => by
    have hb : (b == 10) = false := by simpa using h b (by simp)
    simp [linesOf, hb]
  | b :: c :: x, _, h => by
    have ih := linesOf_last (x := c :: x) (by simp) fun c hc => h c (by simp [hc])
    have hb : (b == 10) = false := by simpa using h b (by simp)
    rw [linesOf, hb, ih]
    simp
theorem linesOf_ne : ∀ {l : Bs} {x : Bs}, x ∈ linesOf l → x ≠ []
  | b :: r, x, h => by
    unfold linesOf at h
    split at h
    · rcases List.mem_cons.1 h with rfl | h
      · simp
      · exact linesOf_ne h
    · cases h2 : linesOf r with
      | nil => rw [h2] at h; simp at h; simp [h]
      | cons y ys =>
        rw [h2] at h
        rcases List.mem_cons.1 h with rfl | h
        · simp
        · exact linesOf_ne (l := r) (by rw [h2]; simp [h])
/-- a line that is whole -/
def Whole (x : Bs) : Prop := ∃ y, x = y ++ [10] ∧ ∀ c ∈ y, c ≠ 10
theorem linesOf_wholes : ∀ {xs : List Bs} (r : Bs), (∀ x ∈ xs, Whole x) → linesOf (xs.flatten ++ r) = xs ++ linesOf r
  | [], _, _ => rfl
  | x :: xs, r, h => by
    obtain ⟨y, rfl, hy⟩ := h x (by simp)
    have ih := linesOf_wholes (xs := xs) r fun z hz => h z (by simp [hz])
    simp only [List.flatten_cons, List.append_assoc, List.cons_append, List.nil_append]
    rw [linesOf_nl _ hy, ih]

/-- numbers, sums, lines of records -/
theorem digit_mem : ∀ (u : Nat) (c : UInt8), c ∈ Lib.decDigits u → 48 ≤ c.toNat ∧ c.toNat ≤ 57 := by
  intro u
  induction u using Nat.strongRecOn with
  | ind u ih =>
    intro c hc
    rw [Lib.decDigits] at hc
    have hd : ∀ d : Nat, d < 10 → 48 ≤ (UInt8.ofNat (48 + d)).toNat ∧ (UInt8.ofNat (48 + d)).toNat ≤ 57 := fun d hd => by
      rw [UInt8.toNat_ofNat']; omega
    split at hc
    · simp only [List.mem_singleton] at hc; subst hc; exact hd _ (by omega)
    · rcases List.mem_append.1 hc with h | h
      · exact ih _ (by omega) c h
      · simp only [List.mem_singleton] at h; subst h; exact hd _ (by omega)
theorem digit_ne {u : Nat} {b : UInt8} (hb : b.toNat < 48 ∨ 57 < b.toNat) : ∀ c ∈ Lib.decDigits u, c ≠ b := fun c hc e => by
  have := digit_mem u c hc; subst e; omega
theorem digit_len : ∀ (n u : Nat), u < 10 ^ (n + 1) → (Lib.decDigits u).length ≤ n + 1
  | 0, u, h => by rw [Lib.decDigits, dif_pos (by simpa using h)]; simp
  | n + 1, u, h => by
    rw [Lib.decDigits]
    split
    · simp
    · have := digit_len n (u / 10) (by rw [Nat.pow_succ] at h; omega)
      simp; omega
theorem digit_pos (u : Nat) : 1 ≤ (Lib.decDigits u).length := by
  rw [Lib.decDigits]; split <;> simp
def sumStep (h : Nat) (c : UInt8) : Nat := (41 * h + c.toNat + 1) % 999979
def sumL (l : Bs) : Nat := l.foldl sumStep 7
theorem sumL_lt (l : Bs) : sumL l < 999979 := by
  have h : ∀ (l : Bs) (n : Nat), n < 999979 → l.foldl sumStep n < 999979 := by
    intro l
    induction l with
    | nil => intro n hn; simpa using hn
    | cons c l ih => intro n hn; rw [List.foldl_cons]; exact ih _ (by unfold sumStep; omega)
  exact h l 7 (by omega)
theorem sumL_snoc (l : Bs) (c : UInt8) : sumL (l ++ [c]) = sumStep (sumL l) c := by simp [sumL]
def sealL (l : Bs) : Bs := l ++ 35 :: Lib.decDigits (sumL l)
theorem sealL_len (l : Bs) : (sealL l).length ≤ l.length + 7 := by
  have := digit_len 5 (sumL l) (by have := sumL_lt l; omega)
  simp [sealL]; omega
def bodyL (k : Nat) (c r : Bs) : Bs := Lib.decDigits k ++ 32 :: (c ++ 64 :: r)
def lineL (k : Nat) (c r : Bs) : Bs := sealL (bodyL k c r) ++ [10]
def goodL (c r : Bs) : Bool := btw 1 c.length 160 && decide ((r.length : Int) ≤ 200) && logText c && logText r && !stands 64 c
theorem logByte_iff {b : UInt8} : logByte b = true ↔ (32 ≤ b.toNat ∧ b.toNat ≤ 126) ∧ b ≠ 35 := by
  simp [logByte, btw]; omega
theorem logText_mem {l : Bs} (h : logText l = true) : ∀ c ∈ l, (32 ≤ c.toNat ∧ c.toNat ≤ 126) ∧ c ≠ 35 := fun c hc => by
  unfold logText at h
  exact logByte_iff.1 (List.all_eq_true.1 h c hc)
structure Good (c r : Bs) : Prop where
  c0 : 1 ≤ c.length
  c1 : c.length ≤ 160
  r1 : r.length ≤ 200
  ct : ∀ b ∈ c, (32 ≤ b.toNat ∧ b.toNat ≤ 126) ∧ b ≠ 35
  rt : ∀ b ∈ r, (32 ≤ b.toNat ∧ b.toNat ≤ 126) ∧ b ≠ 35
  ca : ∀ b ∈ c, b ≠ 64
theorem goodL_good {c r : Bs} (h : goodL c r = true) : Good c r := by
  unfold goodL btw at h
  simp only [Bool.and_eq_true, decide_eq_true_eq, Bool.not_eq_true'] at h
  obtain ⟨⟨⟨⟨⟨h1, h2⟩, h3⟩, h4⟩, h5⟩, h6⟩ := h
  refine ⟨by omega, by omega, by omega, logText_mem h4, logText_mem h5, fun b hb e => ?_⟩
  unfold stands at h6
  have := List.any_eq_false.1 h6 b hb
  simp [e] at this
theorem ne_of_toNat {a b : UInt8} (h : a.toNat ≠ b.toNat) : a ≠ b := fun e => h (by rw [e])
theorem bodyL_mem {k : Nat} {c r : Bs} (h : Good c r) : ∀ b ∈ bodyL k c r, (32 ≤ b.toNat ∧ b.toNat ≤ 126) ∧ b ≠ 35 := by
  intro b hb
  unfold bodyL at hb
  simp only [List.mem_append, List.mem_cons] at hb
  rcases hb with hb | rfl | hb | rfl | hb
  · have := digit_mem k b hb
    exact ⟨by omega, ne_of_toNat (by simp; omega)⟩
  · decide
  · exact h.ct b hb
  · decide
  · exact h.rt b hb
theorem lineL_whole {k : Nat} {c r : Bs} (h : Good c r) : Whole (lineL k c r) := by
  refine ⟨sealL (bodyL k c r), rfl, fun b hb => ?_⟩
  unfold sealL at hb
  simp only [List.mem_append, List.mem_cons] at hb
  rcases hb with hb | rfl | hb
  · have := bodyL_mem h b hb
    exact ne_of_toNat (by simp; omega)
  · decide
  · exact digit_ne (by simp) b hb
theorem bodyL_len {k : Nat} {c r : Bs} (hk : k ≤ 59) (h : Good c r) : (bodyL k c r).length ≤ 364 := by
  have := digit_len 1 k (by omega)
  have := h.c1; have := h.r1
  simp [bodyL]; omega
theorem lineL_len {k : Nat} {c r : Bs} (hk : k ≤ 59) (h : Good c r) : (lineL k c r).length ≤ 372 := by
  have := bodyL_len hk h
  have := sealL_len (bodyL k c r)
  simp [lineL]; omega
/-- the encoding of a record, where there is one -/
def encL (k : Int) (c r : Bs) : Option Bs := if btw 0 k 59 && goodL c r then some (lineL k.toNat c r) else none
theorem encL_some {k : Int} {c r x : Bs} (h : encL k c r = some x) : (0 ≤ k ∧ k ≤ 59) ∧ Good c r ∧ x = lineL k.toNat c r := by
  unfold encL at h
  split at h
  · rename_i h2
    simp only [Bool.and_eq_true, btw, decide_eq_true_eq] at h2
    exact ⟨h2.1, goodL_good h2.2, by simpa using h.symm⟩
  · cases h
/-- what the program takes of a line -/
def tailL (x : Bs) : Bs := behind 32 (upTo 35 x)
def cmdL (x : Bs) : Bs := upTo 64 (tailL x)
def repL (x : Bs) : Bs := behind 64 (tailL x)
theorem tail_line {k : Nat} {c r s : Bs} (h : Good c r) : tailL (bodyL k c r ++ 35 :: s) = c ++ 64 :: r := by
  unfold tailL
  rw [upTo_at fun b hb => (bodyL_mem h b hb).2]
  exact behind_at (digit_ne (by simp))
theorem lineL_eq (k : Nat) (c r : Bs) : lineL k c r = bodyL k c r ++ 35 :: (Lib.decDigits (sumL (bodyL k c r)) ++ [10]) := by simp [lineL, sealL]
theorem cmd_line {k : Nat} {c r : Bs} (h : Good c r) : cmdL (lineL k c r) = c := by
  unfold cmdL
  rw [lineL_eq, tail_line h]
  exact upTo_at h.ca
theorem rep_line {k : Nat} {c r : Bs} (h : Good c r) : repL (lineL k c r) = r := by
  unfold repL
  rw [lineL_eq, tail_line h]
  exact behind_at h.ca
def okL (k : Nat) (x : Bs) : Bool := encL k (cmdL x) (repL x) == some x
theorem okL_iff {k : Nat} {x : Bs} : okL k x = true ↔ ∃ c r, k ≤ 59 ∧ goodL c r = true ∧ x = lineL k c r := by
  unfold okL
  rw [beq_iff_eq]
  constructor
  · intro h
    have h2 := encL_some h
    refine ⟨cmdL x, repL x, by omega, ?_, by simpa using h2.2.2⟩
    unfold encL at h
    split at h
    · rename_i h3; simp only [Bool.and_eq_true] at h3; exact h3.2
    · cases h
  · rintro ⟨c, r, hk, hg, rfl⟩
    have hG := goodL_good hg
    rw [cmd_line hG, rep_line hG]
    unfold encL
    rw [if_pos (by simp [hg, btw]; omega)]
    simp
theorem okL_whole {k : Nat} {x : Bs} (h : okL k x = true) : Whole x := by
  obtain ⟨c, r, _, hg, rfl⟩ := okL_iff.1 h
  exact lineL_whole (goodL_good hg)
theorem okL_len {k : Nat} {x : Bs} (h : okL k x = true) : x.length ≤ 372 := by
  obtain ⟨c, r, hk, hg, rfl⟩ := okL_iff.1 h
  exact lineL_len hk (goodL_good hg)
/-- the lines that are accepted, from number k on -/
def acc : Nat → List Bs → List Bs
  | _, [] => []
  | k, x :: r => if okL k x then x :: acc (k + 1) r else []
theorem acc_pre : ∀ (k : Nat) (xs : List Bs), acc k xs <+: xs
  | _, [] => List.prefix_rfl
  | k, x :: r => by
    unfold acc
    split
    · exact (List.cons_prefix_cons).2 ⟨rfl, acc_pre (k + 1) r⟩
    · exact List.nil_prefix
theorem acc_mem : ∀ (k : Nat) (xs : List Bs), ∀ x ∈ acc k xs, ∃ j, okL j x = true
  | _, [], x, h => by simp [acc] at h
  | k, y :: r, x, h => by
    unfold acc at h
    split at h
    · rename_i hy
      rcases List.mem_cons.1 h with rfl | h
      · exact ⟨k, hy⟩
      · exact acc_mem (k + 1) r x h
    · cases h
theorem acc_len : ∀ (k : Nat) (xs : List Bs), k ≤ 60 → k + (acc k xs).length ≤ 60
  | _, [], hk => by simpa [acc] using hk
  | k, x :: r, hk => by
    unfold acc
    split
    · rename_i h
      obtain ⟨c, r', h2, _⟩ := okL_iff.1 h
      have := acc_len (k + 1) r (by omega)
      simp; omega
    · simpa using hk
theorem acc_size (k : Nat) (xs : List Bs) : (acc k xs).flatten.length ≤ 372 * (acc k xs).length := by
  have h := acc_mem k xs
  revert h
  generalize acc k xs = ys
  intro h
  induction ys with
  | nil => simp
  | cons y ys ih =>
    obtain ⟨j, hj⟩ := h y (by simp)
    have h1 := okL_len hj
    have h2 := ih fun x hx => h x (by simp [hx])
    simp only [List.flatten_cons, List.length_append, List.length_cons]; omega
theorem acc_all : ∀ (k : Nat) (xs : List Bs) (m : Nat), acc k ((acc k xs).take m) = (acc k xs).take m
  | _, [], m => by simp [acc]
  | k, x :: r, m => by
    by_cases h : okL k x = true
    · have e : acc k (x :: r) = x :: acc (k + 1) r := by simp [acc, h]
      rw [e]
      cases m with
      | zero => simp [acc]
      | succ m => simp [acc, h, acc_all (k + 1) r m]
    · simp [acc, h]
theorem acc_append : ∀ (k : Nat) (xs ys : List Bs), acc k xs = xs → acc k (xs ++ ys) = xs ++ acc (k + xs.length) ys
  | _, [], _, _ => by simp
  | k, x :: r, ys, h => by
    unfold acc at h
    split at h
    · rename_i hx
      have h2 := acc_append (k + 1) r ys (by simpa using h)
      simp only [List.cons_append, acc, hx, if_true, h2, List.length_cons]
      rw [show k + 1 + r.length = k + (r.length + 1) by omega]
    · cases h
/-- what has been read of a text -/
def opened (s : Bs) : List Bs := acc 0 (linesOf s)
theorem opened_pre (s : Bs) : (opened s).flatten <+: s := by
  obtain ⟨t, ht⟩ := acc_pre 0 (linesOf s)
  have := linesOf_flat s
  rw [← ht, List.flatten_append] at this
  exact ⟨_, this⟩
theorem opened_whole (s : Bs) : ∀ x ∈ opened s, Whole x := fun x hx => by
  obtain ⟨j, hj⟩ := acc_mem 0 _ x hx; exact okL_whole hj
theorem opened_full {s : Bs} (h : (opened s).flatten.length = s.length) : opened s = linesOf s := by
  obtain ⟨t, ht⟩ := acc_pre 0 (linesOf s)
  have h2 := linesOf_flat s
  rw [← ht, List.flatten_append] at h2
  have h3 : t.flatten = [] := by
    have := congrArg List.length h2
    rw [List.length_append] at this
    have h4 : (acc 0 (linesOf s)).flatten.length = s.length := h
    exact List.eq_nil_of_length_eq_zero (by omega)
  have h4 : t = [] := by
    cases t with
    | nil => rfl
    | cons x t =>
      have := linesOf_ne (l := s) (x := x) (by rw [← ht]; simp)
      simp at h3
      exact absurd h3.1 this
  unfold opened
  rw [h4] at ht
  simpa using ht
theorem opened_eq {s : Bs} (h : (opened s).flatten.length = s.length) : (opened s).flatten = s := by rw [opened_full h, linesOf_flat]
theorem opened_small (s : Bs) : (opened s).flatten.length ≤ 22320 ∧ (opened s).length ≤ 60 := by
  have h1 := acc_size 0 (linesOf s)
  have h2 := acc_len 0 (linesOf s) (by omega)
  unfold opened; omega
/-- a text of accepted lines opens as these -/
theorem opened_lines {xs : List Bs} (h : acc 0 xs = xs) (r : Bs) : opened (xs.flatten ++ r) = xs ++ acc xs.length (linesOf r) := by
  unfold opened
  rw [linesOf_wholes r (fun x hx => by rw [← h] at hx; obtain ⟨j, hj⟩ := acc_mem 0 _ x hx; exact okL_whole hj), acc_append 0 xs _ h]
  simp
/-- where the records end -/
def endsL : Nat → List Bs → List Nat
  | n, [] => [n]
  | n, x :: r => n :: endsL (n + x.length) r
theorem endsL_mem {m : Nat} : ∀ {n : Nat} {xs : List Bs}, m ∈ endsL n xs ↔ ∃ j, j ≤ xs.length ∧ m = n + (xs.take j).flatten.length
  | n, [] => by simp [endsL]
  | n, x :: r => by
    unfold endsL
    rw [List.mem_cons, endsL_mem]
    constructor
    · rintro (rfl | ⟨j, hj, rfl⟩)
      · exact ⟨0, by simp, by simp⟩
      · exact ⟨j + 1, by simpa using hj, by simp; omega⟩
    · rintro ⟨j, hj, rfl⟩
      cases j with
      | zero => left; simp
      | succ j => right; exact ⟨j, by simpa using hj, by simp; omega⟩
theorem endsL_last : ∀ {n : Nat} {xs : List Bs}, (endsL n xs).getLast? = some (n + xs.flatten.length)
  | n, [] => by simp [endsL]
  | n, x :: r => by
    have ih := endsL_last (n := n + x.length) (xs := r)
    unfold endsL
    rw [List.getLast?_cons]
    rw [ih]
    simp; omega
theorem endsL_len : ∀ {n : Nat} {xs : List Bs}, (endsL n xs).length = xs.length + 1
  | n, [] => rfl
  | n, x :: r => by simp [endsL, endsL_len]
theorem endsL_snoc : ∀ {n : Nat} {xs : List Bs} {x : Bs}, endsL n (xs ++ [x]) = endsL n xs ++ [n + xs.flatten.length + x.length]
  | n, [], x => by simp [endsL]
  | n, y :: r, x => by
    have := endsL_snoc (n := n + y.length) (xs := r) (x := x)
    simp only [List.cons_append, endsL, this]
    simp; omega
/-- a log is valid, as the program says it -/
def validP (d p : Bs) (n : Int) : Bool := decide ((opened (d ++ p)).flatten.length = d.length + p.length) && (endsL 0 (opened (d ++ p))).contains d.length && decide (n = (opened (d ++ p)).length)
/-- and as the reference says it -/
def validR (d p : Bs) (n : Int) : Bool := decide (d.length + p.length ≤ 30000) && (decide ((opened (d ++ p)).flatten.length = d.length + p.length) && decide ((opened d).flatten.length = d.length) && decide (((opened (d ++ p)).length : Int) = n))
theorem valid_durable {d p : Bs} (h : (opened (d ++ p)).flatten.length = d.length + p.length) : d.length ∈ endsL 0 (opened (d ++ p)) ↔ (opened d).flatten.length = d.length := by
  rw [endsL_mem]
  have hA : (opened (d ++ p)).flatten = d ++ p := opened_eq (by rw [h]; simp)
  constructor
  · rintro ⟨j, hj, e⟩
    rw [Nat.zero_add] at e
    have hd : ((opened (d ++ p)).take j).flatten = d := by
      have h1 : ((opened (d ++ p)).take j).flatten ++ ((opened (d ++ p)).drop j).flatten = d ++ p := by rw [← List.flatten_append, List.take_append_drop, hA]
      exact (List.append_inj h1 e.symm).1
    have h2 := opened_lines (xs := (opened (d ++ p)).take j) (acc_all 0 _ j) []
    rw [List.append_nil, hd] at h2
    rw [h2]
    simp [linesOf, acc, hd]
  · intro hd
    have hf := opened_full hd
    have hD : (opened d).flatten = d := opened_eq hd
    have h2 := opened_lines (xs := opened d) (by rw [hf]; exact hf) p
    rw [hD] at h2
    refine ⟨(opened d).length, by rw [h2]; simp, ?_⟩
    rw [h2]; simp [hD]
theorem valid_eq (d p : Bs) (n : Int) : validP d p n = validR d p n := by
  unfold validP validR
  by_cases h : (opened (d ++ p)).flatten.length = d.length + p.length
  · have h1 := opened_small (d ++ p)
    have h2 := valid_durable h
    have h3 : decide (d.length + p.length ≤ 30000) = true := by simp; omega
    have h4 : (endsL 0 (opened (d ++ p))).contains d.length = decide ((opened d).flatten.length = d.length) := by
      rw [Bool.eq_iff_iff, decide_eq_true_iff, List.contains_iff_mem]; exact h2
    rw [h3, h4]
    have h5 : decide (n = ((opened (d ++ p)).length : Int)) = decide (((opened (d ++ p)).length : Int) = n) := by
      rw [Bool.eq_iff_iff]; simp [eq_comm]
    rw [h5]
    cases decide ((opened d).flatten.length = d.length) <;> simp [h]
  · rw [decide_eq_false h]; simp

/-- how the reference reads a line without its newline -/
def aheadL (k : Nat) : Bs := Lib.decDigits k ++ [32]
def readR (s : Bs) (k : Nat) : (Bs × Bs) × Bool :=
  let text := upTo 35 s
  if text.length < (aheadL k).length ∨ text.take (aheadL k).length ≠ aheadL k then (([], []), false)
  else
    let rest := text.drop (aheadL k).length
    if (upTo 64 rest).length = rest.length then (([], []), false)
    else ((upTo 64 rest, rest.drop ((upTo 64 rest).length + 1)), goodL (upTo 64 rest) (rest.drop ((upTo 64 rest).length + 1)) && (lineL k (upTo 64 rest) (rest.drop ((upTo 64 rest).length + 1)) == s ++ [10]))
theorem readR_ok {k : Nat} {s : Bs} (hk : k ≤ 59) : (readR s k).2 = okL k (s ++ [10]) := by
  rw [Bool.eq_iff_iff, okL_iff]
  constructor
  · intro h
    unfold readR at h
    dsimp only at h
    split at h
    · cases h
    · split at h
      · cases h
      · simp only [Bool.and_eq_true, beq_iff_eq] at h
        exact ⟨_, _, hk, h.1, h.2.symm⟩
  · rintro ⟨c, r, _, hg, e⟩
    have hG := goodL_good hg
    have e2 : s = bodyL k c r ++ 35 :: Lib.decDigits (sumL (bodyL k c r)) := by
      unfold lineL at e
      exact (List.append_cancel_right e)
    have ht : upTo 35 s = bodyL k c r := by rw [e2]; exact upTo_at fun b hb => (bodyL_mem hG b hb).2
    have hb : bodyL k c r = aheadL k ++ (c ++ 64 :: r) := by simp [bodyL, aheadL]
    unfold readR
    simp only [ht, hb, List.length_append, List.take_left', List.drop_left', ne_eq, not_true_eq_false, or_false]
    rw [if_neg (by simp), upTo_at hG.ca, if_neg (by simp)]
    have hd : (c ++ 64 :: r).drop (c.length + 1) = r := by
      rw [← List.drop_drop]; simp
    simp only [hd, hg, Bool.true_and]
    rw [e]; simp
theorem readR_rec {k : Nat} {s : Bs} (h : (readR s k).2 = true) : (readR s k).1 = (cmdL (s ++ [10]), repL (s ++ [10])) := by
  unfold readR at h ⊢
  dsimp only at h ⊢
  split at h
  · cases h
  · rename_i h1
    rw [if_neg h1]
    split at h
    · cases h
    · rename_i h2
      rw [if_neg h2]
      simp only [Bool.and_eq_true, beq_iff_eq] at h
      have hG := goodL_good h.1
      rw [← h.2, cmd_line hG, rep_line hG]
end Go.Proofs.YtnmgaponnfjciaaDoor
