/- Walks: items: texts of at most eight small letters. -/
import Derived.Test.YtidephmobajikaaDoorSer
import Derived.Test.YtidephmobajikaaDoorShelf
import Derived.Test.YtidephmobajikaaDoorTStr
namespace Go.Proofs.YtidephmobajikaaDoor
open Go.RowKit Go.Shelf

def low (b : UInt8) : Bool := btw 97 b.toNat 122
def lows (l : List UInt8) : Bool := l.all low
def itm (s : ByteArray) : Bool := decide ((s.size : Int) ≤ 8) && lows s.data.toList
def abc : List UInt8 := [97, 98, 99, 100, 101, 102, 103, 104, 105, 106, 107, 108, 109, 110, 111, 112, 113, 114, 115, 116, 117, 118, 119, 120, 121, 122]
theorem abc_low (b : UInt8) : abc.contains b = low b := by
  have h : ∀ n : Fin 256, abc.contains (UInt8.ofNat n.val) = low (UInt8.ofNat n.val) := by decide +kernel
  have := h ⟨b.toNat, b.toNat_lt⟩
  simpa using this
theorem dropWhile_nil {α : Type} (p : α → Bool) (l : List α) : l.dropWhile p = [] ↔ l.all p = true := by
  induction l with
  | nil => simp
  | cons x r ih => rw [List.dropWhile_cons]; cases h : p x <;> simp [h, ih]
theorem all_dropWhile {α : Type} (p : α → Bool) (l : List α) : (l.dropWhile p).all p = l.all p := by
  induction l with
  | nil => simp
  | cons x r ih => rw [List.dropWhile_cons]; cases h : p x <;> simp [h, ih]
theorem trimS_nil (l cs : List UInt8) : (Lib.trimS l cs = []) ↔ l.all (cs.contains ·) = true := by
  unfold Lib.trimS Lib.trimLeftS Lib.trimRightS
  rw [dropWhile_nil, List.all_reverse, all_dropWhile, List.all_reverse]
theorem trim_abc (l : List UInt8) : (Lib.trimS l abc == []) = lows l := by
  rw [Bool.eq_iff_iff, beq_iff_eq, trimS_nil]
  unfold lows
  rw [show (fun b => abc.contains b) = low from funext abc_low]
set_option maxHeartbeats 400000 in
theorem isItem_c (s : ByteArray) (w : World) (hs : s.size ≤ maxLen) :
    Calls Tryd.prog 95 #[.string s] w fun e w' => e = .returned (.bool (itm s)) ∧ Below w.heap.size w w' := by
  unfold maxLen at hs
  have hc := fun w => Any.strings_Trim_laid Tryd.lays160 (by kernel_rfl) s ⟨abc.toArray⟩ w hs (by decide) (ascii_of_all (by decide))
  change ∀ w, Calls Tryd.prog 149 #[.string s, .string ⟨abc.toArray⟩] w (fun e w' => e = .returned (.string ⟨(Lib.trimS s.data.toList abc).toArray⟩) ∧ Below w.heap.size w w') at hc
  have ht := trim_abc s.data.toList
  replace hc := Lib.hid hc
  by_cases h8 : s.size ≤ 8
  · generalize Lib.trimS s.data.toList abc = t at *
    have hi : itm s = (t == []) := by unfold itm; rw [ht, decide_eq_true (by omega)]; rfl
    replace hi := Lib.hid hi
    clear ht
    cases t with
    | nil =>
      go_enter Tryd.func95, Tryd.ntmps95
      go_wp2_with fail
      refine (hc.out _).mono ?_
      rintro e w1 ⟨rfl, hb⟩
      go_wp2_with fail
      go_ret
      exact ⟨ret_bool hi.out.symm, hb⟩
    | cons a r =>
      go_enter Tryd.func95, Tryd.ntmps95
      go_wp2_with fail
      refine (hc.out _).mono ?_
      rintro e w1 ⟨rfl, hb⟩
      go_wp2_with fail
      go_ret
      exact ⟨ret_bool hi.out.symm, hb⟩
  · have hi : itm s = false := by unfold itm; rw [decide_eq_false (by omega)]; rfl
    replace hi := Lib.hid hi
    go_enter Tryd.func95, Tryd.ntmps95
    go_wp2_with fail
    go_ret
    exact ⟨ret_bool hi.out.symm, Below.refl _ _⟩
theorem lows_drop (s : ByteArray) (k : Nat) (h : k < s.size) : lows (s.data.toList.drop k) = (low s[k] && lows (s.data.toList.drop (k + 1))) := by rw [drop_at s k h]; rfl
set_option maxHeartbeats 400000 in
theorem l4Letters_c (s : ByteArray) (n : Int) (w : World) (hs : s.size ≤ maxLen) :
    Calls Tryd.prog 99 #[.string s, .int .i64 n] w fun e w' => e = .returned (.bool (decide ((s.size : Int) ≤ n) && lows s.data.toList)) ∧ w = w' := by
  unfold maxLen at hs
  go_enter Tryd.func99, Tryd.ntmps99
  go_wp2
  go_loop [5] (fun i => ∃ k : Nat, k ≤ s.size ∧ i = .int .i64 k ∧ Hid (lows s.data.toList = lows (s.data.toList.drop k))) (fun i => s.size - (intOf i).toNat)
  case atStart => exact ⟨0, Nat.zero_le _, rfl, rfl⟩
  case round =>
    obtain ⟨k, hk, rfl, hz⟩ := hrel
    by_cases hlt : k < s.size
    · have hz := Lib.hid (hz.out.trans (lows_drop s k hlt))
      have hb : (s[k].toNat : Int) ≤ 255 := by have := s[k].toNat_lt; omega
      cases hl : low s[k]
      · have hl1 : low s[k] = false := hl
        unfold low btw at hl
        by_cases h1 : (s[k].toNat : Int) < 97
        · clear hl
          go_wp2
          go_ret
          exact ⟨ret_bool (by rw [hz.out, hl1]; simp), rfl⟩
        · have h2 : (122 : Int) < s[k].toNat := by simp at hl; omega
          clear hl
          go_wp2
          go_ret
          exact ⟨ret_bool (by rw [hz.out, hl1]; simp), rfl⟩
      · have hl1 : low s[k] = true := hl
        unfold low btw at hl
        simp only [Bool.and_eq_true, decide_eq_true_eq] at hl
        have h1 : ¬ (s[k].toNat : Int) < 97 := by omega
        have h2 : ¬ (122 : Int) < s[k].toNat := by omega
        clear hl
        replace hl1 := Lib.hid hl1
        go_wp2
        go_round
        case rel => exact ⟨k + 1, by omega, by go_num, by refine Lib.hid ?_; rw [hz.out, hl1.out]; rfl⟩
        case measure => simp [intOf]; omega
    · go_wp2
      go_ret
      exact ⟨ret_bool (by rw [hz.out, drop_end s k hlt]; simp [lows]), rfl⟩
end Go.Proofs.YtidephmobajikaaDoor
