/- Walks of the functions on strings that the log uses: sums, numbers, cuts, sealed lines. -/
import Derived.Test.YtnmgaponnfjciaaDoorLogPlain
import Derived.Test.YtnmgaponnfjciaaDoorRec1
import Derived.Test.YtnmgaponnfjciaaDoorTInt
import Derived.Lib.Strings
import Derived.Lib.LaidTab
import Derived.Lib.ItoaMem
namespace Go.Proofs.YtnmgaponnfjciaaDoor
open Go.RowKit
def bs (l : Bs) : ByteArray := ⟨l.toArray⟩
theorem bs_list (l : Bs) : (bs l).data.toList = l := by simp [bs]
theorem bs_of (s : ByteArray) : bs s.data.toList = s := by simp [bs]
theorem bs_size (l : Bs) : (bs l).size = l.length := by simp [bs, ByteArray.size]
theorem size_list (s : ByteArray) : s.data.toList.length = s.size := by simp
theorem bs_app (a b : Bs) : bs a ++ bs b = bs (a ++ b) := by apply ByteArray.ext; simp [bs, ByteArray.data_append]
theorem app_list (s t : ByteArray) : (s ++ t).data.toList = s.data.toList ++ t.data.toList := by simp [ByteArray.data_append]
theorem app_bs (s t : ByteArray) : s ++ t = bs (s.data.toList ++ t.data.toList) := by rw [← app_list, bs_of]
theorem ret_str {a b : ByteArray} (h : a = b) : Ending.returned (.string a) = .returned (.string b) := by rw [h]


/-- the library's table of powers lies where it lay -/
def ETab : Elem Unit where
  sz := 0
  rep w cs _ F := cs = [] ∧ Lib.TabIs Tryd.prog w "internal/strconv.uint64pow10" .u64 Lib.pow10Tab ∧ F = [1] ∧ 1 < w.heap.size
  len h := by simp [h.1]
  lt h := by intro b hb; rw [h.2.2.1] at hb; simp at hb; rw [hb]; exact h.2.2.2
  frame h hF := by
    obtain ⟨h1, h2, rfl, h4⟩ := h
    have e := hF 1 (by simp)
    refine ⟨h1, ?_, rfl, ?_⟩
    · unfold Lib.TabIs World.var? at h2 ⊢
      rw [show Tryd.prog.globalNamed "internal/strconv.uint64pow10" = some 1 by kernel_rfl] at h2 ⊢
      simp only [Option.bind_some] at h2 ⊢
      rw [e]; exact h2
    · rw [Array.getElem?_eq_getElem h4] at e
      exact (Array.getElem?_eq_some_iff.1 e).1
theorem ETab.tab {w : World} {F : List Nat} (h : IsV ETab w (.agg #[]) () F) : Lib.TabIs Tryd.prog w "internal/strconv.uint64pow10" .u64 Lib.pow10Tab := by
  obtain ⟨cs, _, h⟩ := h; exact h.2.1
theorem below_grow (w : World) (k : Nat) (os : Array Obj) : Below w.heap.size w (Go.Sort.grow (w.drewN k) os) := by
  refine ⟨rfl, rfl, rfl, ?_, fun i hi => ?_⟩
  · simp [Go.Sort.grow, World.drewN]
  · simp [Go.Sort.grow, World.drewN, Array.getElem?_append_left hi]
theorem Itoa_c (n : Nat) (hn : n ≤ 9223372036854775807) (F : List Nat) (w : World) (hT : IsV ETab w (.agg #[]) () F) :
    Calls Tryd.prog 67 #[.int .i64 (n : Int)] w fun e w' => e = .returned (.string (bs (Lib.decDigits n))) ∧ Below w.heap.size w w' := by
  refine (Tryd.strconv_Itoa (n : Int) (by omega) (by omega) w (ETab.tab hT)).mono ?_
  rintro e w' ⟨rfl, k, os, rfl⟩
  refine ⟨ret_str ?_, below_grow w k os⟩
  unfold bs; rw [show Lib.itoa (n : Int) = Lib.decDigits n from by unfold Lib.itoa; rw [if_neg (by omega)]; simp]
theorem sumL_cast (l : Bs) (c : UInt8) : ((sumL (l ++ [c]) : Nat) : Int) = (41 * (sumL l : Int) + (c.toNat : Int) + 1) % 999979 := by
  rw [sumL_snoc]; unfold sumStep; omega
set_option maxHeartbeats 400000 in
theorem checksum_c (s : ByteArray) (w : World) (hs : s.size ≤ maxLen) :
    Calls Tryd.prog 77 #[.string s] w fun e w' => e = .returned (.int .i64 (sumL s.data.toList)) ∧ w = w' := by
  unfold maxLen at hs
  go_enter Tryd.func77, Tryd.ntmps77
  go_wp2
  go_loop [3, 7] (fun h i => ∃ k : Nat, k ≤ s.size ∧ i = .int .i64 k ∧ h = .int .i64 (sumL (s.data.toList.take k))) (fun _ i => s.size - (intOf i).toNat)
  case atStart => exact ⟨0, Nat.zero_le _, rfl, rfl⟩
  case round =>
    obtain ⟨k, hk, rfl, rfl⟩ := hrel
    by_cases hlt : k < s.size
    · have hb : (s[k].toNat : Int) ≤ 255 := by have := s[k].toNat_lt; omega
      have hS := Lib.hid (sumL_cast (s.data.toList.take k) s[k])
      rw [← take_snoc s k hlt] at hS
      have hl := sumL_lt (s.data.toList.take k)
      generalize sumL (s.data.toList.take k) = n at *
      go_wp2
      go_round
      case rel => exact ⟨k + 1, by omega, by go_num, by rw [hS.out]⟩
      case measure => simp [intOf]; omega
    · go_wp2
      go_ret
      exact ⟨ret_int (by rw [take_all s k hlt]), rfl⟩
set_option maxHeartbeats 400000 in
theorem l1Sum_c (s : ByteArray) (w : World) (hs : s.size ≤ maxLen) :
    Calls Tryd.prog 76 #[.string s] w fun e w' => e = .returned (.int .i64 (sumL s.data.toList)) ∧ w = w' := by
  unfold maxLen at hs
  go_enter Tryd.func76, Tryd.ntmps76
  go_wp2
  go_loop [3, 4] (fun h i => ∃ k : Nat, k ≤ s.size ∧ i = .int .i64 k ∧ h = .int .i64 (sumL (s.data.toList.take k))) (fun _ i => s.size - (intOf i).toNat)
  case atStart => exact ⟨0, Nat.zero_le _, rfl, rfl⟩
  case round =>
    obtain ⟨k, hk, rfl, rfl⟩ := hrel
    by_cases hlt : k < s.size
    · have hb : (s[k].toNat : Int) ≤ 255 := by have := s[k].toNat_lt; omega
      have hS := Lib.hid (sumL_cast (s.data.toList.take k) s[k])
      rw [← take_snoc s k hlt] at hS
      have hl := sumL_lt (s.data.toList.take k)
      generalize sumL (s.data.toList.take k) = n at *
      go_wp2
      go_round
      case rel => exact ⟨k + 1, by omega, by go_num, by rw [hS.out]⟩
      case measure => simp [intOf]; omega
    · go_wp2
      go_ret
      exact ⟨ret_int (by rw [take_all s k hlt]), rfl⟩
theorem dig_small : ∀ n : Nat, n < 10 → (⟨#[48, 49, 50, 51, 52, 53, 54, 55, 56, 57]⟩ : ByteArray).extract n (n + 1) = ⟨#[UInt8.ofNat (48 + n)]⟩ := by decide
set_option maxHeartbeats 400000 in
set_option maxRecDepth 100000 in
theorem l1Num_c : ∀ (k n : Nat) (w : World), n < 10 ^ (k + 1) → n ≤ 999999999999999999 →
    Calls Tryd.prog 65 #[.int .i64 (n : Int)] w fun e w' => e = .returned (.string (bs (Lib.decDigits n))) ∧ ∃ j, w' = w.drewN j := by
  intro k
  induction k with
  | zero =>
    intro n w h1 h2
    have h3 : n < 10 := by simpa using h1
    have hd := Lib.hid (dig_small n h3)
    have hn : ¬ ((n : Int) < 0) := by omega
    go_enter Tryd.func65, Tryd.ntmps65
    go_wp2_with fail
    go_ret
    refine ⟨ret_str ?_, 0, rfl⟩
    rw [hd.out, Lib.decDigits, dif_pos h3]; rfl
  | succ k ih =>
    intro n w h1 h2
    by_cases h3 : n < 10
    · have hd := Lib.hid (dig_small n h3)
      have hn : ¬ ((n : Int) < 0) := by omega
      go_enter Tryd.func65, Tryd.ntmps65
      go_wp2_with fail
      go_ret
      refine ⟨ret_str ?_, 0, rfl⟩
      rw [hd.out, Lib.decDigits, dif_pos h3]; rfl
    · have h4 : n / 10 < 10 ^ (k + 1) := by rw [Nat.pow_succ] at h1; omega
      have hc := fun w => ih (n / 10) w h4 (by omega)
      rw [show ((n / 10 : Nat) : Int) = (n : Int) / 10 from by omega] at hc
      have hn : ¬ ((n : Int) < 0) := by omega
      have h5 : ¬ ((n : Int) < 10) := by omega
      have hd := Lib.hid (dig_small (n % 10) (by omega))
      have b0 : (0 : Int) ≤ (n : Int) % 10 := by omega
      have b1 : (n : Int) % 10 ≤ 9 := by omega
      have e0 : IntKind.i64.wrap ((n : Int) / 10) = (n : Int) / 10 := by rw [IntKind.wrap_i64]; omega
      have e1 : IntKind.i64.wrap ((n : Int) % 10) = (n : Int) % 10 := by rw [IntKind.wrap_i64]; omega
      have e2 : IntKind.i64.wrap ((n : Int) % 10 + 1) = (n : Int) % 10 + 1 := by rw [IntKind.wrap_i64]; omega
      have e3 : ((n : Int) % 10).toNat = n % 10 := by omega
      have e4 : ((n : Int) % 10 + 1).toNat = n % 10 + 1 := by omega
      have e5 : (n : Int).tmod 10 = (n : Int) % 10 := Int.tmod_eq_emod_of_nonneg (by omega)
      have e6 : (n : Int).tdiv 10 = (n : Int) / 10 := Int.tdiv_eq_ediv_of_nonneg (by omega)
      have hsl : ∀ wx, (Instr.slice 9 (.string ⟨#[48, 49, 50, 51, 52, 53, 54, 55, 56, 57]⟩) (some (.int .i64 ((n : Int) % 10))) (some (.int .i64 ((n : Int) % 10 + 1))) none).run Tryd.prog wx = .ok (.string ⟨#[UInt8.ofNat (48 + n % 10)]⟩) wx := fun wx => by
        have h6 := run_slice_string (P := Tryd.prog) wx 9 ⟨#[48, 49, 50, 51, 52, 53, 54, 55, 56, 57]⟩ .i64 .i64 ((n : Int) % 10) ((n : Int) % 10 + 1) Tryd.underlying9 (by omega) (by omega) (by show _ ≤ ((10 : Nat) : Int); omega)
        rw [h6, e3, e4, hd.out]
      have hD : (bs (Lib.decDigits (n / 10))).size ≤ 18 := by rw [bs_size]; exact digit_len 17 _ (by omega)
      have hd1 : (⟨#[UInt8.ofNat (48 + n % 10)]⟩ : ByteArray).size ≤ 1 := by simp [ByteArray.size]
      have hR : Hid (bs (Lib.decDigits (n / 10)) ++ ⟨#[UInt8.ofNat (48 + n % 10)]⟩ = bs (Lib.decDigits n)) := by
        refine Lib.hid ?_
        conv => rhs; rw [Lib.decDigits, dif_neg (by omega), ← bs_app]
        rfl
      generalize bs (Lib.decDigits (n / 10)) = D at *
      generalize (⟨#[UInt8.ofNat (48 + n % 10)]⟩ : ByteArray) = d at *
      clear ih h1 e3 e4
      go_enter Tryd.func65, Tryd.ntmps65
      go_wp2_with fail
      go_quiet ((go_at_call 65; exact Calls.quiet_of (v := .string D) (hc (World.drewN _ _))))
      go_wp2_with fail
      go_ret
      refine ⟨ret_str ?_, _, rfl⟩
      exact hR.out
set_option maxHeartbeats 400000 in
theorem l1Seal_c (s : ByteArray) (w : World) (hs0 : s.size ≤ 4294967296) :
    Calls Tryd.prog 64 #[.string s] w fun e w' => e = .returned (.string (bs (sealL s.data.toList))) ∧ ∃ j, w' = w.drewN j := by
  have hl := sumL_lt s.data.toList
  have hn := fun w => l1Num_c 5 (sumL s.data.toList) w (by omega) (by omega)
  have hS : Hid (s ++ ⟨#[35]⟩ ++ bs (Lib.decDigits (sumL s.data.toList)) = bs (sealL s.data.toList)) := by
    refine Lib.hid ?_
    rw [app_bs, app_list, bs_list]; congr 1; simp [sealL]
  have hD : (bs (Lib.decDigits (sumL s.data.toList))).size ≤ 6 := by rw [bs_size]; exact digit_len 5 _ (by omega)
  generalize bs (Lib.decDigits (sumL s.data.toList)) = D at *
  have hs : s.size ≤ maxLen := by unfold maxLen; omega
  go_enter Tryd.func64, Tryd.ntmps64
  go_wp2_with (first
   | (go_at_call 76; refine (l1Sum_c _ _ (by assumption)).mono ?_; rintro e w' ⟨rfl, rfl⟩)
   | (go_at_call 65; refine (hn _).mono ?_; rintro e w' ⟨rfl, j, rfl⟩))
  go_ret
  exact ⟨ret_str hS.out, _, rfl⟩
/-- strings.Cut at one byte -/
theorem indexByte_at (c : UInt8) : ∀ l : Bs, (c ∈ l → Lib.indexByte l c = (upTo c l).length) ∧ (c ∉ l → Lib.indexByte l c = -1)
  | [] => by simp [Lib.indexByte]
  | b :: l => by
    obtain ⟨h1, h2⟩ := indexByte_at c l
    unfold Lib.indexByte upTo
    by_cases hb : b = c
    · subst hb; simp
    · have hb' : (b == c) = false := by simpa using hb
      rw [hb']
      have hm : c ∈ b :: l ↔ c ∈ l := by
        rw [List.mem_cons]
        exact ⟨fun h => h.resolve_left (fun e => hb e.symm), .inr⟩
      rw [hm]
      refine ⟨fun h => ?_, fun h => ?_⟩
      · rw [h1 h]
        have : ((upTo c l).length : Int) ≠ -1 := by omega
        simp [upTo, hb] at this ⊢
      · rw [h2 h]; simp
theorem upTo_len (c : UInt8) (l : Bs) : (upTo c l).length ≤ l.length := by
  unfold upTo; exact (List.takeWhile_sublist _).length_le
theorem upTo_lt {c : UInt8} {l : Bs} (h : c ∈ l) : (upTo c l).length < l.length := by
  rcases split_at c l with ⟨_, h2⟩ | ⟨h2, _⟩
  · have := congrArg List.length h2; simp at this; omega
  · exact absurd h h2
def cutB (c : UInt8) (s : ByteArray) : ByteArray := bs (upTo c s.data.toList)
def cutA (c : UInt8) (s : ByteArray) : ByteArray := bs (behind c s.data.toList)
theorem cut_yes {c : UInt8} {s : ByteArray} (h : c ∈ s.data.toList) : s.extract 0 (upTo c s.data.toList).length = cutB c s ∧ s.extract ((upTo c s.data.toList).length + 1) s.size = cutA c s := by
  rcases split_at c s.data.toList with ⟨_, h2⟩ | ⟨h2, _⟩
  · constructor
    · rw [Lib.extract_eq]; unfold cutB bs; congr 2
      rw [List.drop_zero, Nat.sub_zero]
      exact (congrArg (List.take _) h2).trans List.take_left
    · rw [Lib.extract_eq]; unfold cutA bs; congr 2
      rw [List.take_of_length_le (by simp)]
      refine (congrArg (List.drop _) h2).trans ?_
      rw [← List.drop_drop, List.drop_left]; rfl
  · exact absurd h h2
set_option maxHeartbeats 400000 in
theorem liteCut_c (s : ByteArray) (c : UInt8) (w : World) (hs : s.size ≤ maxLen) :
    Calls Tryd.prog 81 #[.string s, .string ⟨#[c]⟩] w fun e w' => e = .returned (.tuple #[.string (cutB c s), .string (cutA c s), .bool (stands c s.data.toList)]) ∧ ∃ j, w' = w.drewN j := by
  unfold maxLen at hs
  have hi := fun w => Tryd.stringslite_Index_one s c w
  by_cases h : c ∈ s.data.toList
  · have hc := cut_yes h
    have hl := upTo_lt h
    rw [size_list] at hl
    have hst : stands c s.data.toList = true := by unfold stands; rw [List.any_eq_true]; exact ⟨c, h, by simp⟩
    have hst := Lib.hid hst
    rw [(indexByte_at c _).1 h] at hi
    generalize (upTo c s.data.toList).length = n at *
    have hc1 := Lib.hid hc.1
    have hc2 := Lib.hid hc.2
    clear hc
    go_enter Tryd.func81, Tryd.ntmps81
    go_wp2_with (go_at_call 82; refine (hi _).mono ?_; rintro e w' ⟨rfl, rfl⟩)
    go_quiet (fail)
    go_wp2_with fail
    refine bodyPost_ret (v := .tuple #[.string (cutB c s), .string (cutA c s), .bool true]) ?_ rfl ?_
    · simp [results, Tryd.results81, go_sem, hc1.out, hc2.out]
    · exact ⟨by rw [hst.out], _, rfl⟩
  · have hst : stands c s.data.toList = false := by unfold stands; rw [List.any_eq_false]; intro x hx; simp; rintro rfl; exact h hx
    have h1 : cutB c s = s := by unfold cutB; rw [upTo_no (fun x hx e => h (by rw [← e]; exact hx)), bs_of]
    have h2 : cutA c s = ⟨#[]⟩ := by unfold cutA; rw [behind_no (fun x hx e => h (by rw [← e]; exact hx))]; rfl
    rw [(indexByte_at c _).2 h] at hi
    replace hst := Lib.hid hst; replace h1 := Lib.hid h1; replace h2 := Lib.hid h2
    go_enter Tryd.func81, Tryd.ntmps81
    go_wp2_with (go_at_call 82; refine (hi _).mono ?_; rintro e w' ⟨rfl, rfl⟩)
    refine bodyPost_ret (v := .tuple #[.string s, .string ⟨#[]⟩, .bool false]) ?_ rfl ?_
    · simp [results, Tryd.results81, go_sem]
    · exact ⟨by rw [hst.out, h1.out, h2.out], 0, rfl⟩
end Go.Proofs.YtnmgaponnfjciaaDoor
