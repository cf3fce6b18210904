/- Walks: the reference's l1Split. -/
import Derived.Test.YtnmgaponnfjciaaDoorLogRec
namespace Go.Proofs.YtnmgaponnfjciaaDoor
open Go.RowKit
def splitL (b : UInt8) : Bs → List Bs
  | [] => [[]]
  | c :: r => if c == b then [] :: splitL b r else match splitL b r with
    | [] => [[c]]
    | x :: xs => (c :: x) :: xs
theorem splitL_at {b : UInt8} : ∀ {x : Bs} (r : Bs), (∀ c ∈ x, c ≠ b) → splitL b (x ++ b :: r) = x :: splitL b r
  | [], r, _ => by simp [splitL]
  | c :: x, r, h => by
    have ih := splitL_at (b := b) (x := x) r fun d hd => h d (by simp [hd])
    have hb : (c == b) = false := by simpa using h c (by simp)
    simp only [List.cons_append, splitL, hb, ih]
    simp
theorem splitL_no {b : UInt8} : ∀ {x : Bs}, (∀ c ∈ x, c ≠ b) → splitL b x = [x]
  | [], _ => rfl
  | c :: x, h => by
    have ih := splitL_no (b := b) (x := x) fun d hd => h d (by simp [hd])
    have hb : (c == b) = false := by simpa using h c (by simp)
    simp only [splitL, hb, ih]
    simp
theorem splitL_head (b : UInt8) (l : Bs) : ∃ r, splitL b l = upTo b l :: r ∧ (r = [] ↔ b ∉ l) := by
  rcases split_at b l with ⟨h, h2⟩ | ⟨h, h2, _⟩
  · refine ⟨splitL b (behind b l), ?_, ?_⟩
    · conv => lhs; rw [h2]
      exact splitL_at _ upTo_mem
    · refine ⟨fun e => ?_, fun e => absurd h e⟩
      have : ∀ l : Bs, splitL b l ≠ [] := by
        intro l
        cases l with
        | nil => simp [splitL]
        | cons c r =>
          unfold splitL
          split
          · simp
          · split <;> simp
      exact absurd e (this _)
  · exact ⟨[], by rw [splitL_no fun c hc e => h (by rw [← e]; exact hc), h2], by simp [h]⟩
theorem drop_split {l : Bs} {f k : Nat} (hf : f ≤ k) (hk : k < l.length) : l.drop f = (l.drop f).take (k - f) ++ l[k] :: l.drop (k + 1) := by
  have h1 : (l.drop f).drop (k - f) = l.drop k := by rw [List.drop_drop]; congr 1; omega
  conv => lhs; rw [← List.take_append_drop (k - f) (l.drop f), h1, List.drop_eq_getElem_cons hk]
theorem take_more {l : Bs} {f k : Nat} (hf : f ≤ k) (hk : k < l.length) : (l.drop f).take (k + 1 - f) = (l.drop f).take (k - f) ++ [l[k]] := by
  rw [show k + 1 - f = (k - f) + 1 by omega, List.take_succ_eq_append_getElem (by rw [List.length_drop]; omega)]
  congr 2
  rw [List.getElem_drop]; congr 1; omega
theorem ba_get (s : ByteArray) (k : Nat) (h : k < s.size) : s.data.toList[k]'(by simpa using h) = s[k] := rfl
theorem ext_bs (s : ByteArray) (f k : Nat) : s.extract f k = bs ((s.data.toList.drop f).take (k - f)) := Lib.extract_eq s f k
theorem ext_end (s : ByteArray) (f : Nat) : s.extract f s.size = bs (s.data.toList.drop f) := by
  rw [Lib.extract_eq]; unfold bs; rw [List.take_of_length_le (by simp)]
set_option maxHeartbeats 1600000 in
set_option maxRecDepth 100000 in
theorem l1Split_c (s : ByteArray) (c : UInt8) (w : World) (hs : s.size ≤ 16777216) :
    Calls Tryd.prog 68 #[.string s, .int .u8 (c.toNat : Int)] w (RetNew EStr 9 ((splitL c s.data.toList).map bs) w) := by
  go_enter Tryd.func68, Tryd.ntmps68
  go_wp2_with fail
  go_loopw [5, 6, 7] (fun o f i wr => ∃ (outs : List Bs) (fr k : Nat) (F : List Nat) (oa : Option Addr) (oc : Nat), k ≤ s.size ∧ fr ≤ k ∧ i = .int .i64 k ∧ f = .int .i64 fr ∧ o = .slice oa outs.length oc ∧ Hid (Ow EStr 9 wr (.slice oa outs.length oc) (outs.map bs) F) ∧ F.Nodup ∧ (∀ b ∈ F, w.heap.size ≤ b) ∧
    Hid (splitL c s.data.toList = outs ++ splitL c (s.data.toList.drop fr)) ∧ Hid (∀ x ∈ (s.data.toList.drop fr).take (k - fr), x ≠ c) ∧ outs.length ≤ fr ∧ Below w.heap.size w wr) (fun _ _ i _ => s.size - (intOf i).toNat)
  case atStart => exact ⟨[], 0, 0, [w.heap.size], some ⟨w.heap.size, 0, none⟩, 0, Nat.zero_le _, Nat.le_refl _, rfl, rfl, rfl, Lib.hid (Ow.empty (Row.made _ _ _)), by simp, by simp, Lib.hid rfl, Lib.hid (by simp), Nat.le_refl _, (Below.refl _ _).alloc (Nat.le_refl _) _⟩
  case round =>
    obtain ⟨outs, fr, k, F, oa, oc, hk, hf, rfl, rfl, rfl, ho, hn, hF, hz, hno, hol, hB⟩ := hrel
    by_cases hlt : k < s.size
    · by_cases he : ((s[k].toNat : Int) == (c.toNat : Int)) = true
      · have hz2 : Hid (splitL c s.data.toList = (outs ++ [(s.data.toList.drop fr).take (k - fr)]) ++ splitL c (s.data.toList.drop (k + 1))) := by
          refine Lib.hid ?_
          have h1 := drop_split (l := s.data.toList) hf (by simpa using hlt)
          rw [ba_get s k hlt] at h1
          rw [u8_eq, beq_iff_eq] at he
          rw [he] at h1
          have h2 := hz.out
          rw [h1, splitL_at _ hno.out] at h2
          rw [h2]; simp
        have hx := Lib.hid (ext_bs s fr k)
        have hxs : (s.extract fr k).size ≤ maxLen := by unfold maxLen; simp; omega
        clear hz hno
        go_wp2_with (at_builtin; refine wpList_apd one_EStr (by decide) (by rfl) _ _ _ (by rfl) 9 (.string ⟨#[]⟩) 16 Tryd.underlying87 info_string rfl (.slice oa outs.length oc) (outs.map bs) F (by rfl) (ho.out.below ((Below.refl _ _).alloc (Nat.le_refl _) _)) (Hd.of hn) (some ⟨wr.heap.size, 0, none⟩) [s.extract fr k] 1 (by rfl) [.string (s.extract fr k)] [] (Flat.one ⟨rfl, hxs, rfl⟩) (.inr ⟨_, rfl, World.news_of_block (heap_alloc_new wr _)⟩) (by simp) (by simp; unfold maxLen; omega) (by simp; omega) ?_)
        intro v6 w6 F6 hA
        have o6 := hA.ow; have n6 := hA.nodup hn (by simp) (by simp); have m6 := hA.mem; have K6 := hA.keep
        obtain ⟨a6, c6, hv6⟩ := hA.val
        clear hA
        have hv7 : v6 = .slice a6 (outs.length + 1) c6 := by simpa using hv6
        subst hv7; clear hv6
        have e6 : (outs ++ [(s.data.toList.drop fr).take (k - fr)]).map bs = outs.map bs ++ [s.extract fr k] := by rw [List.map_append, hx.out]; rfl
        have f6 : ∀ b ∈ F6, w.heap.size ≤ b := fun b hb => by
          rcases m6 b hb with h7 | h7 | h7
          · exact hF b h7
          · simp at h7
          · have := hB.size; simp at h7; omega
        have B6 : Below w.heap.size w w6 := (hB.alloc hB.size _).trans (K6.below (by have := hB.size; simp; omega) hF)
        replace o6 := Lib.hid o6
        replace e6 := Lib.hid e6
        clear K6 m6 ho hn hF hB
        go_wp2_with fail
        refine ⟨⟨outs ++ [(s.data.toList.drop fr).take (k - fr)], k + 1, k + 1, F6, a6, c6, by omega, Nat.le_refl _, by go_num, by go_num, by simp, ?_, n6, f6, hz2, Lib.hid (by simp), by simp; omega, B6⟩, by simp [intOf]; omega⟩
        refine Lib.hid ?_
        rw [e6.out]; simpa using o6.out
      · have he2 := eq_false_of_ne_true he
        have hno2 : Hid (∀ x ∈ (s.data.toList.drop fr).take (k + 1 - fr), x ≠ c) := by
          refine Lib.hid ?_
          rw [take_more hf (by simpa using hlt), ba_get s k hlt]
          intro x hx
          rcases List.mem_append.1 hx with hx | hx
          · exact hno.out x hx
          · simp only [List.mem_singleton] at hx; subst hx
            intro e; rw [u8_eq, beq_eq_false_iff_ne] at he2; exact he2 e
        clear hno he
        go_wp2_with fail
        exact ⟨⟨outs, fr, k + 1, F, oa, oc, by omega, by omega, by go_num, rfl, rfl, ho, hn, hF, hz, hno2, hol, hB⟩, by simp [intOf]; omega⟩
    · have hke : k = s.size := by omega
      subst hke
      have hz2 : Hid (splitL c s.data.toList = outs ++ [s.data.toList.drop fr]) := by
        refine Lib.hid ?_
        have h2 := hno.out
        rw [List.take_of_length_le (by simp)] at h2
        rw [hz.out, splitL_no h2]
      have hx := Lib.hid (ext_end s fr)
      have hxs : (s.extract fr s.size).size ≤ maxLen := by unfold maxLen; simp; omega
      clear hz hno
      go_wp2_with (at_builtin; refine wpList_apd one_EStr (by decide) (by rfl) _ _ _ (by rfl) 9 (.string ⟨#[]⟩) 16 Tryd.underlying87 info_string rfl (.slice oa outs.length oc) (outs.map bs) F (by rfl) (ho.out.below ((Below.refl _ _).alloc (Nat.le_refl _) _)) (Hd.of hn) (some ⟨wr.heap.size, 0, none⟩) [s.extract fr s.size] 1 (by rfl) [.string (s.extract fr s.size)] [] (Flat.one ⟨rfl, hxs, rfl⟩) (.inr ⟨_, rfl, World.news_of_block (heap_alloc_new wr _)⟩) (by simp) (by simp; unfold maxLen; omega) (by simp; omega) ?_)
      intro v6 w6 F6 hA
      have o6 := hA.ow; have n6 := hA.nodup hn (by simp) (by simp); have m6 := hA.mem; have K6 := hA.keep
      clear hA
      have e6 : (outs ++ [s.data.toList.drop fr]).map bs = outs.map bs ++ [s.extract fr s.size] := by rw [List.map_append, hx.out]; rfl
      have f6 : ∀ b ∈ F6, w.heap.size ≤ b := fun b hb => by
        rcases m6 b hb with h7 | h7 | h7
        · exact hF b h7
        · simp at h7
        · have := hB.size; simp at h7; omega
      have B6 : Below w.heap.size w w6 := (hB.alloc hB.size _).trans (K6.below (by have := hB.size; simp; omega) hF)
      replace o6 := Lib.hid o6
      replace e6 := Lib.hid e6
      clear K6 m6 ho hn hF hB
      go_wp2_with fail
      go_ret
      refine ⟨v6, F6, rfl, ?_, n6, f6, B6⟩
      rw [hz2.out, e6.out]; exact o6.out
end Go.Proofs.YtnmgaponnfjciaaDoor
