/- Walks: links: the check, the copy, a link with another queue. -/
import Derived.Test.YtkcajnpdmgafjaaDoorSer
import Derived.Test.YtkcajnpdmgafjaaDoorShelf
import Derived.Test.YtkcajnpdmgafjaaDoorTyLink
import Derived.Test.YtkcajnpdmgafjaaDoorLibString
import Derived.Test.YtkcajnpdmgafjaaDoorLaw2
import Derived.Test.YtkcajnpdmgafjaaDoorSub
import Derived.Test.YtkcajnpdmgafjaaDoorHeld
namespace Go.Proofs.YtkcajnpdmgafjaaDoor
open Go.RowKit Go.Shelf

def fateN (n : Int) : Int := if n = 107 then 0 else if n = 108 then 1 else if n = 100 then 2 else if n = 115 then 3 else -1
def fateB (b : UInt8) : Bool := decide (0 ≤ fateN b.toNat)
def fateS (l : List UInt8) : Bool := l.all fateB
def shortT (s : ByteArray) : Bool := decide ((s.size : Int) ≤ 60)
def goodLink (x : Link) : Bool := decide ((x.queue.length : Int) ≤ 8) && x.queue.all shortT && decide ((x.fates.size : Int) ≤ 40) && fateS x.fates.data.toList && btw 0 x.used x.fates.size
theorem goodLink_iff {x : Link} : goodLink x = true ↔ ((((x.queue.length : Int) ≤ 8 ∧ x.queue.all shortT = true) ∧ (x.fates.size : Int) ≤ 40) ∧ fateS x.fates.data.toList = true) ∧ 0 ≤ x.used ∧ x.used ≤ x.fates.size := by
  unfold goodLink btw
  simp only [Bool.and_eq_true, decide_eq_true_eq]
theorem fateN_or (n : Int) : (n = 107 ∧ fateN n = 0) ∨ (n = 108 ∧ fateN n = 1) ∨ (n = 100 ∧ fateN n = 2) ∨ (n = 115 ∧ fateN n = 3) ∨ (n ≠ 107 ∧ n ≠ 108 ∧ n ≠ 100 ∧ n ≠ 115 ∧ fateN n = -1) := by
  unfold fateN; repeat' split
  all_goals omega
def klds : List UInt8 := [107, 108, 100, 115]
theorem klds_fate (b : UInt8) : klds.contains b = fateB b := by
  have h : ∀ n : Fin 256, klds.contains (UInt8.ofNat n.val) = fateB (UInt8.ofNat n.val) := by decide +kernel
  have := h ⟨b.toNat, b.toNat_lt⟩
  simpa using this
theorem dropWhile_nil' {α : Type} (p : α → Bool) (l : List α) : l.dropWhile p = [] ↔ l.all p = true := by
  induction l with
  | nil => simp
  | cons x r ih => rw [List.dropWhile_cons]; cases h : p x <;> simp [h, ih]
theorem all_dropWhile' {α : Type} (p : α → Bool) (l : List α) : (l.dropWhile p).all p = l.all p := by
  induction l with
  | nil => simp
  | cons x r ih => rw [List.dropWhile_cons]; cases h : p x <;> simp [h, ih]
theorem trim_klds (l : List UInt8) : (Lib.trimS l klds == []) = fateS l := by
  rw [Bool.eq_iff_iff, beq_iff_eq]
  unfold Lib.trimS Lib.trimLeftS Lib.trimRightS
  rw [dropWhile_nil', List.all_reverse, all_dropWhile', List.all_reverse]
  unfold fateS
  rw [show (fun b => klds.contains b) = fateB from funext klds_fate]
theorem IsValidLink_1_c (s : ByteArray) (w : World) (hs : s.size ≤ maxLen) :
    Calls Tryd.prog 126 #[.string s] w fun e w' => e = .returned (.bool (!shortT s)) ∧ w = w' := by
  unfold maxLen at hs
  by_cases h : (60 : Int) < s.size
  · go_enter Tryd.func126, Tryd.ntmps126
    go_wp2_with fail
    go_ret
    exact ⟨ret_bool (by unfold shortT; rw [decide_eq_false (by omega)]; rfl), rfl⟩
  · go_enter Tryd.func126, Tryd.ntmps126
    go_wp2_with fail
    go_ret
    exact ⟨ret_bool (by unfold shortT; rw [decide_eq_true (by omega)]; rfl), rfl⟩
set_option maxHeartbeats 1600000 in
theorem IsValidLink_c (v : Value) (x : Link) (F : List Nat) (w : World) (h : IsV ELink w v x F) :
    Calls Tryd.prog 32 #[v] w fun e w' => e = .returned (.bool (goodLink x)) ∧ Below w.heap.size w w' := by
  obtain ⟨_, rfl, v1, rfl, s1, h1⟩ := h
  obtain ⟨a, c, rfl⟩ := h1.slice
  have hl := h1.len
  have hf := s1
  unfold maxLen at hl hf
  have hc := fun w => Any.strings_Trim_laid Tryd.lays160 (by kernel_rfl) x.fates ⟨klds.toArray⟩ w hf (by decide) (ascii_of_all (by decide))
  change ∀ w, Calls Tryd.prog 127 #[.string x.fates, .string ⟨klds.toArray⟩] w (fun e w' => e = .returned (.string ⟨(Lib.trimS x.fates.data.toList klds).toArray⟩) ∧ Below w.heap.size w w') at hc
  have ht := trim_klds x.fates.data.toList
  replace hc := Lib.hid hc
  have hB0 : Below w.heap.size w (w.alloc (.cells #[.slice a x.queue.length c, .string x.fates, .int .i64 x.used] 26)) := (Below.refl _ _).alloc (Nat.le_refl _) _
  have r0 := Row.made w 26 [.slice a x.queue.length c, .string x.fates, .int .i64 x.used]
  go_enter Tryd.func32, Tryd.ntmps32
  by_cases g1 : (x.queue.length : Int) ≤ 8
  rotate_left
  · have hg : goodLink x = false := by unfold goodLink; rw [decide_eq_false g1]; rfl
    replace hg := Lib.hid hg
    clear ht
    go_wp2_with fail
    go_ret
    exact ⟨ret_bool hg.out.symm, hB0⟩
  go_wp2_with fail
  replace h1 := h1.below (by decide) hB0
  generalize w.alloc (.cells #[.slice a x.queue.length c, .string x.fates, .int .i64 x.used] 26) = w1 at *
  refine (ContainsFunc_String _ (.mk' Tryd.func126 rfl rfl) _ _ x.queue F (fun s => !shortT s) _ h1 ?_).mono ?_
  · rintro k hk wr u G hb ⟨_, rfl, hu⟩
    obtain ⟨hu, hsz, -⟩ := hu
    cases hu
    exact (IsValidLink_1_c _ _ hsz).mono (by rintro e w' ⟨rfl, rfl⟩; exact ⟨rfl, Below.refl _ _⟩)
  rintro e w2 ⟨rfl, hb⟩
  replace r0 := r0.below hb
  replace hB0 := tr hB0 hb (Nat.le_refl _)
  clear hb
  have c0 := r0.cells
  have hq : (x.queue.any fun s => !shortT s) = !x.queue.all shortT := by rw [List.not_all_eq_any_not]
  cases g2 : x.queue.all shortT
  · rw [hq, g2]
    have hg : goodLink x = false := by unfold goodLink; rw [g2]; simp
    replace hg := Lib.hid hg
    clear ht hq
    go_wp2_with fail
    go_ret
    exact ⟨ret_bool hg.out.symm, hB0⟩
  rw [hq, g2]
  clear hq
  by_cases g3 : (x.fates.size : Int) ≤ 40
  rotate_left
  · have hg : goodLink x = false := by unfold goodLink; rw [decide_eq_false g3]; simp
    replace hg := Lib.hid hg
    clear ht
    go_wp2_with fail
    go_ret
    exact ⟨ret_bool hg.out.symm, hB0⟩
  have hi : goodLink x = (fateS x.fates.data.toList && btw 0 x.used x.fates.size) := by unfold goodLink; rw [g2, decide_eq_true g1, decide_eq_true g3]; simp
  rw [← ht] at hi
  clear ht
  generalize Lib.trimS x.fates.data.toList klds = t at *
  replace hi := Lib.hid hi
  cases t with
  | cons b r =>
    go_wp2_with fail
    refine (hc.out _).mono ?_
    rintro e w3 ⟨rfl, hb⟩
    replace hB0 := tr hB0 hb (Nat.le_refl _)
    clear hb
    go_wp2_with fail
    go_ret
    exact ⟨ret_bool hi.out.symm, hB0⟩
  | nil =>
    go_wp2_with fail
    refine (hc.out _).mono ?_
    rintro e w3 ⟨rfl, hb⟩
    replace r0 := r0.below hb
    replace hB0 := tr hB0 hb (Nat.le_refl _)
    clear hb
    replace c0 := r0.cells
    go_wp2_with fail
    refine (within_c _ _ _ _).mono ?_
    rintro e w' ⟨rfl, rfl⟩
    go_wp2_with fail
    go_ret
    exact ⟨ret_bool (by rw [hi.out]; rfl), hB0⟩
set_option maxHeartbeats 800000 in
theorem Link_clone_c (v : Value) (x : Link) (F : List Nat) (w : World) (h : IsV ELink w v x F) (hm : x.queue.length ≤ 4294967296) :
    Calls Tryd.prog 119 #[v] w (RetV OLink x w) := by
  obtain ⟨_, rfl, v1, rfl, s1, h1⟩ := h
  obtain ⟨a, c, rfl⟩ := h1.slice
  have hB0 : ∀ A B : Obj, Below w.heap.size w ((w.alloc A).alloc B) := fun A B => ((Below.refl _ _).alloc (Nat.le_refl _) _).alloc (by simp) _
  go_enter Tryd.func119, Tryd.ntmps119
  go_wp2_with fail
  refine (Clone_String _ x.queue F _ (h1.below (by decide) (hB0 _ _)) hm).mono ?_
  rintro e w1 ⟨v2, F2, rfl, o, n, g, hb⟩
  obtain ⟨a2, c2, rfl⟩ := o.slice
  have r0 := Row.below (g := w.heap.size) (t := 26) (cs := [.slice a x.queue.length c, .string x.fates, .int .i64 x.used]) (by simp [row_alloc] <;> omega) hb
  have r1 := Row.below (g := w.heap.size + 1) (t := 26) (cs := [.slice none 0 0, .string ⟨#[]⟩, .int .i64 0]) (by simp [row_alloc] <;> omega) hb
  have hB := tr (hB0 _ _) hb (Nat.le_refl _)
  have c0 := r0.cells; have f0 := r0.frozens
  have c1 := r1.cells; have f1 := r1.frozens
  clear hb
  replace o := Lib.hid o
  go_wp2_with fail
  refine bodyPost_ret (v := .agg #[.slice a2 x.queue.length c2, .string x.fates, .int .i64 x.used]) ?_ rfl ?_
  · simp [results, Tryd.results119, go_sem, c0, c1, f1]
  · refine ⟨_, F2, rfl, ⟨_, rfl, _, rfl, s1, ?_⟩, n, fun b hb => by have := g b hb; simp at this; omega, ?_⟩
    · repeat refine Ow.setFar ?_ (fun hm => by have := g _ hm; simp at this <;> omega) _
      exact o.out
    · repeat refine Below.setCell ?_ (by simp <;> omega) _
      exact hB
theorem l7Fate_c (n : Int) (w : World) : Calls Tryd.prog 136 #[.int .u8 n] w fun e w' => e = .returned (.int .i64 (fateN n)) ∧ w = w' := by
  rcases fateN_or n with ⟨h, hn⟩ | ⟨h, hn⟩ | ⟨h, hn⟩ | ⟨h, hn⟩ | ⟨h1, h2, h3, h4, hn⟩
  · subst h; clear hn
    go_enter Tryd.func136, Tryd.ntmps136
    go_wp2
    go_ret
    exact ⟨rfl, rfl⟩
  · subst h; clear hn
    go_enter Tryd.func136, Tryd.ntmps136
    go_wp2
    go_ret
    exact ⟨rfl, rfl⟩
  · subst h; clear hn
    go_enter Tryd.func136, Tryd.ntmps136
    go_wp2
    go_ret
    exact ⟨rfl, rfl⟩
  · subst h; clear hn
    go_enter Tryd.func136, Tryd.ntmps136
    go_wp2
    go_ret
    exact ⟨rfl, rfl⟩
  · rw [hn]; clear hn
    go_enter Tryd.func136, Tryd.ntmps136
    go_wp2
    go_ret
    exact ⟨rfl, rfl⟩
theorem fates_drop (s : ByteArray) (k : Nat) (h : k < s.size) : fateS (s.data.toList.drop k) = (fateB s[k] && fateS (s.data.toList.drop (k + 1))) := by rw [drop_at s k h]; rfl
set_option maxHeartbeats 1600000 in
theorem l7Good_c (v : Value) (x : Link) (F : List Nat) (w : World) (h : IsV ELink w v x F) :
    Calls Tryd.prog 115 #[v] w fun e w' => e = .returned (.bool (goodLink x)) ∧ Below w.heap.size w w' := by
  obtain ⟨_, rfl, v1, rfl, s1, h1⟩ := h
  obtain ⟨a, c, rfl⟩ := h1.slice
  have hl := h1.len
  have hf := s1
  unfold maxLen at hl hf
  go_enter Tryd.func115, Tryd.ntmps115
  go_wp2_with fail
  have r0 := Row.made w 26 [.slice a x.queue.length c, .string x.fates, .int .i64 x.used]
  have hB : Below w.heap.size w (w.alloc (.cells #[.slice a x.queue.length c, .string x.fates, .int .i64 x.used] 26)) := (Below.refl _ _).alloc (Nat.le_refl _) _
  have h2 := h1.below (by decide) hB
  generalize w.alloc (.cells #[.slice a x.queue.length c, .string x.fates, .int .i64 x.used] 26) = w1 at *
  have c0 := r0.cells
  go_loop [3] (fun i => ∃ k : Nat, k ≤ x.queue.length ∧ i = .int .i64 k ∧ Hid (∀ j, j < k → ∀ hj : j < x.queue.length, shortT x.queue[j] = true)) (fun i => x.queue.length - (intOf i).toNat)
  case atStart => exact ⟨0, Nat.zero_le _, rfl, fun j hj => by omega⟩
  case round =>
    obtain ⟨k, hk, rfl, hz⟩ := hrel
    by_cases hlt : k < x.queue.length
    · obtain ⟨hsz, b, off, rfl, hc⟩ := h2.str.2.2 k hlt
      unfold maxLen at hsz
      by_cases hi : (60 : Int) < x.queue[k].size
      · have hg : goodLink x = false := by
          have hi2 : shortT x.queue[k] = false := by unfold shortT; exact decide_eq_false (by omega)
          have : x.queue.all shortT = false := List.all_eq_false.2 ⟨x.queue[k], List.getElem_mem _, by simp [hi2]⟩
          unfold goodLink; rw [this]; simp
        replace hg := Lib.hid hg
        go_wp2_with fail
        go_ret
        exact ⟨ret_bool hg.out.symm, hB⟩
      · have hi2 : shortT x.queue[k] = true := by unfold shortT; exact decide_eq_true (by omega)
        replace hi2 := Lib.hid hi2
        go_wp2_with fail
        exact ⟨⟨k + 1, by omega, by go_num, fun j hj hl => by rcases Nat.lt_or_eq_of_le (Nat.le_of_lt_succ hj) with h | h; exact hz.out j h hl; subst h; exact hi2.out⟩, by simp [intOf]; omega⟩
    · have hk : k = x.queue.length := by omega
      have g2 : x.queue.all shortT = true := List.all_eq_true.2 fun s hs => by
        obtain ⟨j, hj, rfl⟩ := List.getElem_of_mem hs
        exact hz.out j (by omega) hj
      replace g2 := Lib.hid g2
      clear hz
      go_wp2_with fail
      go_loop [4] (fun i => ∃ k : Nat, k ≤ x.fates.size ∧ i = .int .i64 k ∧ Hid (fateS x.fates.data.toList = fateS (x.fates.data.toList.drop k))) (fun i => x.fates.size - (intOf i).toNat)
      case atStart => exact ⟨0, Nat.zero_le _, rfl, rfl⟩
      case round =>
        obtain ⟨k, hk, rfl, hz⟩ := hrel
        by_cases hlt : k < x.fates.size
        · have hz := Lib.hid (hz.out.trans (fates_drop x.fates k hlt))
          have hb : (x.fates[k].toNat : Int) ≤ 255 := by have := x.fates[k].toNat_lt; omega
          by_cases hi : fateN x.fates[k].toNat < 0
          · have hg : goodLink x = false := by
              have hb0 : fateB x.fates[k] = false := by unfold fateB; exact decide_eq_false (by omega)
              unfold goodLink; rw [hz.out, hb0]; simp
            replace hg := Lib.hid hg
            go_wp2_with fail
            refine (l7Fate_c _ _).mono ?_
            rintro e w' ⟨rfl, rfl⟩
            go_wp2_with fail
            go_ret
            exact ⟨ret_bool hg.out.symm, hB⟩
          · go_wp2_with fail
            refine (l7Fate_c _ _).mono ?_
            rintro e w' ⟨rfl, rfl⟩
            go_wp2_with fail
            exact ⟨⟨k + 1, by omega, by go_num, by
              have hb0 : fateB x.fates[k] = true := by unfold fateB; exact decide_eq_true (by omega)
              refine Lib.hid ?_; rw [hz.out, hb0]; rfl⟩, by simp [intOf]; omega⟩
        · have g4 : fateS x.fates.data.toList = true := by rw [hz.out, drop_end x.fates k hlt]; rfl
          clear hz
          by_cases g1 : (x.queue.length : Int) ≤ 8
          rotate_left
          · have hg : goodLink x = false := by unfold goodLink; rw [decide_eq_false g1]; rfl
            replace hg := Lib.hid hg
            go_wp2_with fail
            go_ret
            exact ⟨ret_bool hg.out.symm, hB⟩
          by_cases g3 : (x.fates.size : Int) ≤ 40
          rotate_left
          · have hg : goodLink x = false := by unfold goodLink; rw [decide_eq_false g3]; simp
            replace hg := Lib.hid hg
            go_wp2_with fail
            go_ret
            exact ⟨ret_bool hg.out.symm, hB⟩
          have hi : goodLink x = btw 0 x.used x.fates.size := by unfold goodLink; rw [g2.out, decide_eq_true g1, decide_eq_true g3, g4]; simp
          replace hi := Lib.hid hi
          go_wp2_with fail
          refine (l1In_c _ _ _ _).mono ?_
          rintro e w' ⟨rfl, rfl⟩
          go_wp2_with fail
          go_ret
          exact ⟨ret_bool hi.out.symm, hB⟩
theorem l7With_c (v : Value) (x : Link) (F : List Nat) (a : Option Addr) (n c : Nat) (u : Int) (w : World) (h : IsV ELink w v x F) :
    Calls Tryd.prog 118 #[v, .slice a n c, .int .i64 u] w fun e w' => e = .returned (.agg #[.slice a n c, .string x.fates, .int .i64 u]) ∧ Below w.heap.size w w' := by
  obtain ⟨_, rfl, v1, rfl, s1, h1⟩ := h
  obtain ⟨a1, c1, rfl⟩ := h1.slice
  go_enter Tryd.func118, Tryd.ntmps118
  go_wp2_with fail
  refine bodyPost_ret (v := .agg #[.slice a n c, .string x.fates, .int .i64 u]) ?_ rfl ?_
  · simp [results, Tryd.results118, go_sem]
  · refine ⟨rfl, ?_⟩
    repeat refine Below.alloc ?_ (by simp) _
    exact Below.refl _ _
end Go.Proofs.YtkcajnpdmgafjaaDoor
